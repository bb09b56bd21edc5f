/- Parts F10r, Sx, F10p, F10q, LAr, LAf, Mc, Md, Mp, Mv, Mz, Mq, Mr0, Mu0, Mw, Mx0, Ms0, Pa, one behind the other. What is proved: said at the head of each part. No condition beside those said there. -/
import Derived.Test.YtieokakmhlbdlaaRows
import Derived.Orders
import Derived.Deep.Draws
import Derived.Laws.World
import Derived.KernelRfl
import Derived.OrdersIn
import Derived.TacticsIn
import Derived.RangeFuncCalls
import Derived.Deep.LoopGhost
import Derived.Tactics
import Derived.Sort.LoopGhostIn
import Derived.RangeFuncLeaves
import Derived.RangeFuncNested
import Derived.RangeFuncRecord
import Derived.Laws.Sem
import Derived.OwnWalk
import Derived.RangeFuncWrites
import Derived.Laws.IdiomCopy
import Derived.WalkKit
import Derived.ProofKit
import Derived.OpenShut
import Derived.ChangeOld
import Derived.Below
import Derived.Test.YtieokakmhlbdlaaProg
import Derived.MapKept
import Derived.Lib.AppendZerosOnto
import Derived.Laws.CopyRow
import Derived.Laws.Cells
import Derived.Test.YtieokakmhlbdlaaZPMendRows1
import Derived.Test.YtieokakmhlbdlaaZPMendRows2
set_option maxRecDepth 100000
set_option maxHeartbeats 8000000
set_option linter.unusedVariables false
set_option linter.unusedSimpArgs false
/- Printed by gen.py: for each Go function a pure function, and that the Go code comes to it. No condition beside the equation that says what the pure function gives. -/
namespace Gk
open Go Go.Proofs
noncomputable def slices_Equal_sbytebyte (a0s1 : List UInt8) (a1s2 : List UInt8) : Option Bool :=
(if (a0s1.length : Int) = (a1s2.length : Int) then
((iterC (fun s2 : Int =>
(if s2 < (a0s1.length : Int) then
((idx a0s1 s2).bind fun c7 =>
((idx a1s2 s2).bind fun c8 =>
(if c7 = c8 then some (.inl (wI (s2 + 1)))
else some (.inr (.inr false)))))
else some (.inr (.inl ())))) 0).bind (Sum.elim (fun y2 => some true) (fun q2 => some q2)))
else some false)
theorem slices_Equal_sbytebyte_calls (a0s1 : List UInt8) (a1s2 : List UInt8) (p0 : Value) (p1 : Value) (r : Bool) (w0 : World) (hp0 : By w0 [] p0 a0s1) (hp1 : By w0 [] p1 a1s2) (H : slices_Equal_sbytebyte a0s1 a1s2 = some r) :
    Calls Try.prog 29 [p0, p1].toArray w0 (fun e w' => e = .returned (.bool r) ∧ Ext w0 w') := by
  have hE : Ext w0 w0 := Ext.refl w0; unfold slices_Equal_sbytebyte at H; refine calls_W (n := 26) Try.func29 rfl rfl rfl ?_; refine W_seq <| W_rg <| av (.bool false) rfl rfl <| wnt <| W_seq <| W_seq <| W_rg <| mv p0 rfl rfl <| ?_; refine wa rfl (q_len rfl T22.sl rfl (hp0.lift (Lift.ext hE _))) <| mv p1 rfl rfl <| wa rfl (q_len rfl T22.sl rfl (hp1.lift (Lift.ext hE _))) <| wa rfl (q_neI rfl rfl rfl) <| wnt <| ?_; refine W_cond _ rfl rfl (fun hb1 => ?_) (fun hb1 => ?_)
  · replace H := (if_neg (ndec_t hb1)).symm.trans H; refine W_seq <| W_rg <| av (.bool false) rfl rfl <| wnt <| W_ret <| th_r <| ?_; obtain rfl := osi H; refine rt1 (.bool false) rfl rfl rfl rfl ?_; exact ⟨rfl, hE⟩
  replace H := (if_pos (ndec_f hb1)).symm.trans H; refine W_skip <| W_th <| W_seq <| W_seq <| W_rg <| mv p0 rfl rfl <| wa rfl (q_len rfl T22.sl rfl (hp0.lift (Lift.ext hE _))) <| mv (i64 0) rfl rfl <| ?_; refine wnt ?_; obtain ⟨x2, G2, H⟩ := bsi H; refine W_mid (fun f w => ∃ y2, x2 = .inl y2 ∧ f 26 = undef ∧ Ext w0 w) ?_ ?_
  · refine W_block ?_; refine W_loop (fun s2 f w => f 0 = p0 ∧ f 1 = p1 ∧ f 12 = (i64 ((a0s1.length : Int))) ∧ f 13 = (i64 s2) ∧ f 26 = undef ∧ Ext w0 w) G2 ?_ ?_
    · exact ⟨rfl, rfl, rfl, rfl, rfl, hE⟩
    rintro s2 _ _ w3 ⟨s0_3, s1_3, s12_3, s13_3, s26_3, hE3⟩ H2 hr2; refine W_seq <| W_rg <| wa rfl (q_ltI rfl s13_3 s12_3) <| wnt <| W_seq <| ?_; refine W_cond _ rfl rfl (fun hb4 => ?_) (fun hb4 => ?_)
    · replace H2 := ifp hb4 H2; refine W_skip <| W_th <| W_seq <| W_block <| W_seq <| W_rg <| mv (i64 s2) rfl s13_3 <| av (i64 s2) rfl rfl <| ?_; refine wnt <| W_seq <| ?_; refine W_draw [3, 7] [(0, 0), (1, 0), (2, 0), (3, 1), (4, 0), (5, 0), (6, 0), (7, 1), (8, 0)] mixed (by kernel_rfl) (by kernel_rfl) (by kernel_rfl) (by kernel_rfl) ?_; have x5 := Ext.drew w3; have e6 := hE3.trans x5; refine sv p0 rfl rfl s0_3 <| sv (i64 s2) rfl rfl rfl <| ?_; obtain ⟨c7, hc7, H2⟩ := bsi H2; refine sa rfl rfl (q_adr rfl T22 rfl rfl (hp0.lift (Lift.ext e6 _)) hc7) <| sq rfl rfl (q_loadS rfl T22 rfl (hp0.lift (Lift.ext e6 _)) hc7) <| sv p1 rfl rfl s1_3 <| sv (i64 s2) rfl rfl rfl <| ?_; obtain ⟨c8, hc8, H2⟩ := bsi H2; refine sa rfl rfl (q_adr rfl T22 rfl rfl (hp1.lift (Lift.ext e6 _)) hc8) <| sq rfl rfl (q_loadS rfl T22 rfl (hp1.lift (Lift.ext e6 _)) hc8) <| sa rfl rfl (q_ne8 rfl rfl rfl) <| ?_; refine ws_nil ?_; refine W_th ?_; refine W_cond _ rfl rfl (fun hb9 => ?_) (fun hb9 => ?_)
      · replace H2 := (if_neg (ndec_t hb9)).symm.trans H2; refine W_seq <| W_rg <| av (.bool false) rfl rfl <| wnt <| W_ret <| bk_r <| th_r <| ?_; obtain rfl := osi H2; obtain rfl := hr2 _ rfl; simp only [Sum.elim_inr] at H; refine th_r <| bk_r <| th_r <| th_r <| ?_; obtain rfl := osi H; refine rt1 (.bool false) rfl rfl rfl s26_3 ?_; exact ⟨rfl, e6⟩
      replace H2 := (if_pos (ndec_f hb9)).symm.trans H2; refine W_skip <| bk_n <| W_th <| W_rg <| wa rfl (q_addI rfl s13_3 rfl) <| mv (i64 ((wI (s2 + 1)))) rfl rfl <| wl_nil <| ?_; obtain rfl := osi H2; exact ⟨_, rfl, s0_3, s1_3, s12_3, rfl, s26_3, e6⟩
    replace H2 := ifn hb4 H2; refine W_exit <| th_x <| ?_; obtain rfl := osi H2; obtain rfl := hr2 _ rfl; refine th_x <| bk_x <| ?_; exact ⟨_, rfl, s26_3, hE3⟩
  rintro _ w11 ⟨y2, rfl, s26_11, hE11⟩; simp only [Sum.elim_inl] at H; refine W_th <| W_seq <| W_rg <| av (.bool true) rfl rfl <| wnt <| W_ret <| ?_; obtain rfl := osi H; refine rt1 (.bool true) rfl rfl rfl s26_11 ?_; exact ⟨rfl, hE11⟩
noncomputable def mend_At (a0m : Option (Bool × List UInt8 × List (List UInt8) × List Int)) (a1x : UInt8) : Option (List UInt8) :=
(if a0m.isNone = true then some ([] : List UInt8)
else
((a0m).bind fun c4 =>
((poly_Weights c4.1 c4.2.1 a1x).bind fun r5 =>
((idx c4.2.2.1 0).bind fun c7 =>
((makeL ((c7.length : Int)) (0 : UInt8)).bind fun c9 =>
((iterC (fun s12 : List UInt8 × Int =>
(if s12.2 < (c4.2.2.1.length : Int) then
((idx c4.2.2.1 s12.2).bind fun c15 =>
((idx r5.1 s12.2).bind fun c19 =>
((field_Sum c4.1 s12.1 c19 c15).bind fun r20 => some (.inl (r20, (wI (s12.2 + 1)))))))
else some (.inr s12.1))) (c9, 0)).bind fun x12 => some x12))))))
theorem mend_At_calls (a0m : Option (Bool × List UInt8 × List (List UInt8) × List Int)) (a1x : UInt8) (p0 : Value) (r : List UInt8) (w0 : World) (hp0 : RcMd w0 [] p0 a0m) (H : mend_At a0m a1x = some r) :
    Calls Try.prog 11 [p0, (u8 a1x)].toArray w0 (fun e w' => ∃ u0 : Value, e = .returned u0 ∧ Ext w0 w' ∧ Nw w0 u0 ∧ OwK (Sc u8) w' [] 5 u0 r) := by
  have hE : Ext w0 w0 := Ext.refl w0; unfold mend_At at H; refine calls_W (n := 56) Try.func11 rfl rfl rfl ?_; refine W_seq <| W_rg <| av (.slice none 0 0) rfl rfl <| wnt <| W_seq <| W_seq <| W_rg <| mv p0 rfl rfl <| ?_; refine wa rfl (q_eqRMd rfl rfl rfl rfl (hp0.lift (Lift.ext hE _))) <| wnt <| ?_; refine W_cond _ rfl rfl (fun hb1 => ?_) (fun hb1 => ?_)
  · replace H := (if_pos hb1).symm.trans H; refine W_seq <| W_rg <| av (.slice none 0 0) rfl rfl <| wnt <| W_ret <| th_r <| ?_; obtain rfl := osi H; refine rt1 (.slice none 0 0) rfl rfl rfl rfl ?_; exact ⟨(.slice none 0 0), rfl, hE, Nw.nil _, (OwK.nil _ _ _ _)⟩
  replace H := (if_neg (ne_true_of_eq_false hb1)).symm.trans H; refine W_skip <| W_th <| W_seq <| ?_; refine W_draw [3, 7] [(0, 0), (1, 0), (2, 0), (3, 1), (4, 0), (5, 0), (6, 0), (7, 1), (8, 0), (9, 2), (10, 0), (11, 0), (12, 0), (13, 0), (14, 0)] mixed (by kernel_rfl) (by kernel_rfl) (by kernel_rfl) (by kernel_rfl) ?_; have x2 := Ext.drew w0; have e3 := hE.trans x2; refine sv p0 rfl rfl rfl ?_; obtain ⟨c4, hc4, H⟩ := bsi H; obtain ⟨g4, u4_0, u4_1, u4_2, u4_3, hv4, hB4, hu4_0, hu4_1, hu4_2, hu4_3⟩ := RcMd.some hp0 hc4; refine sa rfl rfl (q_nilP (g := g4) (m := 0) rfl (Eq.trans rfl hv4)) <| sa rfl rfl (q_fldR (g := g4) (m := 0) (d := 0) rfl fieldAtMd0 rfl) <| sq rfl rfl (q_loadB (u := u4_0) rfl Try.isAgg26 rfl (hB4.ext e3) rfl) <| sv p0 rfl rfl rfl <| sa rfl rfl (q_nilP (g := g4) (m := 0) rfl (Eq.trans rfl hv4)) <| sa rfl rfl (q_fldR (g := g4) (m := 0) (d := 1) rfl fieldAtMd1 rfl) <| sq rfl rfl (q_loadB (u := u4_1) rfl Try.isAgg22 rfl (hB4.ext e3) rfl) <| sv (u8 a1x) rfl rfl rfl <| ?_; obtain ⟨r5, hr5, H⟩ := bsi H; refine wsc rfl (by kernel_rfl) rfl rfl (stp_call (vs := [u4_0, u4_1, (u8 a1x)]) Try.func33 rfl rfl rfl (ar3 rfl rfl rfl) (poly_Weights_calls c4.1 c4.2.1 a1x u4_0 u4_1 r5 _ (hu4_0.lift (Lift.ext e3 _)) (hu4_1.lift (Lift.ext e3 _)) hr5) ?_); rintro _ w5 ⟨v5_0, rfl, x5, n5_0, o5_0⟩; refine ⟨_, rfl, ?_⟩; have i5_0 : By w5 [] v5_0 r5.1 := OwK.slk (Sc.stab _) _ (OwK.scal o5_0 (v5_0 :: [])) (fun k hk => (Old.nil _) k (n5_0 k hk)) (fun _ h => h.2); have e6 := e3.trans x5; refine sv (.tuple #[v5_0, (i64 r5.2)]) rfl rfl rfl <| sa rfl rfl (q_extract rfl rfl rfl) <| sa rfl rfl (q_extract rfl rfl rfl) <| sa rfl rfl (q_assign (v := v5_0) rfl rfl) <| sa rfl rfl (q_assign (v := (i64 r5.2)) rfl rfl) <| ?_; refine ws_nil ?_; refine W_th <| W_seq <| W_rg <| mv p0 rfl rfl <| wa rfl (q_nilP (g := g4) (m := 0) rfl (Eq.trans rfl hv4)) <| wa rfl (q_fldR (g := g4) (m := 0) (d := 2) rfl fieldAtMd2 rfl) <| wq rfl (q_loadB (u := u4_2) rfl Try.isAgg23 rfl (hB4.ext e6) rfl) <| ?_; obtain ⟨c7, hc7, H⟩ := bsi H; refine wa rfl (q_adr rfl T23 rfl rfl (hu4_2.lift (Lift.ext e6 _)) hc7) ?_; refine wlq_load rfl rfl rfl T23 rfl hu4_2 hc7 e6 (fun v8 ha8 => ?_); refine wa rfl (q_len rfl T22.sl rfl (ha8.lift (Lift.ext e6 _))) ?_; obtain ⟨c9, hc9, H⟩ := bsi H; refine wls rfl rfl (stp_make (L := []) (R := (Sc u8)) rfl T22 rfl rfl hc9 (fun _ _ => rfl) ?_); intro v9 w9 o9 n9 g9 l9; have x9 := grown_ext g9; replace i5_0 := i5_0.lift (Lift.call _ x9 n9); have n11 := Nw.ext e6 n9; have e10 := e6.trans x9; refine av v9 rfl rfl ?_
  refine wnt <| W_seq <| W_seq <| W_rg <| mv p0 rfl rfl <| wa rfl (q_nilP (g := g4) (m := 0) rfl (Eq.trans rfl hv4)) <| wa rfl (q_fldR (g := g4) (m := 0) (d := 2) rfl fieldAtMd2 rfl) <| wq rfl (q_loadB (u := u4_2) rfl Try.isAgg23 rfl (hB4.ext e10) rfl) <| ?_; refine wa rfl (q_len rfl T23.sl rfl (hu4_2.lift (Lift.ext e10 _))) <| mv (i64 0) rfl rfl <| wnt <| ?_; obtain ⟨x12, G12, H⟩ := bsi H; refine W_mid (fun f w => ∃ v7_26 : Value, f 7 = v7_26 ∧ f 56 = undef ∧ Ext w0 w ∧ OwK (Sc u8) w [v7_26] 5 v7_26 x12 ∧ Nw w0 v7_26) ?_ ?_
  · refine W_block ?_; refine W_loop (fun s12 f w => ∃ v7_24 : Value, f 0 = p0 ∧ f 5 = v5_0 ∧ f 7 = v7_24 ∧ f 36 = u4_2 ∧ f 37 = (i64 ((c4.2.2.1.length : Int))) ∧ f 38 = (i64 s12.2) ∧ f 56 = undef ∧ Ext w0 w ∧ OwK (Sc u8) w [v7_24] 5 v7_24 s12.1 ∧ Nw w0 v7_24 ∧ By w [v7_24] v5_0 r5.1) G12 ?_ ?_
    · exact ⟨v9, rfl, rfl, rfl, rfl, rfl, rfl, rfl, e10, o9, n11, i5_0⟩
    rintro s12 _ _ w13 ⟨v7_13, s0_13, s5_13, s7_13, s36_13, s37_13, s38_13, s56_13, hE13, o0_13, n0_13, i0_13⟩ H12 hr12; refine W_seq <| W_rg <| wa rfl (q_ltI rfl s38_13 s37_13) <| wnt <| W_seq <| ?_; refine W_cond _ rfl rfl (fun hb14 => ?_) (fun hb14 => ?_)
    · replace H12 := ifp hb14 H12; refine W_skip <| W_th <| W_seq <| W_block <| W_seq <| W_rg <| mv (i64 s12.2) rfl s38_13 <| ?_; obtain ⟨c15, hc15, H12⟩ := bsi H12; refine wa rfl (q_adr rfl T23 s36_13 s38_13 (hu4_2.lift (Lift.ext hE13 _)) hc15) ?_; refine wlq_load rfl rfl rfl T23 rfl hu4_2 hc15 hE13 (fun v16 ha16 => ?_); refine av (i64 s12.2) rfl rfl <| av v16 rfl rfl <| wnt <| ?_; refine W_draw [3, 8] [(0, 0), (1, 0), (2, 0), (3, 1), (4, 0), (5, 0), (6, 0), (7, 0), (8, 1), (9, 0), (10, 2), (11, 0)] mixed (by kernel_rfl) (by kernel_rfl) (by kernel_rfl) (by kernel_rfl) ?_; have x17 := Ext.drew w13; replace i0_13 := i0_13.lift (Lift.ext x17 _); replace o0_13 := o0_13.extL (Sc.stab _) x17 (Lift.ext x17 _); have e18 := hE13.trans x17; refine sv p0 rfl rfl s0_13 <| sa rfl rfl (q_nilP (g := g4) (m := 0) rfl (Eq.trans rfl hv4)) <| sa rfl rfl (q_fldR (g := g4) (m := 0) (d := 0) rfl fieldAtMd0 rfl) <| sq rfl rfl (q_loadB (u := u4_0) rfl Try.isAgg26 rfl (hB4.ext e18) rfl) <| sv v7_13 rfl rfl s7_13 <| sv v5_0 rfl rfl s5_13 <| sv (i64 s12.2) rfl rfl rfl <| ?_; obtain ⟨c19, hc19, H12⟩ := bsi H12; refine sa rfl rfl (q_adr rfl T22 rfl rfl i0_13 hc19) <| sq rfl rfl (q_loadS rfl T22 rfl i0_13 hc19) <| sv v16 rfl rfl rfl <| ?_; obtain ⟨r20, hr20, H12⟩ := bsi H12; refine wsc rfl (by kernel_rfl) rfl rfl (stp_call (vs := [u4_0, v7_13, (u8 c19), v16]) Try.func34 rfl rfl rfl (ar4 rfl rfl rfl rfl) (field_Sum_calls c4.1 s12.1 c19 c15 u4_0 v7_13 v16 r20 _ (hu4_0.lift (Lift.ext e18 _)) (o0_13.rd (Sc.stab _)) (ha16.lift (Lift.ext e18 _)) hr20) ?_); rintro _ w20 ⟨v20, rfl, x20, n20_0, o20_0⟩; refine ⟨_, rfl, ?_⟩; have o20 : OwK (Sc u8) w20 (v20 :: [v7_13]) 5 v20 r20 := OwK.scal o20_0 _; have q21 : Nq v7_13 v20 := o0_13.nq n20_0; replace i0_13 := i0_13.lift (Lift.call _ x20 n20_0); replace o0_13 := o0_13.extL (Sc.stab _) x20 (Lift.call _ x20 n20_0); have n23 := Nw.ext e18 n20_0; have e22 := e18.trans x20; refine sa rfl rfl (q_assign (v := v20) rfl rfl) ?_; refine ws_nil ?_; refine bk_n <| W_th <| W_rg <| wa rfl (q_addI rfl s38_13 rfl) <| mv (i64 ((wI (s12.2 + 1)))) rfl rfl <| wl_nil <| ?_; obtain rfl := osi H12; exact ⟨_, rfl, v20, s0_13, s5_13, rfl, s36_13, s37_13, rfl, s56_13, e22, (o20.weak (Sc.stab _) (fun _ h => ⟨h.1, trivial⟩)), n23, (i0_13.lift (Lift.sub (fun _ h => ⟨h.1, trivial⟩)))⟩
    replace H12 := ifn hb14 H12; refine W_exit <| th_x <| ?_; obtain rfl := osi H12; obtain rfl := hr12 _ rfl; refine th_x <| bk_x <| ?_; exact ⟨v7_13, s7_13, s56_13, hE13, o0_13, n0_13⟩
  rintro _ w25 ⟨v7_25, s7_25, s56_25, hE25, o0_25, n0_25⟩; refine W_th <| W_seq <| W_rg <| mv v7_25 rfl s7_25 <| av v7_25 rfl rfl <| wnt <| W_ret <| ?_; obtain rfl := osi H; refine rt1 v7_25 rfl rfl rfl s56_25 ?_; exact ⟨v7_25, rfl, hE25, n0_25, (o0_25.weak (Sc.stab _) (fun _ _ => trivial))⟩
noncomputable def mend_odd (a0m : Option (Bool × List UInt8 × List (List UInt8) × List Int)) (a1xs : List UInt8) (a2rows : List (List UInt8)) : Option (List Int) :=
((idx a2rows 0).bind fun c1 =>
((makeL ((c1.length : Int)) false).bind fun c3 =>
((a0m).bind fun c6 =>
((iterC (fun s7 : List Bool × Int =>
(if s7.2 < (a1xs.length : Int) then
((idx a1xs s7.2).bind fun c10 =>
((mend_At a0m c10).bind fun r11 =>
((iterC (fun s13 : List Bool × Int =>
(if s13.2 < (r11.length : Int) then
((idx r11 s13.2).bind fun c16 =>
((idx s13.1 s13.2).bind fun c17 =>
(if c17 = true then some (.inl ((s13.1.set (s13.2 : Int).toNat true), (wI (s13.2 + 1))))
else
((idx a2rows s7.2).bind fun c21 =>
((idx c21 s13.2).bind fun c23 => some (.inl ((s13.1.set (s13.2 : Int).toNat ((!decide (c16 = c23)))), (wI (s13.2 + 1)))))))))
else some (.inr s13.1))) (s7.1, 0)).bind fun x13 => some (.inl (x13, (wI (s7.2 + 1)))))))
else some (.inr s7.1))) (c3, (c6.2.1.length : Int))).bind fun x7 =>
((iterC (fun s31 : List Int × Int =>
(if s31.2 < (x7.length : Int) then
((idx x7 s31.2).bind fun c34 =>
(if c34 = true then
((appL s31.1 (([s31.2] : List Int))).bind fun c38 => some (.inl (c38, (wI (s31.2 + 1)))))
else some (.inl (s31.1, (wI (s31.2 + 1))))))
else some (.inr s31.1))) (([] : List Int), 0)).bind fun x31 => some x31)))))
theorem mend_odd_calls (a0m : Option (Bool × List UInt8 × List (List UInt8) × List Int)) (a1xs : List UInt8) (a2rows : List (List UInt8)) (p0 : Value) (p1 : Value) (p2 : Value) (r : List Int) (w0 : World) (hp0 : RcMd w0 [] p0 a0m) (hp1 : By w0 [] p1 a1xs) (hp2 : Rw w0 [] p2 a2rows) (H : mend_odd a0m a1xs a2rows = some r) :
    Calls Try.prog 26 [p0, p1, p2].toArray w0 (fun e w' => ∃ u0 : Value, e = .returned u0 ∧ Ext w0 w' ∧ Nw w0 u0 ∧ OwK (Sc i64) w' [] 3 u0 r) := by
  have hE : Ext w0 w0 := Ext.refl w0; unfold mend_odd at H; refine calls_W (n := 75) Try.func26 rfl rfl rfl ?_; refine W_seq <| W_rg <| av (.slice none 0 0) rfl rfl <| wnt <| W_seq <| W_rg <| av (.slice none 0 0) rfl rfl <| wnt <| ?_; refine W_seq <| W_rg <| mv p2 rfl rfl <| ?_; obtain ⟨c1, hc1, H⟩ := bsi H; refine wa rfl (q_adr rfl T23 rfl rfl (hp2.lift (Lift.ext hE _)) hc1) ?_; refine wlq_load rfl rfl rfl T23 rfl hp2 hc1 hE (fun v2 ha2 => ?_); refine wa rfl (q_len rfl T22.sl rfl (ha2.lift (Lift.ext hE _))) ?_; obtain ⟨c3, hc3, H⟩ := bsi H; refine wls rfl rfl (stp_make (L := []) (R := (Sc bl)) rfl T33 rfl rfl hc3 (fun _ _ => rfl) ?_); intro v3 w3 o3 n3 g3 l3; have x3 := grown_ext g3; have n5 := Nw.ext hE n3; have e4 := hE.trans x3; refine av v3 rfl rfl <| wnt <| W_seq <| W_seq <| W_rg <| mv p0 rfl rfl <| ?_; obtain ⟨c6, hc6, H⟩ := bsi H; obtain ⟨g6, u6_0, u6_1, u6_2, u6_3, hv6, hB6, hu6_0, hu6_1, hu6_2, hu6_3⟩ := RcMd.some hp0 hc6; refine wa rfl (q_nilP (g := g6) (m := 0) rfl (Eq.trans rfl hv6)) <| wa rfl (q_fldR (g := g6) (m := 0) (d := 1) rfl fieldAtMd1 rfl) <| wq rfl (q_loadB (u := u6_1) rfl Try.isAgg22 rfl (hB6.ext e4) rfl) <| wa rfl (q_len rfl T22.sl rfl (hu6_1.lift (Lift.ext e4 _))) <| av (i64 ((c6.2.1.length : Int))) rfl rfl <| wnt <| ?_; obtain ⟨x7, G7, H⟩ := bsi H; refine W_mid (fun f w => f 7 = (.slice none 0 0) ∧ f 8 = v3 ∧ f 75 = undef ∧ Ext w0 w ∧ OwK (Sc bl) w [v3] 4 v3 x7 ∧ Nw w0 v3) ?_ ?_
  · refine W_block ?_; refine W_loop (fun s7 f w => f 0 = p0 ∧ f 1 = p1 ∧ f 2 = p2 ∧ f 7 = (.slice none 0 0) ∧ f 8 = v3 ∧ f 9 = (i64 s7.2) ∧ f 75 = undef ∧ Ext w0 w ∧ OwK (Sc bl) w [v3] 4 v3 s7.1 ∧ Nw w0 v3) G7 ?_ ?_
    · exact ⟨rfl, rfl, rfl, rfl, rfl, rfl, rfl, e4, o3, n5⟩
    rintro s7 _ _ w8 ⟨s0_8, s1_8, s2_8, s7_8, s8_8, s9_8, s75_8, hE8, o0_8, n0_8⟩ H7 hr7; refine W_seq <| W_seq <| W_rg <| mv (i64 s7.2) rfl s9_8 <| mv p1 rfl s1_8 <| wa rfl (q_len rfl T22.sl rfl (hp1.lift (Lift.ext hE8 _))) <| wa rfl (q_ltI rfl rfl rfl) <| wnt <| ?_; refine W_cond _ rfl rfl (fun hb9 => ?_) (fun hb9 => ?_)
    · replace H7 := ifp hb9 H7; refine W_skip <| W_th <| W_seq <| W_block <| W_seq <| W_rg <| mv p0 rfl s0_8 <| mv p1 rfl s1_8 <| ?_; refine mv (i64 s7.2) rfl s9_8 ?_; obtain ⟨c10, hc10, H7⟩ := bsi H7; refine wa rfl (q_adr rfl T22 rfl rfl (hp1.lift (Lift.ext hE8 _)) hc10) <| wq rfl (q_loadS rfl T22 rfl (hp1.lift (Lift.ext hE8 _)) hc10) <| ?_; obtain ⟨r11, hr11, H7⟩ := bsi H7; refine wls rfl rfl (stp_call (vs := [p0, (u8 c10)]) Try.func11 rfl rfl rfl (ar2 rfl rfl) (mend_At_calls a0m c10 p0 r11 _ (hp0.lift (Lift.ext hE8 _)) hr11) ?_); rintro _ w11 ⟨v11, rfl, x11, n11_0, o11_0⟩; refine ⟨_, rfl, ?_⟩; have i11_0 : By w11 [v3] v11 r11 := OwK.slk (Sc.stab _) _ (OwK.scal o11_0 (v11 :: [v3])) (fun k hk => (Old.cons (Old.nil _) o0_8.lt) k (n11_0 k hk)) (fun _ h => h.2); replace o0_8 := o0_8.extL (Sc.stab _) x11 (Lift.ext x11 _); have e12 := hE8.trans x11; refine wa rfl (q_len rfl T22.sl rfl i11_0) <| mv (i64 0) rfl rfl <| wnt <| ?_; obtain ⟨x13, G13, H7⟩ := bsi H7; refine W_mid (fun f w => f 0 = p0 ∧ f 1 = p1 ∧ f 2 = p2 ∧ f 7 = (.slice none 0 0) ∧ f 8 = v3 ∧ f 9 = (i64 s7.2) ∧ f 75 = undef ∧ Ext w0 w ∧ OwK (Sc bl) w [v3] 4 v3 x13 ∧ Nw w0 v3) ?_ ?_
      · refine W_block ?_; refine W_loop (fun s13 f w => f 0 = p0 ∧ f 1 = p1 ∧ f 2 = p2 ∧ f 7 = (.slice none 0 0) ∧ f 8 = v3 ∧ f 9 = (i64 s7.2) ∧ f 35 = v11 ∧ f 36 = (i64 ((r11.length : Int))) ∧ f 37 = (i64 s13.2) ∧ f 75 = undef ∧ Ext w0 w ∧ OwK (Sc bl) w [v3] 4 v3 s13.1 ∧ Nw w0 v3 ∧ By w [v3] v11 r11) G13 ?_ ?_
        · exact ⟨s0_8, s1_8, s2_8, s7_8, s8_8, s9_8, rfl, rfl, rfl, s75_8, e12, o0_8, n0_8, i11_0⟩
        rintro s13 _ _ w14 ⟨s0_14, s1_14, s2_14, s7_14, s8_14, s9_14, s35_14, s36_14, s37_14, s75_14, hE14, o0_14, n0_14, i0_14⟩ H13 hr13; refine W_seq <| W_rg <| wa rfl (q_ltI rfl s37_14 s36_14) <| wnt <| W_seq <| ?_; refine W_cond _ rfl rfl (fun hb15 => ?_) (fun hb15 => ?_)
        · replace H13 := ifp hb15 H13; refine W_skip <| W_th <| W_seq <| W_block <| W_seq <| W_rg <| mv (i64 s13.2) rfl s37_14 <| ?_; obtain ⟨c16, hc16, H13⟩ := bsi H13; refine wa rfl (q_adr rfl T22 s35_14 s37_14 i0_14 hc16) <| wq rfl (q_loadS rfl T22 rfl i0_14 hc16) <| av (i64 s13.2) rfl rfl <| av (u8 c16) rfl rfl <| wnt <| W_rg <| mv v3 rfl s8_14 <| mv (i64 s13.2) rfl rfl <| ?_; refine mv v3 rfl s8_14 <| mv (i64 s13.2) rfl rfl <| ?_; obtain ⟨c17, hc17, H13⟩ := bsi H13; refine wa rfl (q_adr rfl T33 rfl rfl (o0_14.rd (Sc.stab _)) hc17) <| wq rfl (q_loadS rfl T33 rfl (o0_14.rd (Sc.stab _)) hc17) <| ?_; refine wlb rfl rfl (q_move (v := (.bool c17)) rfl rfl) (fun hb18 => ?_) (fun hb18 => ?_)
          · replace H13 := (if_pos hb18).symm.trans H13; refine wlk rfl rfl <| wlk rfl rfl <| wlk rfl rfl <| wlk rfl rfl <| wlk rfl rfl <| wlk rfl rfl <| wlk rfl rfl <| wlk rfl rfl <| ?_; refine wlk rfl rfl <| wa rfl (q_pick_t (v := (.bool true)) rfl rfl rfl) <| wa rfl (q_adr rfl T33 rfl rfl (o0_14.rd (Sc.stab _)) hc17) <| ?_; refine wln rfl rfl (stp_store (R := (Sc bl)) (u := (.bool true)) (Sc.stab _) [] [] rfl T33 rfl rfl o0_14 (put_of true hc17) rfl rfl ?_); intro w19 o19 g19 l19; replace i0_14 := i0_14.lift l19; have e20 := hE14.grown g19 n0_14; refine wl_nil <| bk_n <| W_th <| W_rg <| wa rfl (q_addI rfl s37_14 rfl) <| mv (i64 ((wI (s13.2 + 1)))) rfl rfl <| wl_nil <| ?_; obtain rfl := osi H13; exact ⟨_, rfl, s0_14, s1_14, s2_14, s7_14, s8_14, s9_14, s35_14, s36_14, rfl, s75_14, e20, o19, n0_14, i0_14⟩
          replace H13 := (if_neg (ne_true_of_eq_false hb18)).symm.trans H13; refine mv (u8 c16) rfl rfl <| mv p2 rfl s2_14 <| mv (i64 s7.2) rfl s9_14 <| ?_; obtain ⟨c21, hc21, H13⟩ := bsi H13; refine wa rfl (q_adr rfl T23 rfl rfl (hp2.lift (Lift.ext hE14 _)) hc21) ?_; refine wlq_load rfl rfl rfl T23 rfl hp2 hc21 hE14 (fun v22 ha22 => ?_); refine mv (i64 s13.2) rfl rfl ?_; obtain ⟨c23, hc23, H13⟩ := bsi H13; refine wa rfl (q_adr rfl T22 rfl rfl (ha22.lift (Lift.ext hE14 _)) hc23) <| wq rfl (q_loadS rfl T22 rfl (ha22.lift (Lift.ext hE14 _)) hc23) <| wa rfl (q_ne8 rfl rfl rfl) <| wa rfl (q_pick_f (v := (.bool ((!decide (c16 = c23))))) rfl rfl rfl) <| wa rfl (q_adr rfl T33 rfl rfl (o0_14.rd (Sc.stab _)) hc17) <| ?_; refine wln rfl rfl (stp_store (R := (Sc bl)) (u := (.bool ((!decide (c16 = c23))))) (Sc.stab _) [] [] rfl T33 rfl rfl o0_14 (put_of ((!decide (c16 = c23))) hc17) rfl rfl ?_); intro w24 o24 g24 l24; replace i0_14 := i0_14.lift l24; have e25 := hE14.grown g24 n0_14; refine wl_nil <| bk_n <| W_th <| W_rg <| wa rfl (q_addI rfl s37_14 rfl) <| mv (i64 ((wI (s13.2 + 1)))) rfl rfl <| wl_nil <| ?_; obtain rfl := osi H13; exact ⟨_, rfl, s0_14, s1_14, s2_14, s7_14, s8_14, s9_14, s35_14, s36_14, rfl, s75_14, e25, o24, n0_14, i0_14⟩
        replace H13 := ifn hb15 H13; refine W_exit <| th_x <| ?_; obtain rfl := osi H13; obtain rfl := hr13 _ rfl; refine th_x <| bk_x <| ?_; exact ⟨s0_14, s1_14, s2_14, s7_14, s8_14, s9_14, s75_14, hE14, o0_14, n0_14⟩
      rintro _ w27 ⟨s0_27, s1_27, s2_27, s7_27, s8_27, s9_27, s75_27, hE27, o0_27, n0_27⟩; refine bk_n <| W_th <| W_rg <| mv (i64 s7.2) rfl s9_27 <| wa rfl (q_addI rfl rfl rfl) <| av (i64 ((wI (s7.2 + 1)))) rfl rfl <| wl_nil <| ?_; obtain rfl := osi H7; exact ⟨_, rfl, s0_27, s1_27, s2_27, s7_27, s8_27, rfl, s75_27, hE27, o0_27, n0_27⟩
    replace H7 := ifn hb9 H7; refine W_exit <| th_x <| ?_; obtain rfl := osi H7; obtain rfl := hr7 _ rfl; refine th_x <| bk_x <| ?_; exact ⟨s7_8, s8_8, s75_8, hE8, o0_8, n0_8⟩
  rintro _ w30 ⟨s7_30, s8_30, s75_30, hE30, o0_30, n0_30⟩; refine W_th <| W_seq <| W_seq <| W_rg <| mv v3 rfl s8_30 <| wa rfl (q_len rfl T33.sl rfl (o0_30.rd (Sc.stab _))) <| mv (i64 0) rfl rfl <| wnt <| ?_; obtain ⟨x31, G31, H⟩ := bsi H; refine W_mid (fun f w => ∃ v7_44 : Value, f 7 = v7_44 ∧ f 75 = undef ∧ Ext w0 w ∧ OwK (Sc i64) w [v7_44] 3 v7_44 x31 ∧ Nw w0 v7_44) ?_ ?_
  · refine W_block ?_; refine W_loop (fun s31 f w => ∃ v7_42 : Value, f 7 = v7_42 ∧ f 61 = v3 ∧ f 62 = (i64 ((x7.length : Int))) ∧ f 63 = (i64 s31.2) ∧ f 75 = undef ∧ Ext w0 w ∧ OwK (Sc i64) w [v7_42, v3] 3 v7_42 s31.1 ∧ Nw w0 v7_42 ∧ OwK (Sc bl) w [v7_42, v3] 4 v3 x7 ∧ Nw w0 v3 ∧ Nq v7_42 v3) G31 ?_ ?_
    · exact ⟨(.slice none 0 0), s7_30, rfl, rfl, rfl, s75_30, hE30, (OwK.nil _ _ _ _), (Nw.nil _), (o0_30.weak (Sc.stab _) (fun _ h => ⟨nh_nil, h.1, trivial⟩)), n0_30, (Nq.nil _)⟩
    rintro s31 _ _ w32 ⟨v7_32, s7_32, s61_32, s62_32, s63_32, s75_32, hE32, o0_32, n0_32, o1_32, n1_32, q0_1_32⟩ H31 hr31; refine W_seq <| W_rg <| wa rfl (q_ltI rfl s63_32 s62_32) <| wnt <| W_seq <| ?_; refine W_cond _ rfl rfl (fun hb33 => ?_) (fun hb33 => ?_)
    · replace H31 := ifp hb33 H31; refine W_skip <| W_th <| W_seq <| W_block <| W_seq <| W_rg <| mv (i64 s31.2) rfl s63_32 <| ?_; obtain ⟨c34, hc34, H31⟩ := bsi H31; refine wa rfl (q_adr rfl T33 s61_32 s63_32 (o1_32.rd (Sc.stab _)) hc34) <| wq rfl (q_loadS rfl T33 rfl (o1_32.rd (Sc.stab _)) hc34) <| av (i64 s31.2) rfl rfl <| av (.bool c34) rfl rfl <| wnt <| W_seq <| W_rg <| mv (.bool c34) rfl rfl <| ?_; refine wnt ?_; refine W_cond _ rfl rfl (fun hb35 => ?_) (fun hb35 => ?_)
      · replace H31 := (if_pos hb35).symm.trans H31; refine W_rg <| mv v7_32 rfl s7_32 <| mv (i64 s31.2) rfl rfl <| ?_; refine wls rfl rfl (stp_lit (L := [v7_32, v3]) (R := (Sc i64)) [(i64 s31.2)] ([s31.2] : List Int) rfl T38 rfl (by exact ⟨rfl, rfl, trivial⟩) rfl (litC i64 (oneC_i64) (us := [(i64 s31.2)]) (l := ([s31.2] : List Int)) rfl) rfl (litS i64 (us := [(i64 s31.2)]) (l := ([s31.2] : List Int)) rfl) ?_); intro v36 w36 o36 n36 g36 l36; have x36 := grown_ext g36; have i36 : In w36 [v7_32, v3] v36 (([s31.2] : List Int)) := OwK.slk (Sc.stab _) _ o36 (fun k hk => (Old.cons (Old.cons (Old.nil _) o1_32.lt) o0_32.lt) k (n36 k hk)) (fun _ h => h.2); replace o0_32 := o0_32.extL (Sc.stab _) x36 (Lift.ext x36 _); replace o1_32 := o1_32.extL (Sc.stab _) x36 (Lift.ext x36 _); have e37 := hE32.trans x36; obtain ⟨c38, hc38, H31⟩ := bsi H31; refine wls rfl rfl (stp_append (R := (Sc i64)) (v := v7_32) (u := v36) (Sc.stab _) [] [v3] rfl T38 rfl rfl o0_32 i36 (fun _ _ h => h) hc38 oc_i64 ?_); intro v38 w38 o38 g38 nx38 l38; replace i36 := i36.lift l38; have q39 : Nq v3 v38 := o1_32.nxt q0_1_32.symm nx38; replace o1_32 := o1_32.other (Sc.stab _) g38 q0_1_32.symm l38; have e40 := e37.grown g38 n0_32; have n41 := Nw.nxt e37 n0_32 nx38; refine av v38 rfl rfl <| wl_nil <| bk_n <| W_th <| W_rg <| wa rfl (q_addI rfl s63_32 rfl) <| mv (i64 ((wI (s31.2 + 1)))) rfl rfl <| wl_nil <| ?_; obtain rfl := osi H31; exact ⟨_, rfl, v38, rfl, s61_32, s62_32, rfl, s75_32, e40, o38, n41, o1_32, n1_32, q39.symm⟩
      replace H31 := (if_neg (ne_true_of_eq_false hb35)).symm.trans H31; refine W_skip <| bk_n <| W_th <| W_rg <| wa rfl (q_addI rfl s63_32 rfl) <| mv (i64 ((wI (s31.2 + 1)))) rfl rfl <| wl_nil <| ?_; obtain rfl := osi H31; exact ⟨_, rfl, v7_32, s7_32, s61_32, s62_32, rfl, s75_32, hE32, o0_32, n0_32, o1_32, n1_32, q0_1_32⟩
    replace H31 := ifn hb33 H31; refine W_exit <| th_x <| ?_; obtain rfl := osi H31; obtain rfl := hr31 _ rfl; refine th_x <| bk_x <| ?_; exact ⟨v7_32, s7_32, s75_32, hE32, (o0_32.weak (Sc.stab _) (fun _ h => ⟨h.1, trivial⟩)), n0_32⟩
  rintro _ w43 ⟨v7_43, s7_43, s75_43, hE43, o0_43, n0_43⟩; refine W_th <| W_seq <| W_rg <| mv v7_43 rfl s7_43 <| av v7_43 rfl rfl <| wnt <| W_ret <| ?_; obtain rfl := osi H; refine rt1 v7_43 rfl rfl rfl s75_43 ?_; exact ⟨v7_43, rfl, hE43, n0_43, (o0_43.weak (Sc.stab _) (fun _ _ => trivial))⟩
noncomputable def mend_Wrong (a0m : Option (Bool × List UInt8 × List (List UInt8) × List Int)) : Option (List Int) :=
(if a0m.isNone = true then some ([] : List Int)
else
((a0m).bind fun c2 =>
((slices_Clone_sintint c2.2.2.2).bind fun r3 => some r3)))
theorem mend_Wrong_calls (a0m : Option (Bool × List UInt8 × List (List UInt8) × List Int)) (p0 : Value) (r : List Int) (w0 : World) (hp0 : RcMd w0 [] p0 a0m) (H : mend_Wrong a0m = some r) :
    Calls Try.prog 12 [p0].toArray w0 (fun e w' => ∃ u0 : Value, e = .returned u0 ∧ Ext w0 w' ∧ Nw w0 u0 ∧ OwK (Sc i64) w' [] 3 u0 r) := by
  have hE : Ext w0 w0 := Ext.refl w0; unfold mend_Wrong at H; refine calls_W (n := 10) Try.func12 rfl rfl rfl ?_; refine W_seq <| W_rg <| av (.slice none 0 0) rfl rfl <| wnt <| W_seq <| W_seq <| W_rg <| mv p0 rfl rfl <| ?_; refine wa rfl (q_eqRMd rfl rfl rfl rfl (hp0.lift (Lift.ext hE _))) <| wnt <| ?_; refine W_cond _ rfl rfl (fun hb1 => ?_) (fun hb1 => ?_)
  · replace H := (if_pos hb1).symm.trans H; refine W_seq <| W_rg <| av (.slice none 0 0) rfl rfl <| wnt <| W_ret <| th_r <| ?_; obtain rfl := osi H; refine rt1 (.slice none 0 0) rfl rfl rfl rfl ?_; exact ⟨(.slice none 0 0), rfl, hE, Nw.nil _, (OwK.nil _ _ _ _)⟩
  replace H := (if_neg (ne_true_of_eq_false hb1)).symm.trans H; refine W_skip <| W_th <| W_seq <| W_rg <| mv p0 rfl rfl <| ?_; obtain ⟨c2, hc2, H⟩ := bsi H; obtain ⟨g2, u2_0, u2_1, u2_2, u2_3, hv2, hB2, hu2_0, hu2_1, hu2_2, hu2_3⟩ := RcMd.some hp0 hc2; refine wa rfl (q_nilP (g := g2) (m := 0) rfl (Eq.trans rfl hv2)) <| wa rfl (q_fldR (g := g2) (m := 0) (d := 3) rfl fieldAtMd3 rfl) <| wq rfl (q_loadB (u := u2_3) rfl Try.isAgg38 rfl (hB2.ext hE) rfl) <| ?_; obtain ⟨r3, hr3, H⟩ := bsi H; refine wls rfl rfl (stp_call (vs := [u2_3]) Try.func35 rfl rfl rfl (ar1 rfl) (slices_Clone_sintint_calls c2.2.2.2 u2_3 r3 _ (hu2_3.lift (Lift.ext hE _)) hr3) ?_); rintro _ w3 ⟨v3, rfl, x3, n3_0, o3_0⟩; refine ⟨_, rfl, ?_⟩; have o3 : OwK (Sc i64) w3 (v3 :: []) 3 v3 r3 := OwK.scal o3_0 _; have n5 := Nw.ext hE n3_0; have e4 := hE.trans x3; refine av v3 rfl rfl <| wnt <| W_ret <| ?_; obtain rfl := osi H; refine rt1 v3 rfl rfl rfl rfl ?_; exact ⟨v3, rfl, e4, n5, (o3.weak (Sc.stab _) (fun _ _ => trivial))⟩
noncomputable def mend_Rows_1 (a0r : List UInt8) (b0 : List (List UInt8)) : Option Bool :=
((idx b0 0).bind fun c1 => some (!decide ((a0r.length : Int) = (c1.length : Int))))
theorem mend_Rows_1_calls (a0r : List UInt8) (b0 : List (List UInt8)) (p0 : Value) (gc0 : Nat) (cv0 : Value) (r : Bool) (w0 : World) (hp0 : By w0 [] p0 a0r) (hcB0 : Blk w0 gc0 23 #[cv0]) (hcv0 : Rw w0 [] cv0 b0) (H : mend_Rows_1 a0r b0 = some r) :
    Calls Try.prog 24 [p0, (bp gc0)].toArray w0 (fun e w' => e = .returned (.bool r) ∧ Ext w0 w') := by
  have hE : Ext w0 w0 := Ext.refl w0; unfold mend_Rows_1 at H; refine calls_W (n := 11) Try.func24 rfl rfl rfl ?_; refine W_seq <| W_rg <| av (.bool false) rfl rfl <| wnt <| W_seq <| W_rg <| mv p0 rfl rfl <| wa rfl (q_len rfl T22.sl rfl (hp0.lift (Lift.ext hE _))) <| ?_; refine wq rfl (q_loadB (u := cv0) rfl Try.isAgg23 rfl (hcB0.ext hE) rfl) ?_; obtain ⟨c1, hc1, H⟩ := bsi H; refine wa rfl (q_adr rfl T23 rfl rfl (hcv0.lift (Lift.ext hE _)) hc1) ?_; refine wlq_load rfl rfl rfl T23 rfl hcv0 hc1 hE (fun v2 ha2 => ?_); refine wa rfl (q_len rfl T22.sl rfl (ha2.lift (Lift.ext hE _))) <| wa rfl (q_neI rfl rfl rfl) <| av (.bool ((!decide ((a0r.length : Int) = (c1.length : Int))))) rfl rfl <| wnt <| W_ret <| ?_; obtain rfl := osi H; refine rt1 (.bool ((!decide ((a0r.length : Int) = (c1.length : Int))))) rfl rfl rfl rfl ?_; exact ⟨rfl, hE⟩
noncomputable def mend_Rows (a0f : Bool) (a1t : Int) (a2xs : List UInt8) (a3rows : List (List UInt8)) (a4e : Int) : Option (Option (Bool × List UInt8 × List (List UInt8) × List Int) × Int) :=
((mend_check a0f a1t a2xs (a3rows.length : Int) a4e).bind fun r4 =>
(if r4 = 0 then
((lim a3rows.length).bind fun lim7 =>
((anyO (fun y7 => mend_Rows_1 y7 a3rows) a3rows).bind fun r7 =>
(if r7 = true then some ((none : Option (Bool × List UInt8 × List (List UInt8) × List Int)), 3)
else
((subL a2xs 0 a1t).bind fun c10 =>
((slices_Clone_sbytebyte c10).bind fun r11 =>
((subL a3rows 0 a1t).bind fun c20 =>
((iterC (fun s21 : List (List UInt8) × Int =>
(if s21.2 < (c20.length : Int) then
((idx c20 s21.2).bind fun c24 =>
((slices_Clone_sbytebyte c24).bind fun r28 =>
((appL s21.1 [r28]).bind fun c37 => some (.inl (c37, (wI (s21.2 + 1)))))))
else some (.inr s21.1))) (([] : List (List UInt8)), 0)).bind fun x21 =>
((mend_odd (some (a0f, r11, x21, ([] : List Int))) a2xs a3rows).bind fun r50 =>
((iterC (fun s52 : List (List UInt8) × Int =>
(if s52.2 < (r50.length : Int) then
((idx r50 s52.2).bind fun c55 =>
((iterC (fun s56 : List UInt8 × Int =>
(if s56.2 < (a3rows.length : Int) then
((idx a3rows s56.2).bind fun c59 =>
((idx c59 c55).bind fun c61 =>
((appL s56.1 (([c61] : List UInt8))).bind fun c65 => some (.inl (c65, (wI (s56.2 + 1)))))))
else some (.inr s56.1))) (([] : List UInt8), 0)).bind fun x56 =>
((mend_column a0f a1t a2xs x56 a4e).bind fun r73 =>
(if r73.2 = 0 then
((iterC (fun s76 : List (List UInt8) × Int =>
(if s76.2 < (r11.length : Int) then
((idx r11 s76.2).bind fun c79 =>
((idx s76.1 s76.2).bind fun c82 =>
((poly_Eval a0f r73.1 c79).bind fun r84 =>
((idx c82 c55).bind fun c86 => some (.inl ((s76.1.set (s76.2 : Int).toNat (c82.set (c55 : Int).toNat r84)), (wI (s76.2 + 1))))))))
else some (.inr s76.1))) (s52.1, 0)).bind fun x76 => some (.inl (x76, (wI (s52.2 + 1)))))
else some (.inr (.inr ((none : Option (Bool × List UInt8 × List (List UInt8) × List Int)), r73.2)))))))
else some (.inr (.inl s52.1)))) (x21, 0)).bind (Sum.elim (fun y52 =>
((iterC (fun s95 : List Int × Int =>
(if s95.2 < (a2xs.length : Int) then
((idx a2xs s95.2).bind fun c98 =>
((idx a3rows s95.2).bind fun c101 =>
((mend_At (some (a0f, r11, y52, s95.1)) c98).bind fun r103 =>
((slices_Equal_sbytebyte r103 c101).bind fun r105 =>
(if (!r105) = true then
((appL s95.1 (([s95.2] : List Int))).bind fun c110 => some (.inl (c110, (wI (s95.2 + 1)))))
else some (.inl (s95.1, (wI (s95.2 + 1)))))))))
else some (.inr s95.1))) (([] : List Int), 0)).bind fun x95 => some ((some (a0f, r11, y52, x95)), 0))) (fun q52 => some q52)))))))))))
else some ((none : Option (Bool × List UInt8 × List (List UInt8) × List Int)), r4)))
theorem mend_Rows_calls (a0f : Bool) (a1t : Int) (a2xs : List UInt8) (a3rows : List (List UInt8)) (a4e : Int) (p0 : Value) (p2 : Value) (p3 : Value) (r : Option (Bool × List UInt8 × List (List UInt8) × List Int) × Int) (w0 : World) (L0 : List Value) (hL0 : Old w0 L0) (hp0 : Fd w0 L0 p0 a0f) (hp2 : By w0 [] p2 a2xs) (hp3 : Rw w0 [] p3 a3rows) (H : mend_Rows a0f a1t a2xs a3rows a4e = some r) :
    Calls Try.prog 7 [p0, (i64 a1t), p2, p3, (i64 a4e)].toArray w0 (fun e w' => ∃ u0 : Value, e = .returned (.tuple #[u0, (i64 r.2)]) ∧ Ext w0 w' ∧ RcMd w' L0 u0 r.1) := by
  have hE : Ext w0 w0 := Ext.refl w0; unfold mend_Rows at H; refine calls_W (n := 155) Try.func7 rfl rfl rfl ?_; refine W_seq <| W_rg <| ?_; refine wls rfl rfl (stp_boxL (v := p3) (cs := #[p3]) (L0) rfl rfl (cells_sl _ _ (hp3.lift (Lift.ext hE _))) ?_); intro g1 w1 o1 n1 g1r l1; have x1 := grown_ext g1r; have n3 := Nw.ext hE n1; have e2 := hE.trans x1; refine av (.pointer none) rfl rfl <| av (i64 0) rfl rfl <| wnt <| W_seq <| W_seq <| W_rg <| mv p0 rfl rfl <| mv (i64 a1t) rfl rfl <| ?_; refine mv p2 rfl rfl <| wq rfl (q_loadB (u := p3) rfl Try.isAgg23 rfl o1 rfl) <| wa rfl (q_len rfl T23.sl rfl (hp3.lift (Lift.ext e2 _))) <| mv (i64 a4e) rfl rfl <| ?_; obtain ⟨r4, hr4, H⟩ := bsi H; refine wls rfl rfl (stp_call (vs := [p0, (i64 a1t), p2, (i64 ((a3rows.length : Int))), (i64 a4e)]) Try.func22 rfl rfl rfl (ar5 rfl rfl rfl rfl rfl) (mend_check_calls a0f a1t a2xs (a3rows.length : Int) a4e p0 p2 r4 _ ((hp0.lift (Lift.sub (L' := []) (fun _ _ => trivial))).lift (Lift.ext e2 _)) (hp2.lift (Lift.ext e2 _)) hr4) ?_); rintro _ w4 ⟨rfl, x4⟩; refine ⟨_, rfl, ?_⟩; replace o1 := o1.ext x4; have e5 := e2.trans x4; refine av (i64 r4) rfl rfl <| wnt <| W_seq <| W_rg <| mv (i64 r4) rfl rfl <| wa rfl (q_neI rfl rfl rfl) <| wnt <| ?_; refine W_cond _ rfl rfl (fun hb6 => ?_) (fun hb6 => ?_)
  · replace H := (if_neg (ndec_t hb6)).symm.trans H; refine W_seq <| W_rg <| mv (i64 r4) rfl rfl <| av (.pointer none) rfl rfl <| av (i64 r4) rfl rfl <| wnt <| W_ret <| th_r <| ?_; obtain rfl := osi H; refine rt2 (.pointer none) (i64 r4) rfl rfl rfl rfl rfl rfl ?_; exact ⟨(.pointer none), rfl, e5, (RcMd.nil _ _)⟩
  replace H := (if_pos (ndec_f hb6)).symm.trans H; refine W_skip <| W_th <| W_seq <| W_seq <| W_rg <| wq rfl (q_loadB (u := p3) rfl Try.isAgg23 rfl o1 rfl) <| wa rfl (q_mkfuncN (vs := [(bp g1)]) rfl (ar1 rfl)) <| ?_; obtain ⟨lim7, hl7, H⟩ := bsi H; obtain ⟨r7, hr7, H⟩ := bsi H; refine wls rfl rfl (stp_call (vs := [p3, (.func (.func 24) #[] [(bp g1)].toArray)]) Try.func23 rfl rfl rfl (ar2 rfl rfl) (ContainsFunc_rows_calls p3 a3rows 24 _ Try.func24 rfl rfl [(bp g1)] (fun y7 => mend_Rows_1 y7 a3rows) r7 _ (hp3.lift (Lift.ext e5 _)) (lim_lt hl7) hr7 (fun y7 _ b w' xE hb u hu => mend_Rows_1_calls y7 a3rows u g1 p3 b w' hu (o1.ext xE) ((hp3.lift (Lift.ext e5 _)).lift (Lift.ext xE _)) hb)) ?_); rintro _ w7 ⟨rfl, x7⟩; refine ⟨_, rfl, ?_⟩; replace o1 := o1.ext x7; have e8 := e5.trans x7; refine wnt ?_; refine W_cond _ rfl rfl (fun hb9 => ?_) (fun hb9 => ?_)
  · replace H := (if_pos hb9).symm.trans H; refine W_seq <| W_rg <| av (.pointer none) rfl rfl <| av (i64 3) rfl rfl <| wnt <| W_ret <| th_r <| ?_; obtain rfl := osi H; refine rt2 (.pointer none) (i64 3) rfl rfl rfl rfl rfl rfl ?_; exact ⟨(.pointer none), rfl, e8, (RcMd.nil _ _)⟩
  replace H := (if_neg (ne_true_of_eq_false hb9)).symm.trans H; refine W_skip <| W_th <| W_seq <| W_rg <| mv p0 rfl rfl <| mv p2 rfl rfl <| mv (i64 a1t) rfl rfl <| ?_; obtain ⟨c10, hc10, H⟩ := bsi H; refine wa rfl (q_slice (a := 0) (b := a1t) rfl T22 rfl (hp2.lift (Lift.ext e8 _)) rfl rfl hc10) ?_; obtain ⟨r11, hr11, H⟩ := bsi H; refine wls rfl rfl (stp_call (vs := [(subV p2 (0 : Int).toNat (a1t : Int).toNat)]) Try.func25 rfl rfl rfl (ar1 rfl) (slices_Clone_sbytebyte_calls c10 (subV p2 (0 : Int).toNat (a1t : Int).toNat) r11 _ (SlK.cut (L := []) (hp2.lift (Lift.ext e8 _)) hc10) hr11) ?_); rintro _ w11 ⟨v11, rfl, x11, n11_0, o11_0⟩; refine ⟨_, rfl, ?_⟩; have i11_0 : By w11 ((bp g1) :: L0) v11 r11 := OwK.slk (Sc.stab _) _ (OwK.scal o11_0 (v11 :: ((bp g1) :: L0))) (fun k hk => (Old.cons (hL0.ext e8) o1.ltB) k (n11_0 k hk)) (fun _ h => h.2); replace o1 := o1.ext x11; have e12 := e8.trans x11; refine wa rfl (q_buildS (ps := #[(0, p0), (1, v11)]) rfl (by simp only [List.map_toArray, List.map_cons, List.map_nil]; exact bs2 rfl rfl) (buildMd_0_1 p0 (cells_fd ((hp0.lift (Lift.sub (L' := []) (fun _ _ => trivial))).lift (Lift.ext e12 _))) v11 (cells_sl _ _ i11_0))) ?_
  refine wls rfl rfl (stp_boxL (v := (.agg #[p0, v11, (.slice none 0 0), (.slice none 0 0)])) (cs := #[p0, v11, (.slice none 0 0), (.slice none 0 0)]) ((bp g1) :: L0) rfl rfl rfl ?_); intro g13 w13 o13 n13 g13r l13; have x13 := grown_ext g13r; have q14 : Nq (bp g1) (bp g13) := o1.nq n13; replace i11_0 := i11_0.lift (Lift.call _ x13 n13); replace o1 := o1.ext x13; have n16 := Nw.ext e12 n13; have e15 := e12.trans x13; have q18 : Nq (bp g13) (.tuple #[.slice none 0 0]) := nq_nilG _; have q19 : Nq (bp g1) (.tuple #[.slice none 0 0]) := nq_nilG _; replace i11_0 := i11_0.lift (Lift.sub (L' := ((.tuple #[.slice none 0 0]) :: (bp g13) :: (bp g1) :: L0)) (fun _ h => ⟨nh_nilG, h⟩)); have oG17 : OwD w13 22 5 (.tuple #[.slice none 0 0]) (.slice none 0 0) [] := OwD.nil _ _ _; have nG17 : Nw w0 (.tuple #[.slice none 0 0]) := nw_nilG _; refine av (bp g13) rfl rfl <| wnt <| W_seq <| W_seq <| W_rg <| wq rfl (q_loadB (u := p3) rfl Try.isAgg23 rfl o1 rfl) <| mv (i64 a1t) rfl rfl <| ?_; obtain ⟨c20, hc20, H⟩ := bsi H; refine wa rfl (q_slice (a := 0) (b := a1t) rfl T23 rfl (hp3.lift (Lift.ext e15 _)) rfl rfl hc20) <| wa rfl (q_len rfl T23.sl rfl (SlK.cut (hp3.lift (Lift.ext e15 _)) hc20)) <| mv (i64 0) rfl rfl <| wnt <| ?_; obtain ⟨x21, G21, H⟩ := bsi H; refine W_mid (fun f w => ∃ vbbpg132_122 : Value, ∃ Gbbpg132_122 : Value, f 0 = p0 ∧ f 1 = (i64 a1t) ∧ f 2 = p2 ∧ f 4 = (i64 a4e) ∧ f 8 = (bp g1) ∧ f 13 = (bp g13) ∧ f 155 = undef ∧ Ext w0 w ∧ OwD w 22 5 Gbbpg132_122 vbbpg132_122 x21 ∧ Nw w0 Gbbpg132_122 ∧ Blk w g1 23 #[p3] ∧ Nw w0 (bp g1) ∧ Blk w g13 59 #[p0, v11, vbbpg132_122, (.slice none 0 0)] ∧ Nw w0 (bp g13) ∧ Nq Gbbpg132_122 (bp g1) ∧ Nq Gbbpg132_122 (bp g13) ∧ Nq (bp g1) (bp g13) ∧ By w (Gbbpg132_122 :: (bp g1) :: (bp g13) :: L0) v11 r11) ?_ ?_
  · refine W_block ?_; refine W_loop (fun s21 f w => ∃ vbbpg132_48 : Value, ∃ Gbbpg132_48 : Value, f 0 = p0 ∧ f 1 = (i64 a1t) ∧ f 2 = p2 ∧ f 4 = (i64 a4e) ∧ f 8 = (bp g1) ∧ f 13 = (bp g13) ∧ f 49 = (subV p3 (0 : Int).toNat (a1t : Int).toNat) ∧ f 50 = (i64 ((c20.length : Int))) ∧ f 51 = (i64 s21.2) ∧ f 155 = undef ∧ Ext w0 w ∧ OwD w 22 5 Gbbpg132_48 vbbpg132_48 s21.1 ∧ Nw w0 Gbbpg132_48 ∧ Blk w g1 23 #[p3] ∧ Nw w0 (bp g1) ∧ Blk w g13 59 #[p0, v11, vbbpg132_48, (.slice none 0 0)] ∧ Nw w0 (bp g13) ∧ Nq Gbbpg132_48 (bp g1) ∧ Nq Gbbpg132_48 (bp g13) ∧ Nq (bp g1) (bp g13) ∧ By w (Gbbpg132_48 :: (bp g1) :: (bp g13) :: L0) v11 r11) G21 ?_ ?_
    · exact ⟨(.slice none 0 0), (.tuple #[.slice none 0 0]), rfl, rfl, rfl, rfl, rfl, rfl, rfl, rfl, rfl, rfl, e15, oG17, nG17, o1, n3, o13, n16, q19.symm, q18.symm, q14, (i11_0.lift (Lift.sub (fun _ h => ⟨h.1, h.2.2.1, h.2.1, h.2.2.2⟩)))⟩
    rintro s21 _ _ w22 ⟨vbbpg132_22, Gbbpg132_22, s0_22, s1_22, s2_22, s4_22, s8_22, s13_22, s49_22, s50_22, s51_22, s155_22, hE22, o0_22, n0_22, o1_22, n1_22, o2_22, n2_22, q0_1_22, q0_2_22, q1_2_22, i0_22⟩ H21 hr21; refine W_seq <| W_rg <| wa rfl (q_ltI rfl s51_22 s50_22) <| wnt <| W_seq <| ?_; refine W_cond _ rfl rfl (fun hb23 => ?_) (fun hb23 => ?_)
    · replace H21 := ifp hb23 H21; refine W_skip <| W_th <| W_seq <| W_block <| W_seq <| W_rg <| ?_; obtain ⟨c24, hc24, H21⟩ := bsi H21; refine wa rfl (q_adr rfl T23 s49_22 s51_22 (SlK.cut (hp3.lift (Lift.ext hE22 _)) hc20) hc24) ?_; refine wlq_load rfl rfl rfl T23 rfl (SlK.cut hp3 hc20) hc24 hE22 (fun v25 ha25 => ?_); refine av v25 rfl rfl <| wnt <| ?_; refine W_draw [4] [(0, 0), (1, 0), (2, 0), (3, 0), (4, 1), (5, 0), (6, 2), (7, 2), (8, 2), (9, 0), (10, 0), (11, 2)] mixed (by kernel_rfl) (by kernel_rfl) (by kernel_rfl) (by kernel_rfl) ?_; have x26 := Ext.drew w22; replace i0_22 := i0_22.lift (Lift.ext x26 _); replace o0_22 := o0_22.ext x26; replace o1_22 := o1_22.ext x26; replace o2_22 := o2_22.ext x26; have e27 := hE22.trans x26; refine sv (bp g13) rfl rfl s13_22 <| sv (bp g13) rfl rfl s13_22 <| sa rfl rfl (q_nilP rfl rfl) <| sa rfl rfl (q_fldR (g := g13) (m := 0) (d := 2) rfl fieldAtMd2 rfl) <| sq rfl rfl (q_loadB (u := vbbpg132_22) rfl Try.isAgg23 rfl o2_22 rfl) <| sv v25 rfl rfl rfl <| ?_; obtain ⟨r28, hr28, H21⟩ := bsi H21; refine wss rfl rfl rfl (stp_call (vs := [v25]) Try.func25 rfl rfl rfl (ar1 rfl) (slices_Clone_sbytebyte_calls c24 v25 r28 _ (ha25.lift (Lift.ext e27 _)) hr28) ?_); rintro _ w28 ⟨v28, rfl, x28, n28_0, o28_0⟩; refine ⟨_, rfl, x28, ?_⟩; have o28 : OwK (Sc u8) w28 (v28 :: (Gbbpg132_22 :: (bp g1) :: (bp g13) :: L0)) 5 v28 r28 := OwK.scal o28_0 _; have q29 : Nq Gbbpg132_22 v28 := o0_22.nq n28_0; have q30 : Nq (bp g1) v28 := o1_22.nq n28_0; have q31 : Nq (bp g13) v28 := o2_22.nq n28_0; replace i0_22 := i0_22.lift (Lift.call _ x28 n28_0); replace o0_22 := o0_22.ext x28; replace o1_22 := o1_22.ext x28; replace o2_22 := o2_22.ext x28; have n33 := Nw.ext e27 n28_0; have e32 := e27.trans x28; refine wss rfl rfl rfl (stp_lit (L := (v28 :: Gbbpg132_22 :: (bp g1) :: (bp g13) :: L0)) (R := (Sc (fun x : Value => x))) [v28] [v28] rfl T23 rfl (by exact ⟨rfl, rfl, trivial⟩) rfl (litV o28) rfl (fun _ _ _ _ _ _ => rfl) ?_); intro v34 w34 o34 n34 g34 l34; refine ⟨grown_ext g34, ?_⟩; have x34 := grown_ext g34; have i34 : SlK (Sc (fun x : Value => x)) w34 (v28 :: Gbbpg132_22 :: (bp g1) :: (bp g13) :: L0) v34 [v28] := OwK.slk (Sc.stab _) _ o34 (fun k hk => (Old.cons (Old.cons (Old.cons (Old.cons (hL0.ext e32) o2_22.ltB) o1_22.ltB) o0_22.ltB) o28.lt) k (n34 k hk)) (fun _ h => h.2); replace i0_22 := i0_22.lift (Lift.ext x34 _); replace o28 := o28.extL (Sc.stab _) x34 (Lift.ext x34 _); replace o0_22 := o0_22.ext x34; replace o1_22 := o1_22.ext x34; replace o2_22 := o2_22.ext x34; have e35 := e32.trans x34; obtain ⟨c37, hc37, H21⟩ := bsi H21; refine wsc rfl (by kernel_rfl) rfl rfl (stp_appendD (x := v28) (u := vbbpg132_22) (q := v34) [v28] ((bp g1) :: (bp g13) :: L0) rfl T23 rfl rfl o0_22 i34 o28 q29.symm hc37 ?_)
      intro Gm37 G37 v37 w37 o37 g37 nx37 hG37 l37; replace i0_22 := i0_22.lift l37; have q38 : Nq v28 Gm37 := o28.nxt q29.symm nx37; have q39 : Nq (bp g1) Gm37 := o1_22.nxt q0_1_22.symm nx37; have q40 : Nq (bp g13) Gm37 := o2_22.nxt q0_2_22.symm nx37; replace o28 := o28.other (Sc.stab _) g37 q29.symm l37; replace o1_22 := o1_22.other g37 q0_1_22.symm; replace o2_22 := o2_22.other g37 q0_2_22.symm; have e41 := e35.grown g37 n0_22; have n42 := Nw.nxt e35 n0_22 nx37; have q43 : Nq (bp g1) G37 := OwD.relist hG37 q39 q30; have q44 : Nq (bp g13) G37 := OwD.relist hG37 q40 q31
      have n45 : Nw w0 G37 := fun k hk => (hG37 k hk).elim (n42 k) (n33 k)
      replace i0_22 := i0_22.lift (Lift.sub (show ∀ k, Av (v28 :: Gm37 :: (bp g1) :: (bp g13) :: L0) k → Av (G37 :: (bp g1) :: (bp g13) :: L0) k from fun _ h => ⟨(fun e => (hG37 _ e).elim h.2.1 h.1), h.2.2.1, h.2.2.2.1, h.2.2.2.2⟩)); refine sa rfl rfl (q_nilP rfl rfl) <| sa rfl rfl (q_fldR (g := g13) (m := 0) (d := 2) rfl fieldAtMd2 rfl) <| ?_; refine wsn rfl (by kernel_rfl) rfl rfl (stp_storeR (u := v37) (cs' := #[p0, v11, v37, (.slice none 0 0)]) [G37, (bp g1)] (L0) rfl Try.sizeOf23 rfl rfl o2_22 (Nat.le_of_ble_eq_true rfl) (oc_sl _ _ _ _ o37.rd) rfl ?_); intro w46 o46 g46 l46; replace i0_22 := i0_22.lift l46; replace o37 := o37.other g46 q44.symm; replace o1_22 := o1_22.other g46 q1_2_22; have e47 := e41.grown g46 n2_22; refine ws_nil ?_; refine bk_n <| W_th <| W_rg <| wa rfl (q_addI rfl s51_22 rfl) <| mv (i64 ((wI (s21.2 + 1)))) rfl rfl <| wl_nil <| ?_; obtain rfl := osi H21; exact ⟨_, rfl, v37, G37, s0_22, s1_22, s2_22, s4_22, s8_22, s13_22, s49_22, s50_22, rfl, s155_22, e47, o37, n45, o1_22, n1_22, o46, n2_22, q43.symm, q44.symm, q1_2_22, i0_22⟩
    replace H21 := ifn hb23 H21; refine W_exit <| th_x <| ?_; obtain rfl := osi H21; obtain rfl := hr21 _ rfl; refine th_x <| bk_x <| ?_; exact ⟨vbbpg132_22, Gbbpg132_22, s0_22, s1_22, s2_22, s4_22, s8_22, s13_22, s155_22, hE22, o0_22, n0_22, o1_22, n1_22, o2_22, n2_22, q0_1_22, q0_2_22, q1_2_22, i0_22⟩
  rintro _ w49 ⟨vbbpg132_49, Gbbpg132_49, s0_49, s1_49, s2_49, s4_49, s8_49, s13_49, s155_49, hE49, o0_49, n0_49, o1_49, n1_49, o2_49, n2_49, q0_1_49, q0_2_49, q1_2_49, i0_49⟩; refine W_th <| W_seq <| W_seq <| W_rg <| mv (bp g13) rfl s13_49 <| mv p2 rfl s2_49 <| wq rfl (q_loadB (u := p3) rfl Try.isAgg23 (by exact s8_49) o1_49 rfl) <| ?_; obtain ⟨r50, hr50, H⟩ := bsi H; refine wls rfl rfl (stp_call (vs := [(bp g13), p2, p3]) Try.func26 rfl rfl rfl (ar3 rfl rfl rfl) (mend_odd_calls (some (a0f, r11, x21, ([] : List Int))) a2xs a3rows (bp g13) p2 p3 r50 _ (RcMd.mk o2_49 trivial ((hp0.lift (Lift.sub (L' := []) (fun _ _ => trivial))).lift (Lift.ext hE49 _)) (i0_49.lift (Lift.sub (L' := []) (fun _ _ => trivial))) o0_49.rd (SlK.nil _ _ _)) (hp2.lift (Lift.ext hE49 _)) (hp3.lift (Lift.ext hE49 _)) hr50) ?_); rintro _ w50 ⟨v50, rfl, x50, n50_0, o50_0⟩; refine ⟨_, rfl, ?_⟩; have i50_0 : In w50 (Gbbpg132_49 :: (bp g1) :: (bp g13) :: L0) v50 r50 := OwK.slk (Sc.stab _) _ (OwK.scal o50_0 (v50 :: (Gbbpg132_49 :: (bp g1) :: (bp g13) :: L0))) (fun k hk => (Old.cons (Old.cons (Old.cons (hL0.ext hE49) o2_49.ltB) o1_49.ltB) o0_49.ltB) k (n50_0 k hk)) (fun _ h => h.2); replace i0_49 := i0_49.lift (Lift.ext x50 _); replace o0_49 := o0_49.ext x50; replace o1_49 := o1_49.ext x50; replace o2_49 := o2_49.ext x50; have e51 := hE49.trans x50; refine wa rfl (q_len rfl T38.sl rfl i50_0) <| mv (i64 0) rfl rfl <| wnt <| ?_; obtain ⟨x52, G52, H⟩ := bsi H; refine W_mid (fun f w => ∃ y52, x52 = .inl y52 ∧ ∃ Gbbpg132_121 : Value, f 2 = p2 ∧ f 8 = (bp g1) ∧ f 13 = (bp g13) ∧ f 155 = undef ∧ Ext w0 w ∧ OwD w 22 5 Gbbpg132_121 vbbpg132_49 y52 ∧ Nw w0 Gbbpg132_121 ∧ Blk w g1 23 #[p3] ∧ Nw w0 (bp g1) ∧ Blk w g13 59 #[p0, v11, vbbpg132_49, (.slice none 0 0)] ∧ Nw w0 (bp g13) ∧ Nq Gbbpg132_121 (bp g1) ∧ Nq Gbbpg132_121 (bp g13) ∧ Nq (bp g1) (bp g13) ∧ By w (Gbbpg132_121 :: (bp g1) :: (bp g13) :: L0) v11 r11) ?_ ?_
  · refine W_block ?_; refine W_loop (fun s52 f w => ∃ Gbbpg132_93 : Value, f 0 = p0 ∧ f 1 = (i64 a1t) ∧ f 2 = p2 ∧ f 4 = (i64 a4e) ∧ f 8 = (bp g1) ∧ f 13 = (bp g13) ∧ f 70 = v50 ∧ f 71 = (i64 ((r50.length : Int))) ∧ f 72 = (i64 s52.2) ∧ f 155 = undef ∧ Ext w0 w ∧ OwD w 22 5 Gbbpg132_93 vbbpg132_49 s52.1 ∧ Nw w0 Gbbpg132_93 ∧ Blk w g1 23 #[p3] ∧ Nw w0 (bp g1) ∧ Blk w g13 59 #[p0, v11, vbbpg132_49, (.slice none 0 0)] ∧ Nw w0 (bp g13) ∧ Nq Gbbpg132_93 (bp g1) ∧ Nq Gbbpg132_93 (bp g13) ∧ Nq (bp g1) (bp g13) ∧ By w (Gbbpg132_93 :: (bp g1) :: (bp g13) :: L0) v11 r11 ∧ In w (Gbbpg132_93 :: (bp g1) :: (bp g13) :: L0) v50 r50) G52 ?_ ?_
    · exact ⟨Gbbpg132_49, s0_49, s1_49, s2_49, s4_49, s8_49, s13_49, rfl, rfl, rfl, s155_49, e51, o0_49, n0_49, o1_49, n1_49, o2_49, n2_49, q0_1_49, q0_2_49, q1_2_49, i0_49, i50_0⟩
    rintro s52 _ _ w53 ⟨Gbbpg132_53, s0_53, s1_53, s2_53, s4_53, s8_53, s13_53, s70_53, s71_53, s72_53, s155_53, hE53, o0_53, n0_53, o1_53, n1_53, o2_53, n2_53, q0_1_53, q0_2_53, q1_2_53, i0_53, i1_53⟩ H52 hr52; refine W_seq <| W_rg <| wa rfl (q_ltI rfl s72_53 s71_53) <| wnt <| W_seq <| ?_; refine W_cond _ rfl rfl (fun hb54 => ?_) (fun hb54 => ?_)
    · replace H52 := ifp hb54 H52; refine W_skip <| W_th <| W_seq <| W_block <| W_seq <| W_rg <| ?_; obtain ⟨c55, hc55, H52⟩ := bsi H52; refine wa rfl (q_adr rfl T38 s70_53 s72_53 i1_53 hc55) <| wq rfl (q_loadS rfl T38 rfl i1_53 hc55) <| av (i64 c55) rfl rfl <| wnt <| W_seq <| W_rg <| av (.slice none 0 0) rfl rfl <| wnt <| ?_; refine W_seq <| W_seq <| W_rg <| wq rfl (q_loadB (u := p3) rfl Try.isAgg23 (by exact s8_53) o1_53 rfl) <| wa rfl (q_len rfl T23.sl rfl (hp3.lift (Lift.ext hE53 _))) <| mv (i64 0) rfl rfl <| wnt <| ?_; obtain ⟨x56, G56, H52⟩ := bsi H52; refine W_mid (fun f w => ∃ v18_92 : Value, f 0 = p0 ∧ f 1 = (i64 a1t) ∧ f 2 = p2 ∧ f 4 = (i64 a4e) ∧ f 8 = (bp g1) ∧ f 13 = (bp g13) ∧ f 17 = (i64 c55) ∧ f 18 = v18_92 ∧ f 70 = v50 ∧ f 71 = (i64 ((r50.length : Int))) ∧ f 72 = (i64 s52.2) ∧ f 155 = undef ∧ Ext w0 w ∧ OwK (Sc u8) w (v18_92 :: Gbbpg132_53 :: (bp g1) :: (bp g13) :: L0) 5 v18_92 x56 ∧ Nw w0 v18_92 ∧ OwD w 22 5 Gbbpg132_53 vbbpg132_49 s52.1 ∧ Nw w0 Gbbpg132_53 ∧ Blk w g1 23 #[p3] ∧ Nw w0 (bp g1) ∧ Blk w g13 59 #[p0, v11, vbbpg132_49, (.slice none 0 0)] ∧ Nw w0 (bp g13) ∧ Nq v18_92 Gbbpg132_53 ∧ Nq v18_92 (bp g1) ∧ Nq v18_92 (bp g13) ∧ Nq Gbbpg132_53 (bp g1) ∧ Nq Gbbpg132_53 (bp g13) ∧ Nq (bp g1) (bp g13) ∧ By w (v18_92 :: Gbbpg132_53 :: (bp g1) :: (bp g13) :: L0) v11 r11 ∧ In w (v18_92 :: Gbbpg132_53 :: (bp g1) :: (bp g13) :: L0) v50 r50) ?_ ?_
      · refine W_block ?_; refine W_loop (fun s56 f w => ∃ v18_71 : Value, f 0 = p0 ∧ f 1 = (i64 a1t) ∧ f 2 = p2 ∧ f 4 = (i64 a4e) ∧ f 8 = (bp g1) ∧ f 13 = (bp g13) ∧ f 17 = (i64 c55) ∧ f 18 = v18_71 ∧ f 70 = v50 ∧ f 71 = (i64 ((r50.length : Int))) ∧ f 72 = (i64 s52.2) ∧ f 76 = p3 ∧ f 77 = (i64 ((a3rows.length : Int))) ∧ f 78 = (i64 s56.2) ∧ f 155 = undef ∧ Ext w0 w ∧ OwK (Sc u8) w (v18_71 :: Gbbpg132_53 :: (bp g1) :: (bp g13) :: L0) 5 v18_71 s56.1 ∧ Nw w0 v18_71 ∧ OwD w 22 5 Gbbpg132_53 vbbpg132_49 s52.1 ∧ Nw w0 Gbbpg132_53 ∧ Blk w g1 23 #[p3] ∧ Nw w0 (bp g1) ∧ Blk w g13 59 #[p0, v11, vbbpg132_49, (.slice none 0 0)] ∧ Nw w0 (bp g13) ∧ Nq v18_71 Gbbpg132_53 ∧ Nq v18_71 (bp g1) ∧ Nq v18_71 (bp g13) ∧ Nq Gbbpg132_53 (bp g1) ∧ Nq Gbbpg132_53 (bp g13) ∧ Nq (bp g1) (bp g13) ∧ By w (v18_71 :: Gbbpg132_53 :: (bp g1) :: (bp g13) :: L0) v11 r11 ∧ In w (v18_71 :: Gbbpg132_53 :: (bp g1) :: (bp g13) :: L0) v50 r50) G56 ?_ ?_
        · exact ⟨(.slice none 0 0), s0_53, s1_53, s2_53, s4_53, s8_53, s13_53, rfl, rfl, s70_53, s71_53, s72_53, rfl, rfl, rfl, s155_53, hE53, (OwK.nil _ _ _ _), (Nw.nil _), o0_53, n0_53, o1_53, n1_53, o2_53, n2_53, (Nq.nil _), (Nq.nil _), (Nq.nil _), q0_1_53, q0_2_53, q1_2_53, (i0_53.lift (Lift.sub (fun _ h => ⟨nh_nil, h.1, h.2.1, h.2.2.1, h.2.2.2⟩))), (i1_53.lift (Lift.sub (fun _ h => ⟨nh_nil, h.1, h.2.1, h.2.2.1, h.2.2.2⟩)))⟩
        rintro s56 _ _ w57 ⟨v18_57, s0_57, s1_57, s2_57, s4_57, s8_57, s13_57, s17_57, s18_57, s70_57, s71_57, s72_57, s76_57, s77_57, s78_57, s155_57, hE57, o0_57, n0_57, o1_57, n1_57, o2_57, n2_57, o3_57, n3_57, q0_1_57, q0_2_57, q0_3_57, q1_2_57, q1_3_57, q2_3_57, i0_57, i1_57⟩ H56 hr56; refine W_seq <| W_rg <| wa rfl (q_ltI rfl s78_57 s77_57) <| wnt <| W_seq <| ?_; refine W_cond _ rfl rfl (fun hb58 => ?_) (fun hb58 => ?_)
        · replace H56 := ifp hb58 H56; refine W_skip <| W_th <| W_seq <| W_block <| W_seq <| W_rg <| ?_; obtain ⟨c59, hc59, H56⟩ := bsi H56; refine wa rfl (q_adr rfl T23 s76_57 s78_57 (hp3.lift (Lift.ext hE57 _)) hc59) ?_; refine wlq_load rfl rfl rfl T23 rfl hp3 hc59 hE57 (fun v60 ha60 => ?_); refine av v60 rfl rfl <| wnt <| W_rg <| mv v18_57 rfl s18_57 <| mv v60 rfl rfl <| mv (i64 c55) rfl s17_57 <| ?_; obtain ⟨c61, hc61, H56⟩ := bsi H56; refine wa rfl (q_adr rfl T22 rfl rfl (ha60.lift (Lift.ext hE57 _)) hc61) <| wq rfl (q_loadS rfl T22 rfl (ha60.lift (Lift.ext hE57 _)) hc61) <| ?_; refine wls rfl rfl (stp_lit (L := (v18_57 :: Gbbpg132_53 :: (bp g1) :: (bp g13) :: L0)) (R := (Sc u8)) [(u8 c61)] ([c61] : List UInt8) rfl T22 rfl (by exact ⟨rfl, rfl, trivial⟩) rfl (litC u8 (oneC_u8) (us := [(u8 c61)]) (l := ([c61] : List UInt8)) rfl) rfl (litS u8 (us := [(u8 c61)]) (l := ([c61] : List UInt8)) rfl) ?_); intro v62 w62 o62 n62 g62 l62; have x62 := grown_ext g62; have i62 : By w62 (v18_57 :: Gbbpg132_53 :: (bp g1) :: (bp g13) :: L0) v62 (([c61] : List UInt8)) := OwK.slk (Sc.stab _) _ o62 (fun k hk => (Old.cons (Old.cons (Old.cons (Old.cons (hL0.ext hE57) o3_57.ltB) o2_57.ltB) o1_57.ltB) o0_57.lt) k (n62 k hk)) (fun _ h => h.2); replace i0_57 := i0_57.lift (Lift.ext x62 _); replace i1_57 := i1_57.lift (Lift.ext x62 _); replace o0_57 := o0_57.extL (Sc.stab _) x62 (Lift.ext x62 _); replace o1_57 := o1_57.ext x62; replace o2_57 := o2_57.ext x62; replace o3_57 := o3_57.ext x62; have e63 := hE57.trans x62; obtain ⟨c65, hc65, H56⟩ := bsi H56; refine wls rfl rfl (stp_append (R := (Sc u8)) (v := v18_57) (u := v62) (Sc.stab _) [] (Gbbpg132_53 :: (bp g1) :: (bp g13) :: L0) rfl T22 rfl rfl o0_57 i62 (fun _ _ h => h) hc65 oc_u8 ?_); intro v65 w65 o65 g65 nx65 l65; replace i0_57 := i0_57.lift l65; replace i1_57 := i1_57.lift l65; replace i62 := i62.lift l65; have q66 : Nq Gbbpg132_53 v65 := o1_57.nxt q0_1_57.symm nx65; have q67 : Nq (bp g1) v65 := o2_57.nxt q0_2_57.symm nx65; have q68 : Nq (bp g13) v65 := o3_57.nxt q0_3_57.symm nx65; replace o1_57 := o1_57.other g65 q0_1_57.symm; replace o2_57 := o2_57.other g65 q0_2_57.symm; replace o3_57 := o3_57.other g65 q0_3_57.symm; have e69 := e63.grown g65 n0_57; have n70 := Nw.nxt e63 n0_57 nx65; refine av v65 rfl rfl <| wl_nil <| bk_n <| W_th <| W_rg <| wa rfl (q_addI rfl s78_57 rfl) <| mv (i64 ((wI (s56.2 + 1)))) rfl rfl <| wl_nil <| ?_; obtain rfl := osi H56; exact ⟨_, rfl, v65, s0_57, s1_57, s2_57, s4_57, s8_57, s13_57, s17_57, rfl, s70_57, s71_57, s72_57, s76_57, s77_57, rfl, s155_57, e69, o65, n70, o1_57, n1_57, o2_57, n2_57, o3_57, n3_57, q66.symm, q67.symm, q68.symm, q1_2_57, q1_3_57, q2_3_57, i0_57, i1_57⟩
        replace H56 := ifn hb58 H56; refine W_exit <| th_x <| ?_; obtain rfl := osi H56; obtain rfl := hr56 _ rfl; refine th_x <| bk_x <| ?_; exact ⟨v18_57, s0_57, s1_57, s2_57, s4_57, s8_57, s13_57, s17_57, s18_57, s70_57, s71_57, s72_57, s155_57, hE57, o0_57, n0_57, o1_57, n1_57, o2_57, n2_57, o3_57, n3_57, q0_1_57, q0_2_57, q0_3_57, q1_2_57, q1_3_57, q2_3_57, i0_57, i1_57⟩
      rintro _ w72 ⟨v18_72, s0_72, s1_72, s2_72, s4_72, s8_72, s13_72, s17_72, s18_72, s70_72, s71_72, s72_72, s155_72, hE72, o0_72, n0_72, o1_72, n1_72, o2_72, n2_72, o3_72, n3_72, q0_1_72, q0_2_72, q0_3_72, q1_2_72, q1_3_72, q2_3_72, i0_72, i1_72⟩; refine W_th <| W_seq <| W_rg <| mv p0 rfl s0_72 <| mv (i64 a1t) rfl s1_72 <| mv p2 rfl s2_72 <| mv v18_72 rfl s18_72 <| mv (i64 a4e) rfl s4_72 <| ?_; obtain ⟨r73, hr73, H52⟩ := bsi H52; refine wls rfl rfl (stp_call (vs := [p0, (i64 a1t), p2, v18_72, (i64 a4e)]) Try.func27 rfl rfl rfl (ar5 rfl rfl rfl rfl rfl) (mend_column_calls a0f a1t a2xs x56 a4e p0 p2 v18_72 r73 _ ((hp0.lift (Lift.sub (L' := []) (fun _ _ => trivial))).lift (Lift.ext hE72 _)) (hp2.lift (Lift.ext hE72 _)) (o0_72.rd (Sc.stab _)) hr73) ?_); rintro _ w73 ⟨v73_0, rfl, x73, n73_0, o73_0⟩; refine ⟨_, rfl, ?_⟩; have i73_0 : By w73 (v18_72 :: Gbbpg132_53 :: (bp g1) :: (bp g13) :: L0) v73_0 r73.1 := SlK.avail o73_0 _ (fun k hk => (Old.cons (Old.cons (Old.cons (Old.cons (hL0.ext hE72) o3_72.ltB) o2_72.ltB) o1_72.ltB) o0_72.lt) k (n73_0 k hk)); replace i0_72 := i0_72.lift (Lift.ext x73 _); replace i1_72 := i1_72.lift (Lift.ext x73 _); replace o0_72 := o0_72.extL (Sc.stab _) x73 (Lift.ext x73 _); replace o1_72 := o1_72.ext x73; replace o2_72 := o2_72.ext x73; replace o3_72 := o3_72.ext x73; have e74 := hE72.trans x73; refine mv (.tuple #[v73_0, (i64 r73.2)]) rfl rfl <| wa rfl (q_extract rfl rfl rfl) <| wa rfl (q_extract rfl rfl rfl) <| av v73_0 rfl rfl <| av (i64 r73.2) rfl rfl <| wnt <| W_seq <| W_seq <| ?_; refine W_rg <| mv (i64 r73.2) rfl rfl <| wa rfl (q_neI rfl rfl rfl) <| wnt <| ?_; refine W_cond _ rfl rfl (fun hb75 => ?_) (fun hb75 => ?_)
      · replace H52 := (if_neg (ndec_t hb75)).symm.trans H52; refine W_seq <| W_rg <| mv (i64 r73.2) rfl rfl <| av (.pointer none) rfl rfl <| av (i64 r73.2) rfl rfl <| wnt <| W_ret <| th_r <| ?_; refine bk_r <| th_r <| ?_; obtain rfl := osi H52; obtain rfl := hr52 _ rfl; simp only [Sum.elim_inr] at H; refine th_r <| bk_r <| th_r <| th_r <| ?_; obtain rfl := osi H; refine rt2 (.pointer none) (i64 r73.2) rfl rfl rfl rfl rfl s155_72 ?_; exact ⟨(.pointer none), rfl, e74, (RcMd.nil _ _)⟩
      replace H52 := (if_pos (ndec_f hb75)).symm.trans H52; refine W_skip <| W_th <| W_seq <| W_rg <| mv (bp g13) rfl s13_72 <| wa rfl (q_nilP rfl rfl) <| wa rfl (q_fldR (g := g13) (m := 0) (d := 1) rfl fieldAtMd1 rfl) <| wq rfl (q_loadB (u := v11) rfl Try.isAgg22 rfl o3_72 rfl) <| ?_; refine wa rfl (q_len rfl T22.sl rfl i0_72) <| mv (i64 0) rfl rfl <| wnt <| ?_; obtain ⟨x76, G76, H52⟩ := bsi H52; refine W_mid (fun f w => ∃ Gbbpg132_91 : Value, f 0 = p0 ∧ f 1 = (i64 a1t) ∧ f 2 = p2 ∧ f 4 = (i64 a4e) ∧ f 8 = (bp g1) ∧ f 13 = (bp g13) ∧ f 70 = v50 ∧ f 71 = (i64 ((r50.length : Int))) ∧ f 72 = (i64 s52.2) ∧ f 155 = undef ∧ Ext w0 w ∧ OwD w 22 5 Gbbpg132_91 vbbpg132_49 x76 ∧ Nw w0 Gbbpg132_91 ∧ Blk w g1 23 #[p3] ∧ Nw w0 (bp g1) ∧ Blk w g13 59 #[p0, v11, vbbpg132_49, (.slice none 0 0)] ∧ Nw w0 (bp g13) ∧ Nq Gbbpg132_91 (bp g1) ∧ Nq Gbbpg132_91 (bp g13) ∧ Nq (bp g1) (bp g13) ∧ By w (Gbbpg132_91 :: (bp g1) :: (bp g13) :: L0) v11 r11 ∧ In w (Gbbpg132_91 :: (bp g1) :: (bp g13) :: L0) v50 r50) ?_ ?_
      · refine W_block ?_; refine W_loop (fun s76 f w => ∃ Gbbpg132_89 : Value, f 0 = p0 ∧ f 1 = (i64 a1t) ∧ f 2 = p2 ∧ f 4 = (i64 a4e) ∧ f 8 = (bp g1) ∧ f 13 = (bp g13) ∧ f 17 = (i64 c55) ∧ f 21 = v73_0 ∧ f 70 = v50 ∧ f 71 = (i64 ((r50.length : Int))) ∧ f 72 = (i64 s52.2) ∧ f 105 = v11 ∧ f 106 = (i64 ((r11.length : Int))) ∧ f 107 = (i64 s76.2) ∧ f 155 = undef ∧ Ext w0 w ∧ OwD w 22 5 Gbbpg132_89 vbbpg132_49 s76.1 ∧ Nw w0 Gbbpg132_89 ∧ Blk w g1 23 #[p3] ∧ Nw w0 (bp g1) ∧ Blk w g13 59 #[p0, v11, vbbpg132_49, (.slice none 0 0)] ∧ Nw w0 (bp g13) ∧ Nq Gbbpg132_89 (bp g1) ∧ Nq Gbbpg132_89 (bp g13) ∧ Nq (bp g1) (bp g13) ∧ By w (Gbbpg132_89 :: (bp g1) :: (bp g13) :: L0) v11 r11 ∧ By w (Gbbpg132_89 :: (bp g1) :: (bp g13) :: L0) v73_0 r73.1 ∧ In w (Gbbpg132_89 :: (bp g1) :: (bp g13) :: L0) v50 r50) G76 ?_ ?_
        · exact ⟨Gbbpg132_53, s0_72, s1_72, s2_72, s4_72, s8_72, s13_72, s17_72, rfl, s70_72, s71_72, s72_72, rfl, rfl, rfl, s155_72, e74, o1_72, n1_72, o2_72, n2_72, o3_72, n3_72, q1_2_72, q1_3_72, q2_3_72, (i0_72.lift (Lift.sub (fun _ h => ⟨h.2.1, h.2.2.1, h.2.2.2.1, h.2.2.2.2⟩))), (i73_0.lift (Lift.sub (fun _ h => ⟨h.2.1, h.2.2.1, h.2.2.2.1, h.2.2.2.2⟩))), (i1_72.lift (Lift.sub (fun _ h => ⟨h.2.1, h.2.2.1, h.2.2.2.1, h.2.2.2.2⟩)))⟩
        rintro s76 _ _ w77 ⟨Gbbpg132_77, s0_77, s1_77, s2_77, s4_77, s8_77, s13_77, s17_77, s21_77, s70_77, s71_77, s72_77, s105_77, s106_77, s107_77, s155_77, hE77, o0_77, n0_77, o1_77, n1_77, o2_77, n2_77, q0_1_77, q0_2_77, q1_2_77, i0_77, i1_77, i2_77⟩ H76 hr76; refine W_seq <| W_rg <| wa rfl (q_ltI rfl s107_77 s106_77) <| wnt <| W_seq <| ?_; refine W_cond _ rfl rfl (fun hb78 => ?_) (fun hb78 => ?_)
        · replace H76 := ifp hb78 H76; refine W_skip <| W_th <| W_seq <| W_block <| W_seq <| W_rg <| mv (i64 s76.2) rfl s107_77 <| ?_; obtain ⟨c79, hc79, H76⟩ := bsi H76; refine wa rfl (q_adr rfl T22 s105_77 s107_77 i0_77 hc79) <| wq rfl (q_loadS rfl T22 rfl i0_77 hc79) <| av (i64 s76.2) rfl rfl <| av (u8 c79) rfl rfl <| wnt <| ?_; refine W_draw [3, 6] [(0, 0), (1, 0), (2, 0), (3, 1), (4, 0), (5, 0), (6, 1), (7, 0), (8, 0), (9, 0), (10, 0), (11, 2), (12, 0), (13, 2)] mixed (by kernel_rfl) (by kernel_rfl) (by kernel_rfl) (by kernel_rfl) ?_; have x80 := Ext.drew w77; replace i0_77 := i0_77.lift (Lift.ext x80 _); replace i1_77 := i1_77.lift (Lift.ext x80 _); replace i2_77 := i2_77.lift (Lift.ext x80 _); replace o0_77 := o0_77.ext x80; replace o1_77 := o1_77.ext x80; replace o2_77 := o2_77.ext x80; have e81 := hE77.trans x80; refine sv (bp g13) rfl rfl s13_77 <| sa rfl rfl (q_nilP rfl rfl) <| sa rfl rfl (q_fldR (g := g13) (m := 0) (d := 2) rfl fieldAtMd2 rfl) <| sq rfl rfl (q_loadB (u := vbbpg132_49) rfl Try.isAgg23 rfl o2_77 rfl) <| sv (i64 s76.2) rfl rfl rfl <| ?_; obtain ⟨c82, hc82, H76⟩ := bsi H76; refine sa rfl rfl (q_adr rfl T23 rfl rfl o0_77.rd hc82) ?_; refine wsq_loadD rfl rfl rfl rfl T23 rfl o0_77 hc82 (fun v83 hD83 => ?_); refine sv (i64 c55) rfl rfl s17_77 <| sv p0 rfl rfl s0_77 <| sv v73_0 rfl rfl s21_77 <| sv (u8 c79) rfl rfl rfl <| ?_; obtain ⟨r84, hr84, H76⟩ := bsi H76; refine wss rfl rfl rfl (stp_call (vs := [p0, v73_0, (u8 c79)]) Try.func28 rfl rfl rfl (ar3 rfl rfl rfl) (poly_Eval_calls a0f r73.1 c79 p0 v73_0 r84 _ ((hp0.lift (Lift.sub (L' := []) (fun _ _ => trivial))).lift (Lift.ext e81 _)) (i1_77.lift (Lift.sub (L' := []) (fun _ _ => trivial))) hr84) ?_); rintro _ w84 ⟨rfl, x84⟩; refine ⟨_, rfl, x84, ?_⟩; replace i0_77 := i0_77.lift (Lift.ext x84 _); replace i1_77 := i1_77.lift (Lift.ext x84 _); replace i2_77 := i2_77.lift (Lift.ext x84 _); replace o0_77 := o0_77.ext x84; replace o1_77 := o1_77.ext x84; replace o2_77 := o2_77.ext x84; have e85 := e81.trans x84; obtain ⟨c86, hc86, H76⟩ := bsi H76; refine sa rfl rfl (q_adr rfl T22 rfl rfl (OwD.rowrd o0_77 hD83 hc82) hc86) ?_; refine wsn rfl (by kernel_rfl) rfl rfl (stp_storeD [] ((bp g1) :: (bp g13) :: L0) rfl T22 rfl rfl o0_77 hD83 hc82 hc86 ?_); intro w87 o87 g87 l87; replace i0_77 := i0_77.lift l87; replace i1_77 := i1_77.lift l87; replace i2_77 := i2_77.lift l87; replace o1_77 := o1_77.other g87 q0_1_77.symm; replace o2_77 := o2_77.other g87 q0_2_77.symm
          have e88 := e85.grown g87 n0_77; refine ws_nil ?_; refine bk_n <| W_th <| W_rg <| wa rfl (q_addI rfl s107_77 rfl) <| mv (i64 ((wI (s76.2 + 1)))) rfl rfl <| wl_nil <| ?_; obtain rfl := osi H76; exact ⟨_, rfl, Gbbpg132_77, s0_77, s1_77, s2_77, s4_77, s8_77, s13_77, s17_77, s21_77, s70_77, s71_77, s72_77, s105_77, s106_77, rfl, s155_77, e88, o87, n0_77, o1_77, n1_77, o2_77, n2_77, q0_1_77, q0_2_77, q1_2_77, i0_77, i1_77, i2_77⟩
        replace H76 := ifn hb78 H76; refine W_exit <| th_x <| ?_; obtain rfl := osi H76; obtain rfl := hr76 _ rfl; refine th_x <| bk_x <| ?_; exact ⟨Gbbpg132_77, s0_77, s1_77, s2_77, s4_77, s8_77, s13_77, s70_77, s71_77, s72_77, s155_77, hE77, o0_77, n0_77, o1_77, n1_77, o2_77, n2_77, q0_1_77, q0_2_77, q1_2_77, i0_77, i2_77⟩
      rintro _ w90 ⟨Gbbpg132_90, s0_90, s1_90, s2_90, s4_90, s8_90, s13_90, s70_90, s71_90, s72_90, s155_90, hE90, o0_90, n0_90, o1_90, n1_90, o2_90, n2_90, q0_1_90, q0_2_90, q1_2_90, i0_90, i1_90⟩; refine bk_n <| W_th <| W_rg <| wa rfl (q_addI rfl s72_90 rfl) <| mv (i64 ((wI (s52.2 + 1)))) rfl rfl <| wl_nil <| ?_; obtain rfl := osi H52; exact ⟨_, rfl, Gbbpg132_90, s0_90, s1_90, s2_90, s4_90, s8_90, s13_90, s70_90, s71_90, rfl, s155_90, hE90, o0_90, n0_90, o1_90, n1_90, o2_90, n2_90, q0_1_90, q0_2_90, q1_2_90, i0_90, i1_90⟩
    replace H52 := ifn hb54 H52; refine W_exit <| th_x <| ?_; obtain rfl := osi H52; obtain rfl := hr52 _ rfl; refine th_x <| bk_x <| ?_; exact ⟨_, rfl, Gbbpg132_53, s2_53, s8_53, s13_53, s155_53, hE53, o0_53, n0_53, o1_53, n1_53, o2_53, n2_53, q0_1_53, q0_2_53, q1_2_53, i0_53⟩
  rintro _ w94 ⟨y52, rfl, Gbbpg132_94, s2_94, s8_94, s13_94, s155_94, hE94, o0_94, n0_94, o1_94, n1_94, o2_94, n2_94, q0_1_94, q0_2_94, q1_2_94, i0_94⟩; simp only [Sum.elim_inl] at H; refine W_th <| W_seq <| W_seq <| W_rg <| mv p2 rfl s2_94 <| wa rfl (q_len rfl T22.sl rfl (hp2.lift (Lift.ext hE94 _))) <| mv (i64 0) rfl rfl <| wnt <| ?_; obtain ⟨x95, G95, H⟩ := bsi H; refine W_mid (fun f w => ∃ vbbpg133_120 : Value, f 13 = (bp g13) ∧ f 155 = undef ∧ Ext w0 w ∧ OwK (Sc i64) w (vbbpg133_120 :: Gbbpg132_94 :: (bp g13) :: L0) 3 vbbpg133_120 x95 ∧ Nw w0 vbbpg133_120 ∧ OwD w 22 5 Gbbpg132_94 vbbpg132_49 y52 ∧ Nw w0 Gbbpg132_94 ∧ Blk w g13 59 #[p0, v11, vbbpg132_49, vbbpg133_120] ∧ Nw w0 (bp g13) ∧ Nq vbbpg133_120 Gbbpg132_94 ∧ Nq vbbpg133_120 (bp g13) ∧ Nq Gbbpg132_94 (bp g13) ∧ By w (vbbpg133_120 :: Gbbpg132_94 :: (bp g13) :: L0) v11 r11) ?_ ?_
  · refine W_block ?_; refine W_loop (fun s95 f w => ∃ vbbpg133_118 : Value, f 8 = (bp g1) ∧ f 13 = (bp g13) ∧ f 127 = p2 ∧ f 128 = (i64 ((a2xs.length : Int))) ∧ f 129 = (i64 s95.2) ∧ f 155 = undef ∧ Ext w0 w ∧ OwK (Sc i64) w (vbbpg133_118 :: Gbbpg132_94 :: (bp g1) :: (bp g13) :: L0) 3 vbbpg133_118 s95.1 ∧ Nw w0 vbbpg133_118 ∧ OwD w 22 5 Gbbpg132_94 vbbpg132_49 y52 ∧ Nw w0 Gbbpg132_94 ∧ Blk w g1 23 #[p3] ∧ Nw w0 (bp g1) ∧ Blk w g13 59 #[p0, v11, vbbpg132_49, vbbpg133_118] ∧ Nw w0 (bp g13) ∧ Nq vbbpg133_118 Gbbpg132_94 ∧ Nq vbbpg133_118 (bp g1) ∧ Nq vbbpg133_118 (bp g13) ∧ Nq Gbbpg132_94 (bp g1) ∧ Nq Gbbpg132_94 (bp g13) ∧ Nq (bp g1) (bp g13) ∧ By w (vbbpg133_118 :: Gbbpg132_94 :: (bp g1) :: (bp g13) :: L0) v11 r11) G95 ?_ ?_
    · exact ⟨(.slice none 0 0), s8_94, s13_94, rfl, rfl, rfl, s155_94, hE94, (OwK.nil _ _ _ _), (Nw.nil _), o0_94, n0_94, o1_94, n1_94, o2_94, n2_94, (Nq.nil _), (Nq.nil _), (Nq.nil _), q0_1_94, q0_2_94, q1_2_94, (i0_94.lift (Lift.sub (fun _ h => ⟨nh_nil, h.1, h.2.1, h.2.2.1, h.2.2.2⟩)))⟩
    rintro s95 _ _ w96 ⟨vbbpg133_96, s8_96, s13_96, s127_96, s128_96, s129_96, s155_96, hE96, o0_96, n0_96, o1_96, n1_96, o2_96, n2_96, o3_96, n3_96, q0_1_96, q0_2_96, q0_3_96, q1_2_96, q1_3_96, q2_3_96, i0_96⟩ H95 hr95; refine W_seq <| W_rg <| wa rfl (q_ltI rfl s129_96 s128_96) <| wnt <| W_seq <| ?_; refine W_cond _ rfl rfl (fun hb97 => ?_) (fun hb97 => ?_)
    · replace H95 := ifp hb97 H95; refine W_skip <| W_th <| W_seq <| W_block <| W_seq <| W_rg <| mv (i64 s95.2) rfl s129_96 <| ?_; obtain ⟨c98, hc98, H95⟩ := bsi H95; refine wa rfl (q_adr rfl T22 s127_96 s129_96 (hp2.lift (Lift.ext hE96 _)) hc98) <| wq rfl (q_loadS rfl T22 rfl (hp2.lift (Lift.ext hE96 _)) hc98) <| av (i64 s95.2) rfl rfl <| av (u8 c98) rfl rfl <| wnt <| W_seq <| ?_; refine W_draw [3, 6] [(0, 0), (1, 0), (3, 1), (4, 0), (5, 0), (6, 1), (2, 2), (7, 2), (8, 0)] mixed (by kernel_rfl) (by kernel_rfl) (by kernel_rfl) (by kernel_rfl) ?_; have x99 := Ext.drew w96; replace i0_96 := i0_96.lift (Lift.ext x99 _); replace o0_96 := o0_96.extL (Sc.stab _) x99 (Lift.ext x99 _); replace o1_96 := o1_96.ext x99; replace o2_96 := o2_96.ext x99; replace o3_96 := o3_96.ext x99; have e100 := hE96.trans x99; refine sv (bp g13) rfl rfl s13_96 <| sv (u8 c98) rfl rfl rfl <| sq rfl rfl (q_loadB (u := p3) rfl Try.isAgg23 (by exact s8_96) o2_96 rfl) <| sv (i64 s95.2) rfl rfl rfl <| ?_; obtain ⟨c101, hc101, H95⟩ := bsi H95; refine sa rfl rfl (q_adr rfl T23 rfl rfl (hp3.lift (Lift.ext e100 _)) hc101) ?_; refine wsq_load rfl rfl rfl rfl T23 rfl hp3 hc101 e100 (fun v102 ha102 => ?_); obtain ⟨r103, hr103, H95⟩ := bsi H95; refine wss rfl rfl rfl (stp_call (vs := [(bp g13), (u8 c98)]) Try.func11 rfl rfl rfl (ar2 rfl rfl) (mend_At_calls (some (a0f, r11, y52, s95.1)) c98 (bp g13) r103 _ (RcMd.mk o3_96 trivial ((hp0.lift (Lift.sub (L' := []) (fun _ _ => trivial))).lift (Lift.ext e100 _)) (i0_96.lift (Lift.sub (L' := []) (fun _ _ => trivial))) o1_96.rd (o0_96.rd (Sc.stab _))) hr103) ?_); rintro _ w103 ⟨v103, rfl, x103, n103_0, o103_0⟩; refine ⟨_, rfl, x103, ?_⟩; have i103_0 : By w103 (vbbpg133_96 :: Gbbpg132_94 :: (bp g1) :: (bp g13) :: L0) v103 r103 := OwK.slk (Sc.stab _) _ (OwK.scal o103_0 (v103 :: (vbbpg133_96 :: Gbbpg132_94 :: (bp g1) :: (bp g13) :: L0))) (fun k hk => (Old.cons (Old.cons (Old.cons (Old.cons (hL0.ext e100) o3_96.ltB) o2_96.ltB) o1_96.ltB) o0_96.lt) k (n103_0 k hk)) (fun _ h => h.2); replace i0_96 := i0_96.lift (Lift.ext x103 _); replace o0_96 := o0_96.extL (Sc.stab _) x103 (Lift.ext x103 _); replace o1_96 := o1_96.ext x103; replace o2_96 := o2_96.ext x103; replace o3_96 := o3_96.ext x103; have e104 := e100.trans x103; obtain ⟨r105, hr105, H95⟩ := bsi H95; refine wsc rfl (by kernel_rfl) rfl rfl (stp_call (vs := [v103, v102]) Try.func29 rfl rfl rfl (ar2 rfl rfl) (slices_Equal_sbytebyte_calls r103 c101 v103 v102 r105 _ (i103_0.lift (Lift.sub (L' := []) (fun _ _ => trivial))) (ha102.lift (Lift.ext e104 _)) hr105) ?_); rintro _ w105 ⟨rfl, x105⟩
      refine ⟨_, rfl, ?_⟩; replace i0_96 := i0_96.lift (Lift.ext x105 _); replace i103_0 := i103_0.lift (Lift.ext x105 _); replace o0_96 := o0_96.extL (Sc.stab _) x105 (Lift.ext x105 _); replace o1_96 := o1_96.ext x105; replace o2_96 := o2_96.ext x105; replace o3_96 := o3_96.ext x105; have e106 := e104.trans x105; refine sa rfl rfl (q_not rfl rfl) ?_; refine ws_nil ?_; refine W_th ?_; refine W_cond _ rfl rfl (fun hb107 => ?_) (fun hb107 => ?_)
      · replace H95 := (if_pos hb107).symm.trans H95; refine W_rg <| mv (bp g13) rfl s13_96 <| mv (bp g13) rfl s13_96 <| wa rfl (q_nilP rfl rfl) <| wa rfl (q_fldR (g := g13) (m := 0) (d := 3) rfl fieldAtMd3 rfl) <| wq rfl (q_loadB (u := vbbpg133_96) rfl Try.isAgg38 rfl o3_96 rfl) <| mv (i64 s95.2) rfl rfl <| ?_; refine wls rfl rfl (stp_lit (L := (vbbpg133_96 :: Gbbpg132_94 :: (bp g1) :: (bp g13) :: L0)) (R := (Sc i64)) [(i64 s95.2)] ([s95.2] : List Int) rfl T38 rfl (by exact ⟨rfl, rfl, trivial⟩) rfl (litC i64 (oneC_i64) (us := [(i64 s95.2)]) (l := ([s95.2] : List Int)) rfl) rfl (litS i64 (us := [(i64 s95.2)]) (l := ([s95.2] : List Int)) rfl) ?_); intro v108 w108 o108 n108 g108 l108; have x108 := grown_ext g108; have i108 : In w108 (vbbpg133_96 :: Gbbpg132_94 :: (bp g1) :: (bp g13) :: L0) v108 (([s95.2] : List Int)) := OwK.slk (Sc.stab _) _ o108 (fun k hk => (Old.cons (Old.cons (Old.cons (Old.cons (hL0.ext e106) o3_96.ltB) o2_96.ltB) o1_96.ltB) o0_96.lt) k (n108 k hk)) (fun _ h => h.2); replace i0_96 := i0_96.lift (Lift.ext x108 _); replace i103_0 := i103_0.lift (Lift.ext x108 _); replace o0_96 := o0_96.extL (Sc.stab _) x108 (Lift.ext x108 _); replace o1_96 := o1_96.ext x108; replace o2_96 := o2_96.ext x108; replace o3_96 := o3_96.ext x108; have e109 := e106.trans x108; obtain ⟨c110, hc110, H95⟩ := bsi H95; refine wls rfl rfl (stp_append (R := (Sc i64)) (v := vbbpg133_96) (u := v108) (Sc.stab _) [] (Gbbpg132_94 :: (bp g1) :: (bp g13) :: L0) rfl T38 rfl rfl o0_96 i108 (fun _ _ h => h) hc110 oc_i64 ?_); intro v110 w110 o110 g110 nx110 l110; replace i0_96 := i0_96.lift l110; replace i103_0 := i103_0.lift l110; replace i108 := i108.lift l110; have q111 : Nq Gbbpg132_94 v110 := o1_96.nxt q0_1_96.symm nx110; have q112 : Nq (bp g1) v110 := o2_96.nxt q0_2_96.symm nx110; have q113 : Nq (bp g13) v110 := o3_96.nxt q0_3_96.symm nx110; replace o1_96 := o1_96.other g110 q0_1_96.symm; replace o2_96 := o2_96.other g110 q0_2_96.symm; replace o3_96 := o3_96.other g110 q0_3_96.symm; have e114 := e109.grown g110 n0_96; have n115 := Nw.nxt e109 n0_96 nx110; refine wa rfl (q_nilP rfl rfl) <| wa rfl (q_fldR (g := g13) (m := 0) (d := 3) rfl fieldAtMd3 rfl) <| ?_; refine wln rfl rfl (stp_storeR (u := v110) (cs' := #[p0, v11, vbbpg132_49, v110]) [v110, Gbbpg132_94, (bp g1)] (L0) rfl Try.sizeOf38 rfl rfl o3_96 (Nat.le_of_ble_eq_true rfl) (oc_own o110) rfl ?_); intro w116 o116 g116 l116; replace i0_96 := i0_96.lift l116; replace i103_0 := i103_0.lift l116; replace i108 := i108.lift l116; replace o110 := o110.other (Sc.stab _) g116 q113.symm l116; replace o1_96 := o1_96.other g116 q1_3_96; replace o2_96 := o2_96.other g116 q2_3_96; have e117 := e114.grown g116 n3_96; refine wl_nil <| bk_n <| W_th <| W_rg <| wa rfl (q_addI rfl s129_96 rfl) <| ?_
        refine mv (i64 ((wI (s95.2 + 1)))) rfl rfl <| wl_nil <| ?_; obtain rfl := osi H95; exact ⟨_, rfl, v110, s8_96, s13_96, s127_96, s128_96, rfl, s155_96, e117, o110, n115, o1_96, n1_96, o2_96, n2_96, o116, n3_96, q111.symm, q112.symm, q113.symm, q1_2_96, q1_3_96, q2_3_96, i0_96⟩
      replace H95 := (if_neg (ne_true_of_eq_false hb107)).symm.trans H95; refine W_skip <| bk_n <| W_th <| W_rg <| wa rfl (q_addI rfl s129_96 rfl) <| mv (i64 ((wI (s95.2 + 1)))) rfl rfl <| wl_nil <| ?_; obtain rfl := osi H95; exact ⟨_, rfl, vbbpg133_96, s8_96, s13_96, s127_96, s128_96, rfl, s155_96, e106, o0_96, n0_96, o1_96, n1_96, o2_96, n2_96, o3_96, n3_96, q0_1_96, q0_2_96, q0_3_96, q1_2_96, q1_3_96, q2_3_96, i0_96⟩
    replace H95 := ifn hb97 H95; refine W_exit <| th_x <| ?_; obtain rfl := osi H95; obtain rfl := hr95 _ rfl; refine th_x <| bk_x <| ?_; exact ⟨vbbpg133_96, s13_96, s155_96, hE96, (o0_96.weak (Sc.stab _) (fun _ h => ⟨h.1, h.2.1, h.2.2.2.1, h.2.2.2.2⟩)), n0_96, o1_96, n1_96, o3_96, n3_96, q0_1_96, q0_3_96, q1_3_96, (i0_96.lift (Lift.sub (fun _ h => ⟨h.1, h.2.1, h.2.2.2.1, h.2.2.2.2⟩)))⟩
  rintro _ w119 ⟨vbbpg133_119, s13_119, s155_119, hE119, o0_119, n0_119, o1_119, n1_119, o2_119, n2_119, q0_1_119, q0_2_119, q1_2_119, i0_119⟩; refine W_th <| W_seq <| W_rg <| mv (bp g13) rfl s13_119 <| av (bp g13) rfl rfl <| av (i64 0) rfl rfl <| wnt <| W_ret <| ?_; obtain rfl := osi H; refine rt2 (bp g13) (i64 0) rfl rfl rfl rfl rfl s155_119 ?_; exact ⟨(bp g13), rfl, hE119, (RcMd.mk o2_119 (hL0 _ (n2_119 _ (hs_bp' _))) (hp0.lift (Lift.ext hE119 _)) (i0_119.lift (Lift.sub (fun _ h => h.2.2.2))) (o1_119.rw L0 (fun k hk => hL0 k (n1_119 k hk))) (OwK.slk (Sc.stab _) L0 o0_119 (fun k hk => hL0 k (n0_119 k hk)) (fun _ h => h.2.2.2)))⟩
end Gk

/- A fact of this seat's program: its type of rows of numbers (where S was built without it). No condition. -/
namespace Gk
open Go Go.Proofs
end Gk

/- Printed by gen.py: for each Go function a pure function, and that the Go code comes to it. No condition beside the equation that says what the pure function gives. -/
namespace Gk
open Go Go.Proofs
noncomputable def ref10_pick_n : Nat → Int → Int → Option (List (List Int))
| 0, _, _ => none
| fu + 1, a0n, a1t =>
(if a1t = 0 then some ([([] : List Int)] : List (List Int))
else
((iterC (fun s10 : List (List Int) × Int =>
(if s10.2 < a0n then
((ref10_pick_n fu s10.2 (wI (a1t - 1))).bind fun r13 =>
((iterC (fun s15 : List (List Int) × Int =>
(if s15.2 < (r13.length : Int) then
((idx r13 s15.2).bind fun c18 =>
((appL (([] : List Int)) c18).bind fun c24 =>
((appL c24 (([s10.2] : List Int))).bind fun c30 =>
((appL s15.1 (([c30] : List (List Int)))).bind fun c37 => some (.inl (c37, (wI (s15.2 + 1))))))))
else some (.inr s15.1))) (s10.1, 0)).bind fun x15 => some (.inl (x15, (wI (s10.2 + 1))))))
else some (.inr s10.1))) (([] : List (List Int)), (wI (a1t - 1)))).bind fun x10 => some x10))
noncomputable def ref10_pick (a0n : Int) (a1t : Int) : Option (List (List Int)) := ref10_pick_n (a1t.toNat+1) a0n a1t
theorem ref10_pick_n_calls (fu : Nat) : ∀ (a0n : Int) (a1t : Int) (r : List (List Int)) (w0 : World) (L0 : List Value) (hL0 : Old w0 L0) (H : ref10_pick_n fu a0n a1t = some r),
    Calls Try.prog 30 [(i64 a0n), (i64 a1t)].toArray w0 (fun e w' => ∃ u0 : Value, e = .returned u0 ∧ Ext w0 w' ∧ Nw w0 u0 ∧ OwK In w' (u0 :: L0) 38 u0 r) := by
  induction fu with
  | zero => intro a0n a1t r w0 L0 hL0 H; cases H
  | succ fu ih =>
    intro a0n a1t r w0 L0 hL0 H; have hE : Ext w0 w0 := Ext.refl w0; rw [ref10_pick_n] at H; refine calls_W (n := 41) Try.func30 rfl rfl rfl ?_; refine W_seq <| W_rg <| av (.slice none 0 0) rfl rfl <| wnt <| W_seq <| W_seq <| W_rg <| mv (i64 a1t) rfl rfl <| ?_; refine wa rfl (q_eqI rfl rfl rfl) <| wnt <| ?_; refine W_cond _ rfl rfl (fun hb1 => ?_) (fun hb1 => ?_)
    · replace H := ifp hb1 H; refine W_seq <| W_rg <| ?_; refine wls rfl rfl (stp_lit (L := (L0)) (R := (Sc i64)) [] ([] : List Int) rfl T38 rfl (by exact trivial) rfl (litC i64 (oneC_i64) (us := []) (l := ([] : List Int)) rfl) rfl (litS i64 (us := []) (l := ([] : List Int)) rfl) ?_); intro v2 w2 o2 n2 g2 l2; have x2 := grown_ext g2; have i2 : In w2 (L0) v2 (([] : List Int)) := OwK.slk (Sc.stab _) _ o2 (fun k hk => (hL0.ext hE) k (n2 k hk)) (fun _ h => h.2); have e3 := hE.trans x2; refine wls rfl rfl (stp_lit (L := (L0)) (R := In) [v2] ([([] : List Int)] : List (List Int)) rfl T63 rfl (by exact ⟨rfl, rfl, trivial⟩) rfl (LitR.cells (R := In) (w := w2) (L := (L0)) (l := ([([] : List Int)] : List (List Int))) (LitR.cons i2 LitR.nil) (fun u x h => cells_sl u x h)) rfl (LitR.all (R := In) (w := w2) (L := (L0)) (l := ([([] : List Int)] : List (List Int))) (SlK.stab (Sc.stab _)) (LitR.cons i2 LitR.nil)) ?_); intro v4 w4 o4 n4 g4 l4; have x4 := grown_ext g4; replace i2 := i2.lift (Lift.call _ x4 n4); have n6 := Nw.ext e3 n4; have e5 := e3.trans x4; refine av v4 rfl rfl <| wnt <| W_ret <| th_r <| ?_; obtain rfl := osi H; refine rt1 v4 rfl rfl rfl rfl ?_; exact ⟨v4, rfl, e5, n6, (o4.weak (SlK.stab (Sc.stab _)) (fun _ h => ⟨h.1, h.2⟩))⟩
    replace H := ifn hb1 H; refine W_skip <| W_th <| W_seq <| W_rg <| ?_; refine wls rfl rfl (stp_lit (L := (L0)) (R := In) [] ([] : List (List Int)) rfl T63 rfl (by exact trivial) rfl (LitR.cells (R := In) (w := w0) (L := (L0)) (l := ([] : List (List Int))) LitR.nil (fun u x h => cells_sl u x h)) rfl (LitR.all (R := In) (w := w0) (L := (L0)) (l := ([] : List (List Int))) (SlK.stab (Sc.stab _)) LitR.nil) ?_); intro v7 w7 o7 n7 g7 l7; have x7 := grown_ext g7; have n9 := Nw.ext hE n7; have e8 := hE.trans x7; refine av v7 rfl rfl <| wnt <| W_seq <| W_seq <| W_rg <| mv (i64 a1t) rfl rfl <| wa rfl (q_subI rfl rfl rfl) <| av (i64 ((wI (a1t - 1)))) rfl rfl <| ?_; refine wnt ?_; obtain ⟨x10, G10, H⟩ := bsi H; refine W_mid (fun f w => ∃ v5_45 : Value, f 5 = v5_45 ∧ f 41 = undef ∧ Ext w0 w ∧ OwK In w (v5_45 :: L0) 38 v5_45 x10 ∧ Nw w0 v5_45) ?_ ?_
    · refine W_block ?_; refine W_loop (fun s10 f w => ∃ v5_43 : Value, f 0 = (i64 a0n) ∧ f 1 = (i64 a1t) ∧ f 5 = v5_43 ∧ f 6 = (i64 s10.2) ∧ f 41 = undef ∧ Ext w0 w ∧ OwK In w (v5_43 :: L0) 38 v5_43 s10.1 ∧ Nw w0 v5_43) G10 ?_ ?_
      · exact ⟨v7, rfl, rfl, rfl, rfl, rfl, e8, o7, n9⟩
      rintro s10 _ _ w11 ⟨v5_11, s0_11, s1_11, s5_11, s6_11, s41_11, hE11, o0_11, n0_11⟩ H10 hr10; refine W_seq <| W_seq <| W_rg <| mv (i64 s10.2) rfl s6_11 <| mv (i64 a0n) rfl s0_11 <| wa rfl (q_ltI rfl rfl rfl) <| wnt <| ?_; refine W_cond _ rfl rfl (fun hb12 => ?_) (fun hb12 => ?_)
      · replace H10 := ifp hb12 H10; refine W_skip <| W_th <| W_seq <| W_block <| W_seq <| W_rg <| mv (i64 s10.2) rfl s6_11 <| mv (i64 a1t) rfl s1_11 <| ?_; refine wa rfl (q_subI rfl rfl rfl) ?_; obtain ⟨r13, hr13, H10⟩ := bsi H10; refine wls rfl rfl (stp_call (vs := [(i64 s10.2), (i64 ((wI (a1t - 1))))]) Try.func30 rfl rfl rfl (ar2 rfl rfl) (ih s10.2 (wI (a1t - 1))  r13 _ (v5_11 :: L0) (Old.cons (hL0.ext hE11) o0_11.lt)  hr13) ?_); rintro _ w13 ⟨v13, rfl, x13, n13_0, o13_0⟩; refine ⟨_, rfl, ?_⟩; have i13_0 : RwI w13 (v5_11 :: L0) v13 r13 := OwK.slk (SlK.stab (Sc.stab _)) _ o13_0 (fun k hk => (Old.cons (hL0.ext hE11) o0_11.lt) k (n13_0 k hk)) (fun _ h => h.2); replace o0_11 := o0_11.extL (SlK.stab (Sc.stab _)) x13 (Lift.ext x13 _); have e14 := hE11.trans x13; refine wa rfl (q_len rfl T63.sl rfl i13_0) <| mv (i64 0) rfl rfl <| wnt <| ?_; obtain ⟨x15, G15, H10⟩ := bsi H10; refine W_mid (fun f w => ∃ v5_42 : Value, f 0 = (i64 a0n) ∧ f 1 = (i64 a1t) ∧ f 5 = v5_42 ∧ f 6 = (i64 s10.2) ∧ f 41 = undef ∧ Ext w0 w ∧ OwK In w (v5_42 :: L0) 38 v5_42 x15 ∧ Nw w0 v5_42) ?_ ?_
        · refine W_block ?_; refine W_loop (fun s15 f w => ∃ v5_40 : Value, f 0 = (i64 a0n) ∧ f 1 = (i64 a1t) ∧ f 5 = v5_40 ∧ f 6 = (i64 s10.2) ∧ f 24 = v13 ∧ f 25 = (i64 ((r13.length : Int))) ∧ f 26 = (i64 s15.2) ∧ f 41 = undef ∧ Ext w0 w ∧ OwK In w (v5_40 :: L0) 38 v5_40 s15.1 ∧ Nw w0 v5_40 ∧ RwI w (v5_40 :: L0) v13 r13) G15 ?_ ?_
          · exact ⟨v5_11, s0_11, s1_11, s5_11, s6_11, rfl, rfl, rfl, s41_11, e14, o0_11, n0_11, i13_0⟩
          rintro s15 _ _ w16 ⟨v5_16, s0_16, s1_16, s5_16, s6_16, s24_16, s25_16, s26_16, s41_16, hE16, o0_16, n0_16, i0_16⟩ H15 hr15; refine W_seq <| W_rg <| wa rfl (q_ltI rfl s26_16 s25_16) <| wnt <| W_seq <| ?_; refine W_cond _ rfl rfl (fun hb17 => ?_) (fun hb17 => ?_)
          · replace H15 := ifp hb17 H15; refine W_skip <| W_th <| W_seq <| W_block <| W_seq <| W_rg <| ?_; obtain ⟨c18, hc18, H15⟩ := bsi H15; refine wa rfl (q_adr rfl T63 s24_16 s26_16 i0_16 hc18) ?_; refine wlq_load rfl rfl rfl T63 rfl i0_16 hc18 (Ext.refl _) (fun v19 i19 => ?_); refine av v19 rfl rfl <| wnt <| W_rg <| mv v5_16 rfl s5_16 <| ?_; refine wls rfl rfl (stp_lit (L := (v5_16 :: L0)) (R := (Sc i64)) [] ([] : List Int) rfl T38 rfl (by exact trivial) rfl (litC i64 (oneC_i64) (us := []) (l := ([] : List Int)) rfl) rfl (litS i64 (us := []) (l := ([] : List Int)) rfl) ?_); intro v20 w20 o20 n20 g20 l20; have x20 := grown_ext g20; have q21 : Nq v5_16 v20 := o0_16.nq n20; replace i0_16 := i0_16.lift (Lift.call _ x20 n20); replace i19 := i19.lift (Lift.call _ x20 n20); replace o0_16 := o0_16.extL (SlK.stab (Sc.stab _)) x20 (Lift.call _ x20 n20); have n23 := Nw.ext hE16 n20; have e22 := hE16.trans x20; refine mv v19 rfl rfl ?_; obtain ⟨c24, hc24, H15⟩ := bsi H15; refine wls rfl rfl (stp_append (R := (Sc i64)) (v := v20) (u := v19) (Sc.stab _) [] (v5_16 :: L0) rfl T38 rfl rfl o20 i19 (fun _ _ h => h) hc24 oc_i64 ?_); intro v24 w24 o24 g24 nx24 l24; replace i0_16 := i0_16.lift l24; replace i19 := i19.lift l24; have q25 : Nq v5_16 v24 := o0_16.nxt q21 nx24; replace o0_16 := o0_16.other (SlK.stab (Sc.stab _)) g24 q21 l24; have e26 := e22.grown g24 n23; have n27 := Nw.nxt e22 n23 nx24; refine mv (i64 s10.2) rfl s6_16 ?_; refine wls rfl rfl (stp_lit (L := (v24 :: v5_16 :: L0)) (R := (Sc i64)) [(i64 s10.2)] ([s10.2] : List Int) rfl T38 rfl (by exact ⟨rfl, rfl, trivial⟩) rfl (litC i64 (oneC_i64) (us := [(i64 s10.2)]) (l := ([s10.2] : List Int)) rfl) rfl (litS i64 (us := [(i64 s10.2)]) (l := ([s10.2] : List Int)) rfl) ?_); intro v28 w28 o28 n28 g28 l28; have x28 := grown_ext g28; have i28 : In w28 (v24 :: v5_16 :: L0) v28 (([s10.2] : List Int)) := OwK.slk (Sc.stab _) _ o28 (fun k hk => (Old.cons (Old.cons (hL0.ext e26) o0_16.lt) o24.lt) k (n28 k hk)) (fun _ h => h.2); replace i0_16 := i0_16.lift (Lift.ext x28 _); replace i19 := i19.lift (Lift.ext x28 _); replace o24 := o24.extL (Sc.stab _) x28 (Lift.ext x28 _); replace o0_16 := o0_16.extL (SlK.stab (Sc.stab _)) x28 (Lift.ext x28 _); have e29 := e26.trans x28; obtain ⟨c30, hc30, H15⟩ := bsi H15; refine wls rfl rfl (stp_append (R := (Sc i64)) (v := v24) (u := v28) (Sc.stab _) [] (v5_16 :: L0) rfl T38 rfl rfl o24 i28 (fun _ _ h => h) hc30 oc_i64 ?_); intro v30 w30 o30 g30 nx30 l30; replace i0_16 := i0_16.lift l30; replace i19 := i19.lift l30; replace i28 := i28.lift l30; have q31 : Nq v5_16 v30 := o0_16.nxt q25 nx30; replace o0_16 := o0_16.other (SlK.stab (Sc.stab _)) g30 q25 l30; have e32 := e29.grown g30 n27
            have n33 := Nw.nxt e29 n27 nx30; have i35 : In w30 (v5_16 :: L0) v30 c30 := OwK.slk (Sc.stab _) (v5_16 :: L0) o30 (fun k hk => ⟨(q31.symm) k hk, hL0 k (n33 k hk)⟩) (show ∀ k, Av (v30 :: v5_16 :: L0) k → Av (v5_16 :: L0) k from fun _ h => ⟨h.2.1, h.2.2⟩); replace i0_16 := i0_16.lift (Lift.sub (show ∀ k, Av (v30 :: v5_16 :: L0) k → Av (v5_16 :: L0) k from fun _ h => ⟨h.2.1, h.2.2⟩)); replace i19 := i19.lift (Lift.sub (show ∀ k, Av (v30 :: v5_16 :: L0) k → Av (v5_16 :: L0) k from fun _ h => ⟨h.2.1, h.2.2⟩)); replace i28 := i28.lift (Lift.sub (show ∀ k, Av (v30 :: v5_16 :: L0) k → Av (v5_16 :: L0) k from fun _ h => ⟨h.2.1, h.2.2⟩)); replace o0_16 := o0_16.weak (SlK.stab (Sc.stab _)) (show ∀ k, Av (v30 :: v5_16 :: L0) k → Av (v5_16 :: L0) k from fun _ h => ⟨h.2.1, h.2.2⟩); refine wls rfl rfl (stp_lit (L := (v5_16 :: L0)) (R := In) [v30] ([c30] : List (List Int)) rfl T63 rfl (by exact ⟨rfl, rfl, trivial⟩) rfl (LitR.cells (R := In) (w := w30) (L := (v5_16 :: L0)) (l := ([c30] : List (List Int))) (LitR.cons i35 LitR.nil) (fun u x h => cells_sl u x h)) rfl (LitR.all (R := In) (w := w30) (L := (v5_16 :: L0)) (l := ([c30] : List (List Int))) (SlK.stab (Sc.stab _)) (LitR.cons i35 LitR.nil)) ?_); intro v34 w34 o34 n34 g34 l34; have x34 := grown_ext g34; have i34 : RwI w34 (v5_16 :: L0) v34 (([c30] : List (List Int))) := OwK.slk (SlK.stab (Sc.stab _)) _ o34 (fun k hk => (Old.cons (hL0.ext e32) o0_16.lt) k (n34 k hk)) (fun _ h => h.2); replace i0_16 := i0_16.lift (Lift.ext x34 _); replace i19 := i19.lift (Lift.ext x34 _); replace i28 := i28.lift (Lift.ext x34 _); replace i35 := i35.lift (Lift.ext x34 _); replace o0_16 := o0_16.extL (SlK.stab (Sc.stab _)) x34 (Lift.ext x34 _); have e36 := e32.trans x34; obtain ⟨c37, hc37, H15⟩ := bsi H15; refine wls rfl rfl (stp_append (R := In) (v := v5_16) (u := v34) (SlK.stab (Sc.stab _)) [] (L0) rfl T63 rfl rfl o0_16 i34 (fun _ _ h => h) hc37 oc_sl ?_); intro v37 w37 o37 g37 nx37 l37; replace i0_16 := i0_16.lift l37; replace i19 := i19.lift l37; replace i28 := i28.lift l37; replace i35 := i35.lift l37; replace i34 := i34.lift l37; have e38 := e36.grown g37 n0_16; have n39 := Nw.nxt e36 n0_16 nx37; refine av v37 rfl rfl <| wl_nil <| bk_n <| W_th <| W_rg <| wa rfl (q_addI rfl s26_16 rfl) <| mv (i64 ((wI (s15.2 + 1)))) rfl rfl <| wl_nil <| ?_; obtain rfl := osi H15; exact ⟨_, rfl, v37, s0_16, s1_16, rfl, s6_16, s24_16, s25_16, rfl, s41_16, e38, o37, n39, i0_16⟩
          replace H15 := ifn hb17 H15; refine W_exit <| th_x <| ?_; obtain rfl := osi H15; obtain rfl := hr15 _ rfl; refine th_x <| bk_x <| ?_; exact ⟨v5_16, s0_16, s1_16, s5_16, s6_16, s41_16, hE16, o0_16, n0_16⟩
        rintro _ w41 ⟨v5_41, s0_41, s1_41, s5_41, s6_41, s41_41, hE41, o0_41, n0_41⟩; refine bk_n <| W_th <| W_rg <| mv (i64 s10.2) rfl s6_41 <| wa rfl (q_addI rfl rfl rfl) <| av (i64 ((wI (s10.2 + 1)))) rfl rfl <| wl_nil <| ?_; obtain rfl := osi H10; exact ⟨_, rfl, v5_41, s0_41, s1_41, s5_41, rfl, s41_41, hE41, o0_41, n0_41⟩
      replace H10 := ifn hb12 H10; refine W_exit <| th_x <| ?_; obtain rfl := osi H10; obtain rfl := hr10 _ rfl; refine th_x <| bk_x <| ?_; exact ⟨v5_11, s5_11, s41_11, hE11, o0_11, n0_11⟩
    rintro _ w44 ⟨v5_44, s5_44, s41_44, hE44, o0_44, n0_44⟩; refine W_th <| W_seq <| W_rg <| mv v5_44 rfl s5_44 <| av v5_44 rfl rfl <| wnt <| W_ret <| ?_; obtain rfl := osi H; refine rt1 v5_44 rfl rfl rfl s41_44 ?_; exact ⟨v5_44, rfl, hE44, n0_44, (o0_44.weak (SlK.stab (Sc.stab _)) (fun _ h => ⟨h.1, h.2⟩))⟩
theorem ref10_pick_calls (a0n : Int) (a1t : Int) (r : List (List Int)) (w0 : World) (L0 : List Value) (hL0 : Old w0 L0) (H : ref10_pick a0n a1t = some r) :
    Calls Try.prog 30 [(i64 a0n), (i64 a1t)].toArray w0 (fun e w' => ∃ u0 : Value, e = .returned u0 ∧ Ext w0 w' ∧ Nw w0 u0 ∧ OwK In w' (u0 :: L0) 38 u0 r) := ref10_pick_n_calls _ a0n a1t r w0 L0 hL0 H
end Gk

/- Printed by gen.py: for each Go function a pure function, and that the Go code comes to it. No condition beside the equation that says what the pure function gives. -/
namespace Gk
open Go Go.Proofs
noncomputable def ref10_Column (a0t : Int) (a1xs : List UInt8) (a2ys : List UInt8) (a3e : Int) : Option (List UInt8 × Bool) :=
((((divI ((wI ((a1xs.length : Int) - a0t))) 2).bind fun c2 =>
(if c2 < a3e then
((divI ((wI ((a1xs.length : Int) - a0t))) 2).bind fun c4 => some c4)
else some a3e))).bind fun x1 =>
((ref10_pick (a1xs.length : Int) a0t).bind fun r6 =>
((iterC (fun s8 : Int =>
(if s8 < (r6.length : Int) then
((idx r6 s8).bind fun c11 =>
((iterC (fun s20 : List UInt8 × List UInt8 × Int =>
(if s20.2.2 < (c11.length : Int) then
((idx c11 s20.2.2).bind fun c23 =>
((idx a1xs c23).bind fun c24 =>
((appL s20.1 (([c24] : List UInt8))).bind fun c27 =>
((idx a2ys c23).bind fun c31 =>
((appL s20.2.1 (([c31] : List UInt8))).bind fun c34 => some (.inl (c27, c34, (wI (s20.2.2 + 1)))))))))
else some (.inr (s20.1, s20.2.1)))) (([] : List UInt8), ([] : List UInt8), 0)).bind fun x20 =>
((ref03_Through x20.1 x20.2).bind fun r40 =>
((iterC (fun s45 : Int × Int =>
(if s45.2 < (a1xs.length : Int) then
((idx a1xs s45.2).bind fun c48 =>
((idx a2ys s45.2).bind fun c51 =>
((ref03_Eval r40 c48).bind fun r52 =>
(if r52 = c51 then some (.inl (s45.1, (wI (s45.2 + 1))))
else some (.inl ((wI (s45.1 + 1)), (wI (s45.2 + 1))))))))
else some (.inr s45.1))) (0, 0)).bind fun x45 =>
(if x45 ≤ x1 then some (.inr (.inr (r40, true)))
else some (.inl (wI (s8 + 1))))))))
else some (.inr (.inl ())))) 0).bind (Sum.elim (fun y8 => some (([] : List UInt8), false)) (fun q8 => some q8)))))
theorem ref10_Column_calls (a0t : Int) (a1xs : List UInt8) (a2ys : List UInt8) (a3e : Int) (p1 : Value) (p2 : Value) (r : List UInt8 × Bool) (w0 : World) (hp1 : By w0 [] p1 a1xs) (hp2 : By w0 [] p2 a2ys) (H : ref10_Column a0t a1xs a2ys a3e = some r) :
    Calls Try.prog 9 [(i64 a0t), p1, p2, (i64 a3e)].toArray w0 (fun e w' => ∃ u0 : Value, e = .returned (.tuple #[u0, (.bool r.2)]) ∧ Ext w0 w' ∧ Nw w0 u0 ∧ OwK (Sc u8) w' [] 5 u0 r.1) := by
  have hE : Ext w0 w0 := Ext.refl w0; unfold ref10_Column at H; refine calls_W (n := 90) Try.func9 rfl rfl rfl ?_; refine W_seq <| W_rg <| av (.slice none 0 0) rfl rfl <| av (.bool false) rfl rfl <| wnt <| W_seq <| ?_; obtain ⟨x1, H1, H⟩ := bsi H; refine W_mid (fun f w => f 0 = (i64 a0t) ∧ f 1 = p1 ∧ f 2 = p2 ∧ f 3 = (i64 x1) ∧ f 90 = undef ∧ Ext w0 w) ?_ ?_
  · refine W_seq <| W_rg <| mv (i64 a3e) rfl rfl <| mv p1 rfl rfl <| wa rfl (q_len rfl T22.sl rfl (hp1.lift (Lift.ext hE _))) <| mv (i64 a0t) rfl rfl <| wa rfl (q_subI rfl rfl rfl) <| ?_; obtain ⟨c2, hc2, H1⟩ := bsi H1; refine wa rfl (q_divI rfl rfl rfl hc2) <| wa rfl (q_gtI rfl rfl rfl) <| wnt <| ?_; refine W_cond _ rfl rfl (fun hb3 => ?_) (fun hb3 => ?_)
    · replace H1 := ifp hb3 H1; refine W_rg <| mv p1 rfl rfl <| wa rfl (q_len rfl T22.sl rfl (hp1.lift (Lift.ext hE _))) <| mv (i64 a0t) rfl rfl <| wa rfl (q_subI rfl rfl rfl) <| ?_; obtain ⟨c4, hc4, H1⟩ := bsi H1; refine wa rfl (q_divI rfl rfl rfl hc4) <| av (i64 c4) rfl rfl <| wl_nil <| ?_; obtain rfl := osi H1; exact ⟨rfl, rfl, rfl, rfl, rfl, hE⟩
    replace H1 := ifn hb3 H1; refine W_skip ?_; obtain rfl := osi H1; exact ⟨rfl, rfl, rfl, rfl, rfl, hE⟩
  rintro _ w5 ⟨s0_5, s1_5, s2_5, s3_5, s90_5, hE5⟩; refine W_th <| W_seq <| W_seq <| W_rg <| mv p1 rfl s1_5 <| wa rfl (q_len rfl T22.sl rfl (hp1.lift (Lift.ext hE5 _))) <| mv (i64 a0t) rfl s0_5 <| ?_; obtain ⟨r6, hr6, H⟩ := bsi H; refine wls rfl rfl (stp_call (vs := [(i64 ((a1xs.length : Int))), (i64 a0t)]) Try.func30 rfl rfl rfl (ar2 rfl rfl) (ref10_pick_calls (a1xs.length : Int) a0t  r6 _ [] (Old.nil _)  hr6) ?_); rintro _ w6 ⟨v6, rfl, x6, n6_0, o6_0⟩; refine ⟨_, rfl, ?_⟩; have i6_0 : RwI w6 [] v6 r6 := OwK.slk (SlK.stab (Sc.stab _)) _ o6_0 (fun k hk => (Old.nil _) k (n6_0 k hk)) (fun _ h => h.2); have e7 := hE5.trans x6; refine wa rfl (q_len rfl T63.sl rfl i6_0) <| mv (i64 0) rfl rfl <| wnt <| ?_; obtain ⟨x8, G8, H⟩ := bsi H; refine W_mid (fun f w => ∃ y8, x8 = .inl y8 ∧ f 90 = undef ∧ Ext w0 w) ?_ ?_
  · refine W_block ?_; refine W_loop (fun s8 f w => f 1 = p1 ∧ f 2 = p2 ∧ f 3 = (i64 x1) ∧ f 35 = v6 ∧ f 36 = (i64 ((r6.length : Int))) ∧ f 37 = (i64 s8) ∧ f 90 = undef ∧ Ext w0 w ∧ RwI w [] v6 r6) G8 ?_ ?_
    · exact ⟨s1_5, s2_5, s3_5, rfl, rfl, rfl, s90_5, e7, i6_0⟩
    rintro s8 _ _ w9 ⟨s1_9, s2_9, s3_9, s35_9, s36_9, s37_9, s90_9, hE9, i0_9⟩ H8 hr8; refine W_seq <| W_rg <| wa rfl (q_ltI rfl s37_9 s36_9) <| wnt <| W_seq <| ?_; refine W_cond _ rfl rfl (fun hb10 => ?_) (fun hb10 => ?_)
    · replace H8 := ifp hb10 H8; refine W_skip <| W_th <| W_seq <| W_block <| W_seq <| W_rg <| ?_; obtain ⟨c11, hc11, H8⟩ := bsi H8; refine wa rfl (q_adr rfl T63 s35_9 s37_9 i0_9 hc11) ?_; refine wlq_load rfl rfl rfl T63 rfl i0_9 hc11 (Ext.refl _) (fun v12 i12 => ?_); refine av v12 rfl rfl <| wnt <| W_seq <| W_rg <| ?_; refine wls rfl rfl (stp_lit (L := []) (R := (Sc u8)) [] ([] : List UInt8) rfl T22 rfl (by exact trivial) rfl (litC u8 (oneC_u8) (us := []) (l := ([] : List UInt8)) rfl) rfl (litS u8 (us := []) (l := ([] : List UInt8)) rfl) ?_); intro v13 w13 o13 n13 g13 l13; have x13 := grown_ext g13; replace i0_9 := i0_9.lift (Lift.call _ x13 n13); replace i12 := i12.lift (Lift.call _ x13 n13); have n15 := Nw.ext hE9 n13; have e14 := hE9.trans x13; refine wls rfl rfl (stp_lit (L := [v13]) (R := (Sc u8)) [] ([] : List UInt8) rfl T22 rfl (by exact trivial) rfl (litC u8 (oneC_u8) (us := []) (l := ([] : List UInt8)) rfl) rfl (litS u8 (us := []) (l := ([] : List UInt8)) rfl) ?_); intro v16 w16 o16 n16 g16 l16; have x16 := grown_ext g16; have q17 : Nq v13 v16 := o13.nq n16; replace i0_9 := i0_9.lift (Lift.call _ x16 n16); replace i12 := i12.lift (Lift.call _ x16 n16); replace o13 := o13.extL (Sc.stab _) x16 (Lift.call _ x16 n16); have n19 := Nw.ext e14 n16; have e18 := e14.trans x16; refine av v13 rfl rfl <| av v16 rfl rfl <| wnt <| W_seq <| W_seq <| W_rg <| mv v12 rfl rfl <| wa rfl (q_len rfl T38.sl rfl i12) <| ?_; refine mv (i64 0) rfl rfl <| wnt <| ?_; obtain ⟨x20, G20, H8⟩ := bsi H8; refine W_mid (fun f w => ∃ v12_59 : Value, ∃ v13_59 : Value, f 1 = p1 ∧ f 2 = p2 ∧ f 3 = (i64 x1) ∧ f 12 = v12_59 ∧ f 13 = v13_59 ∧ f 35 = v6 ∧ f 36 = (i64 ((r6.length : Int))) ∧ f 37 = (i64 s8) ∧ f 90 = undef ∧ Ext w0 w ∧ OwK (Sc u8) w [v12_59, v13_59] 5 v12_59 x20.1 ∧ Nw w0 v12_59 ∧ OwK (Sc u8) w [v12_59, v13_59] 5 v13_59 x20.2 ∧ Nw w0 v13_59 ∧ Nq v12_59 v13_59 ∧ RwI w [v12_59, v13_59] v6 r6) ?_ ?_
      · refine W_block ?_; refine W_loop (fun s20 f w => ∃ v12_38 : Value, ∃ v13_38 : Value, f 1 = p1 ∧ f 2 = p2 ∧ f 3 = (i64 x1) ∧ f 12 = v12_38 ∧ f 13 = v13_38 ∧ f 35 = v6 ∧ f 36 = (i64 ((r6.length : Int))) ∧ f 37 = (i64 s8) ∧ f 43 = v12 ∧ f 44 = (i64 ((c11.length : Int))) ∧ f 45 = (i64 s20.2.2) ∧ f 90 = undef ∧ Ext w0 w ∧ OwK (Sc u8) w [v12_38, v13_38] 5 v12_38 s20.1 ∧ Nw w0 v12_38 ∧ OwK (Sc u8) w [v12_38, v13_38] 5 v13_38 s20.2.1 ∧ Nw w0 v13_38 ∧ Nq v12_38 v13_38 ∧ RwI w [v12_38, v13_38] v6 r6 ∧ In w [v12_38, v13_38] v12 c11) G20 ?_ ?_
        · exact ⟨v13, v16, s1_9, s2_9, s3_9, rfl, rfl, s35_9, s36_9, s37_9, rfl, rfl, rfl, s90_9, e18, (o13.weak (Sc.stab _) (fun _ h => ⟨h.2.1, h.1, trivial⟩)), n15, (o16.weak (Sc.stab _) (fun _ h => ⟨h.2.1, h.1, trivial⟩)), n19, q17, (i0_9.lift (Lift.sub (fun _ h => ⟨h.2.1, h.1, trivial⟩))), (i12.lift (Lift.sub (fun _ h => ⟨h.2.1, h.1, trivial⟩)))⟩
        rintro s20 _ _ w21 ⟨v12_21, v13_21, s1_21, s2_21, s3_21, s12_21, s13_21, s35_21, s36_21, s37_21, s43_21, s44_21, s45_21, s90_21, hE21, o0_21, n0_21, o1_21, n1_21, q0_1_21, i0_21, i1_21⟩ H20 hr20; refine W_seq <| W_rg <| wa rfl (q_ltI rfl s45_21 s44_21) <| wnt <| W_seq <| ?_; refine W_cond _ rfl rfl (fun hb22 => ?_) (fun hb22 => ?_)
        · replace H20 := ifp hb22 H20; refine W_skip <| W_th <| W_seq <| W_block <| W_seq <| W_rg <| ?_; obtain ⟨c23, hc23, H20⟩ := bsi H20; refine wa rfl (q_adr rfl T38 s43_21 s45_21 i1_21 hc23) <| wq rfl (q_loadS rfl T38 rfl i1_21 hc23) <| av (i64 c23) rfl rfl <| wnt <| W_seq <| W_rg <| mv v12_21 rfl s12_21 <| mv p1 rfl s1_21 <| ?_; refine mv (i64 c23) rfl rfl ?_; obtain ⟨c24, hc24, H20⟩ := bsi H20; refine wa rfl (q_adr rfl T22 rfl rfl (hp1.lift (Lift.ext hE21 _)) hc24) <| wq rfl (q_loadS rfl T22 rfl (hp1.lift (Lift.ext hE21 _)) hc24) <| ?_; refine wls rfl rfl (stp_lit (L := [v12_21, v13_21]) (R := (Sc u8)) [(u8 c24)] ([c24] : List UInt8) rfl T22 rfl (by exact ⟨rfl, rfl, trivial⟩) rfl (litC u8 (oneC_u8) (us := [(u8 c24)]) (l := ([c24] : List UInt8)) rfl) rfl (litS u8 (us := [(u8 c24)]) (l := ([c24] : List UInt8)) rfl) ?_); intro v25 w25 o25 n25 g25 l25; have x25 := grown_ext g25; have i25 : By w25 [v12_21, v13_21] v25 (([c24] : List UInt8)) := OwK.slk (Sc.stab _) _ o25 (fun k hk => (Old.cons (Old.cons (Old.nil _) o1_21.lt) o0_21.lt) k (n25 k hk)) (fun _ h => h.2); replace i0_21 := i0_21.lift (Lift.ext x25 _); replace i1_21 := i1_21.lift (Lift.ext x25 _); replace o0_21 := o0_21.extL (Sc.stab _) x25 (Lift.ext x25 _); replace o1_21 := o1_21.extL (Sc.stab _) x25 (Lift.ext x25 _); have e26 := hE21.trans x25; obtain ⟨c27, hc27, H20⟩ := bsi H20; refine wls rfl rfl (stp_append (R := (Sc u8)) (v := v12_21) (u := v25) (Sc.stab _) [] [v13_21] rfl T22 rfl rfl o0_21 i25 (fun _ _ h => h) hc27 oc_u8 ?_); intro v27 w27 o27 g27 nx27 l27; replace i0_21 := i0_21.lift l27; replace i1_21 := i1_21.lift l27; replace i25 := i25.lift l27; have q28 : Nq v13_21 v27 := o1_21.nxt q0_1_21.symm nx27; replace o1_21 := o1_21.other (Sc.stab _) g27 q0_1_21.symm l27; have e29 := e26.grown g27 n0_21; have n30 := Nw.nxt e26 n0_21 nx27; refine av v27 rfl rfl <| wnt <| W_rg <| mv v13_21 rfl s13_21 <| mv p2 rfl s2_21 <| mv (i64 c23) rfl rfl <| ?_; obtain ⟨c31, hc31, H20⟩ := bsi H20; refine wa rfl (q_adr rfl T22 rfl rfl (hp2.lift (Lift.ext e29 _)) hc31) <| wq rfl (q_loadS rfl T22 rfl (hp2.lift (Lift.ext e29 _)) hc31) <| ?_; refine wls rfl rfl (stp_lit (L := [v27, v13_21]) (R := (Sc u8)) [(u8 c31)] ([c31] : List UInt8) rfl T22 rfl (by exact ⟨rfl, rfl, trivial⟩) rfl (litC u8 (oneC_u8) (us := [(u8 c31)]) (l := ([c31] : List UInt8)) rfl) rfl (litS u8 (us := [(u8 c31)]) (l := ([c31] : List UInt8)) rfl) ?_); intro v32 w32 o32 n32 g32 l32
          have x32 := grown_ext g32; have i32 : By w32 [v27, v13_21] v32 (([c31] : List UInt8)) := OwK.slk (Sc.stab _) _ o32 (fun k hk => (Old.cons (Old.cons (Old.nil _) o1_21.lt) o27.lt) k (n32 k hk)) (fun _ h => h.2); replace i0_21 := i0_21.lift (Lift.ext x32 _); replace i1_21 := i1_21.lift (Lift.ext x32 _); replace i25 := i25.lift (Lift.ext x32 _); replace o27 := o27.extL (Sc.stab _) x32 (Lift.ext x32 _); replace o1_21 := o1_21.extL (Sc.stab _) x32 (Lift.ext x32 _); have e33 := e29.trans x32; obtain ⟨c34, hc34, H20⟩ := bsi H20; refine wls rfl rfl (stp_append (R := (Sc u8)) (v := v13_21) (u := v32) (Sc.stab _) [v27] [] rfl T22 rfl rfl o1_21 i32 (fun _ _ h => h) hc34 oc_u8 ?_); intro v34 w34 o34 g34 nx34 l34; replace i0_21 := i0_21.lift l34; replace i1_21 := i1_21.lift l34; replace i25 := i25.lift l34; replace i32 := i32.lift l34; have q35 : Nq v27 v34 := o27.nxt q28.symm nx34; replace o27 := o27.other (Sc.stab _) g34 q28.symm l34; have e36 := e33.grown g34 n1_21; have n37 := Nw.nxt e33 n1_21 nx34; refine av v34 rfl rfl <| wl_nil <| bk_n <| W_th <| W_rg <| wa rfl (q_addI rfl s45_21 rfl) <| mv (i64 ((wI (s20.2.2 + 1)))) rfl rfl <| wl_nil <| ?_; obtain rfl := osi H20; exact ⟨_, rfl, v27, v34, s1_21, s2_21, s3_21, rfl, rfl, s35_21, s36_21, s37_21, s43_21, s44_21, rfl, s90_21, e36, o27, n30, o34, n37, q35, i0_21, i1_21⟩
        replace H20 := ifn hb22 H20; refine W_exit <| th_x <| ?_; obtain rfl := osi H20; obtain rfl := hr20 _ rfl; refine th_x <| bk_x <| ?_; exact ⟨v12_21, v13_21, s1_21, s2_21, s3_21, s12_21, s13_21, s35_21, s36_21, s37_21, s90_21, hE21, o0_21, n0_21, o1_21, n1_21, q0_1_21, i0_21⟩
      rintro _ w39 ⟨v12_39, v13_39, s1_39, s2_39, s3_39, s12_39, s13_39, s35_39, s36_39, s37_39, s90_39, hE39, o0_39, n0_39, o1_39, n1_39, q0_1_39, i0_39⟩; refine W_th <| W_seq <| W_rg <| mv v12_39 rfl s12_39 <| mv v13_39 rfl s13_39 <| ?_; obtain ⟨r40, hr40, H8⟩ := bsi H8; refine wls rfl rfl (stp_call (vs := [v12_39, v13_39]) Try.func31 rfl rfl rfl (ar2 rfl rfl) (ref03_Through_calls x20.1 x20.2 v12_39 v13_39 r40 _ (o0_39.rd (Sc.stab _)) (o1_39.rd (Sc.stab _)) hr40) ?_); rintro _ w40 ⟨v40, rfl, x40, n40_0, o40_0⟩; refine ⟨_, rfl, ?_⟩; have o40 : OwK (Sc u8) w40 (v40 :: [v12_39, v13_39]) 5 v40 r40 := OwK.scal o40_0 _; have q41 : Nq v12_39 v40 := o0_39.nq n40_0; have q42 : Nq v13_39 v40 := o1_39.nq n40_0; replace i0_39 := i0_39.lift (Lift.call _ x40 n40_0); replace o0_39 := o0_39.extL (Sc.stab _) x40 (Lift.call _ x40 n40_0); replace o1_39 := o1_39.extL (Sc.stab _) x40 (Lift.call _ x40 n40_0); have n44 := Nw.ext hE39 n40_0; have e43 := hE39.trans x40; refine av v40 rfl rfl <| wnt <| W_seq <| W_rg <| av (i64 0) rfl rfl <| wnt <| W_seq <| W_seq <| ?_; refine W_rg <| mv p1 rfl s1_39 <| wa rfl (q_len rfl T22.sl rfl (hp1.lift (Lift.ext e43 _))) <| mv (i64 0) rfl rfl <| wnt <| ?_; obtain ⟨x45, G45, H8⟩ := bsi H8; refine W_mid (fun f w => f 1 = p1 ∧ f 2 = p2 ∧ f 3 = (i64 x1) ∧ f 16 = v40 ∧ f 17 = (i64 x45) ∧ f 35 = v6 ∧ f 36 = (i64 ((r6.length : Int))) ∧ f 37 = (i64 s8) ∧ f 90 = undef ∧ Ext w0 w ∧ OwK (Sc u8) w [v40] 5 v40 r40 ∧ Nw w0 v40 ∧ RwI w [v40] v6 r6) ?_ ?_
      · refine W_block ?_; refine W_loop (fun s45 f w => f 1 = p1 ∧ f 2 = p2 ∧ f 3 = (i64 x1) ∧ f 16 = v40 ∧ f 17 = (i64 s45.1) ∧ f 35 = v6 ∧ f 36 = (i64 ((r6.length : Int))) ∧ f 37 = (i64 s8) ∧ f 67 = p1 ∧ f 68 = (i64 ((a1xs.length : Int))) ∧ f 69 = (i64 s45.2) ∧ f 90 = undef ∧ Ext w0 w ∧ OwK (Sc u8) w [v40] 5 v40 r40 ∧ Nw w0 v40 ∧ RwI w [v40] v6 r6) G45 ?_ ?_
        · exact ⟨s1_39, s2_39, s3_39, rfl, rfl, s35_39, s36_39, s37_39, rfl, rfl, rfl, s90_39, e43, (o40.weak (Sc.stab _) (fun _ h => ⟨h.1, trivial⟩)), n44, (i0_39.lift (Lift.sub (fun _ h => ⟨h.1, trivial⟩)))⟩
        rintro s45 _ _ w46 ⟨s1_46, s2_46, s3_46, s16_46, s17_46, s35_46, s36_46, s37_46, s67_46, s68_46, s69_46, s90_46, hE46, o0_46, n0_46, i0_46⟩ H45 hr45; refine W_seq <| W_rg <| wa rfl (q_ltI rfl s69_46 s68_46) <| wnt <| W_seq <| ?_; refine W_cond _ rfl rfl (fun hb47 => ?_) (fun hb47 => ?_)
        · replace H45 := ifp hb47 H45; refine W_skip <| W_th <| W_seq <| W_block <| W_seq <| W_rg <| mv (i64 s45.2) rfl s69_46 <| ?_; obtain ⟨c48, hc48, H45⟩ := bsi H45; refine wa rfl (q_adr rfl T22 s67_46 s69_46 (hp1.lift (Lift.ext hE46 _)) hc48) <| wq rfl (q_loadS rfl T22 rfl (hp1.lift (Lift.ext hE46 _)) hc48) <| av (i64 s45.2) rfl rfl <| av (u8 c48) rfl rfl <| wnt <| W_seq <| ?_; refine W_draw [6] [(0, 0), (1, 0), (3, 0), (4, 0), (5, 0), (6, 1), (2, 2), (7, 0)] mixed (by kernel_rfl) (by kernel_rfl) (by kernel_rfl) (by kernel_rfl) ?_; have x49 := Ext.drew w46; replace i0_46 := i0_46.lift (Lift.ext x49 _); replace o0_46 := o0_46.extL (Sc.stab _) x49 (Lift.ext x49 _); have e50 := hE46.trans x49; refine sv v40 rfl rfl s16_46 <| sv (u8 c48) rfl rfl rfl <| sv p2 rfl rfl s2_46 <| sv (i64 s45.2) rfl rfl rfl <| ?_; obtain ⟨c51, hc51, H45⟩ := bsi H45; refine sa rfl rfl (q_adr rfl T22 rfl rfl (hp2.lift (Lift.ext e50 _)) hc51) <| sq rfl rfl (q_loadS rfl T22 rfl (hp2.lift (Lift.ext e50 _)) hc51) <| ?_; obtain ⟨r52, hr52, H45⟩ := bsi H45; refine wss rfl rfl rfl (stp_call (vs := [v40, (u8 c48)]) Try.func10 rfl rfl rfl (ar2 rfl rfl) (ref03_Eval_calls r40 c48 v40 r52 _ (o0_46.rd (Sc.stab _)) hr52) ?_); rintro _ w52 ⟨rfl, x52⟩; refine ⟨_, rfl, x52, ?_⟩; replace i0_46 := i0_46.lift (Lift.ext x52 _); replace o0_46 := o0_46.extL (Sc.stab _) x52 (Lift.ext x52 _); have e53 := e50.trans x52; refine sa rfl rfl (q_ne8 rfl rfl rfl) ?_; refine ws_nil ?_; refine W_th ?_; refine W_cond _ rfl rfl (fun hb54 => ?_) (fun hb54 => ?_)
          · replace H45 := (if_neg (ndec_t hb54)).symm.trans H45; refine W_rg <| mv (i64 s45.1) rfl s17_46 <| wa rfl (q_addI rfl rfl rfl) <| av (i64 ((wI (s45.1 + 1)))) rfl rfl <| wl_nil <| bk_n <| W_th <| W_rg <| ?_; refine wa rfl (q_addI rfl s69_46 rfl) <| mv (i64 ((wI (s45.2 + 1)))) rfl rfl <| wl_nil <| ?_; obtain rfl := osi H45; exact ⟨_, rfl, s1_46, s2_46, s3_46, s16_46, rfl, s35_46, s36_46, s37_46, s67_46, s68_46, rfl, s90_46, e53, o0_46, n0_46, i0_46⟩
          replace H45 := (if_pos (ndec_f hb54)).symm.trans H45; refine W_skip <| bk_n <| W_th <| W_rg <| wa rfl (q_addI rfl s69_46 rfl) <| mv (i64 ((wI (s45.2 + 1)))) rfl rfl <| wl_nil <| ?_; obtain rfl := osi H45; exact ⟨_, rfl, s1_46, s2_46, s3_46, s16_46, s17_46, s35_46, s36_46, s37_46, s67_46, s68_46, rfl, s90_46, e53, o0_46, n0_46, i0_46⟩
        replace H45 := ifn hb47 H45; refine W_exit <| th_x <| ?_; obtain rfl := osi H45; obtain rfl := hr45 _ rfl; refine th_x <| bk_x <| ?_; exact ⟨s1_46, s2_46, s3_46, s16_46, s17_46, s35_46, s36_46, s37_46, s90_46, hE46, o0_46, n0_46, i0_46⟩
      rintro _ w56 ⟨s1_56, s2_56, s3_56, s16_56, s17_56, s35_56, s36_56, s37_56, s90_56, hE56, o0_56, n0_56, i0_56⟩; refine W_th <| W_seq <| W_rg <| mv (i64 x45) rfl s17_56 <| mv (i64 x1) rfl s3_56 <| wa rfl (q_leI rfl rfl rfl) <| wnt <| ?_; refine W_cond _ rfl rfl (fun hb57 => ?_) (fun hb57 => ?_)
      · replace H8 := ifp hb57 H8; refine W_seq <| W_rg <| mv v40 rfl s16_56 <| av v40 rfl rfl <| av (.bool true) rfl rfl <| wnt <| W_ret <| bk_r <| ?_; refine th_r ?_; obtain rfl := osi H8; obtain rfl := hr8 _ rfl; simp only [Sum.elim_inr] at H; refine th_r <| bk_r <| th_r <| th_r <| ?_; obtain rfl := osi H; refine rt2 v40 (.bool true) rfl rfl rfl rfl rfl s90_56 ?_; exact ⟨v40, rfl, hE56, n0_56, (o0_56.weak (Sc.stab _) (fun _ _ => trivial))⟩
      replace H8 := ifn hb57 H8; refine W_skip <| bk_n <| W_th <| W_rg <| wa rfl (q_addI rfl s37_56 rfl) <| mv (i64 ((wI (s8 + 1)))) rfl rfl <| wl_nil <| ?_; obtain rfl := osi H8; exact ⟨_, rfl, s1_56, s2_56, s3_56, s35_56, s36_56, rfl, s90_56, hE56, (i0_56.lift (Lift.sub (fun _ h => trivial)))⟩
    replace H8 := ifn hb10 H8; refine W_exit <| th_x <| ?_; obtain rfl := osi H8; obtain rfl := hr8 _ rfl; refine th_x <| bk_x <| ?_; exact ⟨_, rfl, s90_9, hE9⟩
  rintro _ w61 ⟨y8, rfl, s90_61, hE61⟩; simp only [Sum.elim_inl] at H; refine W_th <| W_seq <| W_rg <| av (.slice none 0 0) rfl rfl <| av (.bool false) rfl rfl <| wnt <| W_ret <| ?_; obtain rfl := osi H; refine rt2 (.slice none 0 0) (.bool false) rfl rfl rfl rfl rfl s90_61 ?_; exact ⟨(.slice none 0 0), rfl, hE61, Nw.nil _, (OwK.nil _ _ _ _)⟩
end Gk

/- Printed by gen.py: for each Go function a pure function, and that the Go code comes to it. No condition beside the equation that says what the pure function gives. -/
namespace Gk
open Go Go.Proofs
noncomputable def law10_MendRows (a0t : Int) (a1xs : List UInt8) (a2rows : List (List UInt8)) (a3e : Int) (a4x : UInt8) : Option Bool :=
((law10_lives ).bind fun r1 =>
(if (!r1) = true then
((law10_lives ).bind fun r4 => some r4)
else
(if 6 < (a2rows.length : Int) then
((law10_lives ).bind fun r7 => some r7)
else
(if 6 < (a1xs.length : Int) then
((law10_lives ).bind fun r10 => some r10)
else
((iterC (fun s12 : Int × Int =>
(if s12.2 < (a2rows.length : Int) then
((idx a2rows s12.2).bind fun c15 =>
(if 8 < (c15.length : Int) then some (.inr (.inr true))
else
((idx a2rows 0).bind fun c18 =>
(if (c15.length : Int) = (c18.length : Int) then some (.inl (s12.1, (wI (s12.2 + 1))))
else some (.inl (3, (wI (s12.2 + 1))))))))
else some (.inr (.inl s12.1)))) (0, 0)).bind (Sum.elim (fun y12 =>
((field_New ).bind fun r23 =>
((mend_Rows r23 a0t a1xs a2rows a3e).bind fun r25 =>
((makeL ((a2rows.length : Int)) (0 : UInt8)).bind fun c27 =>
((mend_Column r23 a0t a1xs c27 a3e).bind fun r29 =>
(if r29.2 = 0 then
(if y12 = 0 then
((idx a2rows 0).bind fun c35 =>
((makeL ((c35.length : Int)) (0 : UInt8)).bind fun c37 =>
((makeL ((a2rows.length : Int)) false).bind fun c40 =>
((iterC (fun s44 : List UInt8 × List Bool × Int =>
(if s44.2.2 < (c37.length : Int) then
((iterC (fun s47 : List UInt8 × Int =>
(if s47.2 < (a2rows.length : Int) then
((idx a2rows s47.2).bind fun c50 =>
((idx c50 s44.2.2).bind fun c52 =>
((appL s47.1 (([c52] : List UInt8))).bind fun c55 => some (.inl (c55, (wI (s47.2 + 1)))))))
else some (.inr s47.1))) (([] : List UInt8), 0)).bind fun x47 =>
((ref10_Column a0t a1xs x47 a3e).bind fun r62 =>
(if (!r62.2) = true then
(if r25.2 = 11 then some (.inr (.inr r25.1.isNone))
else some (.inr (.inr false)))
else
((ref03_Eval r62.1 a4x).bind fun r67 =>
((idx s44.1 s44.2.2).bind fun c69 =>
((iterC (fun s72 : List Bool × Int =>
(if s72.2 < (a1xs.length : Int) then
((idx s72.1 s72.2).bind fun c77 =>
(if c77 = true then some (.inl ((s72.1.set (s72.2 : Int).toNat true), (wI (s72.2 + 1))))
else
((idx a1xs s72.2).bind fun c81 =>
((idx x47 s72.2).bind fun c82 =>
((ref03_Eval r62.1 c81).bind fun r83 => some (.inl ((s72.1.set (s72.2 : Int).toNat ((!decide (r83 = c82)))), (wI (s72.2 + 1)))))))))
else some (.inr s72.1))) (s44.2.1, 0)).bind fun x72 => some (.inl ((s44.1.set (s44.2.2 : Int).toNat r67), x72, (wI (s44.2.2 + 1))))))))))
else some (.inr (.inl (s44.1, s44.2.1))))) (c37, c40, 0)).bind (Sum.elim (fun y44 =>
(if r25.2 = 0 then
((mend_At r25.1 a4x).bind fun r96 =>
(if r96 = y44.1 then
((iterC (fun s99 : Int × Int =>
(if s99.2 < (y44.2.length : Int) then
((idx y44.2 s99.2).bind fun c102 =>
(if (!c102) = true then some (.inl (s99.1, (wI (s99.2 + 1))))
else
((mend_Wrong r25.1).bind fun r104 =>
(if (r104.length : Int) ≤ s99.1 then some (.inr (.inr false))
else
((mend_Wrong r25.1).bind fun r107 =>
((idx r107 s99.1).bind fun c109 =>
(if c109 = s99.2 then some (.inl ((wI (s99.1 + 1)), (wI (s99.2 + 1))))
else some (.inr (.inr false)))))))))
else some (.inr (.inl s99.1)))) (0, 0)).bind (Sum.elim (fun y99 =>
((mend_Wrong r25.1).bind fun r113 =>
(if y99 = (r113.length : Int) then
((mend_At (none : Option (Bool × List UInt8 × List (List UInt8) × List Int)) (1 : UInt8)).bind fun r116 =>
((mend_Wrong (none : Option (Bool × List UInt8 × List (List UInt8) × List Int))).bind fun r118 =>
(if (wI ((r116.length : Int) + (r118.length : Int))) = 0 then
((mend_Radius (a1xs.length : Int) a0t).bind fun r121 =>
((divI ((wI ((a1xs.length : Int) - a0t))) 2).bind fun c123 =>
(if r121 = c123 then
((mend_Radius 1 3).bind fun r125 => some (decide (r125 = 0)))
else some false)))
else some false)))
else some false))) (fun q99 => some q99)))
else some false))
else some false)) (fun q44 => some q44))))))
else
(if r25.2 = y12 then some r25.1.isNone
else some false))
else
(if r25.2 = r29.2 then some r25.1.isNone
else some false))))))) (fun q12 => some q12)))))))
theorem law10_MendRows_calls (a0t : Int) (a1xs : List UInt8) (a2rows : List (List UInt8)) (a3e : Int) (a4x : UInt8) (p1 : Value) (p2 : Value) (r : Bool) (w0 : World) (hp1 : By w0 [] p1 a1xs) (hp2 : Rw w0 [] p2 a2rows) (H : law10_MendRows a0t a1xs a2rows a3e a4x = some r) :
    Calls Try.prog 3 [(i64 a0t), p1, p2, (i64 a3e), (u8 a4x)].toArray w0 (fun e w' => e = .returned (.bool r) ∧ Ext w0 w') := by
  have hE : Ext w0 w0 := Ext.refl w0; unfold law10_MendRows at H; refine calls_W (n := 245) Try.func3 rfl rfl rfl ?_; refine W_seq <| W_rg <| av (.bool false) rfl rfl <| wnt <| W_seq <| W_seq <| W_rg <| ?_; obtain ⟨r1, hr1, H⟩ := bsi H; refine wls rfl rfl (stp_call (vs := []) Try.func5 rfl rfl rfl (ar0 ) (law10_lives_calls   r1 _  hr1) ?_); rintro _ w1 ⟨rfl, x1⟩; refine ⟨_, rfl, ?_⟩; have e2 := hE.trans x1; refine wa rfl (q_not rfl rfl) ?_; refine wlb rfl rfl (q_move (v := (.bool ((!r1)))) rfl rfl) (fun hb3 => ?_) (fun hb3 => ?_)
  · replace H := (if_pos hb3).symm.trans H; refine wlk rfl rfl <| wlk rfl rfl <| wlk rfl rfl <| wa rfl (q_pick_t (v := (.bool true)) rfl rfl rfl) <| mv (.bool true) rfl rfl <| wlk rfl rfl <| wlk rfl rfl <| wlk rfl rfl <| ?_; refine wa rfl (q_pick_t (v := (.bool true)) rfl rfl rfl) <| wnt <| ?_; refine W_cond true rfl rfl (fun _ => ?_) (fun hb => by cases hb); refine W_seq <| W_rg <| ?_; obtain ⟨r4, hr4, H⟩ := bsi H; refine wls rfl rfl (stp_call (vs := []) Try.func5 rfl rfl rfl (ar0 ) (law10_lives_calls   r4 _  hr4) ?_); rintro _ w4 ⟨rfl, x4⟩; refine ⟨_, rfl, ?_⟩; have e5 := e2.trans x4; refine av (.bool r4) rfl rfl <| wnt <| W_ret <| th_r <| ?_; obtain rfl := osi H; refine rt1 (.bool r4) rfl rfl rfl rfl ?_; exact ⟨rfl, e5⟩
  replace H := (if_neg (ne_true_of_eq_false hb3)).symm.trans H; refine mv p2 rfl rfl <| wa rfl (q_len rfl T23.sl rfl (hp2.lift (Lift.ext e2 _))) <| wa rfl (q_gtI rfl rfl rfl) <| wa rfl (q_pick_f (v := (.bool ((decide (6 < (a2rows.length : Int)))))) rfl rfl rfl) <| ?_; refine wlb rfl rfl (q_move (v := (.bool ((decide (6 < (a2rows.length : Int)))))) rfl rfl) (fun hb6 => ?_) (fun hb6 => ?_)
  · replace H := ifp hb6 H; refine wlk rfl rfl <| wlk rfl rfl <| wlk rfl rfl <| wa rfl (q_pick_t (v := (.bool true)) rfl rfl rfl) <| wnt <| ?_; refine W_cond true rfl rfl (fun _ => ?_) (fun hb => by cases hb); refine W_seq <| W_rg <| ?_; obtain ⟨r7, hr7, H⟩ := bsi H; refine wls rfl rfl (stp_call (vs := []) Try.func5 rfl rfl rfl (ar0 ) (law10_lives_calls   r7 _  hr7) ?_); rintro _ w7 ⟨rfl, x7⟩; refine ⟨_, rfl, ?_⟩; have e8 := e2.trans x7; refine av (.bool r7) rfl rfl <| wnt <| W_ret <| th_r <| ?_; obtain rfl := osi H; refine rt1 (.bool r7) rfl rfl rfl rfl ?_; exact ⟨rfl, e8⟩
  replace H := ifn hb6 H; refine mv p1 rfl rfl <| wa rfl (q_len rfl T22.sl rfl (hp1.lift (Lift.ext e2 _))) <| wa rfl (q_gtI rfl rfl rfl) <| wa rfl (q_pick_f (v := (.bool ((decide (6 < (a1xs.length : Int)))))) rfl rfl rfl) <| wnt <| ?_; refine W_cond _ rfl rfl (fun hb9 => ?_) (fun hb9 => ?_)
  · replace H := ifp hb9 H; refine W_seq <| W_rg <| ?_; obtain ⟨r10, hr10, H⟩ := bsi H; refine wls rfl rfl (stp_call (vs := []) Try.func5 rfl rfl rfl (ar0 ) (law10_lives_calls   r10 _  hr10) ?_); rintro _ w10 ⟨rfl, x10⟩; refine ⟨_, rfl, ?_⟩; have e11 := e2.trans x10; refine av (.bool r10) rfl rfl <| wnt <| W_ret <| th_r <| ?_; obtain rfl := osi H; refine rt1 (.bool r10) rfl rfl rfl rfl ?_; exact ⟨rfl, e11⟩
  replace H := ifn hb9 H; refine W_skip <| W_th <| W_seq <| W_rg <| av (i64 0) rfl rfl <| wnt <| W_seq <| W_seq <| ?_; refine W_rg <| mv p2 rfl rfl <| wa rfl (q_len rfl T23.sl rfl (hp2.lift (Lift.ext e2 _))) <| mv (i64 0) rfl rfl <| wnt <| ?_; obtain ⟨x12, G12, H⟩ := bsi H; refine W_mid (fun f w => ∃ y12, x12 = .inl y12 ∧ f 0 = (i64 a0t) ∧ f 1 = p1 ∧ f 2 = p2 ∧ f 3 = (i64 a3e) ∧ f 4 = (u8 a4x) ∧ f 11 = (i64 y12) ∧ f 245 = undef ∧ Ext w0 w) ?_ ?_
  · refine W_block ?_; refine W_loop (fun s12 f w => f 0 = (i64 a0t) ∧ f 1 = p1 ∧ f 2 = p2 ∧ f 3 = (i64 a3e) ∧ f 4 = (u8 a4x) ∧ f 11 = (i64 s12.1) ∧ f 45 = p2 ∧ f 46 = (i64 ((a2rows.length : Int))) ∧ f 47 = (i64 s12.2) ∧ f 245 = undef ∧ Ext w0 w) G12 ?_ ?_
    · exact ⟨rfl, rfl, rfl, rfl, rfl, rfl, rfl, rfl, rfl, rfl, e2⟩
    rintro s12 _ _ w13 ⟨s0_13, s1_13, s2_13, s3_13, s4_13, s11_13, s45_13, s46_13, s47_13, s245_13, hE13⟩ H12 hr12; refine W_seq <| W_rg <| wa rfl (q_ltI rfl s47_13 s46_13) <| wnt <| W_seq <| ?_; refine W_cond _ rfl rfl (fun hb14 => ?_) (fun hb14 => ?_)
    · replace H12 := ifp hb14 H12; refine W_skip <| W_th <| W_seq <| W_block <| W_seq <| W_rg <| ?_; obtain ⟨c15, hc15, H12⟩ := bsi H12; refine wa rfl (q_adr rfl T23 s45_13 s47_13 (hp2.lift (Lift.ext hE13 _)) hc15) ?_; refine wlq_load rfl rfl rfl T23 rfl hp2 hc15 hE13 (fun v16 ha16 => ?_); refine av v16 rfl rfl <| wnt <| W_seq <| W_seq <| W_rg <| mv v16 rfl rfl <| wa rfl (q_len rfl T22.sl rfl (ha16.lift (Lift.ext hE13 _))) <| wa rfl (q_gtI rfl rfl rfl) <| ?_; refine wnt ?_; refine W_cond _ rfl rfl (fun hb17 => ?_) (fun hb17 => ?_)
      · replace H12 := ifp hb17 H12; refine W_seq <| W_rg <| av (.bool true) rfl rfl <| wnt <| W_ret <| th_r <| bk_r <| th_r <| ?_; obtain rfl := osi H12; obtain rfl := hr12 _ rfl; simp only [Sum.elim_inr] at H; refine th_r <| bk_r <| th_r <| th_r <| ?_; obtain rfl := osi H; refine rt1 (.bool true) rfl rfl rfl s245_13 ?_; exact ⟨rfl, hE13⟩
      replace H12 := ifn hb17 H12; refine W_skip <| W_th <| W_seq <| W_rg <| mv v16 rfl rfl <| wa rfl (q_len rfl T22.sl rfl (ha16.lift (Lift.ext hE13 _))) <| mv p2 rfl s2_13 <| ?_; obtain ⟨c18, hc18, H12⟩ := bsi H12; refine wa rfl (q_adr rfl T23 rfl rfl (hp2.lift (Lift.ext hE13 _)) hc18) ?_; refine wlq_load rfl rfl rfl T23 rfl hp2 hc18 hE13 (fun v19 ha19 => ?_); refine wa rfl (q_len rfl T22.sl rfl (ha19.lift (Lift.ext hE13 _))) <| wa rfl (q_neI rfl rfl rfl) <| wnt <| ?_; refine W_cond _ rfl rfl (fun hb20 => ?_) (fun hb20 => ?_)
      · replace H12 := (if_neg (ndec_t hb20)).symm.trans H12; refine W_rg <| av (i64 3) rfl rfl <| wl_nil <| bk_n <| W_th <| W_rg <| wa rfl (q_addI rfl s47_13 rfl) <| mv (i64 ((wI (s12.2 + 1)))) rfl rfl <| ?_; refine wl_nil ?_; obtain rfl := osi H12; exact ⟨_, rfl, s0_13, s1_13, s2_13, s3_13, s4_13, rfl, s45_13, s46_13, rfl, s245_13, hE13⟩
      replace H12 := (if_pos (ndec_f hb20)).symm.trans H12; refine W_skip <| bk_n <| W_th <| W_rg <| wa rfl (q_addI rfl s47_13 rfl) <| mv (i64 ((wI (s12.2 + 1)))) rfl rfl <| wl_nil <| ?_; obtain rfl := osi H12; exact ⟨_, rfl, s0_13, s1_13, s2_13, s3_13, s4_13, s11_13, s45_13, s46_13, rfl, s245_13, hE13⟩
    replace H12 := ifn hb14 H12; refine W_exit <| th_x <| ?_; obtain rfl := osi H12; obtain rfl := hr12 _ rfl; refine th_x <| bk_x <| ?_; exact ⟨_, rfl, s0_13, s1_13, s2_13, s3_13, s4_13, s11_13, s245_13, hE13⟩
  rintro _ w22 ⟨y12, rfl, s0_22, s1_22, s2_22, s3_22, s4_22, s11_22, s245_22, hE22⟩; simp only [Sum.elim_inl] at H; refine W_th <| W_seq <| W_rg <| ?_; obtain ⟨r23, hr23, H⟩ := bsi H; refine wls rfl rfl (stp_call (vs := []) Try.func6 rfl rfl rfl (ar0 ) (field_New_calls   r23 _ [] (Old.nil _)  hr23) ?_); rintro _ w23 ⟨v23, rfl, x23, i23_0⟩; refine ⟨_, rfl, ?_⟩; have e24 := hE22.trans x23; refine av v23 rfl rfl <| wnt <| W_seq <| W_rg <| mv v23 rfl rfl <| mv (i64 a0t) rfl s0_22 <| mv p1 rfl s1_22 <| mv p2 rfl s2_22 <| ?_; refine mv (i64 a3e) rfl s3_22 ?_; obtain ⟨r25, hr25, H⟩ := bsi H; refine wls rfl rfl (stp_call (vs := [v23, (i64 a0t), p1, p2, (i64 a3e)]) Try.func7 rfl rfl rfl (ar5 rfl rfl rfl rfl rfl) (mend_Rows_calls r23 a0t a1xs a2rows a3e v23 p1 p2 r25 _ [] (Old.nil _) i23_0 (hp1.lift (Lift.ext e24 _)) (hp2.lift (Lift.ext e24 _)) hr25) ?_); rintro _ w25 ⟨v25_0, rfl, x25, i25_0⟩; refine ⟨_, rfl, ?_⟩; replace i23_0 := i23_0.lift (Lift.ext x25 _); have e26 := e24.trans x25; refine mv (.tuple #[v25_0, (i64 r25.2)]) rfl rfl <| wa rfl (q_extract rfl rfl rfl) <| wa rfl (q_extract rfl rfl rfl) <| av v25_0 rfl rfl <| av (i64 r25.2) rfl rfl <| wnt <| W_seq <| W_rg <| ?_; refine mv v23 rfl rfl <| mv (i64 a0t) rfl s0_22 <| mv p1 rfl s1_22 <| mv p2 rfl s2_22 <| wa rfl (q_len rfl T23.sl rfl (hp2.lift (Lift.ext e26 _))) <| ?_; obtain ⟨c27, hc27, H⟩ := bsi H; refine wls rfl rfl (stp_make (L := []) (R := (Sc u8)) rfl T22 rfl rfl hc27 (fun _ _ => rfl) ?_); intro v27 w27 o27 n27 g27 l27; have x27 := grown_ext g27; have i27 : By w27 [] v27 c27 := OwK.slk (Sc.stab _) _ o27 (fun k hk => (Old.nil _) k (n27 k hk)) (fun _ h => h.2); replace i23_0 := i23_0.lift (Lift.ext x27 _); replace i25_0 := i25_0.lift (Lift.ext x27 _); have e28 := e26.trans x27; refine mv (i64 a3e) rfl s3_22 ?_; obtain ⟨r29, hr29, H⟩ := bsi H; refine wls rfl rfl (stp_call (vs := [v23, (i64 a0t), p1, v27, (i64 a3e)]) Try.func8 rfl rfl rfl (ar5 rfl rfl rfl rfl rfl) (mend_Column_calls r23 a0t a1xs c27 a3e v23 p1 v27 r29 _ (i23_0.lift (Lift.sub (L' := []) (fun _ _ => trivial))) (hp1.lift (Lift.ext e28 _)) (i27.lift (Lift.sub (L' := []) (fun _ _ => trivial))) hr29) ?_); rintro _ w29 ⟨v29_0, rfl, x29, n29_0, o29_0⟩; refine ⟨_, rfl, ?_⟩; have i29_0 : By w29 [] v29_0 r29.1 := SlK.avail o29_0 _ (fun k hk => (Old.nil _) k (n29_0 k hk))
  replace i23_0 := i23_0.lift (Lift.ext x29 _); replace i25_0 := i25_0.lift (Lift.ext x29 _); replace i27 := i27.lift (Lift.ext x29 _); have e30 := e28.trans x29; refine mv (.tuple #[v29_0, (i64 r29.2)]) rfl rfl <| wa rfl (q_extract rfl rfl rfl) <| wa rfl (q_extract rfl rfl rfl) <| av v29_0 rfl rfl <| av (i64 r29.2) rfl rfl <| wnt <| W_seq <| W_seq <| ?_; refine W_rg <| mv (i64 r29.2) rfl rfl <| wa rfl (q_neI rfl rfl rfl) <| wnt <| ?_; refine W_cond _ rfl rfl (fun hb31 => ?_) (fun hb31 => ?_)
  · replace H := (if_neg (ndec_t hb31)).symm.trans H; refine W_seq <| W_rg <| mv (i64 r25.2) rfl rfl <| mv (i64 r29.2) rfl rfl <| wa rfl (q_eqI rfl rfl rfl) <| ?_; refine wlb rfl rfl (q_move (v := (.bool ((decide (r25.2 = r29.2))))) rfl rfl) (fun hb32 => ?_) (fun hb32 => ?_)
    · replace H := ifp hb32 H; refine mv v25_0 rfl rfl <| wa rfl (q_eqRMd rfl rfl rfl rfl i25_0) <| wa rfl (q_pick_t (v := (.bool r25.1.isNone)) rfl rfl rfl) <| av (.bool r25.1.isNone) rfl rfl <| wnt <| W_ret <| th_r <| ?_; obtain rfl := osi H; refine rt1 (.bool r25.1.isNone) rfl rfl rfl s245_22 ?_; exact ⟨rfl, e30⟩
    replace H := ifn hb32 H; refine wlk rfl rfl <| wlk rfl rfl <| wa rfl (q_pick_f (v := (.bool false)) rfl rfl rfl) <| av (.bool false) rfl rfl <| wnt <| W_ret <| th_r <| ?_; obtain rfl := osi H; refine rt1 (.bool false) rfl rfl rfl s245_22 ?_; exact ⟨rfl, e30⟩
  replace H := (if_pos (ndec_f hb31)).symm.trans H; refine W_skip <| W_th <| W_seq <| W_seq <| W_rg <| mv (i64 y12) rfl s11_22 <| wa rfl (q_neI rfl rfl rfl) <| wnt <| ?_; refine W_cond _ rfl rfl (fun hb33 => ?_) (fun hb33 => ?_)
  · replace H := (if_neg (ndec_t hb33)).symm.trans H; refine W_seq <| W_rg <| mv (i64 r25.2) rfl rfl <| mv (i64 y12) rfl s11_22 <| wa rfl (q_eqI rfl rfl rfl) <| ?_; refine wlb rfl rfl (q_move (v := (.bool ((decide (r25.2 = y12))))) rfl rfl) (fun hb34 => ?_) (fun hb34 => ?_)
    · replace H := ifp hb34 H; refine mv v25_0 rfl rfl <| wa rfl (q_eqRMd rfl rfl rfl rfl i25_0) <| wa rfl (q_pick_t (v := (.bool r25.1.isNone)) rfl rfl rfl) <| av (.bool r25.1.isNone) rfl rfl <| wnt <| W_ret <| th_r <| ?_; obtain rfl := osi H; refine rt1 (.bool r25.1.isNone) rfl rfl rfl s245_22 ?_; exact ⟨rfl, e30⟩
    replace H := ifn hb34 H; refine wlk rfl rfl <| wlk rfl rfl <| wa rfl (q_pick_f (v := (.bool false)) rfl rfl rfl) <| av (.bool false) rfl rfl <| wnt <| W_ret <| th_r <| ?_; obtain rfl := osi H; refine rt1 (.bool false) rfl rfl rfl s245_22 ?_; exact ⟨rfl, e30⟩
  replace H := (if_pos (ndec_f hb33)).symm.trans H; refine W_skip <| W_th <| W_seq <| W_rg <| mv p2 rfl s2_22 <| ?_; obtain ⟨c35, hc35, H⟩ := bsi H; refine wa rfl (q_adr rfl T23 rfl rfl (hp2.lift (Lift.ext e30 _)) hc35) ?_; refine wlq_load rfl rfl rfl T23 rfl hp2 hc35 e30 (fun v36 ha36 => ?_); refine wa rfl (q_len rfl T22.sl rfl (ha36.lift (Lift.ext e30 _))) ?_; obtain ⟨c37, hc37, H⟩ := bsi H; refine wls rfl rfl (stp_make (L := []) (R := (Sc u8)) rfl T22 rfl rfl hc37 (fun _ _ => rfl) ?_); intro v37 w37 o37 n37 g37 l37; have x37 := grown_ext g37; replace i23_0 := i23_0.lift (Lift.call _ x37 n37); replace i25_0 := i25_0.lift (Lift.call _ x37 n37); replace i27 := i27.lift (Lift.call _ x37 n37); replace i29_0 := i29_0.lift (Lift.call _ x37 n37); have n39 := Nw.ext e30 n37; have e38 := e30.trans x37; refine av v37 rfl rfl <| wnt <| W_seq <| W_rg <| mv p2 rfl s2_22 <| wa rfl (q_len rfl T23.sl rfl (hp2.lift (Lift.ext e38 _))) <| ?_; obtain ⟨c40, hc40, H⟩ := bsi H; refine wls rfl rfl (stp_make (L := [v37]) (R := (Sc bl)) rfl T33 rfl rfl hc40 (fun _ _ => rfl) ?_); intro v40 w40 o40 n40 g40 l40; have x40 := grown_ext g40; have q41 : Nq v37 v40 := o37.nq n40; replace i23_0 := i23_0.lift (Lift.call _ x40 n40); replace i25_0 := i25_0.lift (Lift.call _ x40 n40); replace i27 := i27.lift (Lift.call _ x40 n40); replace i29_0 := i29_0.lift (Lift.call _ x40 n40); replace o37 := o37.extL (Sc.stab _) x40 (Lift.call _ x40 n40); have n43 := Nw.ext e38 n40; have e42 := e38.trans x40; refine av v40 rfl rfl <| wnt <| W_seq <| W_seq <| W_rg <| mv v37 rfl rfl <| wa rfl (q_len rfl T22.sl rfl (o37.rd (Sc.stab _))) <| mv (i64 0) rfl rfl <| ?_; refine wnt ?_; obtain ⟨x44, G44, H⟩ := bsi H; refine W_mid (fun f w => ∃ y44, x44 = .inl y44 ∧ f 0 = (i64 a0t) ∧ f 1 = p1 ∧ f 4 = (u8 a4x) ∧ f 15 = v25_0 ∧ f 16 = (i64 r25.2) ∧ f 19 = v37 ∧ f 20 = v40 ∧ f 245 = undef ∧ Ext w0 w ∧ OwK (Sc u8) w [v37, v40] 5 v37 y44.1 ∧ Nw w0 v37 ∧ OwK (Sc bl) w [v37, v40] 4 v40 y44.2 ∧ Nw w0 v40 ∧ Nq v37 v40 ∧ RcMd w [v37, v40] v25_0 r25.1) ?_ ?_
  · refine W_block ?_; refine W_loop (fun s44 f w => f 0 = (i64 a0t) ∧ f 1 = p1 ∧ f 2 = p2 ∧ f 3 = (i64 a3e) ∧ f 4 = (u8 a4x) ∧ f 15 = v25_0 ∧ f 16 = (i64 r25.2) ∧ f 19 = v37 ∧ f 20 = v40 ∧ f 110 = (i64 ((c37.length : Int))) ∧ f 111 = (i64 s44.2.2) ∧ f 245 = undef ∧ Ext w0 w ∧ OwK (Sc u8) w [v37, v40] 5 v37 s44.1 ∧ Nw w0 v37 ∧ OwK (Sc bl) w [v37, v40] 4 v40 s44.2.1 ∧ Nw w0 v40 ∧ Nq v37 v40 ∧ RcMd w [v37, v40] v25_0 r25.1) G44 ?_ ?_
    · exact ⟨s0_22, s1_22, s2_22, s3_22, s4_22, rfl, rfl, rfl, rfl, rfl, rfl, s245_22, e42, (o37.weak (Sc.stab _) (fun _ h => ⟨h.2.1, h.1, trivial⟩)), n39, (o40.weak (Sc.stab _) (fun _ h => ⟨h.2.1, h.1, trivial⟩)), n43, q41, (i25_0.lift (Lift.sub (fun _ h => ⟨h.2.1, h.1, trivial⟩)))⟩
    rintro s44 _ _ w45 ⟨s0_45, s1_45, s2_45, s3_45, s4_45, s15_45, s16_45, s19_45, s20_45, s110_45, s111_45, s245_45, hE45, o0_45, n0_45, o1_45, n1_45, q0_1_45, i0_45⟩ H44 hr44; refine W_seq <| W_rg <| wa rfl (q_ltI rfl s111_45 s110_45) <| wnt <| W_seq <| ?_; refine W_cond _ rfl rfl (fun hb46 => ?_) (fun hb46 => ?_)
    · replace H44 := ifp hb46 H44; refine W_skip <| W_th <| W_seq <| W_block <| W_seq <| W_rg <| mv (i64 s44.2.2) rfl s111_45 <| av (i64 s44.2.2) rfl rfl <| ?_; refine wnt <| W_seq <| W_rg <| av (.slice none 0 0) rfl rfl <| wnt <| W_seq <| W_seq <| W_rg <| ?_; refine mv p2 rfl s2_45 <| wa rfl (q_len rfl T23.sl rfl (hp2.lift (Lift.ext hE45 _))) <| mv (i64 0) rfl rfl <| wnt <| ?_; obtain ⟨x47, G47, H44⟩ := bsi H44; refine W_mid (fun f w => ∃ v22_90 : Value, f 0 = (i64 a0t) ∧ f 1 = p1 ∧ f 2 = p2 ∧ f 3 = (i64 a3e) ∧ f 4 = (u8 a4x) ∧ f 15 = v25_0 ∧ f 16 = (i64 r25.2) ∧ f 19 = v37 ∧ f 20 = v40 ∧ f 21 = (i64 s44.2.2) ∧ f 22 = v22_90 ∧ f 110 = (i64 ((c37.length : Int))) ∧ f 111 = (i64 s44.2.2) ∧ f 245 = undef ∧ Ext w0 w ∧ OwK (Sc u8) w [v37, v40, v22_90] 5 v37 s44.1 ∧ Nw w0 v37 ∧ OwK (Sc bl) w [v37, v40, v22_90] 4 v40 s44.2.1 ∧ Nw w0 v40 ∧ OwK (Sc u8) w [v37, v40, v22_90] 5 v22_90 x47 ∧ Nw w0 v22_90 ∧ Nq v37 v40 ∧ Nq v37 v22_90 ∧ Nq v40 v22_90 ∧ RcMd w [v37, v40, v22_90] v25_0 r25.1) ?_ ?_
      · refine W_block ?_; refine W_loop (fun s47 f w => ∃ v22_60 : Value, f 0 = (i64 a0t) ∧ f 1 = p1 ∧ f 2 = p2 ∧ f 3 = (i64 a3e) ∧ f 4 = (u8 a4x) ∧ f 15 = v25_0 ∧ f 16 = (i64 r25.2) ∧ f 19 = v37 ∧ f 20 = v40 ∧ f 21 = (i64 s44.2.2) ∧ f 22 = v22_60 ∧ f 110 = (i64 ((c37.length : Int))) ∧ f 111 = (i64 s44.2.2) ∧ f 114 = p2 ∧ f 115 = (i64 ((a2rows.length : Int))) ∧ f 116 = (i64 s47.2) ∧ f 245 = undef ∧ Ext w0 w ∧ OwK (Sc u8) w [v37, v40, v22_60] 5 v37 s44.1 ∧ Nw w0 v37 ∧ OwK (Sc bl) w [v37, v40, v22_60] 4 v40 s44.2.1 ∧ Nw w0 v40 ∧ OwK (Sc u8) w [v37, v40, v22_60] 5 v22_60 s47.1 ∧ Nw w0 v22_60 ∧ Nq v37 v40 ∧ Nq v37 v22_60 ∧ Nq v40 v22_60 ∧ RcMd w [v37, v40, v22_60] v25_0 r25.1) G47 ?_ ?_
        · exact ⟨(.slice none 0 0), s0_45, s1_45, s2_45, s3_45, s4_45, s15_45, s16_45, s19_45, s20_45, rfl, rfl, s110_45, s111_45, rfl, rfl, rfl, s245_45, hE45, (o0_45.weak (Sc.stab _) (fun _ h => ⟨h.1, h.2.1, nh_nil, trivial⟩)), n0_45, (o1_45.weak (Sc.stab _) (fun _ h => ⟨h.1, h.2.1, nh_nil, trivial⟩)), n1_45, (OwK.nil _ _ _ _), (Nw.nil _), q0_1_45, (Nq.nil _).symm, (Nq.nil _).symm, (i0_45.lift (Lift.sub (fun _ h => ⟨h.1, h.2.1, nh_nil, trivial⟩)))⟩
        rintro s47 _ _ w48 ⟨v22_48, s0_48, s1_48, s2_48, s3_48, s4_48, s15_48, s16_48, s19_48, s20_48, s21_48, s22_48, s110_48, s111_48, s114_48, s115_48, s116_48, s245_48, hE48, o0_48, n0_48, o1_48, n1_48, o2_48, n2_48, q0_1_48, q0_2_48, q1_2_48, i0_48⟩ H47 hr47; refine W_seq <| W_rg <| wa rfl (q_ltI rfl s116_48 s115_48) <| wnt <| W_seq <| ?_; refine W_cond _ rfl rfl (fun hb49 => ?_) (fun hb49 => ?_)
        · replace H47 := ifp hb49 H47; refine W_skip <| W_th <| W_seq <| W_block <| W_seq <| W_rg <| ?_; obtain ⟨c50, hc50, H47⟩ := bsi H47; refine wa rfl (q_adr rfl T23 s114_48 s116_48 (hp2.lift (Lift.ext hE48 _)) hc50) ?_; refine wlq_load rfl rfl rfl T23 rfl hp2 hc50 hE48 (fun v51 ha51 => ?_); refine av v51 rfl rfl <| wnt <| W_rg <| mv v22_48 rfl s22_48 <| mv v51 rfl rfl <| mv (i64 s44.2.2) rfl s21_48 <| ?_; obtain ⟨c52, hc52, H47⟩ := bsi H47; refine wa rfl (q_adr rfl T22 rfl rfl (ha51.lift (Lift.ext hE48 _)) hc52) <| wq rfl (q_loadS rfl T22 rfl (ha51.lift (Lift.ext hE48 _)) hc52) <| ?_; refine wls rfl rfl (stp_lit (L := [v37, v40, v22_48]) (R := (Sc u8)) [(u8 c52)] ([c52] : List UInt8) rfl T22 rfl (by exact ⟨rfl, rfl, trivial⟩) rfl (litC u8 (oneC_u8) (us := [(u8 c52)]) (l := ([c52] : List UInt8)) rfl) rfl (litS u8 (us := [(u8 c52)]) (l := ([c52] : List UInt8)) rfl) ?_); intro v53 w53 o53 n53 g53 l53; have x53 := grown_ext g53; have i53 : By w53 [v37, v40, v22_48] v53 (([c52] : List UInt8)) := OwK.slk (Sc.stab _) _ o53 (fun k hk => (Old.cons (Old.cons (Old.cons (Old.nil _) o2_48.lt) o1_48.lt) o0_48.lt) k (n53 k hk)) (fun _ h => h.2); replace i0_48 := i0_48.lift (Lift.ext x53 _); replace o0_48 := o0_48.extL (Sc.stab _) x53 (Lift.ext x53 _); replace o1_48 := o1_48.extL (Sc.stab _) x53 (Lift.ext x53 _); replace o2_48 := o2_48.extL (Sc.stab _) x53 (Lift.ext x53 _); have e54 := hE48.trans x53; obtain ⟨c55, hc55, H47⟩ := bsi H47; refine wls rfl rfl (stp_append (R := (Sc u8)) (v := v22_48) (u := v53) (Sc.stab _) [v37, v40] [] rfl T22 rfl rfl o2_48 i53 (fun _ _ h => h) hc55 oc_u8 ?_); intro v55 w55 o55 g55 nx55 l55; replace i0_48 := i0_48.lift l55; replace i53 := i53.lift l55; have q56 : Nq v37 v55 := o0_48.nxt q0_2_48 nx55; have q57 : Nq v40 v55 := o1_48.nxt q1_2_48 nx55; replace o0_48 := o0_48.other (Sc.stab _) g55 q0_2_48 l55; replace o1_48 := o1_48.other (Sc.stab _) g55 q1_2_48 l55; have e58 := e54.grown g55 n2_48; have n59 := Nw.nxt e54 n2_48 nx55; refine av v55 rfl rfl <| wl_nil <| bk_n <| W_th <| W_rg <| wa rfl (q_addI rfl s116_48 rfl) <| mv (i64 ((wI (s47.2 + 1)))) rfl rfl <| wl_nil <| ?_; obtain rfl := osi H47; exact ⟨_, rfl, v55, s0_48, s1_48, s2_48, s3_48, s4_48, s15_48, s16_48, s19_48, s20_48, s21_48, rfl, s110_48, s111_48, s114_48, s115_48, rfl, s245_48, e58, o0_48, n0_48, o1_48, n1_48, o55, n59, q0_1_48, q56, q57, i0_48⟩
        replace H47 := ifn hb49 H47; refine W_exit <| th_x <| ?_; obtain rfl := osi H47; obtain rfl := hr47 _ rfl; refine th_x <| bk_x <| ?_; exact ⟨v22_48, s0_48, s1_48, s2_48, s3_48, s4_48, s15_48, s16_48, s19_48, s20_48, s21_48, s22_48, s110_48, s111_48, s245_48, hE48, o0_48, n0_48, o1_48, n1_48, o2_48, n2_48, q0_1_48, q0_2_48, q1_2_48, i0_48⟩
      rintro _ w61 ⟨v22_61, s0_61, s1_61, s2_61, s3_61, s4_61, s15_61, s16_61, s19_61, s20_61, s21_61, s22_61, s110_61, s111_61, s245_61, hE61, o0_61, n0_61, o1_61, n1_61, o2_61, n2_61, q0_1_61, q0_2_61, q1_2_61, i0_61⟩; refine W_th <| W_seq <| W_rg <| mv (i64 a0t) rfl s0_61 <| mv p1 rfl s1_61 <| mv v22_61 rfl s22_61 <| mv (i64 a3e) rfl s3_61 <| ?_; obtain ⟨r62, hr62, H44⟩ := bsi H44; refine wls rfl rfl (stp_call (vs := [(i64 a0t), p1, v22_61, (i64 a3e)]) Try.func9 rfl rfl rfl (ar4 rfl rfl rfl rfl) (ref10_Column_calls a0t a1xs x47 a3e p1 v22_61 r62 _ (hp1.lift (Lift.ext hE61 _)) (o2_61.rd (Sc.stab _)) hr62) ?_); rintro _ w62 ⟨v62_0, rfl, x62, n62_0, o62_0⟩; refine ⟨_, rfl, ?_⟩; have i62_0 : By w62 [v37, v40, v22_61] v62_0 r62.1 := OwK.slk (Sc.stab _) _ (OwK.scal o62_0 (v62_0 :: [v37, v40, v22_61])) (fun k hk => (Old.cons (Old.cons (Old.cons (Old.nil _) o2_61.lt) o1_61.lt) o0_61.lt) k (n62_0 k hk)) (fun _ h => h.2); replace i0_61 := i0_61.lift (Lift.ext x62 _); replace o0_61 := o0_61.extL (Sc.stab _) x62 (Lift.ext x62 _); replace o1_61 := o1_61.extL (Sc.stab _) x62 (Lift.ext x62 _); replace o2_61 := o2_61.extL (Sc.stab _) x62 (Lift.ext x62 _); have e63 := hE61.trans x62; refine mv (.tuple #[v62_0, (.bool r62.2)]) rfl rfl <| wa rfl (q_extract rfl rfl rfl) <| wa rfl (q_extract rfl rfl rfl) <| av v62_0 rfl rfl <| av (.bool r62.2) rfl rfl <| wnt <| W_seq <| W_seq <| ?_; refine W_rg <| mv (.bool r62.2) rfl rfl <| wa rfl (q_not rfl rfl) <| wnt <| ?_; refine W_cond _ rfl rfl (fun hb65 => ?_) (fun hb65 => ?_)
      · replace H44 := (if_pos hb65).symm.trans H44; refine W_seq <| W_rg <| mv (i64 r25.2) rfl s16_61 <| wa rfl (q_eqI rfl rfl rfl) <| ?_; refine wlb rfl rfl (q_move (v := (.bool ((decide (r25.2 = 11))))) rfl rfl) (fun hb66 => ?_) (fun hb66 => ?_)
        · replace H44 := ifp hb66 H44; refine mv v25_0 rfl s15_61 <| wa rfl (q_eqRMd rfl rfl rfl rfl i0_61) <| wa rfl (q_pick_t (v := (.bool r25.1.isNone)) rfl rfl rfl) <| av (.bool r25.1.isNone) rfl rfl <| wnt <| W_ret <| th_r <| bk_r <| ?_; refine th_r ?_; obtain rfl := osi H44; obtain rfl := hr44 _ rfl; simp only [Sum.elim_inr] at H; refine th_r <| bk_r <| th_r <| th_r <| ?_; obtain rfl := osi H; refine rt1 (.bool r25.1.isNone) rfl rfl rfl s245_61 ?_; exact ⟨rfl, e63⟩
        replace H44 := ifn hb66 H44; refine wlk rfl rfl <| wlk rfl rfl <| wa rfl (q_pick_f (v := (.bool false)) rfl rfl rfl) <| av (.bool false) rfl rfl <| wnt <| W_ret <| th_r <| bk_r <| ?_; refine th_r ?_; obtain rfl := osi H44; obtain rfl := hr44 _ rfl; simp only [Sum.elim_inr] at H; refine th_r <| bk_r <| th_r <| th_r <| ?_; obtain rfl := osi H; refine rt1 (.bool false) rfl rfl rfl s245_61 ?_; exact ⟨rfl, e63⟩
      replace H44 := (if_neg (ne_true_of_eq_false hb65)).symm.trans H44; refine W_skip <| W_th <| W_seq <| W_rg <| mv v37 rfl s19_61 <| mv (i64 s44.2.2) rfl s21_61 <| mv v62_0 rfl rfl <| mv (u8 a4x) rfl s4_61 <| ?_; obtain ⟨r67, hr67, H44⟩ := bsi H44; refine wls rfl rfl (stp_call (vs := [v62_0, (u8 a4x)]) Try.func10 rfl rfl rfl (ar2 rfl rfl) (ref03_Eval_calls r62.1 a4x v62_0 r67 _ (i62_0.lift (Lift.sub (L' := []) (fun _ _ => trivial))) hr67) ?_); rintro _ w67 ⟨rfl, x67⟩; refine ⟨_, rfl, ?_⟩; replace i0_61 := i0_61.lift (Lift.ext x67 _); replace i62_0 := i62_0.lift (Lift.ext x67 _); replace o0_61 := o0_61.extL (Sc.stab _) x67 (Lift.ext x67 _); replace o1_61 := o1_61.extL (Sc.stab _) x67 (Lift.ext x67 _); replace o2_61 := o2_61.extL (Sc.stab _) x67 (Lift.ext x67 _); have e68 := e63.trans x67; obtain ⟨c69, hc69, H44⟩ := bsi H44; refine wa rfl (q_adr rfl T22 rfl rfl (o0_61.rd (Sc.stab _)) hc69) ?_; refine wln rfl rfl (stp_store (R := (Sc u8)) (u := (u8 r67)) (Sc.stab _) [] [v40, v22_61] rfl T22 rfl rfl o0_61 (put_of r67 hc69) rfl rfl ?_); intro w70 o70 g70 l70; replace i0_61 := i0_61.lift l70; replace i62_0 := i62_0.lift l70; replace o1_61 := o1_61.other (Sc.stab _) g70 q0_1_61.symm l70; replace o2_61 := o2_61.other (Sc.stab _) g70 q0_2_61.symm l70; have e71 := e68.grown g70 n0_61; refine wnt <| W_seq <| W_rg <| mv p1 rfl s1_61 <| wa rfl (q_len rfl T22.sl rfl (hp1.lift (Lift.ext e71 _))) <| mv (i64 0) rfl rfl <| wnt <| ?_; obtain ⟨x72, G72, H44⟩ := bsi H44; refine W_mid (fun f w => f 0 = (i64 a0t) ∧ f 1 = p1 ∧ f 2 = p2 ∧ f 3 = (i64 a3e) ∧ f 4 = (u8 a4x) ∧ f 15 = v25_0 ∧ f 16 = (i64 r25.2) ∧ f 19 = v37 ∧ f 20 = v40 ∧ f 110 = (i64 ((c37.length : Int))) ∧ f 111 = (i64 s44.2.2) ∧ f 245 = undef ∧ Ext w0 w ∧ OwK (Sc u8) w [v37, v40] 5 v37 ((s44.1.set (s44.2.2 : Int).toNat r67)) ∧ Nw w0 v37 ∧ OwK (Sc bl) w [v37, v40] 4 v40 x72 ∧ Nw w0 v40 ∧ Nq v37 v40 ∧ RcMd w [v37, v40] v25_0 r25.1) ?_ ?_
      · refine W_block ?_; refine W_loop (fun s72 f w => f 0 = (i64 a0t) ∧ f 1 = p1 ∧ f 2 = p2 ∧ f 3 = (i64 a3e) ∧ f 4 = (u8 a4x) ∧ f 15 = v25_0 ∧ f 16 = (i64 r25.2) ∧ f 19 = v37 ∧ f 20 = v40 ∧ f 22 = v22_61 ∧ f 25 = v62_0 ∧ f 110 = (i64 ((c37.length : Int))) ∧ f 111 = (i64 s44.2.2) ∧ f 151 = (i64 ((a1xs.length : Int))) ∧ f 152 = (i64 s72.2) ∧ f 245 = undef ∧ Ext w0 w ∧ OwK (Sc u8) w [v37, v40, v22_61] 5 v37 ((s44.1.set (s44.2.2 : Int).toNat r67)) ∧ Nw w0 v37 ∧ OwK (Sc bl) w [v37, v40, v22_61] 4 v40 s72.1 ∧ Nw w0 v40 ∧ OwK (Sc u8) w [v37, v40, v22_61] 5 v22_61 x47 ∧ Nw w0 v22_61 ∧ Nq v37 v40 ∧ Nq v37 v22_61 ∧ Nq v40 v22_61 ∧ RcMd w [v37, v40, v22_61] v25_0 r25.1 ∧ By w [v37, v40, v22_61] v62_0 r62.1) G72 ?_ ?_
        · exact ⟨s0_61, s1_61, s2_61, s3_61, s4_61, s15_61, s16_61, s19_61, s20_61, s22_61, rfl, s110_61, s111_61, rfl, rfl, s245_61, e71, o70, n0_61, o1_61, n1_61, o2_61, n2_61, q0_1_61, q0_2_61, q1_2_61, i0_61, i62_0⟩
        rintro s72 _ _ w73 ⟨s0_73, s1_73, s2_73, s3_73, s4_73, s15_73, s16_73, s19_73, s20_73, s22_73, s25_73, s110_73, s111_73, s151_73, s152_73, s245_73, hE73, o0_73, n0_73, o1_73, n1_73, o2_73, n2_73, q0_1_73, q0_2_73, q1_2_73, i0_73, i1_73⟩ H72 hr72; refine W_seq <| W_rg <| wa rfl (q_ltI rfl s152_73 s151_73) <| wnt <| W_seq <| ?_; refine W_cond _ rfl rfl (fun hb74 => ?_) (fun hb74 => ?_)
        · replace H72 := ifp hb74 H72; refine W_skip <| W_th <| W_seq <| W_block <| W_seq <| W_rg <| mv (i64 s72.2) rfl s152_73 <| av (i64 s72.2) rfl rfl <| ?_; refine wnt ?_; refine W_draw [5, 11, 16] [(0, 0), (1, 0), (2, 0), (3, 0), (4, 0), (5, 1), (6, 0), (7, 0), (8, 0), (9, 0), (10, 0), (11, 1), (13, 0), (14, 0), (15, 0), (16, 1), (12, 2), (17, 0), (18, 0), (19, 0), (20, 2)] mixed (by kernel_rfl) (by kernel_rfl) (by kernel_rfl) (by kernel_rfl) ?_; have x75 := Ext.drew w73; replace i0_73 := i0_73.lift (Lift.ext x75 _); replace i1_73 := i1_73.lift (Lift.ext x75 _); replace o0_73 := o0_73.extL (Sc.stab _) x75 (Lift.ext x75 _); replace o1_73 := o1_73.extL (Sc.stab _) x75 (Lift.ext x75 _); replace o2_73 := o2_73.extL (Sc.stab _) x75 (Lift.ext x75 _); have e76 := hE73.trans x75; refine sv v40 rfl rfl s20_73 <| sv (i64 s72.2) rfl rfl rfl <| sv v40 rfl rfl s20_73 <| sv (i64 s72.2) rfl rfl rfl <| ?_; obtain ⟨c77, hc77, H72⟩ := bsi H72; refine sa rfl rfl (q_adr rfl T33 rfl rfl (o1_73.rd (Sc.stab _)) hc77) <| sq rfl rfl (q_loadS rfl T33 rfl (o1_73.rd (Sc.stab _)) hc77) <| ?_; refine wsb rfl rfl rfl (q_move (v := (.bool c77)) rfl rfl) (fun hb78 => ?_) (fun hb78 => ?_)
          · replace H72 := (if_pos hb78).symm.trans H72; refine wsk rfl rfl rfl ?_; refine wsk rfl rfl rfl ?_; refine wsk rfl rfl rfl ?_; refine wsk rfl rfl rfl ?_; refine wsk rfl rfl rfl ?_; refine wsk rfl rfl rfl ?_; refine wsk rfl rfl rfl ?_; refine wsk rfl rfl rfl ?_; refine wsk rfl rfl rfl ?_; refine wsk rfl rfl rfl ?_; refine wsk rfl rfl rfl ?_; refine sa rfl rfl (q_pick_t (v := (.bool true)) rfl rfl rfl) <| sa rfl rfl (q_adr rfl T33 rfl rfl (o1_73.rd (Sc.stab _)) hc77) <| ?_; refine wsn rfl (by kernel_rfl) rfl rfl (stp_store (R := (Sc bl)) (u := (.bool true)) (Sc.stab _) [v37] [v22_61] rfl T33 rfl rfl o1_73 (put_of true hc77) rfl rfl ?_); intro w79 o79 g79 l79; replace i0_73 := i0_73.lift l79; replace i1_73 := i1_73.lift l79; replace o0_73 := o0_73.other (Sc.stab _) g79 q0_1_73 l79; replace o2_73 := o2_73.other (Sc.stab _) g79 q1_2_73.symm l79; have e80 := e76.grown g79 n1_73; refine ws_nil ?_; refine bk_n <| W_th <| W_rg <| wa rfl (q_addI rfl s152_73 rfl) <| mv (i64 ((wI (s72.2 + 1)))) rfl rfl <| wl_nil <| ?_; obtain rfl := osi H72; exact ⟨_, rfl, s0_73, s1_73, s2_73, s3_73, s4_73, s15_73, s16_73, s19_73, s20_73, s22_73, s25_73, s110_73, s111_73, s151_73, rfl, s245_73, e80, o0_73, n0_73, o79, n1_73, o2_73, n2_73, q0_1_73, q0_2_73, q1_2_73, i0_73, i1_73⟩
          replace H72 := (if_neg (ne_true_of_eq_false hb78)).symm.trans H72; refine sv v62_0 rfl rfl s25_73 <| sv p1 rfl rfl s1_73 <| sv (i64 s72.2) rfl rfl rfl <| ?_; obtain ⟨c81, hc81, H72⟩ := bsi H72; refine sa rfl rfl (q_adr rfl T22 rfl rfl (hp1.lift (Lift.ext e76 _)) hc81) <| sq rfl rfl (q_loadS rfl T22 rfl (hp1.lift (Lift.ext e76 _)) hc81) <| sv v22_61 rfl rfl s22_73 <| sv (i64 s72.2) rfl rfl rfl <| ?_; obtain ⟨c82, hc82, H72⟩ := bsi H72; refine sa rfl rfl (q_adr rfl T22 rfl rfl (o2_73.rd (Sc.stab _)) hc82) <| sq rfl rfl (q_loadS rfl T22 rfl (o2_73.rd (Sc.stab _)) hc82) <| ?_; obtain ⟨r83, hr83, H72⟩ := bsi H72; refine wss rfl rfl rfl (stp_call (vs := [v62_0, (u8 c81)]) Try.func10 rfl rfl rfl (ar2 rfl rfl) (ref03_Eval_calls r62.1 c81 v62_0 r83 _ (i1_73.lift (Lift.sub (L' := []) (fun _ _ => trivial))) hr83) ?_); rintro _ w83 ⟨rfl, x83⟩; refine ⟨_, rfl, x83, ?_⟩; replace i0_73 := i0_73.lift (Lift.ext x83 _); replace i1_73 := i1_73.lift (Lift.ext x83 _); replace o0_73 := o0_73.extL (Sc.stab _) x83 (Lift.ext x83 _); replace o1_73 := o1_73.extL (Sc.stab _) x83 (Lift.ext x83 _); replace o2_73 := o2_73.extL (Sc.stab _) x83 (Lift.ext x83 _); have e84 := e76.trans x83; refine sa rfl rfl (q_ne8 rfl rfl rfl) <| sa rfl rfl (q_pick_f (v := (.bool ((!decide (r83 = c82))))) rfl rfl rfl) <| sa rfl rfl (q_adr rfl T33 rfl rfl (o1_73.rd (Sc.stab _)) hc77) <| ?_; refine wsn rfl (by kernel_rfl) rfl rfl (stp_store (R := (Sc bl)) (u := (.bool ((!decide (r83 = c82))))) (Sc.stab _) [v37] [v22_61] rfl T33 rfl rfl o1_73 (put_of ((!decide (r83 = c82))) hc77) rfl rfl ?_); intro w85 o85 g85 l85; replace i0_73 := i0_73.lift l85; replace i1_73 := i1_73.lift l85; replace o0_73 := o0_73.other (Sc.stab _) g85 q0_1_73 l85; replace o2_73 := o2_73.other (Sc.stab _) g85 q1_2_73.symm l85; have e86 := e84.grown g85 n1_73; refine ws_nil ?_; refine bk_n <| W_th <| W_rg <| wa rfl (q_addI rfl s152_73 rfl) <| mv (i64 ((wI (s72.2 + 1)))) rfl rfl <| wl_nil <| ?_; obtain rfl := osi H72; exact ⟨_, rfl, s0_73, s1_73, s2_73, s3_73, s4_73, s15_73, s16_73, s19_73, s20_73, s22_73, s25_73, s110_73, s111_73, s151_73, rfl, s245_73, e86, o0_73, n0_73, o85, n1_73, o2_73, n2_73, q0_1_73, q0_2_73, q1_2_73, i0_73, i1_73⟩
        replace H72 := ifn hb74 H72; refine W_exit <| th_x <| ?_; obtain rfl := osi H72; obtain rfl := hr72 _ rfl; refine th_x <| bk_x <| ?_; exact ⟨s0_73, s1_73, s2_73, s3_73, s4_73, s15_73, s16_73, s19_73, s20_73, s110_73, s111_73, s245_73, hE73, (o0_73.weak (Sc.stab _) (fun _ h => ⟨h.1, h.2.1, trivial⟩)), n0_73, (o1_73.weak (Sc.stab _) (fun _ h => ⟨h.1, h.2.1, trivial⟩)), n1_73, q0_1_73, (i0_73.lift (Lift.sub (fun _ h => ⟨h.1, h.2.1, trivial⟩)))⟩
      rintro _ w88 ⟨s0_88, s1_88, s2_88, s3_88, s4_88, s15_88, s16_88, s19_88, s20_88, s110_88, s111_88, s245_88, hE88, o0_88, n0_88, o1_88, n1_88, q0_1_88, i0_88⟩; refine bk_n <| W_th <| W_rg <| wa rfl (q_addI rfl s111_88 rfl) <| mv (i64 ((wI (s44.2.2 + 1)))) rfl rfl <| wl_nil <| ?_; obtain rfl := osi H44; exact ⟨_, rfl, s0_88, s1_88, s2_88, s3_88, s4_88, s15_88, s16_88, s19_88, s20_88, s110_88, rfl, s245_88, hE88, o0_88, n0_88, o1_88, n1_88, q0_1_88, i0_88⟩
    replace H44 := ifn hb46 H44; refine W_exit <| th_x <| ?_; obtain rfl := osi H44; obtain rfl := hr44 _ rfl; refine th_x <| bk_x <| ?_; exact ⟨_, rfl, s0_45, s1_45, s4_45, s15_45, s16_45, s19_45, s20_45, s245_45, hE45, o0_45, n0_45, o1_45, n1_45, q0_1_45, i0_45⟩
  rintro _ w92 ⟨y44, rfl, s0_92, s1_92, s4_92, s15_92, s16_92, s19_92, s20_92, s245_92, hE92, o0_92, n0_92, o1_92, n1_92, q0_1_92, i0_92⟩; simp only [Sum.elim_inl] at H; refine W_th <| W_seq <| W_seq <| ?_; refine W_draw [6, 8] [(0, 0), (1, 0), (2, 0), (3, 0), (4, 0), (7, 0), (8, 1), (5, 2), (6, 1), (9, 0), (10, 0)] mixed (by kernel_rfl) (by kernel_rfl) (by kernel_rfl) (by kernel_rfl) ?_; have x93 := Ext.drew w92; replace i0_92 := i0_92.lift (Lift.ext x93 _); replace o0_92 := o0_92.extL (Sc.stab _) x93 (Lift.ext x93 _); replace o1_92 := o1_92.extL (Sc.stab _) x93 (Lift.ext x93 _); have e94 := hE92.trans x93; refine sv (i64 r25.2) rfl rfl s16_92 <| sa rfl rfl (q_neI rfl rfl rfl) <| ?_; refine wsb rfl rfl rfl (q_move (v := (.bool ((!decide (r25.2 = 0))))) rfl rfl) (fun hb95 => ?_) (fun hb95 => ?_)
  · replace H := (if_neg (ndec_t hb95)).symm.trans H; refine wsk rfl rfl rfl ?_; refine wsk rfl rfl rfl ?_; refine wsk rfl rfl rfl ?_; refine wsk rfl rfl rfl ?_; refine wsk rfl rfl rfl ?_; refine wsk rfl rfl rfl ?_; refine wsk rfl rfl rfl ?_; refine sa rfl rfl (q_pick_t (v := (.bool true)) rfl rfl rfl) ?_; refine ws_nil ?_; refine W_th ?_; refine W_cond true rfl rfl (fun _ => ?_) (fun hb => by cases hb); refine W_seq <| W_rg <| av (.bool false) rfl rfl <| wnt <| W_ret <| th_r <| ?_; obtain rfl := osi H; refine rt1 (.bool false) rfl rfl rfl s245_92 ?_; exact ⟨rfl, e94⟩
  replace H := (if_pos (ndec_f hb95)).symm.trans H; refine sv v25_0 rfl rfl s15_92 <| sv (u8 a4x) rfl rfl s4_92 <| sv v37 rfl rfl s19_92 <| sq rfl rfl (q_str rfl T22 rfl rfl rfl (o0_92.rd (Sc.stab _))) <| ?_; obtain ⟨r96, hr96, H⟩ := bsi H; refine wss rfl rfl rfl (stp_call (vs := [v25_0, (u8 a4x)]) Try.func11 rfl rfl rfl (ar2 rfl rfl) (mend_At_calls r25.1 a4x v25_0 r96 _ (i0_92.lift (Lift.sub (L' := []) (fun _ _ => trivial))) hr96) ?_); rintro _ w96 ⟨v96, rfl, x96, n96_0, o96_0⟩; refine ⟨_, rfl, x96, ?_⟩; have i96_0 : By w96 [v37, v40] v96 r96 := OwK.slk (Sc.stab _) _ (OwK.scal o96_0 (v96 :: [v37, v40])) (fun k hk => (Old.cons (Old.cons (Old.nil _) o1_92.lt) o0_92.lt) k (n96_0 k hk)) (fun _ h => h.2); replace i0_92 := i0_92.lift (Lift.ext x96 _); replace o0_92 := o0_92.extL (Sc.stab _) x96 (Lift.ext x96 _); replace o1_92 := o1_92.extL (Sc.stab _) x96 (Lift.ext x96 _); have e97 := e94.trans x96; refine sq rfl rfl (q_str rfl T22 rfl rfl rfl i96_0) <| sa rfl rfl (q_neS rfl rfl rfl) <| sa rfl rfl (q_pick_f (v := (.bool ((!decide (r96 = y44.1))))) rfl rfl rfl) <| ?_; refine ws_nil ?_; refine W_th ?_; refine W_cond _ rfl rfl (fun hb98 => ?_) (fun hb98 => ?_)
  · replace H := (if_neg (ndec_t hb98)).symm.trans H; refine W_seq <| W_rg <| av (.bool false) rfl rfl <| wnt <| W_ret <| th_r <| ?_; obtain rfl := osi H; refine rt1 (.bool false) rfl rfl rfl s245_92 ?_; exact ⟨rfl, e97⟩
  replace H := (if_pos (ndec_f hb98)).symm.trans H; refine W_skip <| W_th <| W_seq <| W_rg <| av (i64 0) rfl rfl <| wnt <| W_seq <| W_seq <| ?_; refine W_rg <| mv v40 rfl s20_92 <| wa rfl (q_len rfl T33.sl rfl (o1_92.rd (Sc.stab _))) <| mv (i64 0) rfl rfl <| wnt <| ?_; obtain ⟨x99, G99, H⟩ := bsi H; refine W_mid (fun f w => ∃ y99, x99 = .inl y99 ∧ f 0 = (i64 a0t) ∧ f 1 = p1 ∧ f 15 = v25_0 ∧ f 28 = (i64 y99) ∧ f 245 = undef ∧ Ext w0 w ∧ RcMd w [] v25_0 r25.1) ?_ ?_
  · refine W_block ?_; refine W_loop (fun s99 f w => f 0 = (i64 a0t) ∧ f 1 = p1 ∧ f 15 = v25_0 ∧ f 28 = (i64 s99.1) ∧ f 188 = v40 ∧ f 189 = (i64 ((y44.2.length : Int))) ∧ f 190 = (i64 s99.2) ∧ f 245 = undef ∧ Ext w0 w ∧ OwK (Sc bl) w [v40] 4 v40 y44.2 ∧ Nw w0 v40 ∧ RcMd w [v40] v25_0 r25.1) G99 ?_ ?_
    · exact ⟨s0_92, s1_92, s15_92, rfl, rfl, rfl, rfl, s245_92, e97, (o1_92.weak (Sc.stab _) (fun _ h => ⟨h.2.1, trivial⟩)), n1_92, (i0_92.lift (Lift.sub (fun _ h => ⟨h.2.1, trivial⟩)))⟩
    rintro s99 _ _ w100 ⟨s0_100, s1_100, s15_100, s28_100, s188_100, s189_100, s190_100, s245_100, hE100, o0_100, n0_100, i0_100⟩ H99 hr99; refine W_seq <| W_rg <| wa rfl (q_ltI rfl s190_100 s189_100) <| wnt <| W_seq <| ?_; refine W_cond _ rfl rfl (fun hb101 => ?_) (fun hb101 => ?_)
    · replace H99 := ifp hb101 H99; refine W_skip <| W_th <| W_seq <| W_block <| W_seq <| W_rg <| mv (i64 s99.2) rfl s190_100 <| ?_; obtain ⟨c102, hc102, H99⟩ := bsi H99; refine wa rfl (q_adr rfl T33 s188_100 s190_100 (o0_100.rd (Sc.stab _)) hc102) <| wq rfl (q_loadS rfl T33 rfl (o0_100.rd (Sc.stab _)) hc102) <| av (i64 s99.2) rfl rfl <| av (.bool c102) rfl rfl <| wnt <| W_seq <| W_seq <| W_rg <| ?_; refine mv (.bool c102) rfl rfl <| wa rfl (q_not rfl rfl) <| wnt <| ?_; refine W_cond _ rfl rfl (fun hb103 => ?_) (fun hb103 => ?_)
      · replace H99 := (if_pos hb103).symm.trans H99; refine W_exit <| th_x <| bk_x <| W_th <| W_rg <| wa rfl (q_addI rfl s190_100 rfl) <| mv (i64 ((wI (s99.2 + 1)))) rfl rfl <| wl_nil <| ?_; obtain rfl := osi H99; exact ⟨_, rfl, s0_100, s1_100, s15_100, s28_100, s188_100, s189_100, rfl, s245_100, hE100, o0_100, n0_100, i0_100⟩
      replace H99 := (if_neg (ne_true_of_eq_false hb103)).symm.trans H99; refine W_skip <| W_th <| W_seq <| W_seq <| W_rg <| mv (i64 s99.1) rfl s28_100 <| mv v25_0 rfl s15_100 <| ?_; obtain ⟨r104, hr104, H99⟩ := bsi H99; refine wls rfl rfl (stp_call (vs := [v25_0]) Try.func12 rfl rfl rfl (ar1 rfl) (mend_Wrong_calls r25.1 v25_0 r104 _ (i0_100.lift (Lift.sub (L' := []) (fun _ _ => trivial))) hr104) ?_); rintro _ w104 ⟨v104, rfl, x104, n104_0, o104_0⟩; refine ⟨_, rfl, ?_⟩; have i104_0 : In w104 [v40] v104 r104 := OwK.slk (Sc.stab _) _ (OwK.scal o104_0 (v104 :: [v40])) (fun k hk => (Old.cons (Old.nil _) o0_100.lt) k (n104_0 k hk)) (fun _ h => h.2); replace i0_100 := i0_100.lift (Lift.ext x104 _); replace o0_100 := o0_100.extL (Sc.stab _) x104 (Lift.ext x104 _); have e105 := hE100.trans x104; refine wa rfl (q_len rfl T38.sl rfl i104_0) <| wa rfl (q_geI rfl rfl rfl) <| ?_; refine wlb rfl rfl (q_move (v := (.bool ((decide ((r104.length : Int) ≤ s99.1))))) rfl rfl) (fun hb106 => ?_) (fun hb106 => ?_)
      · replace H99 := ifp hb106 H99; refine wlk rfl rfl <| wlk rfl rfl <| wlk rfl rfl <| wlk rfl rfl <| wlk rfl rfl <| wlk rfl rfl <| wlk rfl rfl <| wa rfl (q_pick_t (v := (.bool true)) rfl rfl rfl) <| ?_; refine wnt ?_; refine W_cond true rfl rfl (fun _ => ?_) (fun hb => by cases hb); refine W_seq <| W_rg <| av (.bool false) rfl rfl <| wnt <| W_ret <| th_r <| bk_r <| th_r <| ?_; obtain rfl := osi H99; obtain rfl := hr99 _ rfl; simp only [Sum.elim_inr] at H; refine th_r <| bk_r <| th_r <| th_r <| ?_; obtain rfl := osi H; refine rt1 (.bool false) rfl rfl rfl s245_100 ?_; exact ⟨rfl, e105⟩
      replace H99 := ifn hb106 H99; refine mv v25_0 rfl s15_100 ?_; obtain ⟨r107, hr107, H99⟩ := bsi H99; refine wls rfl rfl (stp_call (vs := [v25_0]) Try.func12 rfl rfl rfl (ar1 rfl) (mend_Wrong_calls r25.1 v25_0 r107 _ (i0_100.lift (Lift.sub (L' := []) (fun _ _ => trivial))) hr107) ?_); rintro _ w107 ⟨v107, rfl, x107, n107_0, o107_0⟩; refine ⟨_, rfl, ?_⟩; have i107_0 : In w107 [v40] v107 r107 := OwK.slk (Sc.stab _) _ (OwK.scal o107_0 (v107 :: [v40])) (fun k hk => (Old.cons (Old.nil _) o0_100.lt) k (n107_0 k hk)) (fun _ h => h.2); replace i0_100 := i0_100.lift (Lift.ext x107 _); replace i104_0 := i104_0.lift (Lift.ext x107 _); replace o0_100 := o0_100.extL (Sc.stab _) x107 (Lift.ext x107 _); have e108 := e105.trans x107; refine mv (i64 s99.1) rfl s28_100 ?_; obtain ⟨c109, hc109, H99⟩ := bsi H99; refine wa rfl (q_adr rfl T38 rfl rfl i107_0 hc109) <| wq rfl (q_loadS rfl T38 rfl i107_0 hc109) <| mv (i64 s99.2) rfl rfl <| wa rfl (q_neI rfl rfl rfl) <| wa rfl (q_pick_f (v := (.bool ((!decide (c109 = s99.2))))) rfl rfl rfl) <| wnt <| ?_; refine W_cond _ rfl rfl (fun hb110 => ?_) (fun hb110 => ?_)
      · replace H99 := (if_neg (ndec_t hb110)).symm.trans H99; refine W_seq <| W_rg <| av (.bool false) rfl rfl <| wnt <| W_ret <| th_r <| bk_r <| th_r <| ?_; obtain rfl := osi H99; obtain rfl := hr99 _ rfl; simp only [Sum.elim_inr] at H; refine th_r <| bk_r <| th_r <| th_r <| ?_; obtain rfl := osi H; refine rt1 (.bool false) rfl rfl rfl s245_100 ?_; exact ⟨rfl, e108⟩
      replace H99 := (if_pos (ndec_f hb110)).symm.trans H99; refine W_skip <| W_th <| W_rg <| mv (i64 s99.1) rfl s28_100 <| wa rfl (q_addI rfl rfl rfl) <| av (i64 ((wI (s99.1 + 1)))) rfl rfl <| wl_nil <| bk_n <| ?_; refine W_th <| W_rg <| wa rfl (q_addI rfl s190_100 rfl) <| mv (i64 ((wI (s99.2 + 1)))) rfl rfl <| wl_nil <| ?_; obtain rfl := osi H99; exact ⟨_, rfl, s0_100, s1_100, s15_100, rfl, s188_100, s189_100, rfl, s245_100, e108, o0_100, n0_100, i0_100⟩
    replace H99 := ifn hb101 H99; refine W_exit <| th_x <| ?_; obtain rfl := osi H99; obtain rfl := hr99 _ rfl; refine th_x <| bk_x <| ?_; exact ⟨_, rfl, s0_100, s1_100, s15_100, s28_100, s245_100, hE100, (i0_100.lift (Lift.sub (fun _ h => trivial)))⟩
  rintro _ w112 ⟨y99, rfl, s0_112, s1_112, s15_112, s28_112, s245_112, hE112, i0_112⟩; simp only [Sum.elim_inl] at H; refine W_th <| W_seq <| W_rg <| av (.pointer none) rfl rfl <| wnt <| W_seq <| W_rg <| mv (i64 y99) rfl s28_112 <| ?_; refine mv v25_0 rfl s15_112 ?_; obtain ⟨r113, hr113, H⟩ := bsi H; refine wls rfl rfl (stp_call (vs := [v25_0]) Try.func12 rfl rfl rfl (ar1 rfl) (mend_Wrong_calls r25.1 v25_0 r113 _ (i0_112.lift (Lift.sub (L' := []) (fun _ _ => trivial))) hr113) ?_); rintro _ w113 ⟨v113, rfl, x113, n113_0, o113_0⟩; refine ⟨_, rfl, ?_⟩; have i113_0 : In w113 [] v113 r113 := OwK.slk (Sc.stab _) _ (OwK.scal o113_0 (v113 :: [])) (fun k hk => (Old.nil _) k (n113_0 k hk)) (fun _ h => h.2); replace i0_112 := i0_112.lift (Lift.ext x113 _); have e114 := hE112.trans x113; refine wa rfl (q_len rfl T38.sl rfl i113_0) <| wa rfl (q_eqI rfl rfl rfl) <| ?_; refine wlb rfl rfl (q_move (v := (.bool ((decide (y99 = (r113.length : Int)))))) rfl rfl) (fun hb115 => ?_) (fun hb115 => ?_)
  · replace H := ifp hb115 H; refine mv (.pointer none) rfl rfl ?_; obtain ⟨r116, hr116, H⟩ := bsi H; refine wls rfl rfl (stp_call (vs := [(.pointer none), (u8 1)]) Try.func11 rfl rfl rfl (ar2 rfl (by exact (cst8 (1 : UInt8) rfl))) (mend_At_calls (none : Option (Bool × List UInt8 × List (List UInt8) × List Int)) (1 : UInt8) (.pointer none) r116 _ (RcMd.nil _ _) hr116) ?_); rintro _ w116 ⟨v116, rfl, x116, n116_0, o116_0⟩; refine ⟨_, rfl, ?_⟩; have i116_0 : By w116 [] v116 r116 := OwK.slk (Sc.stab _) _ (OwK.scal o116_0 (v116 :: [])) (fun k hk => (Old.nil _) k (n116_0 k hk)) (fun _ h => h.2); replace i0_112 := i0_112.lift (Lift.ext x116 _); replace i113_0 := i113_0.lift (Lift.ext x116 _); have e117 := e114.trans x116; refine wa rfl (q_len rfl T22.sl rfl i116_0) <| mv (.pointer none) rfl rfl <| ?_; obtain ⟨r118, hr118, H⟩ := bsi H; refine wls rfl rfl (stp_call (vs := [(.pointer none)]) Try.func12 rfl rfl rfl (ar1 rfl) (mend_Wrong_calls (none : Option (Bool × List UInt8 × List (List UInt8) × List Int)) (.pointer none) r118 _ (RcMd.nil _ _) hr118) ?_); rintro _ w118 ⟨v118, rfl, x118, n118_0, o118_0⟩; refine ⟨_, rfl, ?_⟩; have i118_0 : In w118 [] v118 r118 := OwK.slk (Sc.stab _) _ (OwK.scal o118_0 (v118 :: [])) (fun k hk => (Old.nil _) k (n118_0 k hk)) (fun _ h => h.2); replace i0_112 := i0_112.lift (Lift.ext x118 _); replace i113_0 := i113_0.lift (Lift.ext x118 _); replace i116_0 := i116_0.lift (Lift.ext x118 _); have e119 := e117.trans x118; refine wa rfl (q_len rfl T38.sl rfl i118_0) <| wa rfl (q_addI rfl rfl rfl) <| wa rfl (q_eqI rfl rfl rfl) <| wa rfl (q_pick_t (v := (.bool ((decide ((wI ((r116.length : Int) + (r118.length : Int))) = 0))))) rfl rfl rfl) <| ?_; refine wlb rfl rfl (q_move (v := (.bool ((decide ((wI ((r116.length : Int) + (r118.length : Int))) = 0))))) rfl rfl) (fun hb120 => ?_) (fun hb120 => ?_)
    · replace H := ifp hb120 H; refine mv p1 rfl s1_112 <| wa rfl (q_len rfl T22.sl rfl (hp1.lift (Lift.ext e119 _))) <| mv (i64 a0t) rfl s0_112 <| ?_; obtain ⟨r121, hr121, H⟩ := bsi H; refine wls rfl rfl (stp_call (vs := [(i64 ((a1xs.length : Int))), (i64 a0t)]) Try.func13 rfl rfl rfl (ar2 rfl rfl) (mend_Radius_calls (a1xs.length : Int) a0t  r121 _  hr121) ?_); rintro _ w121 ⟨rfl, x121⟩; refine ⟨_, rfl, ?_⟩; replace i0_112 := i0_112.lift (Lift.ext x121 _); replace i113_0 := i113_0.lift (Lift.ext x121 _); replace i116_0 := i116_0.lift (Lift.ext x121 _); replace i118_0 := i118_0.lift (Lift.ext x121 _); have e122 := e119.trans x121; refine mv p1 rfl s1_112 <| wa rfl (q_len rfl T22.sl rfl (hp1.lift (Lift.ext e122 _))) <| mv (i64 a0t) rfl s0_112 <| wa rfl (q_subI rfl rfl rfl) <| ?_; obtain ⟨c123, hc123, H⟩ := bsi H; refine wa rfl (q_divI rfl rfl rfl hc123) <| wa rfl (q_eqI rfl rfl rfl) <| wa rfl (q_pick_t (v := (.bool ((decide (r121 = c123))))) rfl rfl rfl) <| ?_; refine wlb rfl rfl (q_move (v := (.bool ((decide (r121 = c123))))) rfl rfl) (fun hb124 => ?_) (fun hb124 => ?_)
      · replace H := ifp hb124 H; obtain ⟨r125, hr125, H⟩ := bsi H; refine wls rfl rfl (stp_call (vs := [(i64 1), (i64 3)]) Try.func13 rfl rfl rfl (ar2 rfl rfl) (mend_Radius_calls 1 3  r125 _  hr125) ?_); rintro _ w125 ⟨rfl, x125⟩; refine ⟨_, rfl, ?_⟩; replace i0_112 := i0_112.lift (Lift.ext x125 _); replace i113_0 := i113_0.lift (Lift.ext x125 _); replace i116_0 := i116_0.lift (Lift.ext x125 _); replace i118_0 := i118_0.lift (Lift.ext x125 _); have e126 := e122.trans x125; refine wa rfl (q_eqI rfl rfl rfl) <| wa rfl (q_pick_t (v := (.bool ((decide (r125 = 0))))) rfl rfl rfl) <| av (.bool ((decide (r125 = 0)))) rfl rfl <| wnt <| W_ret <| ?_; obtain rfl := osi H; refine rt1 (.bool ((decide (r125 = 0)))) rfl rfl rfl s245_112 ?_; exact ⟨rfl, e126⟩
      replace H := ifn hb124 H; refine wlk rfl rfl <| wlk rfl rfl <| wa rfl (q_pick_f (v := (.bool false)) rfl rfl rfl) <| av (.bool false) rfl rfl <| wnt <| W_ret <| ?_; obtain rfl := osi H; refine rt1 (.bool false) rfl rfl rfl s245_112 ?_; exact ⟨rfl, e122⟩
    replace H := ifn hb120 H; refine wlk rfl rfl <| wlk rfl rfl <| wlk rfl rfl <| wlk rfl rfl <| wlk rfl rfl <| wlk rfl rfl <| wlk rfl rfl <| wlk rfl rfl <| ?_; refine wlk rfl rfl <| wlk rfl rfl <| wa rfl (q_pick_f (v := (.bool false)) rfl rfl rfl) <| mv (.bool false) rfl rfl <| wlk rfl rfl <| wlk rfl rfl <| wa rfl (q_pick_f (v := (.bool false)) rfl rfl rfl) <| av (.bool false) rfl rfl <| ?_; refine wnt <| W_ret <| ?_; obtain rfl := osi H; refine rt1 (.bool false) rfl rfl rfl s245_112 ?_; exact ⟨rfl, e119⟩
  replace H := ifn hb115 H; refine wlk rfl rfl <| wlk rfl rfl <| wlk rfl rfl <| wlk rfl rfl <| wlk rfl rfl <| wlk rfl rfl <| wlk rfl rfl <| wlk rfl rfl <| ?_; refine wa rfl (q_pick_f (v := (.bool false)) rfl rfl rfl) <| mv (.bool false) rfl rfl <| wlk rfl rfl <| wlk rfl rfl <| wlk rfl rfl <| wlk rfl rfl <| wlk rfl rfl <| wlk rfl rfl <| ?_; refine wlk rfl rfl <| wlk rfl rfl <| wlk rfl rfl <| wlk rfl rfl <| wa rfl (q_pick_f (v := (.bool false)) rfl rfl rfl) <| mv (.bool false) rfl rfl <| wlk rfl rfl <| wlk rfl rfl <| ?_; refine wa rfl (q_pick_f (v := (.bool false)) rfl rfl rfl) <| av (.bool false) rfl rfl <| wnt <| W_ret <| ?_; obtain rfl := osi H; refine rt1 (.bool false) rfl rfl rfl s245_112 ?_; exact ⟨rfl, e114⟩
end Gk

/- Printed by gen.py: for each Go function a pure function, and that the Go code comes to it. No condition beside the equation that says what the pure function gives. -/
namespace Gk
open Go Go.Proofs
end Gk

/- What the field's functions come to, in plain Lean. No condition but lengths. -/
namespace Gk
open Gf
theorem idx_nat {α : Type} (l : List α) (n : Nat) : idx l (n : Int) = l[n]? := by simp [idx]
theorem idx_lg (a : UInt8) : idx lgT (a.toNat : Int) = some (lg a : Int) := by rw [idx_nat, lgT_get]
theorem idx_pw (n : Nat) (h : n < 510) : idx pwT (n : Int) = some (pw n) := by rw [idx_nat, pwT_get n h]
theorem Mul_eq (a b : UInt8) : field_Mul true a b = some (mul a b) := by
  unfold field_Mul
  rw [if_neg (by simp)]
  by_cases ha : a = 0
  · rw [if_pos ha, ha, zero_mul]
  · by_cases hb : b = 0
    · rw [if_neg ha, if_pos hb, hb, mul_zero]
    · have h1 := lg_lt a
      have h2 := lg_lt b
      have e : wI ((lg a : Int) + (lg b : Int)) = ((lg a + lg b : Nat) : Int) := by rw [wI_of (by omega) (by omega)]; omega
      rw [if_neg ha, if_neg hb]
      simp only [grd, idx_lg, obs, e, idx_pw _ (show lg a + lg b < 510 by omega), mul_pw ha hb, if_true]
theorem Inv_eq (a : UInt8) : field_Inv true a = some (if a = 0 then (0, 7) else (inv a, 0)) := by
  unfold field_Inv
  rw [if_neg (by simp)]
  by_cases ha : a = 0
  · rw [if_pos ha, if_pos ha]
  · have h1 := lg_lt a
    have e : wI (255 - (lg a : Int)) = ((255 - lg a : Nat) : Int) := by rw [wI_of (by omega) (by omega)]; omega
    rw [if_neg ha, if_neg ha]
    simp only [grd, idx_lg, obs, e, idx_pw _ (show 255 - lg a < 510 by omega), if_true, inv, if_neg ha]
theorem Div_eq (a b : UInt8) : field_Div true a b = some (if b = 0 then (0, 7) else (mul a (inv b), 0)) := by
  unfold field_Div
  simp only [Inv_eq, obs, Mul_eq]
  by_cases hb : b = 0
  · simp [hb]
  · simp [hb]
end Gk

/- Rows of bytes, sums of rows, the document's inverses and powers, in plain Lean. No condition. -/
namespace Gk
open Gf
theorem makeL_nat {α : Type} (n : Nat) (z : α) (h : n ≤ most) : makeL (n : Int) z = some (List.replicate n z) := by
  unfold makeL; rw [if_pos ⟨by omega, by omega⟩]; simp
theorem copyL_all {α : Type} (z : α) (a : List α) : copyL (List.replicate a.length z) 0 a = a := by
  unfold copyL; simp
def sumL (a : List UInt8) (c : UInt8) (b : List UInt8) : List UInt8 := a.mapIdx fun j x => x ^^^ mul c (b.getD j 0)
def sumTo (a : List UInt8) (c : UInt8) (b : List UInt8) (i : Nat) : List UInt8 := a.mapIdx fun j x => if j < i then x ^^^ mul c (b.getD j 0) else x
theorem sumL_len (a : List UInt8) (c : UInt8) (b : List UInt8) : (sumL a c b).length = a.length := by simp [sumL]
theorem sumTo_set (a : List UInt8) (c : UInt8) (b : List UInt8) (i : Nat) (x : UInt8) (h : a[i]? = some x) (y : UInt8) (hb : b[i]? = some y) : (sumTo a c b i).set i (x ^^^ mul c y) = sumTo a c b (i + 1) := by
  apply List.ext_getElem?
  intro j
  simp only [sumTo, List.getElem?_set, List.getElem?_mapIdx, List.length_mapIdx]
  have hi := (List.getElem?_eq_some_iff.1 h).1
  by_cases hj : i = j
  · subst hj
    simp [hi, List.getD, hb]
    rw [(List.getElem?_eq_some_iff.1 h).2]
  · rw [if_neg hj]
    have : j < i + 1 ↔ j < i := by omega
    simp [this]
theorem sumTo_get (a : List UInt8) (c : UInt8) (b : List UInt8) (i : Nat) (x : UInt8) (h : a[i]? = some x) : (sumTo a c b i)[i]? = some x := by
  simp [sumTo, List.getElem?_mapIdx, h]
theorem sumTo_end (a : List UInt8) (c : UInt8) (b : List UInt8) (i : Nat) (h : b.length ≤ i ∨ a.length ≤ i) : sumTo a c b i = sumL a c b := by
  apply List.ext_getElem?
  intro j
  simp only [sumTo, sumL, List.getElem?_mapIdx]
  by_cases hj : j < i
  · simp [hj]
  · rcases h with h | h
    · have : b.getD j 0 = 0 := by simp [List.getD, List.getElem?_eq_none (show b.length ≤ j by omega)]
      simp only [hj, this, mul_zero, xor_zero, if_false]
    · simp [List.getElem?_eq_none (show a.length ≤ j by omega)]
theorem minI (a b : Nat) : (if (b : Int) < (a : Int) then (b : Int) else (a : Int)) = ((min a b : Nat) : Int) := by split <;> omega
theorem wI_succ (i : Nat) (h : i < 9223372036854775807) : wI ((i : Int) + 1) = ((i + 1 : Nat) : Int) := by rw [wI_of (by omega) (by omega)]; omega
theorem most_lt : most < 9223372036854775807 := by decide
theorem Sum_eq (a : List UInt8) (c : UInt8) (b : List UInt8) (h : a.length ≤ most) : field_Sum true a c b = some (sumL a c b) := by
  unfold field_Sum
  rw [if_neg (by simp), makeL_nat _ _ h]
  simp only [obs, minI, copyL_all]
  have hm := most_lt
  refine bind_of (x := sumL a c b) (iterC_count (fun i => (sumTo a c b i, (i : Int))) (min a.length b.length) (sumL a c b) ?_ ?_ ?_) rfl
  · refine Prod.ext ?_ rfl
    apply List.ext_getElem?
    intro j
    simp [sumTo, List.getElem?_mapIdx]
  · intro i hi
    have h1 : i < a.length := by omega
    have h2 : i < b.length := by omega
    have e1 : a[i]? = some a[i] := by simp [h1]
    have e2 : b[i]? = some b[i] := by simp [h2]
    rw [if_pos (by omega)]
    simp only [idx_nat, sumTo_get a c b i _ e1, e2, obs, Mul_eq, wI_succ i (by omega), Int.toNat_natCast]
    rw [sumTo_set a c b i _ e1 _ e2]
  · rw [if_neg (by omega)]
    simp only [sumTo_end a c b _ (show b.length ≤ min a.length b.length ∨ a.length ≤ min a.length b.length by omega)]
theorem Add_eq (a b : UInt8) : field_Add a b = some (a ^^^ b) := rfl
theorem refInv_eq (a : UInt8) : ref02_Inv a = some (inv a) := by
  unfold ref02_Inv
  simp only [refMul_eq, obs]
  have e : ∀ k : Nat, k < 256 → UInt8.ofInt (k : Int) = UInt8.ofNat k := by
    intro k hk
    have : (UInt8.ofNat k).toNat = k := by simp; omega
    rw [← this, ofInt_nat, this]
  by_cases ha : a = 0
  · refine bind_of (x := (Sum.inl () : Unit ⊕ UInt8)) (iterC_count (fun i => (1 + (i : Int))) 255 (Sum.inl ()) (by simp) ?_ ?_) ?_
    · intro i hi
      rw [if_pos (by omega)]
      rw [ha]
      simp only [zero_mul]
      rw [if_neg (by decide)]
      have : wI (1 + (i : Int) + 1) = 1 + ((i + 1 : Nat) : Int) := by rw [wI_of (by omega) (by omega)]; omega
      rw [this]
    · rw [if_neg (by omega)]
    · simp [ha, inv_zero]
  · have hn := inv_ne ha
    have hlt := (inv a).toNat_lt
    have hpos : 0 < (inv a).toNat := Nat.pos_of_ne_zero (fun e => hn (UInt8.toNat_inj.1 (by simpa using e)))
    refine bind_of (x := (Sum.inr (inv a) : Unit ⊕ UInt8)) (iterC_count (fun i => (1 + (i : Int))) ((inv a).toNat - 1) (Sum.inr (inv a)) (by simp) ?_ ?_) rfl
    · intro i hi
      rw [if_pos (by omega)]
      have e1 : (1 + (i : Int)) = ((i + 1 : Nat) : Int) := by omega
      have hne : mul a (UInt8.ofInt (1 + (i : Int))) ≠ 1 := by
        intro h
        have h2 := inv_uniq h
        rw [e1, e _ (by omega)] at h2
        have h3 := congrArg UInt8.toNat h2
        simp at h3
        omega
      rw [if_neg hne]
      have : wI (1 + (i : Int) + 1) = 1 + ((i + 1 : Nat) : Int) := by rw [wI_of (by omega) (by omega)]; omega
      rw [this]
    · rw [if_pos (by omega)]
      have e1 : (1 + (((inv a).toNat - 1 : Nat) : Int)) = ((inv a).toNat : Int) := by omega
      rw [e1, ofInt_nat, mul_inv ha, if_pos rfl]
theorem appL_nil {α : Type} (a : List α) (h : a.length ≤ most) : appL [] a = some a := by
  unfold appL; rw [if_pos (by simpa using h)]; simp
end Gk

/- Polynomials over GF(256), as lists of numbers, the lowest first. Plain. No condition. -/
namespace Gf
def co (p : List UInt8) (i : Nat) : UInt8 := p.getD i 0
theorem co_nil (i : Nat) : co [] i = 0 := by simp [co]
theorem co_zero (c : UInt8) (p : List UInt8) : co (c :: p) 0 = c := rfl
theorem co_succ (c : UInt8) (p : List UInt8) (i : Nat) : co (c :: p) (i + 1) = co p i := by simp [co]
theorem co_ge {p : List UInt8} {i : Nat} (h : p.length ≤ i) : co p i = 0 := by simp [co, List.getD_eq_getElem?_getD, List.getElem?_eq_none h]
theorem co_lt {p : List UInt8} {i : Nat} (h : i < p.length) : co p i = p[i] := by simp [co, List.getD_eq_getElem?_getD, h]
theorem co_get {p : List UInt8} {i : Nat} (h : i < p.length) : p[i]? = some (co p i) := by rw [co_lt h]; simp [h]
theorem co_rep (n i : Nat) : co (List.replicate n 0) i = 0 := by
  simp only [co, List.getD_eq_getElem?_getD, List.getElem?_replicate]; split <;> rfl
theorem co_map (c : UInt8) (p : List UInt8) (i : Nat) : co (p.map (mul c)) i = mul c (co p i) := by
  simp only [co, List.getD_eq_getElem?_getD, List.getElem?_map]
  cases p[i]? <;> simp [mul_zero]
theorem co_set {p : List UInt8} {j : Nat} (h : j < p.length) (c : UInt8) (i : Nat) : co (p.set j c) i = if i = j then c else co p i := by
  simp only [co, List.getD_eq_getElem?_getD, List.getElem?_set]
  by_cases hij : j = i
  · subst hij; simp [h]
  · simp [hij, Ne.symm hij]
def Sim (p q : List UInt8) : Prop := ∀ i, co p i = co q i
theorem Sim.refl (p : List UInt8) : Sim p p := fun _ => rfl
theorem Sim.symm {p q : List UInt8} (h : Sim p q) : Sim q p := fun i => (h i).symm
theorem Sim.trans {p q r : List UInt8} (h : Sim p q) (k : Sim q r) : Sim p r := fun i => (h i).trans (k i)
def trim : List UInt8 → List UInt8
  | [] => []
  | c :: p => if trim p = [] ∧ c = 0 then [] else c :: trim p
theorem co_trim : ∀ (p : List UInt8) (i : Nat), co (trim p) i = co p i
  | [], i => rfl
  | c :: p, i => by
    unfold trim
    split
    · rename_i h
      rw [co_nil]
      cases i with
      | zero => rw [co_zero, h.2]
      | succ i => rw [co_succ, ← co_trim p i, h.1, co_nil]
    · cases i with
      | zero => rfl
      | succ i => rw [co_succ, co_succ, co_trim p i]
theorem trim_sim (p : List UInt8) : Sim (trim p) p := co_trim p
theorem trim_zero : ∀ (p : List UInt8), (∀ i, co p i = 0) → trim p = []
  | [], _ => rfl
  | c :: p, h => by
    unfold trim
    rw [if_pos ⟨trim_zero p (fun i => by rw [← co_succ c p i]; exact h (i + 1)), by rw [← co_zero c p]; exact h 0⟩]
theorem trim_ext : ∀ (p q : List UInt8), Sim p q → trim p = trim q
  | [], q, h => (trim_zero q (fun i => by rw [← h i, co_nil])).symm
  | c :: p, [], h => trim_zero (c :: p) (fun i => by rw [h i, co_nil])
  | c :: p, d :: q, h => by
    have h0 : c = d := by have := h 0; rwa [co_zero, co_zero] at this
    have h1 : trim p = trim q := trim_ext p q (fun i => by have := h (i + 1); rwa [co_succ, co_succ] at this)
    unfold trim
    rw [h0, h1]
theorem trim_trim (p : List UInt8) : trim (trim p) = trim p := trim_ext _ _ (trim_sim p)
theorem trim_le : ∀ (p : List UInt8), (trim p).length ≤ p.length
  | [] => Nat.le_refl _
  | c :: p => by
    unfold trim
    split
    · exact Nat.zero_le _
    · have := trim_le p; simp only [List.length_cons]; omega
theorem trim_last : ∀ (p : List UInt8), trim p ≠ [] → co p ((trim p).length - 1) ≠ 0
  | [], h => absurd rfl h
  | c :: p, h => by
    unfold trim at h ⊢
    split
    · rename_i h'; rw [if_pos h'] at h; exact absurd rfl h
    · rename_i h'
      simp only [List.length_cons, Nat.add_sub_cancel]
      cases ht : trim p with
      | nil =>
        rw [List.length_nil, co_zero]
        exact fun e => h' ⟨ht, e⟩
      | cons d q =>
        have := trim_last p (by rw [ht]; simp)
        rw [ht] at this
        simp only [List.length_cons, Nat.add_sub_cancel] at this ⊢
        rwa [co_succ]
theorem trim_nil {p : List UInt8} (h : trim p = []) (i : Nat) : co p i = 0 := by rw [← co_trim, h, co_nil]
theorem trim_bound (p : List UInt8) (n : Nat) : (trim p).length ≤ n ↔ ∀ i, n ≤ i → co p i = 0 := by
  constructor
  · intro h i hi
    rw [← co_trim]; exact co_ge (Nat.le_trans h hi)
  · intro h
    refine Nat.le_of_not_lt fun hlt => ?_
    have hne : trim p ≠ [] := fun e => by rw [e] at hlt; simp at hlt
    exact trim_last p hne (h _ (by omega))
theorem trim_take : ∀ (p : List UInt8), trim p = p.take (trim p).length
  | [] => rfl
  | c :: p => by
    unfold trim
    split
    · rfl
    · simp only [List.length_cons, List.take_succ_cons]
      rw [← trim_take p]
theorem trim_id {p : List UInt8} (h : p ≠ [] → co p (p.length - 1) ≠ 0) : trim p = p := by
  by_cases hp : p = []
  · rw [hp]; rfl
  · have h1 : p.length ≤ (trim p).length := Nat.le_of_not_lt fun hlt => by
      have hpos := List.length_pos_iff.2 hp
      exact h hp ((trim_bound p (p.length - 1)).1 (by omega) _ (Nat.le_refl _))
    rw [trim_take p, List.take_of_length_le h1]
def evp : List UInt8 → UInt8 → UInt8
  | [], _ => 0
  | c :: p, x => c ^^^ mul (evp p x) x
theorem ev_zero : ∀ (p : List UInt8) (x : UInt8), (∀ i, co p i = 0) → evp p x = 0
  | [], _, _ => rfl
  | c :: p, x, h => by
    have h0 : c = 0 := by rw [← co_zero c p]; exact h 0
    unfold evp
    rw [h0, ev_zero p x (fun i => by rw [← co_succ c p i]; exact h (i + 1)), zero_mul, zero_xor]
theorem ev_sim : ∀ (p q : List UInt8) (x : UInt8), Sim p q → evp p x = evp q x
  | [], q, x, h => (ev_zero q x (fun i => by rw [← h i, co_nil])).symm
  | c :: p, [], x, h => ev_zero (c :: p) x (fun i => by rw [h i, co_nil])
  | c :: p, d :: q, x, h => by
    have h0 : c = d := by have := h 0; rwa [co_zero, co_zero] at this
    unfold evp
    rw [h0, ev_sim p q x (fun i => by have := h (i + 1); rwa [co_succ, co_succ] at this)]
theorem ev_trim (p : List UInt8) (x : UInt8) : evp (trim p) x = evp p x := ev_sim _ _ x (trim_sim p)
def pplus : List UInt8 → List UInt8 → List UInt8
  | [], q => q
  | p, [] => p
  | a :: p, b :: q => (a ^^^ b) :: pplus p q
theorem co_pplus : ∀ (p q : List UInt8) (i : Nat), co (pplus p q) i = co p i ^^^ co q i
  | [], q, i => by rw [co_nil, zero_xor]; rfl
  | a :: p, [], i => by rw [co_nil, xor_zero]; rfl
  | a :: p, b :: q, 0 => rfl
  | a :: p, b :: q, i + 1 => by
    show co ((a ^^^ b) :: pplus p q) (i + 1) = _
    rw [co_succ, co_succ, co_succ]; exact co_pplus p q i
theorem pplus_len : ∀ (p q : List UInt8), (pplus p q).length = max p.length q.length
  | [], q => by simp [pplus]
  | a :: p, [] => by simp [pplus]
  | a :: p, b :: q => by simp only [pplus, List.length_cons, pplus_len p q]; omega
theorem ev_pplus : ∀ (p q : List UInt8) (x : UInt8), evp (pplus p q) x = evp p x ^^^ evp q x
  | [], q, x => by show evp q x = 0 ^^^ evp q x; rw [zero_xor]
  | a :: p, [], x => by show evp (a :: p) x = evp (a :: p) x ^^^ 0; rw [xor_zero]
  | a :: p, b :: q, x => by
    show (a ^^^ b) ^^^ mul (evp (pplus p q) x) x = (a ^^^ mul (evp p x) x) ^^^ (b ^^^ mul (evp q x) x)
    rw [ev_pplus p q x, add_mul, xor_xor_swap]
theorem ev_map (c : UInt8) : ∀ (p : List UInt8) (x : UInt8), evp (p.map (mul c)) x = mul c (evp p x)
  | [], x => (mul_zero c).symm
  | a :: p, x => by
    show mul c a ^^^ mul (evp (p.map (mul c)) x) x = mul c (a ^^^ mul (evp p x) x)
    rw [ev_map c p x, mul_add, mul_assoc]
def pmul : List UInt8 → List UInt8 → List UInt8
  | [], _ => []
  | c :: p, q => pplus (q.map (mul c)) (0 :: pmul p q)
theorem co_pmul_zero (c : UInt8) (p q : List UInt8) : co (pmul (c :: p) q) 0 = mul c (co q 0) := by
  unfold pmul; rw [co_pplus, co_map, co_zero, xor_zero]
theorem co_pmul_succ (c : UInt8) (p q : List UInt8) (i : Nat) : co (pmul (c :: p) q) (i + 1) = mul c (co q (i + 1)) ^^^ co (pmul p q) i := by
  show co (pplus (q.map (mul c)) (0 :: pmul p q)) (i + 1) = _
  rw [co_pplus, co_map, co_succ]
theorem pmul_len : ∀ (p q : List UInt8), (pmul p q).length ≤ p.length + q.length
  | [], q => by simp [pmul]
  | c :: p, q => by
    have := pmul_len p q
    simp only [pmul, pplus_len, List.length_map, List.length_cons]; omega
theorem ev_pmul : ∀ (p q : List UInt8) (x : UInt8), evp (pmul p q) x = mul (evp p x) (evp q x)
  | [], q, x => (zero_mul _).symm
  | c :: p, q, x => by
    show evp (pplus (q.map (mul c)) (0 :: pmul p q)) x = mul (c ^^^ mul (evp p x) x) (evp q x)
    rw [ev_pplus, ev_map, add_mul]
    show mul c (evp q x) ^^^ (0 ^^^ mul (evp (pmul p q) x) x) = _
    rw [zero_xor, ev_pmul p q x, mul_assoc, mul_assoc, mul_comm (evp q x) x]
theorem co_pmul_snoc : ∀ (p : List UInt8) (c : UInt8) (q : List UInt8) (i : Nat), co (pmul (p ++ [c]) q) i = co (pmul p q) i ^^^ (if i < p.length then 0 else mul c (co q (i - p.length)))
  | [], c, q, i => by
    cases i with
    | zero => rw [List.nil_append, co_pmul_zero]; simp [pmul, co_nil, zero_xor]
    | succ i => rw [List.nil_append, co_pmul_succ]; simp [pmul, co_nil, zero_xor, xor_zero]
  | a :: p, c, q, i => by
    cases i with
    | zero => rw [List.cons_append, co_pmul_zero, co_pmul_zero]; simp [xor_zero]
    | succ i =>
      rw [List.cons_append, co_pmul_succ, co_pmul_succ, co_pmul_snoc p c q i, xor_assoc]
      simp only [List.length_cons, Nat.add_lt_add_iff_right, Nat.add_sub_add_right]
theorem co_pmul_set : ∀ (p : List UInt8) (j : Nat) (c : UInt8) (q : List UInt8) (i : Nat), j < p.length → co p j = 0 → co (pmul (p.set j c) q) i = co (pmul p q) i ^^^ (if i < j then 0 else mul c (co q (i - j)))
  | [], j, c, q, i, h, _ => by simp at h
  | a :: p, 0, c, q, i, _, h0 => by
    rw [co_zero] at h0; subst h0
    rw [List.set_cons_zero]
    cases i with
    | zero => rw [co_pmul_zero, co_pmul_zero, zero_mul, zero_xor]; simp
    | succ i => rw [co_pmul_succ, co_pmul_succ, zero_mul, zero_xor, xor_comm]; simp
  | a :: p, j + 1, c, q, i, h, h0 => by
    rw [co_succ] at h0
    rw [List.set_cons_succ]
    cases i with
    | zero => rw [co_pmul_zero, co_pmul_zero]; simp [xor_zero]
    | succ i =>
      rw [co_pmul_succ, co_pmul_succ, co_pmul_set p j c q i (by simpa using h) h0, xor_assoc]
      simp only [Nat.add_lt_add_iff_right, Nat.add_sub_add_right]
theorem pmul_simL : ∀ (p p' q : List UInt8), Sim p p' → Sim (pmul p q) (pmul p' q)
  | [], [], q, _ => Sim.refl _
  | [], d :: p', q, h => by
    have h0 : d = 0 := by have := h 0; rw [co_nil, co_zero] at this; exact this.symm
    have h1 := pmul_simL [] p' q (fun i => by have := h (i + 1); rwa [co_nil, co_succ] at this)
    intro i
    cases i with
    | zero => rw [co_pmul_zero, h0, zero_mul]; rfl
    | succ i => rw [co_pmul_succ, h0, zero_mul, zero_xor, ← h1 i]; rfl
  | c :: p, [], q, h => by
    have h0 : c = 0 := by have := h 0; rwa [co_nil, co_zero] at this
    have h1 := pmul_simL p [] q (fun i => by have := h (i + 1); rwa [co_nil, co_succ] at this)
    intro i
    cases i with
    | zero => rw [co_pmul_zero, h0, zero_mul]; rfl
    | succ i => rw [co_pmul_succ, h0, zero_mul, zero_xor, h1 i]; rfl
  | c :: p, d :: p', q, h => by
    have h0 : c = d := by have := h 0; rwa [co_zero, co_zero] at this
    have h1 := pmul_simL p p' q (fun i => by have := h (i + 1); rwa [co_succ, co_succ] at this)
    intro i
    cases i with
    | zero => rw [co_pmul_zero, co_pmul_zero, h0]
    | succ i => rw [co_pmul_succ, co_pmul_succ, h0, h1 i]
theorem pmul_simR : ∀ (p q q' : List UInt8), Sim q q' → Sim (pmul p q) (pmul p q')
  | [], q, q', _ => Sim.refl _
  | c :: p, q, q', h => by
    have h1 := pmul_simR p q q' h
    intro i
    cases i with
    | zero => rw [co_pmul_zero, co_pmul_zero, h 0]
    | succ i => rw [co_pmul_succ, co_pmul_succ, h (i + 1), h1 i]
theorem pmul_sim {p p' q q' : List UInt8} (h : Sim p p') (k : Sim q q') : Sim (pmul p q) (pmul p' q') := (pmul_simL p p' q h).trans (pmul_simR p' q q' k)
theorem pplus_sim {p p' q q' : List UInt8} (h : Sim p p') (k : Sim q q') : Sim (pplus p q) (pplus p' q') := fun i => by rw [co_pplus, co_pplus, h i, k i]
theorem pmul_addL : ∀ (p q o : List UInt8), Sim (pmul (pplus p q) o) (pplus (pmul p o) (pmul q o))
  | [], q, o => by
    intro i; rw [co_pplus]
    show co (pmul q o) i = co [] i ^^^ co (pmul q o) i
    rw [co_nil, zero_xor]
  | a :: p, [], o => by
    intro i; rw [co_pplus]
    show co (pmul (a :: p) o) i = co (pmul (a :: p) o) i ^^^ co [] i
    rw [co_nil, xor_zero]
  | a :: p, b :: q, o => by
    have h1 := pmul_addL p q o
    intro i
    rw [co_pplus]
    show co (pmul ((a ^^^ b) :: pplus p q) o) i = _
    cases i with
    | zero => rw [co_pmul_zero, co_pmul_zero, co_pmul_zero, add_mul]
    | succ i => rw [co_pmul_succ, co_pmul_succ, co_pmul_succ, h1 i, co_pplus, add_mul, xor_xor_swap]
theorem co_pmul_top : ∀ (p q : List UInt8) (m : Nat), p ≠ [] → (∀ i, m < i → co q i = 0) → co (pmul p q) (p.length - 1 + m) = mul (co p (p.length - 1)) (co q m)
  | [], q, m, h, _ => absurd rfl h
  | [c], q, m, _, hq => by
    simp only [List.length_cons, List.length_nil, Nat.zero_add, Nat.sub_self, co_zero]
    cases m with
    | zero => rw [co_pmul_zero]
    | succ m => rw [co_pmul_succ]; simp [pmul, co_nil, xor_zero]
  | c :: d :: p, q, m, _, hq => by
    have h1 := co_pmul_top (d :: p) q m (by simp) hq
    simp only [List.length_cons, Nat.add_sub_cancel] at h1 ⊢
    rw [show p.length + 1 + m = (p.length + m) + 1 by omega, co_pmul_succ, hq (p.length + m + 1) (by omega), mul_zero, zero_xor, co_succ]
    exact h1
theorem pmul_trim_len {p q : List UInt8} (hp : trim p = p) (hq : trim q = q) (hp0 : p ≠ []) (hq0 : q ≠ []) : (trim (pmul p q)).length = p.length + q.length - 1 := by
  have lp := List.length_pos_iff.2 hp0
  have lq := List.length_pos_iff.2 hq0
  have t1 : co p (p.length - 1) ≠ 0 := by have := trim_last p (by rw [hp]; exact hp0); rwa [hp] at this
  have t2 : co q (q.length - 1) ≠ 0 := by have := trim_last q (by rw [hq]; exact hq0); rwa [hq] at this
  have top := co_pmul_top p q (q.length - 1) hp0 (fun i hi => co_ge (by omega))
  have hle : (trim (pmul p q)).length ≤ p.length + q.length - 1 := by
    refine (trim_bound _ _).2 fun i hi => ?_
    exact go p q i (by omega)
  refine Nat.le_antisymm hle (Nat.le_of_not_lt fun hlt => ?_)
  have := (trim_bound (pmul p q) (p.length + q.length - 2)).1 (by omega) (p.length - 1 + (q.length - 1)) (by omega)
  rw [top] at this
  exact mul_ne t1 t2 this
where
  go : ∀ (p q : List UInt8) (i : Nat), p.length + q.length ≤ i + 1 → co (pmul p q) i = 0
  | [], q, i, _ => co_nil i
  | c :: p, q, i, h => by
    simp only [List.length_cons] at h
    cases i with
    | zero => rw [co_pmul_zero, co_ge (by omega), mul_zero]
    | succ i => rw [co_pmul_succ, co_ge (by omega), mul_zero, zero_xor]; exact go p q i (by omega)
theorem co_pmul_ge {p q : List UInt8} {i : Nat} (h : p.length + q.length ≤ i + 1) : co (pmul p q) i = 0 := pmul_trim_len.go p q i h
theorem pmul_nilR (p : List UInt8) : Sim (pmul p []) [] := by
  intro i
  induction p generalizing i with
  | nil => rfl
  | cons c p ih =>
    rw [co_nil]
    cases i with
    | zero => rw [co_pmul_zero, co_nil, mul_zero]
    | succ i => rw [co_pmul_succ, co_nil, mul_zero, zero_xor, ih i, co_nil]
end Gf

/- Interpolation over GF(256): roots, Lagrange's and Newton's way. Plain. No condition. -/
namespace Gf
def dg (p : List UInt8) : Nat := (trim p).length
theorem dg_le {p : List UInt8} {n : Nat} : dg p ≤ n ↔ ∀ i, n ≤ i → co p i = 0 := trim_bound p n
theorem dg_len (p : List UInt8) : dg p ≤ p.length := trim_le p
theorem dg_sim {p q : List UInt8} (h : Sim p q) : dg p = dg q := congrArg List.length (trim_ext _ _ h)
theorem dg_pplus {p q : List UInt8} {n : Nat} (hp : dg p ≤ n) (hq : dg q ≤ n) : dg (pplus p q) ≤ n :=
  dg_le.2 fun i hi => by rw [co_pplus, dg_le.1 hp i hi, dg_le.1 hq i hi, xor_zero]
theorem dg_map {p : List UInt8} {n : Nat} (c : UInt8) (hp : dg p ≤ n) : dg (p.map (mul c)) ≤ n :=
  dg_le.2 fun i hi => by rw [co_map, dg_le.1 hp i hi, mul_zero]
theorem dg_pmul {p q : List UInt8} {a b : Nat} (hp : dg p ≤ a) (hq : dg q ≤ b) : dg (pmul p q) ≤ a + b - 1 :=
  dg_le.2 fun i hi => by
    rw [← pmul_sim (trim_sim p) (trim_sim q) i]
    exact co_pmul_ge (by unfold dg at hp hq; omega)
theorem dg_lin (a : UInt8) : dg [a, 1] ≤ 2 := dg_len _
theorem ev_lin (a x : UInt8) : evp [a, 1] x = x ^^^ a := by
  show a ^^^ mul (1 ^^^ mul 0 x) x = x ^^^ a
  rw [zero_mul, xor_zero, one_mul, xor_comm]
def syn : List UInt8 → UInt8 → List UInt8
  | [], _ => []
  | _ :: p, a => evp p a :: syn p a
theorem co_syn : ∀ (p : List UInt8) (a : UInt8) (i : Nat), co (syn p a) i = evp (p.drop (i + 1)) a
  | [], a, i => by simp [syn, co_nil, evp]
  | c :: p, a, 0 => by simp [syn, co_zero]
  | c :: p, a, i + 1 => by
    show co (evp p a :: syn p a) (i + 1) = _
    rw [co_succ, co_syn p a i]; rfl
theorem ev_drop : ∀ (p : List UInt8) (a : UInt8) (i : Nat), evp (p.drop i) a = co p i ^^^ mul (evp (p.drop (i + 1)) a) a
  | [], a, i => by simp [co_nil, evp, zero_mul]
  | c :: p, a, 0 => by simp [co_zero, evp]
  | c :: p, a, i + 1 => by rw [List.drop_succ_cons, List.drop_succ_cons, co_succ]; exact ev_drop p a i
theorem ev_syn : ∀ (p : List UInt8) (a x : UInt8), evp p x = mul (x ^^^ a) (evp (syn p a) x) ^^^ evp p a
  | [], a, x => by simp [syn, evp, mul_zero]
  | c :: p, a, x => by
    show c ^^^ mul (evp p x) x = mul (x ^^^ a) (evp p a ^^^ mul (evp (syn p a) x) x) ^^^ (c ^^^ mul (evp p a) a)
    rw [ev_syn p a x, mul_add, add_mul, add_mul x a (evp p a), mul_assoc, mul_comm x (evp p a), mul_comm a (evp p a)]
    generalize mul (x ^^^ a) (mul (evp (syn p a) x) x) = A
    generalize mul (evp p a) x = B
    generalize mul (evp p a) a = C
    simp only [xor_comm, xor_left_comm, xor_assoc]
    rw [xor_self, xor_zero]
theorem roots : ∀ (xs : List UInt8), xs.Nodup → ∀ p : List UInt8, dg p ≤ xs.length → (∀ a ∈ xs, evp p a = 0) → ∀ i, co p i = 0
  | [], _, p, hd, _, i => dg_le.1 hd i (Nat.zero_le _)
  | a :: xs, hn, p, hd, hz, i => by
    rw [List.nodup_cons] at hn
    have ha := hz a (by simp)
    have hs : ∀ i, co (syn p a) i = 0 := by
      refine roots xs hn.2 (syn p a) (dg_le.2 fun i hi => ?_) (fun b hb => ?_)
      · rw [co_syn]
        refine ev_zero _ a fun j => ?_
        have : co (p.drop (i + 1)) j = co p (i + 1 + j) := by simp [co, List.getD_eq_getElem?_getD]
        rw [this]
        exact dg_le.1 hd _ (by simp only [List.length_cons]; omega)
      · have h1 := ev_syn p a b
        rw [hz b (by simp [hb]), ha, xor_zero] at h1
        rcases mul_eq_zero h1.symm with h | h
        · exact absurd (xor_eq_zero h) (fun e => hn.1 (e ▸ hb))
        · exact h
    have h2 := ev_drop p a i
    rw [← co_syn, hs i, zero_mul, xor_zero] at h2
    rw [← h2]
    cases i with
    | zero => rw [List.drop_zero]; exact ha
    | succ i => rw [← co_syn]; exact hs i
theorem agree {xs : List UInt8} (hn : xs.Nodup) {p q : List UInt8} (hp : dg p ≤ xs.length) (hq : dg q ≤ xs.length) (h : ∀ a ∈ xs, evp p a = evp q a) : Sim p q := by
  intro i
  have := roots xs hn (pplus p q) (dg_pplus hp hq) (fun a ha => by rw [ev_pplus, h a ha, xor_self]) i
  rw [co_pplus] at this
  exact xor_eq_zero this
def pe (xs : List UInt8) (i : Nat) (x : UInt8) : Nat → UInt8
  | 0 => 1
  | n + 1 => if n = i then pe xs i x n else mul (pe xs i x n) (x ^^^ co xs n)
def pep (xs : List UInt8) (i : Nat) : Nat → List UInt8
  | 0 => [1]
  | n + 1 => if n = i then pep xs i n else pmul (pep xs i n) [co xs n, 1]
theorem ev_pep (xs : List UInt8) (i : Nat) (x : UInt8) : ∀ n, evp (pep xs i n) x = pe xs i x n
  | 0 => by show 1 ^^^ mul 0 x = 1; rw [zero_mul, xor_zero]
  | n + 1 => by
    unfold pep pe
    split
    · exact ev_pep xs i x n
    · rw [ev_pmul, ev_pep xs i x n, ev_lin]
theorem dg_pep (xs : List UInt8) (i : Nat) : ∀ n, dg (pep xs i n) ≤ n + 1 ∧ (i < n → dg (pep xs i n) ≤ n)
  | 0 => ⟨dg_len _, fun h => by omega⟩
  | n + 1 => by
    obtain ⟨h1, h2⟩ := dg_pep xs i n
    unfold pep
    split
    · rename_i h; exact ⟨by omega, fun _ => h1⟩
    · rename_i h
      refine ⟨?_, fun hi => ?_⟩
      · have := dg_pmul h1 (dg_lin (co xs n)); omega
      · have := dg_pmul (h2 (by omega)) (dg_lin (co xs n)); omega
theorem pe_zero (xs : List UInt8) (i j : Nat) (hij : j ≠ i) : ∀ n, j < n → pe xs i (co xs j) n = 0
  | n + 1, h => by
    unfold pe
    by_cases hj : j = n
    · subst hj; rw [if_neg hij, xor_self, mul_zero]
    · have := pe_zero xs i j hij n (by omega)
      split
      · exact this
      · rw [this, zero_mul]
theorem co_inj {xs : List UInt8} (hn : xs.Nodup) {i j : Nat} (hi : i < xs.length) (hj : j < xs.length) (h : co xs i = co xs j) : i = j := by
  rw [co_lt hi, co_lt hj] at h
  rcases Nat.lt_trichotomy i j with h1 | h1 | h1
  · exact absurd h (List.pairwise_iff_getElem.1 hn i j hi hj h1)
  · exact h1
  · exact absurd h.symm (List.pairwise_iff_getElem.1 hn j i hj hi h1)
theorem pe_ne {xs : List UInt8} (hn : xs.Nodup) {i : Nat} (hi : i < xs.length) : ∀ n, n ≤ xs.length → pe xs i (co xs i) n ≠ 0
  | 0, _ => by show (1 : UInt8) ≠ 0; decide
  | n + 1, h => by
    unfold pe
    have := pe_ne hn hi n (by omega)
    split
    · exact this
    · rename_i hne
      exact mul_ne this (fun e => hne (co_inj hn (by omega) hi (xor_eq_zero e).symm))
def wt (xs : List UInt8) (i : Nat) (x : UInt8) : UInt8 := mul (pe xs i x xs.length) (inv (pe xs i (co xs i) xs.length))
def sm (f : Nat → UInt8) : Nat → UInt8
  | 0 => 0
  | n + 1 => sm f n ^^^ f n
theorem sm_one (f : Nat → UInt8) (j : Nat) : ∀ n, (∀ i, i < n → i ≠ j → f i = 0) → sm f n = if j < n then f j else 0
  | 0, _ => rfl
  | n + 1, h => by
    unfold sm
    rw [sm_one f j n (fun i hi => h i (by omega))]
    by_cases hj : j < n
    · rw [if_pos hj, if_pos (by omega), h n (by omega) (by omega), xor_zero]
    · rw [if_neg hj, zero_xor]
      by_cases hn : n = j
      · subst hn; rw [if_pos (by omega)]
      · rw [if_neg (by omega)]; exact h n (by omega) hn
theorem sm_congr {f g : Nat → UInt8} : ∀ n, (∀ i, i < n → f i = g i) → sm f n = sm g n
  | 0, _ => rfl
  | n + 1, h => by unfold sm; rw [sm_congr n (fun i hi => h i (by omega)), h n (by omega)]
def lag (xs : List UInt8) (f : Nat → UInt8) : Nat → List UInt8
  | 0 => []
  | m + 1 => pplus (lag xs f m) ((pep xs m xs.length).map (mul (f m)))
theorem ev_lag (xs : List UInt8) (f : Nat → UInt8) (x : UInt8) : ∀ m, evp (lag xs f m) x = sm (fun i => mul (f i) (pe xs i x xs.length)) m
  | 0 => rfl
  | m + 1 => by
    unfold lag sm
    rw [ev_pplus, ev_lag xs f x m, ev_map, ev_pep]
theorem dg_lag (xs : List UInt8) (f : Nat → UInt8) : ∀ m, m ≤ xs.length → dg (lag xs f m) ≤ xs.length
  | 0, _ => Nat.zero_le _
  | m + 1, h => dg_pplus (dg_lag xs f m (by omega)) (dg_map _ ((dg_pep xs m xs.length).2 (by omega)))
theorem lag_at {xs : List UInt8} (hn : xs.Nodup) (ys : Nat → UInt8) {j : Nat} (hj : j < xs.length) : evp (lag xs (fun i => mul (ys i) (inv (pe xs i (co xs i) xs.length))) xs.length) (co xs j) = ys j := by
  rw [ev_lag, sm_one _ j _ (fun i hi hne => by rw [pe_zero xs i j (Ne.symm hne) _ hj, mul_zero]), if_pos hj, mul_assoc, inv_mul (pe_ne hn hj _ (Nat.le_refl _)), mul_one]
theorem mem_co {xs : List UInt8} {a : UInt8} (h : a ∈ xs) : ∃ j, j < xs.length ∧ a = co xs j := by
  obtain ⟨j, hj, rfl⟩ := List.getElem_of_mem h
  exact ⟨j, hj, (co_lt hj).symm⟩
theorem co_mem {xs : List UInt8} {j : Nat} (h : j < xs.length) : co xs j ∈ xs := by rw [co_lt h]; exact List.getElem_mem h
theorem lagrange {xs : List UInt8} (hn : xs.Nodup) {p : List UInt8} (hp : dg p ≤ xs.length) (x : UInt8) : evp p x = sm (fun i => mul (wt xs i x) (evp p (co xs i))) xs.length := by
  have h1 : Sim p (lag xs (fun i => mul (evp p (co xs i)) (inv (pe xs i (co xs i) xs.length))) xs.length) :=
    agree hn hp (dg_lag _ _ _ (Nat.le_refl _)) (fun a ha => by
      obtain ⟨j, hj, rfl⟩ := mem_co ha
      rw [lag_at hn (fun i => evp p (co xs i)) hj])
  rw [ev_sim _ _ x h1, ev_lag]
  refine sm_congr _ fun i _ => ?_
  unfold wt
  rw [mul_assoc, mul_comm (inv _) (pe xs i x xs.length), mul_comm (evp p (co xs i))]
end Gf

/- Small laws of lists, rows and numbers. No condition but lengths. -/
namespace Gk
open Gf
theorem idx_co {p : List UInt8} {i : Nat} (h : i < p.length) : idx p (i : Int) = some (co p i) := by rw [idx_nat, co_get h]
theorem subL_nat {α : Type} (l : List α) (a b : Nat) (h1 : a ≤ b) (h2 : b ≤ l.length) : subL l (a : Int) (b : Int) = some ((l.take b).drop a) := by
  unfold subL; rw [if_pos ⟨by omega, by omega, by omega⟩]; simp
theorem wI_add (a b : Nat) (h : a + b < 9223372036854775808) : wI ((a : Int) + (b : Int)) = ((a + b : Nat) : Int) := by rw [wI_of (by omega) (by omega)]; omega
theorem wI_sub (a b : Nat) (h : b ≤ a) (h2 : a < 9223372036854775808) : wI ((a : Int) - (b : Int)) = ((a - b : Nat) : Int) := by rw [wI_of (by omega) (by omega)]; omega
theorem wI_pred (a : Nat) (h : 1 ≤ a) (h2 : a < 9223372036854775808) : wI ((a : Int) - 1) = ((a - 1 : Nat) : Int) := by rw [wI_of (by omega) (by omega)]; omega
theorem h257 : (257 : Nat) ≤ most := by decide
theorem most_lt' : most < 9223372036854775000 := by decide
theorem eq_of_co {p q : List UInt8} (hl : p.length = q.length) (h : ∀ i, co p i = co q i) : p = q := by
  apply List.ext_getElem hl
  intro i h1 h2
  have := h i
  rwa [co_lt h1, co_lt h2] at this
theorem co_sumL (a : List UInt8) (c : UInt8) (b : List UInt8) (i : Nat) : co (sumL a c b) i = if i < a.length then co a i ^^^ mul c (co b i) else 0 := by
  simp only [co, sumL, List.getD_eq_getElem?_getD, List.getElem?_mapIdx]
  by_cases h : i < a.length
  · simp [h]
  · simp [h, List.getElem?_eq_none (show a.length ≤ i by omega)]
theorem copyL_len {α : Type} (l : List α) (off : Nat) (m : List α) (h : off ≤ l.length) : (copyL l (off : Int) m).length = l.length := by
  simp only [copyL, Int.toNat_natCast, List.length_append, List.length_take, List.length_drop]; omega
theorem co_copyL (l : List UInt8) (off : Nat) (m : List UInt8) (h : off + m.length ≤ l.length) (j : Nat) : co (copyL l (off : Int) m) j = if off ≤ j ∧ j < off + m.length then co m (j - off) else co l j := by
  have e1 : m.take (l.length - off) = m := List.take_of_length_le (by omega)
  have e2 : min m.length (l.length - off) = m.length := by omega
  simp only [copyL, Int.toNat_natCast, e1, e2, co, List.getD_eq_getElem?_getD, List.getElem?_append, List.length_take, List.getElem?_take, List.getElem?_drop]
  by_cases h1 : j < off
  · rw [if_pos (by omega), if_pos (by omega), if_neg (by omega)]
  · rw [if_neg (by omega), show j - min off l.length = j - off by omega]
    by_cases h2 : j < off + m.length
    · rw [if_pos (by omega), if_pos ⟨by omega, h2⟩]
    · rw [if_neg (by omega), if_neg (by omega)]
      congr 2; omega
theorem co_take (p : List UInt8) (n i : Nat) : co (p.take n) i = if i < n then co p i else 0 := by
  simp only [co, List.getD_eq_getElem?_getD, List.getElem?_take]; split <;> simp
theorem co_drop (p : List UInt8) (n i : Nat) : co (p.drop n) i = co p (n + i) := by
  simp only [co, List.getD_eq_getElem?_getD, List.getElem?_drop]
theorem take_snoc {p : List UInt8} {i : Nat} (h : i < p.length) : p.take (i + 1) = p.take i ++ [co p i] := by
  rw [List.take_add_one, co_get h]; rfl
theorem co_tab (n : Nat) (f : Nat → UInt8) (i : Nat) : co ((List.range n).map f) i = if i < n then f i else 0 := by
  simp only [co, List.getD_eq_getElem?_getD, List.getElem?_map]
  by_cases h : i < n
  · simp [h]
  · rw [List.getElem?_eq_none (by simpa using h), if_neg h]; rfl
theorem anyO_all {α : Type} (t : α → Option Bool) (b : α → Bool) : ∀ l : List α, (∀ x ∈ l, t x = some (b x)) → anyO t l = some (l.any b)
  | [], _ => rfl
  | x :: l, h => by
    unfold anyO
    rw [h x (by simp), obs, anyO_all t b l (fun y hy => h y (by simp [hy])), List.any_cons]
    cases b x <;> rfl
theorem getD_get {l : List (List UInt8)} {k : Nat} (h : k < l.length) : l[k]? = some (l.getD k []) := by simp [List.getD_eq_getElem?_getD, h]
theorem getD_mem {l : List (List UInt8)} {k : Nat} (h : k < l.length) : l.getD k [] ∈ l := List.mem_of_getElem? (getD_get h)
theorem idx_getD {l : List (List UInt8)} {k : Nat} (h : k < l.length) : idx l (k : Int) = some (l.getD k []) := by rw [idx_nat, getD_get h]
theorem getD_set {l : List (List UInt8)} {j : Nat} (h : j < l.length) (r : List UInt8) (i : Nat) : (l.set j r).getD i [] = if i = j then r else l.getD i [] := by
  simp only [List.getD_eq_getElem?_getD, List.getElem?_set]
  by_cases hij : j = i
  · subst hij; simp [h]
  · simp [hij, Ne.symm hij]
theorem getD_tab (n : Nat) (f : Nat → List UInt8) (i : Nat) (h : i < n) : ((List.range n).map f).getD i [] = f i := by simp [List.getD_eq_getElem?_getD, h]
theorem rows_ext {a b : List (List UInt8)} (hl : a.length = b.length) (h : ∀ i, i < a.length → a.getD i [] = b.getD i []) : a = b := by
  apply List.ext_getElem hl
  intro i h1 h2
  have := h i h1
  simpa [List.getD_eq_getElem?_getD, h1, h2] using this
theorem idx_0 {l : List (List UInt8)} (h : 0 < l.length) : idx l 0 = some (l.getD 0 []) := by
  have := idx_getD (l := l) (k := 0) h
  rwa [show ((0 : Nat) : Int) = 0 from rfl] at this
theorem rows_snoc {l : List (List UInt8)} {i : Nat} (h : i < l.length) : l.take (i + 1) = l.take i ++ [l.getD i []] := by
  rw [List.take_add_one, getD_get h]; rfl
theorem appL_ok {α : Type} (a b : List α) (h : a.length + b.length ≤ most) (hb : b.length = 1) : appL a b = some (a ++ b) := by
  unfold appL; rw [if_pos (by omega)]
theorem mem_getD {l : List (List UInt8)} {r : List UInt8} (h : r ∈ l) : ∃ i, i < l.length ∧ l.getD i [] = r := by
  obtain ⟨i, hi, rfl⟩ := List.getElem_of_mem h
  exact ⟨i, hi, by simp [List.getD_eq_getElem?_getD, hi]⟩
def updR (l : List (List UInt8)) (F : Nat → List UInt8) (i : Nat) : List (List UInt8) := (List.range l.length).map fun j => if j < i then F j else l.getD j []
theorem updR_len (l : List (List UInt8)) (F : Nat → List UInt8) (i : Nat) : (updR l F i).length = l.length := by simp [updR]
theorem getD_updR (l : List (List UInt8)) (F : Nat → List UInt8) (i j : Nat) (h : j < l.length) : (updR l F i).getD j [] = if j < i then F j else l.getD j [] := by
  unfold updR; rw [getD_tab _ _ _ h]
theorem updR_zero (l : List (List UInt8)) (F : Nat → List UInt8) : updR l F 0 = l := rows_ext (updR_len _ _ _) fun i h => by
  rw [updR_len] at h
  rw [getD_updR _ _ _ _ h, if_neg (by omega)]
theorem updR_succ (l : List (List UInt8)) (F : Nat → List UInt8) (k : Nat) (h : k < l.length) : (updR l F k).set k (F k) = updR l F (k + 1) := rows_ext (by simp [updR_len]) fun i hi => by
  rw [List.length_set, updR_len] at hi
  rw [getD_set (by rw [updR_len]; omega), getD_updR _ _ _ _ hi, getD_updR _ _ _ _ hi]
  by_cases hik : i = k
  · rw [if_pos hik, if_pos (by omega), hik]
  · rw [if_neg hik]
    by_cases h2 : i < k
    · rw [if_pos h2, if_pos (by omega)]
    · rw [if_neg h2, if_neg (by omega)]
theorem updR_end (l : List (List UInt8)) (F : Nat → List UInt8) : updR l F l.length = (List.range l.length).map F := by
  unfold updR; exact List.map_congr_left fun j hj => by rw [if_pos (List.mem_range.1 hj)]
theorem rows_loop {body : List (List UInt8) × Int → Option ((List (List UInt8) × Int) ⊕ List (List UInt8))} (l : List (List UInt8)) (n : Nat) (hn : l.length = n) (F : Nat → List UInt8)
    (hs : ∀ i, i < n → body (updR l F i, (i : Int)) = some (.inl ((updR l F i).set i (F i), ((i + 1 : Nat) : Int))))
    (he : ∀ s, body (s, (n : Int)) = some (.inr s)) : iterC body (l, 0) = some ((List.range n).map F) := by
  refine iterC_count (fun i => (updR l F i, (i : Int))) n _ ?_ ?_ ?_
  · rw [updR_zero]; rfl
  · intro k hk
    rw [hs k hk, updR_succ _ _ _ (by omega)]
  · rw [he, ← hn, updR_end]
end Gk

/- What chapter 3's functions come to, in plain Lean. No condition but lengths. -/
namespace Gk
open Gf
theorem degI_eq (p : List UInt8) : degI p = ((trim p).length : Int) - 1 := by
  unfold degI
  have hb := (trim_bound p (trim p).length).1 (Nat.le_refl _)
  by_cases h : trim p = []
  · rw [firstNZ_none, h]; · rfl
    intro x hx
    obtain ⟨k, hk, rfl⟩ := mem_revI hx
    rw [← co_lt hk]; exact trim_nil h k
  · have hpos := List.length_pos_iff.2 h
    have hle := trim_le p
    generalize hn : (trim p).length = n at *
    have hg := revI_get p (n - 1) (by omega)
    rw [show p.length - 1 - (n - 1) = p.length - n by omega] at hg
    obtain ⟨hlt, hge⟩ := List.getElem?_eq_some_iff.1 hg
    have hsplit : revI p = (revI p).take (p.length - n) ++ (((n - 1 : Nat) : Int), p[n - 1]) :: (revI p).drop (p.length - n + 1) := by
      rw [← hge, ← List.drop_eq_getElem_cons hlt, List.take_append_drop]
    rw [hsplit, firstNZ_stop]
    · omega
    · intro x hx
      obtain ⟨i, hi, rfl⟩ := List.getElem_of_mem hx
      rw [List.getElem_take]
      rw [List.length_take, revI_len] at hi
      have h1 := revI_get p (p.length - 1 - i) (by omega)
      rw [show p.length - 1 - (p.length - 1 - i) = i by omega] at h1
      obtain ⟨h2, h3⟩ := List.getElem?_eq_some_iff.1 h1
      rw [h3, ← co_lt (by omega)]
      exact hb _ (by omega)
    · rw [← co_lt (by omega), ← hn]
      exact trim_last p h
theorem poly_Degree_eq (p : List UInt8) (h : p.length ≤ most) : poly_Degree p = some (((trim p).length : Int) - 1) := by
  unfold poly_Degree
  rw [if_pos (by have := most_lt'; omega), degI_eq]
theorem poly_Trim_eq (p : List UInt8) (h : p.length ≤ most) : poly_Trim p = some (trim p) := by
  unfold poly_Trim
  have hl := trim_le p
  have hm := most_lt'
  rw [poly_Degree_eq p h, obs, show ((trim p).length : Int) - 1 + 1 = ((trim p).length : Int) by omega, wI_nat (by omega)]
  have := subL_nat p 0 (trim p).length (Nat.zero_le _) hl
  rw [show ((0 : Nat) : Int) = 0 from rfl] at this
  rw [this, obs, List.drop_zero, ← trim_take]
  unfold slices_Clone_sbytebyte
  rw [appL_nil _ (by omega)]; rfl
theorem ref03_Trim_eq (p : List UInt8) (h : p.length ≤ most) : ref03_Trim p = some (trim p) := by
  unfold ref03_Trim
  have hl := trim_le p
  have hm := most_lt'
  rw [appL_nil _ h, obs]
  refine bind_of ?_ rfl
  refine iterC_count (fun i => p.take (p.length - i)) (p.length - (trim p).length) (trim p) (by simp) ?_ ?_
  · intro i hi
    have hlen : (p.take (p.length - i)).length = p.length - i := by simp
    have hc : co (p.take (p.length - i)) (p.length - i - 1) = 0 := by
      rw [co_take, if_pos (by omega)]
      exact (trim_bound p (trim p).length).1 (Nat.le_refl _) _ (by omega)
    rw [if_pos (by rw [hlen]; omega), hlen, wI_pred _ (by omega) (by omega), idx_co (by rw [hlen]; omega), obs, if_pos hc]
    have := subL_nat (p.take (p.length - i)) 0 (p.length - i - 1) (Nat.zero_le _) (by rw [hlen]; omega)
    rw [show ((0 : Nat) : Int) = 0 from rfl] at this
    rw [this, obs, List.drop_zero, List.take_take]
    congr 3; omega
  · have hn : p.length - (p.length - (trim p).length) = (trim p).length := by omega
    simp only [hn]
    have hlen : (p.take (trim p).length).length = (trim p).length := by simp; omega
    by_cases h0 : trim p = []
    · rw [h0]; simp
    · have hpos := List.length_pos_iff.2 h0
      have hc : co (p.take (trim p).length) ((trim p).length - 1) ≠ 0 := by
        rw [co_take, if_pos (by omega)]
        exact trim_last p h0
      rw [if_pos (by rw [hlen]; omega), hlen, wI_pred _ (by omega) (by omega), idx_co (by rw [hlen]; omega), obs, if_neg hc, ← trim_take]
theorem revI_snd (p : List UInt8) : (revI p).map (·.2) = p.reverse := by
  simp only [revI, List.map_reverse]
  congr 1
  apply List.ext_getElem?
  intro i
  rw [List.getElem?_map, List.getElem?_mapIdx]
  cases p[i]? <;> rfl
theorem foldl_revI {σ : Type} (g : σ → UInt8 → σ) (p : List UInt8) (s : σ) : (revI p).foldl (fun s y => g s y.2) s = p.foldr (fun c s => g s c) s := by
  have : (revI p).foldl (fun s y => g s y.2) s = ((revI p).map (·.2)).foldl g s := by rw [List.foldl_map]
  rw [this, revI_snd, List.foldl_reverse]
theorem ev_foldr (x : UInt8) : ∀ p : List UInt8, p.foldr (fun c s => mul s x ^^^ c) 0 = evp p x
  | [] => rfl
  | c :: p => by
    rw [List.foldr_cons, ev_foldr x p]
    show mul (evp p x) x ^^^ c = c ^^^ mul (evp p x) x
    rw [xor_comm]
theorem poly_Eval_eq (p : List UInt8) (x : UInt8) (h : p.length ≤ most) : poly_Eval true p x = some (evp p x) := by
  unfold poly_Eval
  have hm := most_lt'
  rw [lim_of (by omega), obs]
  have := (rangeL_inv (f := fun (s : UInt8) (y : Int × UInt8) => (field_Mul true s x).bind fun r22 => (field_Add r22 y.2).bind fun r25 => some r25) (fun s y => mul s x ^^^ y.2) (xs := revI p) (s0 := 0) (fun _ _ => True) trivial
    (fun k s y _ _ _ => ⟨by simp only [Mul_eq, Add_eq, obs], trivial⟩)).1
  rw [this, obs, foldl_revI (fun s c => mul s x ^^^ c), ev_foldr]; simp
theorem ev_snoc (x c : UInt8) : ∀ p : List UInt8, evp (p ++ [c]) x = evp p x ^^^ mul c (pow x p.length)
  | [] => by show c ^^^ mul 0 x = 0 ^^^ mul c 1; rw [zero_mul, xor_zero, zero_xor, mul_one]
  | a :: p => by
    show a ^^^ mul (evp (p ++ [c]) x) x = (a ^^^ mul (evp p x) x) ^^^ mul c (mul (pow x p.length) x)
    rw [ev_snoc x c p, add_mul, xor_assoc, mul_assoc]
theorem ref03_Eval_eq (p : List UInt8) (x : UInt8) (h : p.length ≤ most) : ref03_Eval p x = some (evp p x) := by
  unfold ref03_Eval
  have hm := most_lt'
  refine bind_of ?_ rfl
  refine iterC_count (fun i => (evp (p.take i) x, pow x i, (i : Int))) p.length (evp p x) rfl ?_ ?_
  · intro i hi
    simp only
    rw [if_pos (by omega), idx_co hi]
    simp only [obs, refMul_eq]
    rw [take_snoc hi, ev_snoc, List.length_take, Nat.min_eq_left (by omega), wI_succ i (by omega)]
    rfl
  · simp
theorem maxI (a b : Nat) : (if (a : Int) < (b : Int) then (b : Int) else (a : Int)) = ((max a b : Nat) : Int) := by split <;> omega
theorem addLoop (M : Nat) (p q : List UInt8) (hp : p.length ≤ M) (hq : q.length ≤ M) (hM : M ≤ most) {body : List UInt8 × Int → Option ((List UInt8 × Int) ⊕ List UInt8)}
    (hb1 : ∀ (s : List UInt8) (i : Nat), i < q.length → i < s.length → body (s, (i : Int)) = some (.inl (s.set i (co s i ^^^ co q i), ((i + 1 : Nat) : Int))))
    (hb2 : ∀ s : List UInt8, body (s, (q.length : Int)) = some (.inr s)) :
    ∃ x, iterC body (copyL (List.replicate M 0) 0 p, 0) = some x ∧ x.length = M ∧ ∀ j, co x j = co p j ^^^ co q j := by
  refine iterC_up (fun i s => s.length = M ∧ ∀ j, co s j = co p j ^^^ (if j < i then co q j else 0)) q.length _ ?_ ?_ ?_
  · refine ⟨?_, fun j => ?_⟩
    · have := copyL_len (List.replicate M (0 : UInt8)) 0 p (Nat.zero_le _)
      simpa using this
    · have := co_copyL (List.replicate M 0) 0 p (by simpa using hp) j
      rw [show ((0 : Nat) : Int) = 0 from rfl] at this
      rw [this, co_rep]
      simp only [Nat.zero_le, true_and, Nat.zero_add, Nat.sub_zero, Nat.not_lt_zero, if_false, xor_zero]
      split
      · rfl
      · rw [co_ge (by omega)]
  · rintro i s hi ⟨hl, hs⟩
    refine ⟨_, hb1 s i hi (by omega), by simpa using hl, fun j => ?_⟩
    rw [co_set (by omega)]
    by_cases hj : j = i
    · subst hj; rw [if_pos rfl, hs j, if_neg (by omega), if_pos (by omega), xor_zero]
    · rw [if_neg hj, hs j]
      have : j < i + 1 ↔ j < i := by omega
      simp only [this]
  · rintro s ⟨hl, hs⟩
    refine ⟨s, hb2 s, hl, fun j => ?_⟩
    rw [hs j]
    split
    · rfl
    · rw [co_ge (show q.length ≤ j by omega)]
theorem poly_Add_eq (p q : List UInt8) (hp : p.length ≤ most) (hq : q.length ≤ most) : poly_Add p q = some (trim (pplus p q)) := by
  unfold poly_Add
  have hm := most_lt'
  rw [maxI, makeL_nat _ _ (by omega), obs]
  obtain ⟨x, h1, h2, h3⟩ := addLoop (max p.length q.length) p q (by omega) (by omega) (by omega)
    (body := fun s6 : List UInt8 × Int => (if s6.2 < (q.length : Int) then ((idx q s6.2).bind fun c9 => ((idx s6.1 s6.2).bind fun c10 => some (.inl ((s6.1.set (s6.2 : Int).toNat ((c10 ^^^ c9))), (wI (s6.2 + 1)))))) else some (.inr s6.1)))
    (fun s i hi hs => by
      simp only
      rw [if_pos (by omega), idx_co hi, obs, idx_co hs, obs, wI_succ i (by omega), Int.toNat_natCast])
    (fun s => by simp)
  rw [h1, obs, poly_Trim_eq x (by omega), obs, trim_ext x (pplus p q) (fun j => by rw [h3, co_pplus])]
theorem mulLoop (P Q : List UInt8) (M : Nat) (hM : M = P.length + Q.length - 1) (hQ : Q ≠ []) (hm : P.length + Q.length ≤ most) {body : List UInt8 × Int → Option ((List UInt8 × Int) ⊕ List UInt8)}
    (hb1 : ∀ (s : List UInt8) (i : Nat), i < P.length → s.length = M → body (s, (i : Int)) = some (.inl (copyL s (i : Int) (sumL ((s.take (i + Q.length)).drop i) (co P i) Q), ((i + 1 : Nat) : Int))))
    (hb2 : ∀ s : List UInt8, body (s, (P.length : Int)) = some (.inr s)) :
    ∃ x, iterC body (List.replicate M 0, 0) = some x ∧ x.length = M ∧ ∀ j, co x j = co (pmul P Q) j := by
  have lq := List.length_pos_iff.2 hQ
  refine iterC_up (fun i s => s.length = M ∧ ∀ j, co s j = co (pmul (P.take i) Q) j) P.length _ ⟨by simp, fun j => by rw [co_rep]; simp [pmul, co_nil]⟩ ?_ ?_
  · rintro i s hi ⟨hl, hs⟩
    have hlen : (sumL ((s.take (i + Q.length)).drop i) (co P i) Q).length = Q.length := by rw [sumL_len]; simp; omega
    refine ⟨_, hb1 s i hi hl, by rw [copyL_len _ _ _ (by omega), hl], fun j => ?_⟩
    rw [co_copyL _ _ _ (by rw [hlen]; omega), hlen, take_snoc hi, co_pmul_snoc, ← hs j, List.length_take, Nat.min_eq_left (Nat.le_of_lt hi), co_sumL]
    by_cases h1 : i ≤ j ∧ j < i + Q.length
    · have hl2 : ((s.take (i + Q.length)).drop i).length = Q.length := by simp; omega
      rw [if_pos h1, if_neg (show ¬ j < i by omega), hl2, if_pos (show j - i < Q.length by omega), co_drop, co_take, show i + (j - i) = j by omega, if_pos (show j < i + Q.length by omega)]
    · rw [if_neg h1]
      by_cases h2 : j < i
      · rw [if_pos h2, xor_zero]
      · rw [if_neg h2, co_ge (show Q.length ≤ j - i by omega), mul_zero, xor_zero]
  · rintro s ⟨hl, hs⟩
    exact ⟨s, hb2 s, hl, fun j => by rw [hs j, List.take_of_length_le (Nat.le_refl _)]⟩
theorem poly_Mul_eq (p q : List UInt8) (hp : p.length ≤ most) (hq : q.length ≤ most) (h : trim p = [] ∨ trim q = [] ∨ (trim p).length + (trim q).length ≤ 257) : poly_Mul true p q = some (trim (pmul p q), 0) := by
  unfold poly_Mul
  rw [poly_Trim_eq p hp, obs, poly_Trim_eq q hq, obs, if_neg (by simp)]
  have hs : trim (pmul p q) = trim (pmul (trim p) (trim q)) := trim_ext _ _ (pmul_sim (trim_sim p).symm (trim_sim q).symm)
  by_cases h1 : trim p = []
  · rw [if_pos (by rw [h1]; rfl), hs, h1]; rfl
  · have l1 := List.length_pos_iff.2 h1
    rw [if_neg (by omega)]
    by_cases h2 : trim q = []
    · rw [if_pos (by rw [h2]; rfl), hs, h2, trim_ext _ [] (pmul_nilR _)]; rfl
    · have l2 := List.length_pos_iff.2 h2
      have h3 : (trim p).length + (trim q).length ≤ 257 := by rcases h with h | h | h <;> first | exact absurd h h1 | exact absurd h h2 | exact h
      rw [if_neg (by omega), wI_add _ _ (by omega), wI_pred _ (by omega) (by omega), if_neg (by omega), makeL_nat _ _ (by have := h257; omega), obs]
      obtain ⟨x, e1, e2, e3⟩ := mulLoop (trim p) (trim q) _ rfl h2 (by have := h257; omega)
        (body := fun s12 : List UInt8 × Int => (if s12.2 < ((trim p).length : Int) then ((idx (trim p) s12.2).bind fun c15 => ((subL s12.1 s12.2 ((s12.1.length : Int))).bind fun c18 => ((subL s12.1 s12.2 ((wI (s12.2 + ((trim q).length : Int))))).bind fun c19 =>
          ((field_Sum true c19 c15 (trim q)).bind fun r20 => some (.inl ((copyL s12.1 s12.2 r20), (wI (s12.2 + 1)))))))) else some (.inr s12.1)))
        (fun s i hi hl => by
          simp only
          rw [if_pos (by omega), idx_co hi, obs, subL_nat _ _ _ (by omega) (Nat.le_refl _), obs, wI_add _ _ (by omega), subL_nat _ _ _ (by omega) (by omega), obs,
            Sum_eq _ _ _ (by have := h257; simp; omega), obs, wI_succ i (by omega)])
        (fun s => by simp)
      rw [e1, obs, hs]
      congr 2
      refine eq_of_co ?_ (fun j => by rw [e3, co_trim])
      rw [e2, pmul_trim_len (trim_trim p) (trim_trim q) h1 h2]
theorem ref03_Mul_eq (p q : List UInt8) (h : p.length + q.length ≤ most) : ref03_Mul p q = some (trim (pmul p q)) := by
  unfold ref03_Mul
  have hm := most_lt'
  rw [wI_add _ _ (by omega), makeL_nat _ _ h, obs]
  obtain ⟨x, e1, e2, e3⟩ := iterC_up (s0 := List.replicate (p.length + q.length) (0 : UInt8)) (fun i s => s.length = p.length + q.length ∧ ∀ j, co s j = co (pmul (p.take i) q) j) p.length (fun x : List UInt8 => x.length = p.length + q.length ∧ ∀ j, co x j = co (pmul p q) j)
    (body := fun s4 : List UInt8 × Int => (if s4.2 < (p.length : Int) then ((idx p s4.2).bind fun c7 => ((iterC (fun s8 : List UInt8 × Int => (if s8.2 < (q.length : Int) then ((idx q s8.2).bind fun c11 => ((idx s8.1 ((wI (s4.2 + s8.2)))).bind fun c14 =>
      ((ref02_Mul c7 c11).bind fun r15 => some (.inl ((s8.1.set ((wI (s4.2 + s8.2)) : Int).toNat ((c14 ^^^ r15))), (wI (s8.2 + 1))))))) else some (.inr s8.1))) (s4.1, 0)).bind fun x8 => some (.inl (x8, (wI (s4.2 + 1)))))) else some (.inr s4.1)))
    ⟨by simp, fun j => by rw [co_rep]; simp [pmul, co_nil]⟩
    (fun i s hi hs => by
      obtain ⟨hl, hs⟩ := hs
      obtain ⟨y, f1, f2, f3⟩ := iterC_up (s0 := s) (fun k t => t.length = p.length + q.length ∧ ∀ j, co t j = co s j ^^^ (if i ≤ j ∧ j < i + k then mul (co p i) (co q (j - i)) else 0)) q.length (fun x : List UInt8 => x.length = p.length + q.length ∧ ∀ j, co x j = co s j ^^^ (if i ≤ j then mul (co p i) (co q (j - i)) else 0))
        (body := fun s8 : List UInt8 × Int => (if s8.2 < (q.length : Int) then ((idx q s8.2).bind fun c11 => ((idx s8.1 ((wI ((i : Int) + s8.2)))).bind fun c14 => ((ref02_Mul (co p i) c11).bind fun r15 => some (.inl ((s8.1.set ((wI ((i : Int) + s8.2)) : Int).toNat ((c14 ^^^ r15))), (wI (s8.2 + 1))))))) else some (.inr s8.1)))
        ⟨hl, fun j => by rw [if_neg (by omega), xor_zero]⟩
        (fun k t hk ht => by
          obtain ⟨tl, ht⟩ := ht
          refine ⟨t.set (i + k) (co t (i + k) ^^^ mul (co p i) (co q k)), ?_, by simpa using tl, fun j => ?_⟩
          · simp only
            rw [if_pos (by omega), idx_co hk, obs, wI_add _ _ (by omega), idx_co (by omega), obs, refMul_eq, obs, wI_succ k (by omega), Int.toNat_natCast]
          · rw [co_set (by omega)]
            by_cases hj : j = i + k
            · subst hj
              rw [if_pos rfl, ht (i + k), if_neg (by omega), if_pos (by omega), xor_zero, show i + k - i = k by omega]
            · rw [if_neg hj, ht j]
              have : (i ≤ j ∧ j < i + (k + 1)) ↔ (i ≤ j ∧ j < i + k) := by omega
              simp only [this])
        (fun t ht => ⟨t, by simp, ht.1, fun j => by
          rw [ht.2 j]
          by_cases h1 : i ≤ j
          · by_cases h2 : j < i + q.length
            · rw [if_pos ⟨h1, h2⟩, if_pos h1]
            · rw [if_neg (by omega), if_pos h1, co_ge (show q.length ≤ j - i by omega), mul_zero]
          · rw [if_neg (by omega), if_neg h1]⟩)
      refine ⟨y, ?_, f2, fun j => ?_⟩
      · simp only
        rw [if_pos (by omega), idx_co hi, obs, f1, obs, wI_succ i (by omega)]
      · rw [f3 j, take_snoc hi, co_pmul_snoc, ← hs j, List.length_take, Nat.min_eq_left (Nat.le_of_lt hi)]
        by_cases h1 : i ≤ j
        · rw [if_pos h1, if_neg (by omega)]
        · rw [if_neg h1, if_pos (by omega)])
    (fun s hs => ⟨s, by simp, hs.1, fun j => by rw [hs.2 j, List.take_of_length_le (Nat.le_refl _)]⟩)
  rw [e1, obs, ref03_Trim_eq x (by omega), obs, trim_ext x (pmul p q) e3]
end Gk

/- Chapter 3: vanishing polynomials. No condition. -/
namespace Gk
open Gf
def vanStep (o : List UInt8) (a : UInt8) : List UInt8 := trim (pmul o [a, 1])
def van (xs : List UInt8) : List UInt8 := xs.foldl vanStep [1]
theorem trim_lin (a : UInt8) : trim [a, 1] = [a, 1] := trim_id (fun _ => by show (1 : UInt8) ≠ 0; decide)
theorem van_len : ∀ (xs o : List UInt8), trim o = o → o ≠ [] → (xs.foldl vanStep o).length = o.length + xs.length ∧ trim (xs.foldl vanStep o) = xs.foldl vanStep o
  | [], o, h, _ => ⟨rfl, h⟩
  | a :: xs, o, h, hne => by
    have hl : (vanStep o a).length = o.length + 1 := by
      unfold vanStep
      rw [pmul_trim_len h (trim_lin a) hne (by simp)]; simp
    have := van_len xs (vanStep o a) (trim_trim _) (fun e => by rw [e] at hl; simp at hl)
    rw [List.foldl_cons]
    exact ⟨by rw [this.1, hl, List.length_cons]; omega, this.2⟩
theorem trim_one : trim [1] = [1] := trim_id (fun _ => by show (1 : UInt8) ≠ 0; decide)
theorem van_length (xs : List UInt8) : (van xs).length = xs.length + 1 := by
  have := (van_len xs [1] trim_one (by simp)).1
  unfold van; rw [this]; simp; omega
theorem van_trim (xs : List UInt8) : trim (van xs) = van xs := (van_len xs [1] trim_one (by simp)).2
theorem van_snoc (xs : List UInt8) (a : UInt8) : van (xs ++ [a]) = vanStep (van xs) a := by unfold van; rw [List.foldl_append]; rfl
theorem poly_Vanish_eq (xs : List UInt8) (h : xs.length ≤ 255) : poly_Vanish true xs = some (van xs, 0) := by
  unfold poly_Vanish
  rw [if_neg (by simp), if_neg (by omega)]
  refine bind_of ?_ rfl
  refine iterC_count (fun i => (van (xs.take i), (i : Int))) xs.length (van xs) rfl ?_ ?_
  · intro i hi
    have h1 := van_length (xs.take i)
    have h2 : (xs.take i).length = i := by simp; omega
    have := h257
    simp only
    rw [if_pos (by omega), idx_co hi, obs, poly_Mul_eq _ _ (by omega) (by simp; omega) (.inr (.inr (by rw [van_trim, trim_lin, h1, h2]; simp; omega))), obs, wI_succ i (by omega), take_snoc hi, van_snoc]
    rfl
  · simp
end Gk

/- Chapter 3: places, weights. No condition but lengths. -/
namespace Gk
open Gf
theorem mput_keys (m : List (UInt8 × Bool)) (k : UInt8) (v : Bool) (a : UInt8) : a ∈ (mput m k v).map (·.1) ↔ a = k ∨ a ∈ m.map (·.1) := by
  unfold mput
  split
  · rename_i h
    rw [List.map_map]
    have : ((fun x : UInt8 × Bool => x.1) ∘ fun p => if p.1 = k then (p.1, v) else p) = (fun x => x.1) := by
      funext p; simp only [Function.comp]; split <;> rfl
    rw [this]
    exact ⟨fun h => .inr h, fun h' => h'.elim (fun e => e ▸ h) id⟩
  · simp only [List.map_append, List.mem_append, List.map_cons, List.map_nil, List.mem_singleton]
    exact ⟨fun h => h.symm, fun h => h.symm⟩
theorem mput_len (m : List (UInt8 × Bool)) (k : UInt8) (v : Bool) : (mput m k v).length = if k ∈ m.map (·.1) then m.length else m.length + 1 := by
  unfold mput
  split <;> simp
theorem seen_inv (xs : List UInt8) (i : Nat) (hi : i < xs.length) (m : List (UInt8 × Bool)) (h : (∀ a, a ∈ m.map (·.1) ↔ a ∈ xs.take i) ∧ m.length ≤ i ∧ (m.length = i ↔ (xs.take i).Nodup)) :
    (∀ a, a ∈ (mput m (co xs i) true).map (·.1) ↔ a ∈ xs.take (i + 1)) ∧ (mput m (co xs i) true).length ≤ i + 1 ∧ ((mput m (co xs i) true).length = i + 1 ↔ (xs.take (i + 1)).Nodup) := by
  obtain ⟨h1, h2, h3⟩ := h
  rw [take_snoc hi]
  refine ⟨fun a => ?_, ?_, ?_⟩
  · rw [mput_keys, h1 a, List.mem_append, List.mem_singleton]
    exact ⟨fun h => h.symm, fun h => h.symm⟩
  · rw [mput_len]; split <;> omega
  · rw [mput_len, List.nodup_append]
    by_cases hk : co xs i ∈ m.map (·.1)
    · rw [if_pos hk]
      refine ⟨fun h => by omega, fun h => ?_⟩
      exact absurd rfl (h.2.2 _ ((h1 _).1 hk) _ (by simp))
    · rw [if_neg hk]
      refine ⟨fun h => ⟨h3.1 (by omega), by simp, fun a ha b hb e => ?_⟩, fun h => by rw [h3.2 h.1]⟩
      rw [List.mem_singleton] at hb
      subst hb; subst e
      exact hk ((h1 _).2 ha)
theorem poly_check_eq (xs : List UInt8) (h : xs.length ≤ most) : poly_check true xs = some (if xs.length = 0 then 5 else if 255 < xs.length then 4 else if xs.Nodup then 0 else 6) := by
  unfold poly_check
  have hm := most_lt'
  obtain ⟨m, e1, e2, e3⟩ := iterC_up (s0 := ([] : List (UInt8 × Bool))) (fun i m => (∀ a, a ∈ m.map (·.1) ↔ a ∈ xs.take i) ∧ m.length ≤ i ∧ (m.length = i ↔ (xs.take i).Nodup)) xs.length (fun m : List (UInt8 × Bool) => m.length ≤ xs.length ∧ (m.length = xs.length ↔ xs.Nodup))
    (body := fun s4 : (List (UInt8 × Bool)) × Int => (if s4.2 < (xs.length : Int) then ((idx xs s4.2).bind fun c7 => some (.inl ((mput s4.1 c7 true), (wI (s4.2 + 1))))) else some (.inr s4.1)))
    ⟨by simp, by simp, by simp⟩
    (fun i m hi hI => ⟨_, by simp only; rw [if_pos (by omega), idx_co hi, obs, wI_succ i (by omega)], seen_inv xs i hi m hI⟩)
    (fun m hI => ⟨m, by simp, hI.2.1, by rw [hI.2.2, List.take_of_length_le (Nat.le_refl _)]⟩)
  rw [e1, obs, if_neg (by simp)]
  by_cases h0 : xs.length = 0
  · rw [if_pos (by omega), if_pos h0]
  · rw [if_neg (by omega), if_neg h0]
    by_cases h1 : 255 < xs.length
    · rw [if_pos (by omega), if_pos h1]
    · rw [if_neg (by omega), if_neg h1]
      by_cases h2 : xs.Nodup
      · rw [if_pos h2, if_pos (by rw [e3.2 h2])]
      · rw [if_neg h2, if_neg (fun e => h2 (e3.1 (by omega)))]
def wts (xs : List UInt8) (x : UInt8) : List UInt8 := (List.range xs.length).map fun i => wt xs i x
theorem wts_len (xs : List UInt8) (x : UInt8) : (wts xs x).length = xs.length := by simp [wts]
theorem co_wts (xs : List UInt8) (x : UInt8) (i : Nat) (h : i < xs.length) : co (wts xs x) i = wt xs i x := by
  simp [co, wts, List.getD_eq_getElem?_getD, h]
theorem poly_Weights_bad (xs : List UInt8) (x : UInt8) (e : Int) (h : poly_check true xs = some e) (he : e ≠ 0) : poly_Weights true xs x = some ([], e) := by
  unfold poly_Weights
  rw [h, obs, if_neg he]
theorem poly_Weights_eq (xs : List UInt8) (x : UInt8) (h0 : xs.length ≠ 0) (h1 : xs.length ≤ 255) (hn : xs.Nodup) : poly_Weights true xs x = some (wts xs x, 0) := by
  unfold poly_Weights
  have hm := most_lt'
  have hh := h257
  rw [poly_check_eq xs (by omega), if_neg h0, if_neg (by omega), if_pos hn, obs, if_pos rfl, makeL_nat _ _ (by omega), obs]
  obtain ⟨s, e1, e2⟩ := iterC_up (s0 := List.replicate xs.length (0 : UInt8)) (fun i s => s.length = xs.length ∧ ∀ j, j < i → co s j = wt xs j x) xs.length (fun s : List UInt8 => s = wts xs x)
    (body := fun s7 : List UInt8 × Int => (if s7.2 < (xs.length : Int) then ((idx xs s7.2).bind fun c10 => ((iterC (fun s11 : UInt8 × UInt8 × Int => (if s11.2.2 < (xs.length : Int) then ((idx xs s11.2.2).bind fun c14 => (if s11.2.2 = s7.2 then some (.inl (s11.1, s11.2.1, (wI (s11.2.2 + 1)))) else
      ((field_Add x c14).bind fun r16 => ((field_Mul true s11.1 r16).bind fun r18 => ((field_Add c10 c14).bind fun r20 => ((field_Mul true s11.2.1 r20).bind fun r22 => some (.inl (r18, r22, (wI (s11.2.2 + 1)))))))))) else some (.inr (s11.1, s11.2.1)))) ((1 : UInt8), (1 : UInt8), 0)).bind fun x11 =>
      ((field_Div true x11.1 x11.2).bind fun r26 => ((idx s7.1 s7.2).bind fun c28 => some (.inl ((s7.1.set (s7.2 : Int).toNat r26.1), (wI (s7.2 + 1)))))))) else some (.inr s7.1)))
    ⟨by simp, fun j hj => absurd hj (Nat.not_lt_zero _)⟩
    (fun i s hi hI => by
      obtain ⟨hl, hs⟩ := hI
      have inner : iterC (fun s11 : UInt8 × UInt8 × Int => (if s11.2.2 < (xs.length : Int) then ((idx xs s11.2.2).bind fun c14 => (if s11.2.2 = (i : Int) then some (.inl (s11.1, s11.2.1, (wI (s11.2.2 + 1)))) else
          ((field_Add x c14).bind fun r16 => ((field_Mul true s11.1 r16).bind fun r18 => ((field_Add (co xs i) c14).bind fun r20 => ((field_Mul true s11.2.1 r20).bind fun r22 => some (.inl (r18, r22, (wI (s11.2.2 + 1)))))))))) else some (.inr (s11.1, s11.2.1)))) ((1 : UInt8), (1 : UInt8), 0)
          = some (pe xs i x xs.length, pe xs i (co xs i) xs.length) := by
        refine iterC_count (fun k => (pe xs i x k, pe xs i (co xs i) k, (k : Int))) xs.length _ rfl ?_ ?_
        · intro k hk
          simp only
          rw [if_pos (by omega), idx_co hk, obs]
          by_cases hki : k = i
          · subst hki
            rw [if_pos rfl, wI_succ k (by omega)]
            simp [pe]
          · rw [if_neg (by omega)]
            simp only [Add_eq, Mul_eq, obs]
            rw [wI_succ k (by omega)]
            simp [pe, hki]
        · simp
      refine ⟨s.set i (wt xs i x), ?_, by simpa using hl, fun j hj => ?_⟩
      · simp only
        rw [if_pos (by omega), idx_co hi, obs, inner, obs, Div_eq, if_neg (pe_ne hn hi _ (Nat.le_refl _)), obs, idx_co (by omega), obs, wI_succ i (by omega), Int.toNat_natCast]
        rfl
      · rw [co_set (by omega)]
        by_cases hji : j = i
        · rw [if_pos hji, hji]
        · rw [if_neg hji]; exact hs j (by omega))
    (fun s hI => ⟨s, by simp, eq_of_co (by rw [wts_len, hI.1]) (fun j => by
      by_cases hj : j < xs.length
      · rw [hI.2 j hj, co_wts xs x j hj]
      · rw [co_ge (by omega), co_ge (by rw [wts_len]; omega)])⟩)
  rw [e1, obs, e2]
theorem ev_van : ∀ (xs o : List UInt8) (y : UInt8), evp (xs.foldl vanStep o) y = 0 ↔ evp o y = 0 ∨ y ∈ xs
  | [], o, y => by simp
  | a :: xs, o, y => by
    rw [List.foldl_cons, ev_van xs (vanStep o a) y]
    have : evp (vanStep o a) y = mul (evp o y) (y ^^^ a) := by unfold vanStep; rw [ev_trim, ev_pmul, ev_lin]
    rw [this, List.mem_cons]
    constructor
    · rintro (h | h)
      · rcases mul_eq_zero h with h | h
        · exact .inl h
        · exact .inr (.inl (xor_eq_zero h))
      · exact .inr (.inr h)
    · rintro (h | h | h)
      · exact .inl (by rw [h, zero_mul])
      · exact .inl (by rw [h, xor_self, mul_zero])
      · exact .inr h
theorem van_root (xs : List UInt8) (y : UInt8) : evp (van xs) y = 0 ↔ y ∈ xs := by
  unfold van
  rw [ev_van]
  have : evp [1] y = 1 := by show 1 ^^^ mul 0 y = 1; rw [zero_mul, xor_zero]
  rw [this]
  constructor
  · rintro (h | h)
    · exact absurd h (by decide)
    · exact h
  · exact .inr
end Gk

/- Newton's divided differences give the polynomial through places and values. Plain. No condition. -/
namespace Gf
theorem inv_one : inv 1 = 1 := (inv_uniq (mul_one 1)).symm
theorem mul_swap4 (a b c d : UInt8) : mul (mul a b) (mul c d) = mul (mul a c) (mul b d) := by rw [mul_assoc, mul_assoc, mul_left_comm b]
theorem inv_mul2 (a b : UInt8) : inv (mul a b) = mul (inv a) (inv b) := by
  by_cases ha : a = 0
  · rw [ha, zero_mul, inv_zero, zero_mul]
  · by_cases hb : b = 0
    · rw [hb, mul_zero, inv_zero, mul_zero]
    · refine (inv_uniq ?_).symm
      rw [mul_assoc, mul_left_comm b, mul_inv hb, mul_one, mul_inv ha]
theorem co_pmul_lin : ∀ (p : List UInt8) (a : UInt8) (i : Nat), co (pmul p [a, 1]) (i + 1) = mul (co p (i + 1)) a ^^^ co p i
  | [], a, i => by simp [pmul, co_nil, zero_mul]
  | c :: p, a, 0 => by
    rw [co_pmul_succ, co_succ, co_zero, co_succ, co_zero, mul_one]
    cases p with
    | nil => simp [pmul, co_nil, zero_mul]
    | cons d p => rw [co_pmul_zero, co_zero, co_zero, xor_comm]
  | c :: p, a, i + 1 => by
    have : co [a, 1] (i + 1 + 1) = 0 := co_ge (by simp)
    rw [co_pmul_succ, co_pmul_lin p a i, this, mul_zero, zero_xor, co_succ, co_succ]
theorem ev_const (c x : UInt8) : evp [c] x = c := by show c ^^^ mul 0 x = c; rw [zero_mul, xor_zero]
def dd (xs ys : Nat → UInt8) (a : Nat) : Nat → UInt8
  | 0 => ys a
  | m + 1 => mul (dd xs ys (a + 1) m ^^^ dd xs ys a m) (inv (xs (a + m + 1) ^^^ xs a))
def nev (xs ys : Nat → UInt8) (a : Nat) : Nat → List UInt8
  | 0 => [ys a]
  | m + 1 => (pplus (pmul (nev xs ys (a + 1) m) [xs a, 1]) (pmul (nev xs ys a m) [xs (a + m + 1), 1])).map (mul (inv (xs (a + m + 1) ^^^ xs a)))
theorem dg_nev (xs ys : Nat → UInt8) : ∀ (m a : Nat), dg (nev xs ys a m) ≤ m + 1
  | 0, a => dg_len _
  | m + 1, a => by
    refine dg_map _ (dg_pplus ?_ ?_)
    · have := dg_pmul (dg_nev xs ys m (a + 1)) (dg_lin (xs a)); omega
    · have := dg_pmul (dg_nev xs ys m a) (dg_lin (xs (a + m + 1))); omega
theorem co_nev (xs ys : Nat → UInt8) : ∀ (m a : Nat), co (nev xs ys a m) m = dd xs ys a m
  | 0, a => rfl
  | m + 1, a => by
    unfold nev dd
    rw [co_map, co_pplus, co_pmul_lin, co_pmul_lin, co_nev xs ys m (a + 1), co_nev xs ys m a, dg_le.1 (dg_nev xs ys m (a + 1)) (m + 1) (Nat.le_refl _), dg_le.1 (dg_nev xs ys m a) (m + 1) (Nat.le_refl _), zero_mul, zero_mul, zero_xor, zero_xor, mul_comm]
theorem ev_nev (xs ys : Nat → UInt8) : ∀ (m a : Nat), (∀ i j, a ≤ i → i < j → j ≤ a + m → xs i ≠ xs j) → ∀ j, a ≤ j → j ≤ a + m → evp (nev xs ys a m) (xs j) = ys j
  | 0, a, _, j, h1, h2 => by
    obtain rfl : j = a := by omega
    exact ev_const _ _
  | m + 1, a, hd, j, h1, h2 => by
    have hne : xs (a + m + 1) ^^^ xs a ≠ 0 := fun e => hd a (a + m + 1) (Nat.le_refl _) (by omega) (by omega) (xor_eq_zero e).symm
    unfold nev
    rw [ev_map, ev_pplus, ev_pmul, ev_pmul, ev_lin, ev_lin]
    by_cases ha : j = a
    · subst ha
      rw [xor_self, mul_zero, zero_xor, ev_nev xs ys m j (fun i k h3 h4 h5 => hd i k h3 h4 (by omega)) j (Nat.le_refl _) (by omega), mul_comm (ys j), ← mul_assoc, xor_comm (xs j), inv_mul hne, one_mul]
    · by_cases hb : j = a + m + 1
      · subst hb
        rw [xor_self, mul_zero, xor_zero, ev_nev xs ys m (a + 1) (fun i k h3 h4 h5 => hd i k (by omega) h4 (by omega)) (a + m + 1) (by omega) (by omega), mul_comm (ys _), ← mul_assoc, inv_mul hne, one_mul]
      · rw [ev_nev xs ys m (a + 1) (fun i k h3 h4 h5 => hd i k (by omega) h4 (by omega)) j (by omega) (by omega), ev_nev xs ys m a (fun i k h3 h4 h5 => hd i k h3 h4 (by omega)) j h1 (by omega), ← mul_add,
          xor_xor_swap, xor_self, zero_xor, mul_comm (ys j), ← mul_assoc, xor_comm (xs a), inv_mul hne, one_mul]
def pip (xs : Nat → UInt8) : Nat → List UInt8
  | 0 => [1]
  | m + 1 => pmul (pip xs m) [xs m, 1]
def pi (xs : Nat → UInt8) (x : UInt8) : Nat → UInt8
  | 0 => 1
  | m + 1 => mul (pi xs x m) (x ^^^ xs m)
theorem ev_pip (xs : Nat → UInt8) (x : UInt8) : ∀ m, evp (pip xs m) x = pi xs x m
  | 0 => ev_const 1 x
  | m + 1 => by unfold pip pi; rw [ev_pmul, ev_pip xs x m, ev_lin]
theorem dg_pip (xs : Nat → UInt8) : ∀ m, dg (pip xs m) ≤ m + 1
  | 0 => dg_len _
  | m + 1 => by have := dg_pmul (dg_pip xs m) (dg_lin (xs m)); unfold pip; omega
theorem co_pip (xs : Nat → UInt8) : ∀ m, co (pip xs m) m = 1
  | 0 => rfl
  | m + 1 => by unfold pip; rw [co_pmul_lin, co_pip xs m, dg_le.1 (dg_pip xs m) (m + 1) (Nat.le_refl _), zero_mul, zero_xor]
theorem pi_zero (xs : Nat → UInt8) : ∀ (m j : Nat), j < m → pi xs (xs j) m = 0
  | m + 1, j, h => by
    unfold pi
    by_cases hj : j = m
    · subst hj; rw [xor_self, mul_zero]
    · rw [pi_zero xs m j (by omega), zero_mul]
def ns (xs ys : Nat → UInt8) (x : UInt8) : Nat → UInt8 := sm (fun i => mul (dd xs ys 0 i) (pi xs x i))
theorem ns_nev (xs ys : Nat → UInt8) (x : UInt8) : ∀ m, (∀ i j, i < j → j ≤ m → xs i ≠ xs j) → evp (nev xs ys 0 m) x = ns xs ys x (m + 1)
  | 0, _ => by
    show evp [ys 0] x = 0 ^^^ mul (ys 0) 1
    rw [ev_const, mul_one, zero_xor]
  | m + 1, hd => by
    have ih := ns_nev xs ys x m (fun i j h1 h2 => hd i j h1 (by omega))
    have hpl : ((List.range (m + 1)).map xs).length = m + 1 := by simp
    have hnd : ((List.range (m + 1)).map xs).Nodup := by
      refine List.pairwise_iff_getElem.2 fun i j hi hj hij => ?_
      simp only [List.getElem_map, List.getElem_range]
      simp only [List.length_map, List.length_range] at hi hj
      exact hd i j hij (by omega)
    have h0 : Sim (pplus (nev xs ys 0 (m + 1)) ((pip xs (m + 1)).map (mul (dd xs ys 0 (m + 1))))) (nev xs ys 0 m) := by
      refine agree hnd ?_ ?_ ?_
      · rw [hpl]
        refine dg_le.2 fun i hi => ?_
        rw [co_pplus, co_map]
        by_cases h1 : i = m + 1
        · subst h1; rw [co_nev, co_pip, mul_one, xor_self]
        · rw [dg_le.1 (dg_nev xs ys (m + 1) 0) i (by omega), dg_le.1 (dg_pip xs (m + 1)) i (by omega), mul_zero, xor_zero]
      · rw [hpl]; exact dg_nev xs ys m 0
      · intro a ha
        obtain ⟨j, hj, rfl⟩ := List.mem_map.1 ha
        have hj' : j < m + 1 := by simpa using hj
        rw [ev_pplus, ev_map, ev_pip, pi_zero xs (m + 1) j hj', mul_zero, xor_zero, ev_nev xs ys (m + 1) 0 (fun i k _ h2 h3 => hd i k h2 (by omega)) j (Nat.zero_le _) (by omega),
          ev_nev xs ys m 0 (fun i k _ h2 h3 => hd i k h2 (by omega)) j (Nat.zero_le _) (by omega)]
    have h1 := ev_sim _ _ x h0
    rw [ev_pplus, ev_map, ev_pip, ih] at h1
    show evp (nev xs ys 0 (m + 1)) x = ns xs ys x (m + 1) ^^^ mul (dd xs ys 0 (m + 1)) (pi xs x (m + 1))
    rw [← h1, xor_assoc, xor_self, xor_zero]
theorem ns_at (xs ys : Nat → UInt8) (n : Nat) (hd : ∀ i j, i < j → j < n → xs i ≠ xs j) (j : Nat) (hj : j < n) : ns xs ys (xs j) n = ys j := by
  obtain ⟨m, rfl⟩ : ∃ m, n = m + 1 := ⟨n - 1, by omega⟩
  rw [← ns_nev xs ys (xs j) m (fun i k h1 h2 => hd i k h1 (by omega))]
  exact ev_nev xs ys m 0 (fun i k _ h2 h3 => hd i k h2 (by omega)) j (Nat.zero_le _) (by omega)
def hn (xs c : Nat → UInt8) (x : UInt8) (n : Nat) : Nat → UInt8
  | 0 => 0
  | k + 1 => c (n - (k + 1)) ^^^ mul (hn xs c x n k) (x ^^^ xs (n - (k + 1)))
theorem hn_ns (xs c : Nat → UInt8) (x : UInt8) (n : Nat) : ∀ k, k ≤ n → sm (fun i => mul (c i) (pi xs x i)) (n - k) ^^^ mul (hn xs c x n k) (pi xs x (n - k)) = sm (fun i => mul (c i) (pi xs x i)) n
  | 0, _ => by
    show sm (fun i => mul (c i) (pi xs x i)) n ^^^ mul 0 _ = _
    rw [zero_mul, xor_zero]
  | k + 1, h => by
    have ih := hn_ns xs c x n k (by omega)
    rw [show n - k = (n - (k + 1)) + 1 by omega] at ih
    rw [← ih]
    show sm _ (n - (k + 1)) ^^^ mul (c (n - (k + 1)) ^^^ mul (hn xs c x n k) (x ^^^ xs (n - (k + 1)))) (pi xs x (n - (k + 1))) = (sm _ (n - (k + 1)) ^^^ mul (c (n - (k + 1))) (pi xs x (n - (k + 1)))) ^^^ mul (hn xs c x n k) (mul (pi xs x (n - (k + 1))) (x ^^^ xs (n - (k + 1))))
    rw [add_mul, xor_assoc, mul_assoc, mul_comm (x ^^^ _)]
end Gf

/- Chapter 3: the polynomial through places and values. No condition but lengths. -/
namespace Gk
open Gf
def stg (xs ys : List UInt8) (k i : Nat) : UInt8 := dd (co xs) (co ys) (i - min k i) (min k i)
theorem stg_step (xs ys : List UInt8) (k j : Nat) (h1 : 1 ≤ k) (h2 : k ≤ j) : stg xs ys k j = mul (stg xs ys (k - 1) j ^^^ stg xs ys (k - 1) (j - 1)) (inv (co xs j ^^^ co xs (j - k))) := by
  obtain ⟨m, rfl⟩ : ∃ m, k = m + 1 := ⟨k - 1, by omega⟩
  unfold stg
  have e1 : min (m + 1) j = m + 1 := by omega
  have e2 : min m j = m := by omega
  have e3 : min m (j - 1) = m := by omega
  rw [Nat.add_sub_cancel, e1, e2, e3]
  have e4 : j - m = j - (m + 1) + 1 := by omega
  have e5 : j - 1 - m = j - (m + 1) := by omega
  rw [e4, e5]
  show mul (dd _ _ (j - (m + 1) + 1) m ^^^ dd _ _ (j - (m + 1)) m) (inv (co xs (j - (m + 1) + m + 1) ^^^ co xs (j - (m + 1)))) = _
  rw [show j - (m + 1) + m + 1 = j by omega]
def thStep (xs : List UInt8) (s : List UInt8) (y : Int × UInt8) : List UInt8 := trim (pplus (trim (pmul s [co xs y.1.toNat, 1])) [y.2])
theorem ev_thStep (xs s : List UInt8) (y : Int × UInt8) (x : UInt8) : evp (thStep xs s y) x = y.2 ^^^ mul (evp s x) (x ^^^ co xs y.1.toNat) := by
  unfold thStep
  rw [ev_trim, ev_pplus, ev_trim, ev_pmul, ev_lin, ev_const, xor_comm]
theorem ev_thFold (xs d : List UInt8) (x : UInt8) : ∀ k, k ≤ d.length → evp (((revI d).take k).foldl (thStep xs) []) x = Gf.hn (co xs) (co d) x d.length k
  | 0, _ => rfl
  | k + 1, h => by
    have hg := revI_get d (d.length - 1 - k) (by omega)
    rw [show d.length - 1 - (d.length - 1 - k) = k by omega] at hg
    rw [List.take_add_one, hg, List.foldl_append]
    show evp (thStep xs _ _) x = _
    rw [ev_thStep, ev_thFold xs d x k (by omega)]
    simp only [Int.toNat_natCast]
    rw [← co_lt (show d.length - 1 - k < d.length by omega), show d.length - 1 - k = d.length - (k + 1) by omega]
    rfl
theorem poly_Through_ok (xs ys : List UInt8) (hl : xs.length = ys.length) (h0 : xs.length ≠ 0) (h1 : xs.length ≤ 255) (hn : xs.Nodup) :
    ∃ N, poly_Through true xs ys = some (N, 0) ∧ trim N = N ∧ dg N ≤ xs.length ∧ ∀ j, j < xs.length → evp N (co xs j) = co ys j := by
  unfold poly_Through
  have hm := most_lt'
  have hh := h257
  rw [if_pos (by omega), poly_check_eq xs (by omega), if_neg h0, if_neg (by omega), if_pos hn, obs, if_pos rfl]
  unfold slices_Clone_sbytebyte
  rw [appL_nil ys (by omega), obs]
  obtain ⟨d, e1, e2, e3⟩ := iterC_from (s0 := ys) (fun k d => d.length = xs.length ∧ ∀ i, i < xs.length → co d i = stg xs ys (k - 1) i) 1 xs.length (by omega) (fun d : List UInt8 => d.length = xs.length ∧ ∀ i, i < xs.length → co d i = dd (co xs) (co ys) 0 i)
    (body := fun s17 : List UInt8 × Int => (if s17.2 < (s17.1.length : Int) then ((iterC (fun s20 : List UInt8 × Int => (if s17.2 ≤ s20.2 then ((idx s20.1 s20.2).bind fun c25 => ((idx s20.1 ((wI (s20.2 - 1)))).bind fun c26 => ((idx xs s20.2).bind fun c27 => ((idx xs ((wI (s20.2 - s17.2)))).bind fun c28 =>
      ((field_Add c25 c26).bind fun r29 => ((field_Add c27 c28).bind fun r31 => ((field_Div true r29 r31).bind fun r33 => some (.inl ((s20.1.set (s20.2 : Int).toNat r33.1), (wI (s20.2 - 1))))))))))) else some (.inr s20.1))) (s17.1, (wI ((s17.1.length : Int) - 1)))).bind fun x20 => some (.inl (x20, (wI (s17.2 + 1))))) else some (.inr s17.1)))
    ⟨hl.symm, fun i hi => by simp [stg, dd]⟩
    (fun k d hk hkn hI => by
      obtain ⟨dl, hd⟩ := hI
      obtain ⟨d', f1, f2, f3⟩ := iterC_dn (s0 := d) (fun j s => s.length = xs.length ∧ ∀ i, i < xs.length → co s i = if j ≤ i then stg xs ys k i else stg xs ys (k - 1) i) k xs.length (by omega) (fun s : List UInt8 => s.length = xs.length ∧ ∀ i, i < xs.length → co s i = stg xs ys k i)
        (body := fun s20 : List UInt8 × Int => (if (k : Int) ≤ s20.2 then ((idx s20.1 s20.2).bind fun c25 => ((idx s20.1 ((wI (s20.2 - 1)))).bind fun c26 => ((idx xs s20.2).bind fun c27 => ((idx xs ((wI (s20.2 - (k : Int))))).bind fun c28 =>
          ((field_Add c25 c26).bind fun r29 => ((field_Add c27 c28).bind fun r31 => ((field_Div true r29 r31).bind fun r33 => some (.inl ((s20.1.set (s20.2 : Int).toNat r33.1), (wI (s20.2 - 1))))))))))) else some (.inr s20.1)))
        ⟨dl, fun i hi => by rw [if_neg (by omega)]; exact hd i hi⟩
        (fun j s hkj hj hI => by
          obtain ⟨sl, hs⟩ := hI
          have hne : co xs j ^^^ co xs (j - k) ≠ 0 := fun e => by
            have := co_inj hn hj (by omega) (xor_eq_zero e)
            omega
          refine ⟨s.set j (stg xs ys k j), ?_, by simpa using sl, fun i hi => ?_⟩
          · simp only
            rw [if_pos (by omega), idx_co (by omega), obs, wI_pred j (by omega) (by omega), idx_co (by omega), obs, idx_co hj, obs, wI_sub j k hkj (by omega), idx_co (by omega), obs,
              Add_eq, obs, Add_eq, obs, Div_eq, if_neg hne, obs, Int.toNat_natCast, hs j hj, if_neg (by omega), hs (j - 1) (by omega), if_neg (by omega), ← stg_step xs ys k j hk hkj]
            congr 3; omega
          · rw [co_set (by omega)]
            by_cases hij : i = j
            · rw [if_pos hij, if_pos (by omega), hij]
            · rw [if_neg hij, hs i hi]
              have : (j + 1 ≤ i) ↔ (j ≤ i) := by omega
              simp only [this])
        (fun s hI => ⟨s, by simp only; rw [if_neg (by omega)], hI.1, fun i hi => by
          rw [hI.2 i hi]
          by_cases h : k ≤ i
          · rw [if_pos h]
          · rw [if_neg h]
            unfold stg
            rw [show min (k - 1) i = min k i by omega]⟩)
      refine ⟨d', ?_, f2, fun i hi => by rw [f3 i hi, Nat.add_sub_cancel]⟩
      simp only
      rw [if_pos (by omega), dl, wI_of (by omega) (by omega), f1, obs, wI_succ k (by omega)])
    (fun d hI => ⟨d, by simp only; rw [if_neg (by omega)], hI.1, fun i hi => by
      rw [hI.2 i hi]
      unfold stg
      rw [show min (xs.length - 1) i = i by omega, Nat.sub_self]⟩)
  rw [show ((1 : Nat) : Int) = 1 from rfl] at e1
  rw [e1, obs, lim_of (by omega), obs]
  have key := rangeL_inv (f := fun (s55 : List UInt8) (y55 : (Int × UInt8)) => ((idx xs y55.1).bind fun c61 => ((poly_Mul true s55 ([c61, (1 : UInt8)] : List UInt8)).bind fun r65 => ((poly_Add r65.1 ([y55.2] : List UInt8)).bind fun r81 => some r81)))) (thStep xs) (xs := revI d) (s0 := [])
    (fun k s => s.length ≤ k ∧ trim s = s) ⟨Nat.le_refl _, rfl⟩ (by
      rintro k s ⟨y, c⟩ hk hy ⟨hs, ht⟩
      obtain ⟨i, hi, e⟩ := mem_revI hy
      simp only [Prod.mk.injEq] at e
      obtain ⟨rfl, rfl⟩ := e
      rw [revI_len] at hk
      have ds : dg s ≤ k := Nat.le_trans (dg_len s) hs
      have d1 := dg_pmul ds (dg_lin (co xs i))
      have l1 : (trim (pmul s [co xs i, 1])).length ≤ k + 1 := by unfold dg at d1; omega
      simp only
      rw [idx_co (by omega), obs, poly_Mul_eq _ _ (by omega) (by simp; omega) (.inr (.inr (by
        have := dg_lin (co xs i)
        unfold dg at this ds
        omega))), obs, poly_Add_eq _ _ (by simp only; omega) (by simp; omega), obs]
      refine ⟨by simp only [thStep, Int.toNat_natCast], ?_, trim_trim _⟩
      have h3 := trim_le (pplus (trim (pmul s [co xs i, 1])) [d[i]])
      rw [pplus_len] at h3
      simp only [thStep, Int.toNat_natCast]
      simp only [List.length_cons, List.length_nil] at h3
      omega)
  rw [key.1, obs]
  refine ⟨_, rfl, key.2.2, ?_, fun j hj => ?_⟩
  · have := key.2.1
    rw [revI_len, e2] at this
    exact Nat.le_trans (dg_len _) this
  · have h2 := ev_thFold xs d (co xs j) d.length (Nat.le_refl _)
    rw [List.take_of_length_le (by rw [revI_len]; omega)] at h2
    rw [h2]
    have h3 := hn_ns (co xs) (co d) (co xs j) d.length d.length (Nat.le_refl _)
    rw [Nat.sub_self] at h3
    have h4 : mul (Gf.hn (co xs) (co d) (co xs j) d.length d.length) (pi (co xs) (co xs j) 0) = Gf.hn (co xs) (co d) (co xs j) d.length d.length := mul_one _
    rw [h4] at h3
    have h5 : sm (fun i => mul (co d i) (pi (co xs) (co xs j) i)) 0 = 0 := rfl
    rw [h5, zero_xor] at h3
    rw [h3, e2]
    have h6 := ns_at (co xs) (co ys) xs.length (fun a b h h' e => absurd (co_inj hn (by omega) h' e) (by omega)) j hj
    rw [← h6]
    exact sm_congr _ fun i hi => by rw [e3 i hi]
def ltm (xs ys : List UInt8) (i : Nat) : Nat → List UInt8
  | 0 => [co ys i]
  | k + 1 => if k = i then ltm xs ys i k else trim (pmul (ltm xs ys i k) [mul (inv (co xs i ^^^ co xs k)) (co xs k), inv (co xs i ^^^ co xs k)])
theorem ev_ltm (xs ys : List UInt8) (i : Nat) (x : UInt8) : ∀ k, evp (ltm xs ys i k) x = mul (co ys i) (mul (pe xs i x k) (inv (pe xs i (co xs i) k)))
  | 0 => by
    show evp [co ys i] x = mul (co ys i) (mul 1 (inv 1))
    rw [ev_const, one_mul, inv_one, mul_one]
  | k + 1 => by
    unfold ltm pe
    by_cases hk : k = i
    · rw [if_pos hk, if_pos hk, if_pos hk]; exact ev_ltm xs ys i x k
    · rw [if_neg hk, if_neg hk, if_neg hk, ev_trim, ev_pmul, ev_ltm xs ys i x k, inv_mul2]
      have : evp [mul (inv (co xs i ^^^ co xs k)) (co xs k), inv (co xs i ^^^ co xs k)] x = mul (x ^^^ co xs k) (inv (co xs i ^^^ co xs k)) := by
        show mul (inv (co xs i ^^^ co xs k)) (co xs k) ^^^ mul (inv (co xs i ^^^ co xs k) ^^^ mul 0 x) x = _
        rw [zero_mul, xor_zero, ← mul_add, mul_comm, xor_comm (co xs k)]
      rw [this, mul_assoc, mul_swap4]
theorem ltm_len (xs ys : List UInt8) (i : Nat) : ∀ k, (ltm xs ys i k).length ≤ k + 1 ∧ (i < k → (ltm xs ys i k).length ≤ k)
  | 0 => ⟨by simp [ltm], fun h => by omega⟩
  | k + 1 => by
    obtain ⟨h1, h2⟩ := ltm_len xs ys i k
    unfold ltm
    split
    · exact ⟨by omega, fun _ => h1⟩
    · rename_i hk
      have d2 : dg [mul (inv (co xs i ^^^ co xs k)) (co xs k), inv (co xs i ^^^ co xs k)] ≤ 2 := dg_len _
      refine ⟨?_, fun hi => ?_⟩
      · have := dg_pmul (Nat.le_trans (dg_len _) h1) d2
        unfold dg at this; omega
      · have := dg_pmul (Nat.le_trans (dg_len _) (h2 (by omega))) d2
        unfold dg at this; omega
theorem ref03_Through_eq (xs ys : List UInt8) (hl : xs.length = ys.length) (h : xs.length ≤ 1000) : ∃ out, ref03_Through xs ys = some (trim out) ∧ dg out ≤ xs.length ∧ ∀ x, evp out x = sm (fun i => mul (co ys i) (wt xs i x)) xs.length := by
  unfold ref03_Through
  have hm := most_lt'
  have h1000 : 2000 ≤ most := by decide
  rw [makeL_nat _ _ (by omega), obs]
  obtain ⟨out, e1, e2, e3⟩ := iterC_up (s0 := List.replicate xs.length (0 : UInt8)) (fun i s => s.length = xs.length ∧ ∀ x, evp s x = sm (fun i => mul (co ys i) (wt xs i x)) i) xs.length (fun s : List UInt8 => s.length = xs.length ∧ ∀ x, evp s x = sm (fun i => mul (co ys i) (wt xs i x)) xs.length)
    (body := fun s4 : List UInt8 × Int => (if s4.2 < (xs.length : Int) then ((idx ys s4.2).bind fun c7 => ((iterC (fun s10 : List UInt8 × Int => (if s10.2 < (xs.length : Int) then (if s10.2 = s4.2 then some (.inl (s10.1, (wI (s10.2 + 1)))) else ((idx xs s4.2).bind fun c16 => ((idx xs s10.2).bind fun c17 =>
      ((ref02_Inv (c16 ^^^ c17)).bind fun r18 => ((idx xs s10.2).bind fun c20 => ((ref02_Mul r18 c20).bind fun r21 => ((ref03_Mul s10.1 ([r21, r18] : List UInt8)).bind fun r25 => some (.inl (r25, (wI (s10.2 + 1))))))))))) else some (.inr s10.1))) (([c7] : List UInt8), 0)).bind fun x10 =>
      ((iterC (fun s29 : List UInt8 × Int => (if s29.2 < (x10.length : Int) then ((idx s29.1 s29.2).bind fun c34 => ((idx x10 s29.2).bind fun c35 => some (.inl ((s29.1.set (s29.2 : Int).toNat ((c34 ^^^ c35))), (wI (s29.2 + 1)))))) else some (.inr s29.1))) (s4.1, 0)).bind fun x29 => some (.inl (x29, (wI (s4.2 + 1))))))) else some (.inr s4.1)))
    ⟨by simp, fun x => ev_zero _ x (fun i => co_rep _ _)⟩
    (fun i s hi hI => by
      obtain ⟨sl, hs⟩ := hI
      have inner : iterC (fun s10 : List UInt8 × Int => (if s10.2 < (xs.length : Int) then (if s10.2 = (i : Int) then some (.inl (s10.1, (wI (s10.2 + 1)))) else ((idx xs (i : Int)).bind fun c16 => ((idx xs s10.2).bind fun c17 =>
          ((ref02_Inv (c16 ^^^ c17)).bind fun r18 => ((idx xs s10.2).bind fun c20 => ((ref02_Mul r18 c20).bind fun r21 => ((ref03_Mul s10.1 ([r21, r18] : List UInt8)).bind fun r25 => some (.inl (r25, (wI (s10.2 + 1))))))))))) else some (.inr s10.1))) (([co ys i] : List UInt8), 0) = some (ltm xs ys i xs.length) := by
        refine iterC_count (fun k => (ltm xs ys i k, (k : Int))) xs.length _ rfl ?_ ?_
        · intro k hk
          simp only
          rw [if_pos (by omega)]
          by_cases hki : k = i
          · subst hki; rw [if_pos rfl, wI_succ k (by omega)]; simp [ltm]
          · have l1 := (ltm_len xs ys i k).1
            rw [if_neg (by omega), idx_co hi, obs, idx_co hk, obs, refInv_eq, obs, obs, refMul_eq, obs, ref03_Mul_eq _ _ (by simp; omega), obs, wI_succ k (by omega)]
            simp only [ltm, if_neg hki]
        · simp
      have tl := (ltm_len xs ys i xs.length).2 hi
      obtain ⟨s', f1, f2, f3⟩ := iterC_up (s0 := s) (fun k t => t.length = xs.length ∧ ∀ j, co t j = co s j ^^^ (if j < k then co (ltm xs ys i xs.length) j else 0)) (ltm xs ys i xs.length).length (fun t : List UInt8 => t.length = xs.length ∧ ∀ j, co t j = co s j ^^^ co (ltm xs ys i xs.length) j)
        (body := fun s29 : List UInt8 × Int => (if s29.2 < ((ltm xs ys i xs.length).length : Int) then ((idx s29.1 s29.2).bind fun c34 => ((idx (ltm xs ys i xs.length) s29.2).bind fun c35 => some (.inl ((s29.1.set (s29.2 : Int).toNat ((c34 ^^^ c35))), (wI (s29.2 + 1)))))) else some (.inr s29.1)))
        ⟨sl, fun j => by rw [if_neg (by omega), xor_zero]⟩
        (fun k t hk hI => by
          obtain ⟨tl', ht⟩ := hI
          refine ⟨t.set k (co t k ^^^ co (ltm xs ys i xs.length) k), ?_, by simpa using tl', fun j => ?_⟩
          · simp only
            rw [if_pos (by omega), idx_co (by omega), obs, idx_co hk, obs, wI_succ k (by omega), Int.toNat_natCast]
          · rw [co_set (by omega)]
            by_cases hjk : j = k
            · subst hjk; rw [if_pos rfl, ht j, if_neg (by omega), if_pos (by omega), xor_zero]
            · rw [if_neg hjk, ht j]
              have : j < k + 1 ↔ j < k := by omega
              simp only [this])
        (fun t hI => ⟨t, by simp, hI.1, fun j => by
          rw [hI.2 j]
          split
          · rfl
          · rw [co_ge (show (ltm xs ys i xs.length).length ≤ j by omega)]⟩)
      refine ⟨s', ?_, f2, fun x => ?_⟩
      · simp only
        rw [if_pos (by omega), idx_co (by omega), obs, inner, obs, f1, obs, wI_succ i (by omega)]
      · rw [ev_sim s' (pplus s (ltm xs ys i xs.length)) x (fun j => by rw [f3, co_pplus]), ev_pplus, hs x, ev_ltm]
        rfl)
    (fun s hI => ⟨s, by simp, hI⟩)
  rw [e1, obs, ref03_Trim_eq out (by omega)]
  exact ⟨out, rfl, by rw [← e2]; exact dg_len out, e3⟩
end Gk

/- Chapter 3: quotient and rest. No condition but lengths. -/
namespace Gk
open Gf
theorem revN_succ (n : Nat) : revN (n + 1) = (n : Int) :: revN n := by
  simp [revN, List.range_succ]
theorem foldl_revN {σ : Type} (g : σ → Int → σ) (P : Nat → σ → Prop) (hs : ∀ j s, P (j + 1) s → P j (g s (j : Int))) : ∀ (n : Nat) (s : σ), P n s → P 0 ((revN n).foldl g s)
  | 0, s, h => h
  | n + 1, s, h => by
    rw [revN_succ, List.foldl_cons]
    exact foldl_revN g P hs n _ (hs n s h)
def divStep (d : Nat) (top : UInt8) (Q : List UInt8) (s : List UInt8 × List UInt8) (y : Int) : List UInt8 × List UInt8 :=
  let c := mul (co s.1 (y.toNat + d - 1)) top
  (copyL s.1 y (sumL ((s.1.take (y.toNat + d)).drop y.toNat) c Q), s.2.set y.toNat c)
theorem poly_DivMod_eq (p q : List UInt8) (hp : p.length ≤ 1000) (hq : q.length ≤ 1000) (h0 : trim q ≠ []) : ∃ a b, poly_DivMod true p q = some (a, b, 0) ∧ trim a = a ∧ trim b = b ∧ b.length < (trim q).length ∧ (∀ i, co p i = co b i ^^^ co (pmul a q) i) ∧ a.length ≤ p.length + 1 := by
  have hm := most_lt'
  have h1000 : 2000 ≤ most := by decide
  have ld := List.length_pos_iff.2 h0
  have tq := trim_le q
  have hlead := trim_last q h0
  unfold poly_DivMod
  rw [poly_Trim_eq q (by omega), obs, if_neg (by simp), if_neg (by omega), wI_pred _ (by omega) (by omega), idx_co (by omega), co_trim]
  generalize hd : (trim q).length = d at *
  generalize hc : co q (d - 1) = lead at *
  simp only [Inv_eq, obs, if_neg hlead]
  unfold slices_Clone_sbytebyte
  rw [appL_nil p (by omega), obs]
  have en : (if 0 < wI (wI ((p.length : Int) - (d : Int)) + 1) then wI (wI ((p.length : Int) - (d : Int)) + 1) else 0) = ((p.length + 1 - d : Nat) : Int) := by
    have i1 : wI ((p.length : Int) - (d : Int)) = (p.length : Int) - (d : Int) := wI_of (by omega) (by omega)
    rw [i1, wI_of (by omega) (by omega)]
    split <;> omega
  rw [en, makeL_nat _ _ (by omega), obs, List.length_replicate, lim_of (by omega), obs]
  generalize hn : p.length + 1 - d = n at *
  have key := rangeL_inv (f := fun (s72 : List UInt8 × List UInt8) (y72 : Int) => ((idx s72.1 ((wI ((wI (y72 + (d : Int))) - 1)))).bind fun c78 => ((field_Mul true c78 (inv lead)).bind fun r79 => ((idx s72.2 y72).bind fun c82 => ((subL s72.1 y72 ((s72.1.length : Int))).bind fun c89 =>
      ((subL s72.1 y72 ((wI (y72 + (d : Int))))).bind fun c90 => ((field_Sum true c90 r79 (trim q)).bind fun r91 => some ((copyL s72.1 y72 r91), (s72.2.set (y72 : Int).toNat r79))))))))) (divStep d (inv lead) (trim q)) (xs := revN n) (s0 := (p, List.replicate n 0))
    (fun _ s => s.1.length = p.length ∧ s.2.length = n) ⟨rfl, by simp⟩ (by
      rintro k ⟨r, t⟩ x _ hx ⟨hr, ht⟩
      simp only at hr ht
      obtain ⟨i, hi, rfl⟩ := mem_revN.1 hx
      have e1 : wI ((i : Int) + (d : Int)) = ((i + d : Nat) : Int) := wI_add _ _ (by omega)
      simp only [e1]
      rw [wI_pred _ (by omega) (by omega), idx_co (by omega), obs, Mul_eq, obs, idx_co (by omega), obs, subL_nat _ _ _ (by omega) (Nat.le_refl _), obs, subL_nat _ _ _ (by omega) (by omega), obs,
        Sum_eq _ _ _ (by simp; omega), obs]
      refine ⟨by simp only [divStep, Int.toNat_natCast], ?_, ?_⟩
      · simp only [divStep]; rw [copyL_len _ _ _ (by omega)]; exact hr
      · simp only [divStep, List.length_set]; exact ht)
  rw [key.1, obs]
  have fin := foldl_revN (divStep d (inv lead) (trim q)) (fun j s => s.1.length = p.length ∧ s.2.length = n ∧ j ≤ n ∧ (∀ i, co p i = co s.1 i ^^^ co (pmul s.2 (trim q)) i) ∧ (∀ i, j + d ≤ i + 1 → co s.1 i = 0) ∧ (∀ i, i < j → co s.2 i = 0))
    (by
      rintro j ⟨r, t⟩ ⟨hr, ht, hj, hs, hz, hz2⟩
      simp only at hr ht hs hz hz2
      simp only [divStep, Int.toNat_natCast]
      generalize hc2 : mul (co r (j + d - 1)) (inv lead) = c
      have hl2 : ((r.take (j + d)).drop j).length = d := by simp; omega
      have hl3 : (sumL ((r.take (j + d)).drop j) c (trim q)).length = d := by rw [sumL_len, hl2]
      have hco : ∀ i, co (copyL r (j : Int) (sumL ((r.take (j + d)).drop j) c (trim q))) i = co r i ^^^ (if i < j then 0 else mul c (co (trim q) (i - j))) := by
        intro i
        rw [co_copyL _ _ _ (by rw [hl3]; omega), hl3, co_sumL, hl2]
        by_cases h1 : j ≤ i ∧ i < j + d
        · rw [if_pos h1, if_pos (show i - j < d by omega), if_neg (show ¬ i < j by omega), co_drop, co_take, show j + (i - j) = i by omega, if_pos (show i < j + d by omega)]
        · rw [if_neg h1]
          by_cases h2 : i < j
          · rw [if_pos h2, xor_zero]
          · rw [if_neg h2, co_ge (show (trim q).length ≤ i - j by omega), mul_zero, xor_zero]
      refine ⟨by rw [copyL_len _ _ _ (by omega)]; exact hr, by simpa using ht, by omega, fun i => ?_, fun i hi => ?_, fun i hi => ?_⟩
      · rw [hco i, co_pmul_set t j c _ i (by omega) (hz2 j (by omega)), hs i, xor_xor_swap, xor_self, xor_zero]
      · rw [hco i]
        by_cases h1 : i = j + d - 1
        · subst h1
          rw [if_neg (by omega), show j + d - 1 - j = d - 1 by omega, co_trim, hc, ← hc2, mul_assoc, inv_mul hlead, mul_one, xor_self]
        · rw [hz i (by omega), if_neg (by omega), co_ge (show (trim q).length ≤ i - j by omega), mul_zero, xor_zero]
      · rw [co_set (by omega), if_neg (by omega)]; exact hz2 i (by omega)) n (p, List.replicate n 0)
    ⟨rfl, by simp, Nat.le_refl _, fun i => by
      have : co (pmul (List.replicate n 0) (trim q)) i = 0 := by rw [pmul_simL _ [] _ (fun i => by rw [co_rep, co_nil]) i]; rfl
      rw [this, xor_zero], fun i hi => co_ge (by simp only; omega), fun i _ => co_rep _ _⟩
  generalize (revN n).foldl (divStep d (inv lead) (trim q)) (p, List.replicate n 0) = s at fin
  obtain ⟨r, t⟩ := s
  obtain ⟨hr, ht, _, hs, hz, _⟩ := fin
  simp only at hr ht hs hz
  simp only
  rw [poly_Trim_eq t (by omega), obs, poly_Trim_eq r (by omega), obs]
  refine ⟨trim t, trim r, rfl, trim_trim t, trim_trim r, ?_, fun i => ?_, ?_⟩
  · have := (trim_bound r (d - 1)).2 (fun i hi => hz i (by omega))
    omega
  · rw [hs i, co_trim]
    congr 1
    exact pmul_sim (trim_sim t).symm (trim_sim q) i
  · have := trim_le t; omega
end Gk

/- Wrong values among right ones: what is true of a remainder in Gao's way. Plain. No condition. -/
namespace Gf
theorem dg_zero {p : List UInt8} (h : dg p = 0) (i : Nat) : co p i = 0 := dg_le.1 (Nat.le_of_eq h) i (Nat.zero_le i)
theorem dg_top {p : List UInt8} (h : dg p ≠ 0) : co p (dg p - 1) ≠ 0 := trim_last p (fun e => h (by unfold dg; rw [e]; rfl))
theorem dg_pmul_eq {p q : List UInt8} (hp : dg p ≠ 0) (hq : dg q ≠ 0) : dg (pmul p q) = dg p + dg q - 1 := by
  rw [dg_sim (pmul_sim (trim_sim p).symm (trim_sim q).symm)]
  exact pmul_trim_len (trim_trim p) (trim_trim q) (fun e => hp (by unfold dg; rw [e]; rfl)) (fun e => hq (by unfold dg; rw [e]; rfl))
theorem pmul_cancel {p q : List UInt8} (hq : dg q ≠ 0) (h : ∀ i, co (pmul p q) i = 0) : ∀ i, co p i = 0 := by
  by_cases hp : dg p = 0
  · exact dg_zero hp
  · have h1 := dg_pmul_eq hp hq
    have h2 : dg (pmul p q) ≤ 0 := dg_le.2 fun i _ => h i
    omega
theorem pmul_zeroL {p q : List UInt8} (h : ∀ i, co p i = 0) (i : Nat) : co (pmul p q) i = 0 := by
  rw [pmul_simL p [] q (fun i => by rw [h i, co_nil]) i]; rfl
def wrg (xs ys p : List UInt8) : Nat → Nat
  | 0 => 0
  | n + 1 => wrg xs ys p n + if evp p (co xs n) = co ys n then 0 else 1
theorem wr_le (xs ys p : List UInt8) : ∀ n, wrg xs ys p n ≤ n
  | 0 => Nat.le_refl _
  | n + 1 => by have := wr_le xs ys p n; unfold wrg; split <;> omega
theorem wr_sim {xs ys p q : List UInt8} (h : Sim p q) : ∀ n, wrg xs ys p n = wrg xs ys q n
  | 0 => rfl
  | n + 1 => by unfold wrg; rw [wr_sim h n, ev_sim p q _ h]
def el (xs ys p : List UInt8) : Nat → List UInt8
  | 0 => [1]
  | n + 1 => if evp p (co xs n) = co ys n then el xs ys p n else pmul (el xs ys p n) [co xs n, 1]
theorem dg_el (xs ys p : List UInt8) : ∀ n, dg (el xs ys p n) ≤ wrg xs ys p n + 1
  | 0 => dg_len _
  | n + 1 => by
    have h := dg_el xs ys p n
    unfold el wrg
    split
    · omega
    · have := dg_pmul h (dg_lin (co xs n)); omega
theorem el_top (xs ys p : List UInt8) : ∀ n, co (el xs ys p n) (wrg xs ys p n) = 1
  | 0 => rfl
  | n + 1 => by
    have h := el_top xs ys p n
    unfold el wrg
    split
    · exact h
    · rw [co_pmul_lin, h, dg_le.1 (dg_el xs ys p n) _ (Nat.le_refl _), zero_mul, zero_xor]
theorem el_ne (xs ys p : List UInt8) (n : Nat) : dg (el xs ys p n) ≠ 0 := fun h => by
  have h1 := dg_zero h (wrg xs ys p n)
  rw [el_top] at h1
  exact absurd h1 (by decide)
theorem ev_el (xs ys p : List UInt8) (x : UInt8) : ∀ n, evp (el xs ys p n) x = 0 ↔ ∃ j, j < n ∧ evp p (co xs j) ≠ co ys j ∧ x = co xs j
  | 0 => ⟨fun h => by rw [show el xs ys p 0 = [1] from rfl, ev_const] at h; exact absurd h (by decide), fun ⟨j, h, _⟩ => absurd h (Nat.not_lt_zero _)⟩
  | n + 1 => by
    have ih := ev_el xs ys p x n
    unfold el
    by_cases h : evp p (co xs n) = co ys n
    · rw [if_pos h, ih]
      constructor
      · rintro ⟨j, h1, h2, h3⟩; exact ⟨j, by omega, h2, h3⟩
      · rintro ⟨j, h1, h2, h3⟩
        refine ⟨j, ?_, h2, h3⟩
        by_cases hj : j = n
        · exact absurd (hj ▸ h) h2
        · omega
    · rw [if_neg h, ev_pmul, ev_lin]
      constructor
      · intro h1
        rcases mul_eq_zero h1 with h1 | h1
        · obtain ⟨j, h2, h3, h4⟩ := ih.1 h1; exact ⟨j, by omega, h3, h4⟩
        · exact ⟨n, by omega, h, xor_eq_zero h1⟩
      · rintro ⟨j, h1, h2, h3⟩
        by_cases hj : j = n
        · rw [h3, hj, xor_self, mul_zero]
        · rw [ih.2 ⟨j, by omega, h2, h3⟩, zero_mul]
theorem gao_key {xs ys b v P : List UInt8} (hn : xs.Nodup) {t : Nat} (hb : ∀ i, i < xs.length → evp b (co xs i) = mul (evp v (co xs i)) (co ys i)) (hP : dg P ≤ t)
    (h1 : dg b + wrg xs ys P xs.length ≤ xs.length) (h2 : dg v + t + wrg xs ys P xs.length ≤ xs.length + 1) : Sim b (pmul P v) := by
  have hE := dg_el xs ys P xs.length
  have hs : Sim (pmul b (el xs ys P xs.length)) (pmul (pmul P v) (el xs ys P xs.length)) := by
    refine agree hn ?_ ?_ ?_
    · have := dg_pmul (Nat.le_refl (dg b)) hE; omega
    · have h3 := dg_pmul hP (Nat.le_refl (dg v))
      have := dg_pmul h3 hE; omega
    · intro a ha
      obtain ⟨j, hj, rfl⟩ := mem_co ha
      rw [ev_pmul, ev_pmul, ev_pmul]
      by_cases hw : evp P (co xs j) = co ys j
      · rw [hb j hj, hw, mul_comm (co ys j)]
      · rw [(ev_el xs ys P (co xs j) xs.length).2 ⟨j, hj, hw, rfl⟩, mul_zero, mul_zero]
  have h0 := pmul_cancel (p := pplus b (pmul P v)) (el_ne xs ys P xs.length) (fun i => by rw [pmul_addL _ _ _ i, co_pplus, hs i, xor_self])
  intro i
  have := h0 i
  rw [co_pplus] at this
  exact xor_eq_zero this
theorem div_uniq {b v q r P : List UInt8} (h : ∀ i, co b i = co r i ^^^ co (pmul q v) i) (hr : dg r < dg v) (hb : Sim b (pmul P v)) : Sim q P ∧ ∀ i, co r i = 0 := by
  have hv : dg v ≠ 0 := by omega
  have h1 : Sim (pmul (pplus q P) v) r := fun i => by
    rw [pmul_addL _ _ _ i, co_pplus, ← hb i, h i, xor_comm, xor_assoc, xor_self, xor_zero]
  by_cases hq : dg (pplus q P) = 0
  · have h2 : Sim q P := fun i => by
      have := dg_zero hq i
      rw [co_pplus] at this
      exact xor_eq_zero this
    refine ⟨h2, fun i => ?_⟩
    rw [← h1 i]
    exact pmul_zeroL (dg_zero hq) i
  · have h2 := dg_pmul_eq hq hv
    rw [dg_sim h1] at h2
    omega
def gl (xs ys p q : List UInt8) : Nat → List UInt8
  | 0 => []
  | n + 1 => if evp p (co xs n) = co ys n ∧ evp q (co xs n) = co ys n then gl xs ys p q n ++ [co xs n] else gl xs ys p q n
theorem take_co {xs : List UInt8} {n : Nat} (h : n < xs.length) : xs.take (n + 1) = xs.take n ++ [co xs n] := by
  rw [List.take_succ_eq_append_getElem h, co_lt h]
theorem gl_sub (xs ys p q : List UInt8) : ∀ n, n ≤ xs.length → (gl xs ys p q n).Sublist (xs.take n)
  | 0, _ => List.nil_sublist _
  | n + 1, h => by
    have ih := gl_sub xs ys p q n (by omega)
    rw [take_co (by omega)]
    unfold gl
    split
    · exact ih.append (List.Sublist.refl _)
    · exact ih.trans (List.sublist_append_left _ _)
theorem gl_len (xs ys p q : List UInt8) : ∀ n, n ≤ (gl xs ys p q n).length + wrg xs ys p n + wrg xs ys q n
  | 0 => Nat.zero_le _
  | n + 1 => by
    have ih := gl_len xs ys p q n
    unfold gl wrg
    by_cases h1 : evp p (co xs n) = co ys n
    · by_cases h2 : evp q (co xs n) = co ys n
      · rw [if_pos ⟨h1, h2⟩, if_pos h1, if_pos h2, List.length_append]; simp only [List.length_cons, List.length_nil]; omega
      · rw [if_neg (fun h => h2 h.2), if_pos h1, if_neg h2]; omega
    · rw [if_neg (fun h => h1 h.1), if_neg h1]
      split <;> omega
theorem gl_mem (xs ys p q : List UInt8) : ∀ n, ∀ a ∈ gl xs ys p q n, evp p a = evp q a
  | 0, a, h => by simp [gl] at h
  | n + 1, a, h => by
    unfold gl at h
    split at h
    · rename_i h1
      rcases List.mem_append.1 h with h | h
      · exact gl_mem xs ys p q n a h
      · rw [List.mem_singleton] at h; subst h; rw [h1.1, h1.2]
    · exact gl_mem xs ys p q n a h
theorem two_one {xs ys p q : List UInt8} (hn : xs.Nodup) {t : Nat} (hp : dg p ≤ t) (hq : dg q ≤ t) (h : wrg xs ys p xs.length + wrg xs ys q xs.length + t ≤ xs.length) : Sim p q := by
  have hs := gl_sub xs ys p q xs.length (Nat.le_refl _)
  rw [List.take_of_length_le (Nat.le_refl _)] at hs
  have hl := gl_len xs ys p q xs.length
  exact agree (hs.nodup hn) (by omega) (by omega) (gl_mem xs ys p q xs.length)
end Gf

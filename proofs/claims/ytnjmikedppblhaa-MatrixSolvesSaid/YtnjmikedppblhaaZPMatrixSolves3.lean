/- Parts L4f, L4e, L4c, Mc, Md, Mp, Mv, Mz, Oa, Oc, Va, Vb, Vc, Vf, Vg, Vh, Vd, Vi, Vj, one behind the other. What is proved: said at the head of each part. No condition beside those said there. -/
import Derived.Test.YtnjmikedppblhaaRows
import Derived.Orders
import Derived.Deep.Draws
import Derived.Laws.World
import Derived.KernelRfl
import Derived.OrdersIn
import Derived.TacticsIn
import Derived.RangeFuncCalls
import Derived.Deep.LoopGhost
import Derived.Tactics
import Derived.Sort.LoopGhostIn
import Derived.RangeFuncLeaves
import Derived.RangeFuncNested
import Derived.RangeFuncRecord
import Derived.Laws.Sem
import Derived.OwnWalk
import Derived.RangeFuncWrites
import Derived.Laws.IdiomCopy
import Derived.WalkKit
import Derived.ProofKit
import Derived.OpenShut
import Derived.ChangeOld
import Derived.Below
import Derived.Test.YtnjmikedppblhaaProg
import Derived.MapKept
import Derived.Laws.CopyRow
import Derived.Laws.Cells
import Derived.Lib.AppendZerosOnto
import Derived.Test.YtnjmikedppblhaaZPMatrixSolves1
import Derived.Test.YtnjmikedppblhaaZPMatrixSolves2
/- Printed by gen.py: for each Go function a pure function, and that the Go code comes to it. No condition beside the equation that says what the pure function gives. -/
set_option linter.unusedVariables false
set_option linter.unusedSimpArgs false
namespace Gk
open Go Go.Proofs
noncomputable def ref04_Det_n : Nat → (List (List UInt8)) → Option UInt8
| 0, _ => none
| fu + 1, a0m =>
(if (a0m.length : Int) = 0 then some (1 : UInt8)
else
((iterC (fun s2 : UInt8 × Int =>
(if s2.2 < (a0m.length : Int) then
((idx a0m s2.2).bind fun c5 =>
((idx c5 0).bind fun c7 =>
(if c7 = (0 : UInt8) then some (.inl (s2.1, (wI (s2.2 + 1))))
else
((iterC (fun s12 : List (List UInt8) × Int =>
(if s12.2 < (a0m.length : Int) then
((idx a0m s12.2).bind fun c15 =>
(if s12.2 = s2.2 then some (.inl (s12.1, (wI (s12.2 + 1))))
else
((subL c15 1 ((c15.length : Int))).bind fun c18 =>
((appL s12.1 (([c18] : List (List UInt8)))).bind fun c21 => some (.inl (c21, (wI (s12.2 + 1))))))))
else some (.inr s12.1))) (([] : List (List UInt8)), 0)).bind fun x12 =>
((idx c5 0).bind fun c28 =>
((ref04_Det_n fu x12).bind fun r29 =>
((ref02_Mul c28 r29).bind fun r31 => some (.inl ((s2.1 ^^^ r31), (wI (s2.2 + 1)))))))))))
else some (.inr s2.1))) ((0 : UInt8), 0)).bind fun x2 => some x2))
noncomputable def ref04_Det (a0m : List (List UInt8)) : Option UInt8 := ref04_Det_n (a0m.length+1) a0m
set_option maxRecDepth 100000 in
set_option maxHeartbeats 8000000 in
theorem ref04_Det_n_calls (fu : Nat) : ∀ (a0m : List (List UInt8)) (p0 : Value) (r : UInt8) (w0 : World) (hp0 : Rw w0 [] p0 a0m) (H : ref04_Det_n fu a0m = some r),
    Calls Try.prog 14 [p0].toArray w0 (fun e w' => e = .returned (u8 r) ∧ Ext w0 w') := by
  induction fu with
  | zero => intro a0m p0 r w0 hp0 H; cases H
  | succ fu ih =>
    intro a0m p0 r w0 hp0 H; have hE : Ext w0 w0 := Ext.refl w0; rw [ref04_Det_n] at H; refine calls_W (n := 50) Try.func14 rfl rfl rfl ?_; refine W_seq ?_; refine W_reg (by kernel_rfl) ?_; refine wla rfl rfl (q_assign (v := (u8 0)) rfl (cst8 (0 : UInt8) rfl)) ?_; refine wl_nil ?_; refine W_th ?_; refine W_seq ?_; refine W_seq ?_; refine W_reg (by kernel_rfl) ?_; refine wla rfl rfl (q_move (v := p0) rfl rfl) ?_; refine wla rfl rfl (q_len rfl T27.sl rfl (hp0.lift (Lift.ext hE _))) ?_; refine wla rfl rfl (q_eqI rfl rfl rfl) ?_; refine wl_nil ?_; refine W_th ?_; refine W_cond _ rfl rfl (fun hb1 => ?_) (fun hb1 => ?_)
    · replace H := (if_pos (of_decide_eq_true hb1)).symm.trans H; refine W_seq ?_; refine W_reg (by kernel_rfl) ?_; refine wla rfl rfl (q_assign (v := (u8 1)) rfl (cst8 (1 : UInt8) rfl)) ?_; refine wl_nil ?_; refine W_th ?_; refine W_ret ?_; refine th_r ?_; obtain rfl := osi H; refine rt1 (u8 1) rfl rfl rfl rfl ?_; exact ⟨rfl, hE⟩
    replace H := (if_neg (of_decide_eq_false hb1)).symm.trans H; refine W_skip ?_; refine W_th ?_; refine W_seq ?_; refine W_reg (by kernel_rfl) ?_; refine wla rfl rfl (q_assign (v := (u8 0)) rfl (cst8 (0 : UInt8) rfl)) ?_; refine wl_nil ?_; refine W_th ?_; refine W_seq ?_; refine W_seq ?_; refine W_reg (by kernel_rfl) ?_; refine wla rfl rfl (q_move (v := p0) rfl rfl) ?_; refine wla rfl rfl (q_len rfl T27.sl rfl (hp0.lift (Lift.ext hE _))) ?_; refine wla rfl rfl (q_move (v := (i64 0)) rfl rfl) ?_; refine wl_nil ?_; refine W_th ?_; obtain ⟨x2, G2, H⟩ := bsi H; refine W_mid (fun f w => f 3 = (u8 x2) ∧ f 50 = undef ∧ Ext w0 w) ?_ ?_
    · refine W_block ?_; refine W_loop (fun s2 f w => f 0 = p0 ∧ f 3 = (u8 s2.1) ∧ f 12 = p0 ∧ f 13 = (i64 ((a0m.length : Int))) ∧ f 14 = (i64 s2.2) ∧ f 50 = undef ∧ Ext w0 w) G2 ?_ ?_
      · exact ⟨rfl, rfl, rfl, rfl, rfl, rfl, hE⟩
      rintro s2 _ _ w3 ⟨s0_3, s3_3, s12_3, s13_3, s14_3, s50_3, hE3⟩ H2 hr2; refine W_seq ?_; refine W_reg (by kernel_rfl) ?_; refine wla rfl rfl (q_ltI rfl s14_3 s13_3) ?_; refine wl_nil ?_; refine W_th ?_; refine W_seq ?_; refine W_cond _ rfl rfl (fun hb4 => ?_) (fun hb4 => ?_)
      · replace H2 := (if_pos (of_decide_eq_true hb4)).symm.trans H2; refine W_skip ?_; refine W_th ?_; refine W_seq ?_; refine W_block ?_; refine W_seq ?_; refine W_reg (by kernel_rfl) ?_; refine wla rfl rfl (q_move (v := (i64 s2.2)) rfl s14_3) ?_; obtain ⟨c5, hc5, H2⟩ := bsi H2; refine wla rfl rfl (q_adr rfl T27 s12_3 s14_3 (hp0.lift (Lift.ext hE3 _)) hc5) ?_; refine wlq_load rfl rfl rfl T27 rfl hp0 hc5 hE3 (fun v6 ha6 => ?_); refine wla rfl rfl (q_assign (v := (i64 s2.2)) rfl rfl) ?_; refine wla rfl rfl (q_assign (v := v6) rfl rfl) ?_; refine wl_nil ?_; refine W_th ?_; refine W_seq ?_; refine W_seq ?_; refine W_reg (by kernel_rfl) ?_; refine wla rfl rfl (q_move (v := v6) rfl rfl) ?_; obtain ⟨c7, hc7, H2⟩ := bsi H2; refine wla rfl rfl (q_adr rfl T22 rfl rfl (ha6.lift (Lift.ext hE3 _)) hc7) ?_; refine wlq rfl rfl (q_loadS rfl T22 rfl (ha6.lift (Lift.ext hE3 _)) hc7) ?_; refine wla rfl rfl (q_eq8 rfl rfl (cst8 (0 : UInt8) rfl)) ?_; refine wl_nil ?_; refine W_th ?_; refine W_cond _ rfl rfl (fun hb8 => ?_) (fun hb8 => ?_)
        · replace H2 := (if_pos (of_decide_eq_true hb8)).symm.trans H2; refine W_exit ?_; refine th_x ?_; refine bk_x ?_; refine W_th ?_; refine W_reg (by kernel_rfl) ?_; refine wla rfl rfl (q_addI rfl s14_3 rfl) ?_; refine wla rfl rfl (q_move (v := (i64 ((wI (s2.2 + 1))))) rfl rfl) ?_; refine wl_nil ?_; obtain rfl := osi H2; exact ⟨_, rfl, s0_3, s3_3, s12_3, s13_3, rfl, s50_3, hE3⟩
        replace H2 := (if_neg (of_decide_eq_false hb8)).symm.trans H2; refine W_skip ?_; refine W_th ?_; refine W_seq ?_; refine W_reg (by kernel_rfl) ?_; refine wls rfl rfl (stp_lit (L := []) (R := By) [] ([] : List (List UInt8)) rfl T27 rfl (by exact trivial) rfl (LitR.cells (R := By) (w := w3) (L := []) (l := ([] : List (List UInt8))) LitR.nil (fun u x h => cells_sl u x h)) rfl (LitR.all (R := By) (w := w3) (L := []) (l := ([] : List (List UInt8))) (SlK.stab (Sc.stab _)) LitR.nil) ?_); intro v9 w9 o9 n9 g9 l9; have x9 := grown_ext g9; have n11 := Nw.ext hE3 n9; have e10 := hE3.trans x9; refine wla rfl rfl (q_assign (v := v9) rfl rfl) ?_; refine wl_nil ?_; refine W_th ?_; refine W_seq ?_; refine W_seq ?_; refine W_reg (by kernel_rfl) ?_; refine wla rfl rfl (q_move (v := p0) rfl s0_3) ?_; refine wla rfl rfl (q_len rfl T27.sl rfl (hp0.lift (Lift.ext e10 _))) ?_; refine wla rfl rfl (q_move (v := (i64 0)) rfl rfl) ?_; refine wl_nil ?_; refine W_th ?_; obtain ⟨x12, G12, H2⟩ := bsi H2; refine W_mid (fun f w => ∃ v6_33 : Value, f 0 = p0 ∧ f 3 = (u8 s2.1) ∧ f 5 = v6 ∧ f 6 = v6_33 ∧ f 12 = p0 ∧ f 13 = (i64 ((a0m.length : Int))) ∧ f 14 = (i64 s2.2) ∧ f 50 = undef ∧ Ext w0 w ∧ OwK By w [v6_33] 22 v6_33 x12 ∧ Nw w0 v6_33) ?_ ?_
        · refine W_block ?_; refine W_loop (fun s12 f w => ∃ v6_24 : Value, f 0 = p0 ∧ f 3 = (u8 s2.1) ∧ f 4 = (i64 s2.2) ∧ f 5 = v6 ∧ f 6 = v6_24 ∧ f 12 = p0 ∧ f 13 = (i64 ((a0m.length : Int))) ∧ f 14 = (i64 s2.2) ∧ f 24 = p0 ∧ f 25 = (i64 ((a0m.length : Int))) ∧ f 26 = (i64 s12.2) ∧ f 50 = undef ∧ Ext w0 w ∧ OwK By w [v6_24] 22 v6_24 s12.1 ∧ Nw w0 v6_24) G12 ?_ ?_
          · exact ⟨v9, s0_3, s3_3, rfl, rfl, rfl, s12_3, s13_3, s14_3, rfl, rfl, rfl, s50_3, e10, o9, n11⟩
          rintro s12 _ _ w13 ⟨v6_13, s0_13, s3_13, s4_13, s5_13, s6_13, s12_13, s13_13, s14_13, s24_13, s25_13, s26_13, s50_13, hE13, o0_13, n0_13⟩ H12 hr12; refine W_seq ?_; refine W_reg (by kernel_rfl) ?_; refine wla rfl rfl (q_ltI rfl s26_13 s25_13) ?_; refine wl_nil ?_; refine W_th ?_; refine W_seq ?_; refine W_cond _ rfl rfl (fun hb14 => ?_) (fun hb14 => ?_)
          · replace H12 := (if_pos (of_decide_eq_true hb14)).symm.trans H12; refine W_skip ?_; refine W_th ?_; refine W_seq ?_; refine W_block ?_; refine W_seq ?_; refine W_reg (by kernel_rfl) ?_; refine wla rfl rfl (q_move (v := (i64 s12.2)) rfl s26_13) ?_; obtain ⟨c15, hc15, H12⟩ := bsi H12; refine wla rfl rfl (q_adr rfl T27 s24_13 s26_13 (hp0.lift (Lift.ext hE13 _)) hc15) ?_; refine wlq_load rfl rfl rfl T27 rfl hp0 hc15 hE13 (fun v16 ha16 => ?_); refine wla rfl rfl (q_assign (v := (i64 s12.2)) rfl rfl) ?_; refine wla rfl rfl (q_assign (v := v16) rfl rfl) ?_; refine wl_nil ?_; refine W_th ?_; refine W_seq ?_; refine W_reg (by kernel_rfl) ?_; refine wla rfl rfl (q_move (v := (i64 s12.2)) rfl rfl) ?_; refine wla rfl rfl (q_move (v := (i64 s2.2)) rfl s4_13) ?_; refine wla rfl rfl (q_neI rfl rfl rfl) ?_; refine wl_nil ?_; refine W_th ?_; refine W_cond _ rfl rfl (fun hb17 => ?_) (fun hb17 => ?_)
            · replace H12 := (if_neg (ndec_t hb17)).symm.trans H12; refine W_reg (by kernel_rfl) ?_; refine wla rfl rfl (q_move (v := v6_13) rfl s6_13) ?_; refine wla rfl rfl (q_move (v := v16) rfl rfl) ?_; obtain ⟨c18, hc18, H12⟩ := bsi H12; refine wla rfl rfl (q_slice (a := 1) (b := (c15.length : Int)) rfl T22 rfl (ha16.lift (Lift.ext hE13 _)) rfl rfl hc18) ?_; refine wls rfl rfl (stp_lit (L := [v6_13]) (R := By) [(subV v16 (1 : Int).toNat ((c15.length : Int) : Int).toNat)] ([c18] : List (List UInt8)) rfl T27 rfl (by exact ⟨rfl, rfl, trivial⟩) rfl (LitR.cells (R := By) (w := w13) (L := [v6_13]) (l := ([c18] : List (List UInt8))) (LitR.cons (SlK.cut (ha16.lift (Lift.arg hE13 (nv_cons n0_13 nv_nil))) hc18) LitR.nil) (fun u x h => cells_sl u x h)) rfl (LitR.all (R := By) (w := w13) (L := [v6_13]) (l := ([c18] : List (List UInt8))) (SlK.stab (Sc.stab _)) (LitR.cons (SlK.cut (ha16.lift (Lift.arg hE13 (nv_cons n0_13 nv_nil))) hc18) LitR.nil)) ?_); intro v19 w19 o19 n19 g19 l19; have x19 := grown_ext g19; have i19 : Rw w19 [v6_13] v19 (([c18] : List (List UInt8))) := OwK.slk (SlK.stab (Sc.stab _)) _ o19 (fun k hk => (Old.cons (Old.nil _) o0_13.lt) k (n19 k hk)) (fun _ h => h.2); replace o0_13 := o0_13.extL (SlK.stab (Sc.stab _)) x19 (Lift.ext x19 _); have e20 := hE13.trans x19; obtain ⟨c21, hc21, H12⟩ := bsi H12; refine wls rfl rfl (stp_append (R := By) (v := v6_13) (u := v19) (SlK.stab (Sc.stab _)) [] [] rfl T27 rfl rfl o0_13 i19 (fun _ _ h => h) hc21 oc_sl ?_); intro v21 w21 o21 g21 nx21 l21; replace i19 := i19.lift l21; have e22 := e20.grown g21 n0_13; have n23 := Nw.nxt e20 n0_13 nx21; refine wla rfl rfl (q_assign (v := v21) rfl rfl) ?_; refine wl_nil ?_; refine bk_n ?_; refine W_th ?_; refine W_reg (by kernel_rfl) ?_; refine wla rfl rfl (q_addI rfl s26_13 rfl) ?_; refine wla rfl rfl (q_move (v := (i64 ((wI (s12.2 + 1))))) rfl rfl) ?_; refine wl_nil ?_; obtain rfl := osi H12; exact ⟨_, rfl, v21, s0_13, s3_13, s4_13, s5_13, rfl, s12_13, s13_13, s14_13, s24_13, s25_13, rfl, s50_13, e22, o21, n23⟩
            replace H12 := (if_pos (ndec_f hb17)).symm.trans H12; refine W_skip ?_; refine bk_n ?_; refine W_th ?_; refine W_reg (by kernel_rfl) ?_; refine wla rfl rfl (q_addI rfl s26_13 rfl) ?_; refine wla rfl rfl (q_move (v := (i64 ((wI (s12.2 + 1))))) rfl rfl) ?_; refine wl_nil ?_; obtain rfl := osi H12; exact ⟨_, rfl, v6_13, s0_13, s3_13, s4_13, s5_13, s6_13, s12_13, s13_13, s14_13, s24_13, s25_13, rfl, s50_13, hE13, o0_13, n0_13⟩
          replace H12 := (if_neg (of_decide_eq_false hb14)).symm.trans H12; refine W_exit ?_; refine th_x ?_; obtain rfl := osi H12; obtain rfl := hr12 _ rfl; refine th_x ?_; refine bk_x ?_; exact ⟨v6_13, s0_13, s3_13, s5_13, s6_13, s12_13, s13_13, s14_13, s50_13, hE13, o0_13, n0_13⟩
        rintro _ w25 ⟨v6_25, s0_25, s3_25, s5_25, s6_25, s12_25, s13_25, s14_25, s50_25, hE25, o0_25, n0_25⟩; refine W_th ?_; refine W_draw [3] [(0, 0), (1, 0), (2, 0), (3, 1), (4, 0), (5, 2), (6, 2), (7, 0), (8, 0)] mixed (by kernel_rfl) (by kernel_rfl) (by kernel_rfl) (by kernel_rfl) ?_; have x26 := Ext.drew w25; replace o0_25 := o0_25.extL (SlK.stab (Sc.stab _)) x26 (Lift.ext x26 _); have e27 := hE25.trans x26; refine wsa rfl rfl rfl (q_move (v := (u8 s2.1)) rfl s3_25) ?_; refine wsa rfl rfl rfl (q_move (v := v6) rfl s5_25) ?_; obtain ⟨c28, hc28, H2⟩ := bsi H2; refine wsa rfl rfl rfl (q_adr rfl T22 rfl rfl (ha6.lift (Lift.ext e27 _)) hc28) ?_; refine wsq rfl rfl rfl (q_loadS rfl T22 rfl (ha6.lift (Lift.ext e27 _)) hc28) ?_; refine wsa rfl rfl rfl (q_move (v := v6_25) rfl s6_25) ?_; obtain ⟨r29, hr29, H2⟩ := bsi H2; refine wss rfl rfl rfl (stp_call (vs := [v6_25]) Try.func14 rfl rfl rfl (ar1 rfl) (ih x12 v6_25 r29 _ (o0_25.rd (SlK.stab (Sc.stab _))) hr29) ?_); rintro _ w29 ⟨rfl, x29⟩; refine ⟨_, rfl, x29, ?_⟩; replace o0_25 := o0_25.extL (SlK.stab (Sc.stab _)) x29 (Lift.ext x29 _); have e30 := e27.trans x29; obtain ⟨r31, hr31, H2⟩ := bsi H2; refine wsc rfl (by kernel_rfl) rfl rfl (stp_call (vs := [(u8 c28), (u8 r29)]) Try.func29 rfl rfl rfl (ar2 rfl rfl) (ref02_Mul_calls c28 r29  r31 _  hr31) ?_); rintro _ w31 ⟨rfl, x31⟩; refine ⟨_, rfl, ?_⟩; replace o0_25 := o0_25.extL (SlK.stab (Sc.stab _)) x31 (Lift.ext x31 _); have e32 := e30.trans x31; refine wsa rfl rfl rfl (q_xor8 rfl rfl rfl) ?_; refine wsa rfl rfl rfl (q_assign (v := (u8 ((s2.1 ^^^ r31)))) rfl rfl) ?_; refine ws_nil ?_; refine bk_n ?_; refine W_th ?_; refine W_reg (by kernel_rfl) ?_; refine wla rfl rfl (q_addI rfl s14_25 rfl) ?_; refine wla rfl rfl (q_move (v := (i64 ((wI (s2.2 + 1))))) rfl rfl) ?_; refine wl_nil ?_; obtain rfl := osi H2; exact ⟨_, rfl, s0_25, rfl, s12_25, s13_25, rfl, s50_25, e32⟩
      replace H2 := (if_neg (of_decide_eq_false hb4)).symm.trans H2; refine W_exit ?_; refine th_x ?_; obtain rfl := osi H2; obtain rfl := hr2 _ rfl; refine th_x ?_; refine bk_x ?_; exact ⟨s3_3, s50_3, hE3⟩
    rintro _ w35 ⟨s3_35, s50_35, hE35⟩; refine W_th ?_; refine W_seq ?_; refine W_reg (by kernel_rfl) ?_; refine wla rfl rfl (q_move (v := (u8 x2)) rfl s3_35) ?_; refine wla rfl rfl (q_assign (v := (u8 x2)) rfl rfl) ?_; refine wl_nil ?_; refine W_th ?_; refine W_ret ?_; obtain rfl := osi H; refine rt1 (u8 x2) rfl rfl rfl s50_35 ?_; exact ⟨rfl, hE35⟩
theorem ref04_Det_calls (a0m : List (List UInt8)) (p0 : Value) (r : UInt8) (w0 : World) (hp0 : Rw w0 [] p0 a0m) (H : ref04_Det a0m = some r) :
    Calls Try.prog 14 [p0].toArray w0 (fun e w' => e = .returned (u8 r) ∧ Ext w0 w') := ref04_Det_n_calls _ a0m p0 r w0 hp0 H
noncomputable def ref04_Rank (a0m : List (List UInt8)) : Option Int :=
((iterC (fun s1 : Int × Int =>
((cnt ((a0m.length : Int))).bind fun c3 =>
(if s1.2 < (shlI 1 c3) then
((iterC (fun s5 : Int × Int =>
((idx a0m 0).bind fun c7 =>
((cnt ((c7.length : Int))).bind fun c9 =>
(if s5.2 < (shlI 1 c9) then
((iterC (fun s14 : List (List UInt8) × Int =>
(if s14.2 < (a0m.length : Int) then
((cnt s14.2).bind fun c17 =>
((remI ((shrI s1.2 c17)) 2).bind fun c18 =>
(if c18 = 0 then some (.inl (s14.1, (wI (s14.2 + 1))))
else
((idx a0m 0).bind fun c24 =>
((iterC (fun s26 : List UInt8 × Int =>
(if s26.2 < (c24.length : Int) then
((cnt s26.2).bind fun c29 =>
((remI ((shrI s5.2 c29)) 2).bind fun c30 =>
(if c30 = 1 then
((idx a0m s14.2).bind fun c32 =>
((idx c32 s26.2).bind fun c34 =>
((appL s26.1 (([c34] : List UInt8))).bind fun c37 => some (.inl (c37, (wI (s26.2 + 1)))))))
else some (.inl (s26.1, (wI (s26.2 + 1)))))))
else some (.inr s26.1))) (([] : List UInt8), 0)).bind fun x26 =>
((appL s14.1 (([x26] : List (List UInt8)))).bind fun c46 => some (.inl (c46, (wI (s14.2 + 1))))))))))
else some (.inr s14.1))) (([] : List (List UInt8)), 0)).bind fun x14 =>
((idx x14 0).bind fun c52 =>
(if (x14.length : Int) = (c52.length : Int) then
(if s5.1 < (x14.length : Int) then
((ref04_Det x14).bind fun r56 =>
(if r56 = (0 : UInt8) then some (.inl (s5.1, (wI (s5.2 + 1))))
else some (.inl ((x14.length : Int), (wI (s5.2 + 1))))))
else some (.inl (s5.1, (wI (s5.2 + 1)))))
else some (.inl (s5.1, (wI (s5.2 + 1)))))))
else some (.inr s5.1))))) (s1.1, 1)).bind fun x5 => some (.inl (x5, (wI (s1.2 + 1)))))
else some (.inr s1.1)))) (0, 1)).bind fun x1 => some x1)
set_option maxRecDepth 100000 in
set_option maxHeartbeats 8000000 in
theorem ref04_Rank_calls (a0m : List (List UInt8)) (p0 : Value) (r : Int) (w0 : World) (hp0 : Rw w0 [] p0 a0m) (H : ref04_Rank a0m = some r) :
    Calls Try.prog 10 [p0].toArray w0 (fun e w' => e = .returned (i64 r) ∧ Ext w0 w') := by
  have hE : Ext w0 w0 := Ext.refl w0; unfold ref04_Rank at H; refine calls_W (n := 87) Try.func10 rfl rfl rfl ?_; refine W_seq ?_; refine W_reg (by kernel_rfl) ?_; refine wla rfl rfl (q_assign (v := (i64 0)) rfl rfl) ?_; refine wl_nil ?_; refine W_th ?_; refine W_seq ?_; refine W_reg (by kernel_rfl) ?_; refine wla rfl rfl (q_assign (v := (i64 0)) rfl rfl) ?_; refine wl_nil ?_; refine W_th ?_; refine W_seq ?_; refine W_seq ?_; refine W_reg (by kernel_rfl) ?_; refine wla rfl rfl (q_assign (v := (i64 1)) rfl rfl) ?_; refine wl_nil ?_; refine W_th ?_; obtain ⟨x1, G1, H⟩ := bsi H; refine W_mid (fun f w => f 3 = (i64 x1) ∧ f 87 = undef ∧ Ext w0 w) ?_ ?_
  · refine W_block ?_; refine W_loop (fun s1 f w => f 0 = p0 ∧ f 3 = (i64 s1.1) ∧ f 4 = (i64 s1.2) ∧ f 87 = undef ∧ Ext w0 w) G1 ?_ ?_
    · exact ⟨rfl, rfl, rfl, rfl, hE⟩
    rintro s1 _ _ w2 ⟨s0_2, s3_2, s4_2, s87_2, hE2⟩ H1 hr1; refine W_seq ?_; refine W_seq ?_; refine W_reg (by kernel_rfl) ?_; refine wla rfl rfl (q_move (v := (i64 s1.2)) rfl s4_2) ?_; refine wla rfl rfl (q_move (v := p0) rfl s0_2) ?_; refine wla rfl rfl (q_len rfl T27.sl rfl (hp0.lift (Lift.ext hE2 _))) ?_; obtain ⟨c3, hc3, H1⟩ := bsi H1; refine wla rfl rfl (q_shlI c3 rfl rfl rfl (cnt_eq hc3)) ?_; refine wla rfl rfl (q_ltI rfl rfl rfl) ?_; refine wl_nil ?_; refine W_th ?_; refine W_cond _ rfl rfl (fun hb4 => ?_) (fun hb4 => ?_)
    · replace H1 := (if_pos (of_decide_eq_true hb4)).symm.trans H1; refine W_skip ?_; refine W_th ?_; refine W_seq ?_; refine W_block ?_; refine W_seq ?_; refine W_reg (by kernel_rfl) ?_; refine wla rfl rfl (q_assign (v := (i64 1)) rfl rfl) ?_; refine wl_nil ?_; refine W_th ?_; obtain ⟨x5, G5, H1⟩ := bsi H1; refine W_mid (fun f w => f 0 = p0 ∧ f 3 = (i64 x5) ∧ f 4 = (i64 s1.2) ∧ f 87 = undef ∧ Ext w0 w) ?_ ?_
      · refine W_block ?_; refine W_loop (fun s5 f w => f 0 = p0 ∧ f 3 = (i64 s5.1) ∧ f 4 = (i64 s1.2) ∧ f 5 = (i64 s5.2) ∧ f 87 = undef ∧ Ext w0 w) G5 ?_ ?_
        · exact ⟨s0_2, s3_2, s4_2, rfl, s87_2, hE2⟩
        rintro s5 _ _ w6 ⟨s0_6, s3_6, s4_6, s5_6, s87_6, hE6⟩ H5 hr5; refine W_seq ?_; refine W_seq ?_; refine W_reg (by kernel_rfl) ?_; refine wla rfl rfl (q_move (v := (i64 s5.2)) rfl s5_6) ?_; refine wla rfl rfl (q_move (v := p0) rfl s0_6) ?_; obtain ⟨c7, hc7, H5⟩ := bsi H5; refine wla rfl rfl (q_adr rfl T27 rfl rfl (hp0.lift (Lift.ext hE6 _)) hc7) ?_; refine wlq_load rfl rfl rfl T27 rfl hp0 hc7 hE6 (fun v8 ha8 => ?_); refine wla rfl rfl (q_len rfl T22.sl rfl (ha8.lift (Lift.ext hE6 _))) ?_; obtain ⟨c9, hc9, H5⟩ := bsi H5; refine wla rfl rfl (q_shlI c9 rfl rfl rfl (cnt_eq hc9)) ?_; refine wla rfl rfl (q_ltI rfl rfl rfl) ?_; refine wl_nil ?_; refine W_th ?_; refine W_cond _ rfl rfl (fun hb10 => ?_) (fun hb10 => ?_)
        · replace H5 := (if_pos (of_decide_eq_true hb10)).symm.trans H5; refine W_skip ?_; refine W_th ?_; refine W_seq ?_; refine W_block ?_; refine W_seq ?_; refine W_reg (by kernel_rfl) ?_; refine wls rfl rfl (stp_lit (L := []) (R := By) [] ([] : List (List UInt8)) rfl T27 rfl (by exact trivial) rfl (LitR.cells (R := By) (w := w6) (L := []) (l := ([] : List (List UInt8))) LitR.nil (fun u x h => cells_sl u x h)) rfl (LitR.all (R := By) (w := w6) (L := []) (l := ([] : List (List UInt8))) (SlK.stab (Sc.stab _)) LitR.nil) ?_); intro v11 w11 o11 n11 g11 l11; have x11 := grown_ext g11; have n13 := Nw.ext hE6 n11; have e12 := hE6.trans x11; refine wla rfl rfl (q_assign (v := v11) rfl rfl) ?_; refine wl_nil ?_; refine W_th ?_; refine W_seq ?_; refine W_seq ?_; refine W_reg (by kernel_rfl) ?_; refine wla rfl rfl (q_move (v := p0) rfl s0_6) ?_; refine wla rfl rfl (q_len rfl T27.sl rfl (hp0.lift (Lift.ext e12 _))) ?_; refine wla rfl rfl (q_move (v := (i64 0)) rfl rfl) ?_; refine wl_nil ?_; refine W_th ?_; obtain ⟨x14, G14, H5⟩ := bsi H5; refine W_mid (fun f w => ∃ v6_59 : Value, f 0 = p0 ∧ f 3 = (i64 s5.1) ∧ f 4 = (i64 s1.2) ∧ f 5 = (i64 s5.2) ∧ f 6 = v6_59 ∧ f 87 = undef ∧ Ext w0 w ∧ OwK By w [v6_59] 22 v6_59 x14 ∧ Nw w0 v6_59) ?_ ?_
          · refine W_block ?_; refine W_loop (fun s14 f w => ∃ v6_50 : Value, f 0 = p0 ∧ f 3 = (i64 s5.1) ∧ f 4 = (i64 s1.2) ∧ f 5 = (i64 s5.2) ∧ f 6 = v6_50 ∧ f 28 = (i64 ((a0m.length : Int))) ∧ f 29 = (i64 s14.2) ∧ f 87 = undef ∧ Ext w0 w ∧ OwK By w [v6_50] 22 v6_50 s14.1 ∧ Nw w0 v6_50) G14 ?_ ?_
            · exact ⟨v11, s0_6, s3_6, s4_6, s5_6, rfl, rfl, rfl, s87_6, e12, o11, n13⟩
            rintro s14 _ _ w15 ⟨v6_15, s0_15, s3_15, s4_15, s5_15, s6_15, s28_15, s29_15, s87_15, hE15, o0_15, n0_15⟩ H14 hr14; refine W_seq ?_; refine W_reg (by kernel_rfl) ?_; refine wla rfl rfl (q_ltI rfl s29_15 s28_15) ?_; refine wl_nil ?_; refine W_th ?_; refine W_seq ?_; refine W_cond _ rfl rfl (fun hb16 => ?_) (fun hb16 => ?_)
            · replace H14 := (if_pos (of_decide_eq_true hb16)).symm.trans H14; refine W_skip ?_; refine W_th ?_; refine W_seq ?_; refine W_block ?_; refine W_seq ?_; refine W_reg (by kernel_rfl) ?_; refine wla rfl rfl (q_move (v := (i64 s14.2)) rfl s29_15) ?_; refine wla rfl rfl (q_assign (v := (i64 s14.2)) rfl rfl) ?_; refine wl_nil ?_; refine W_th ?_; refine W_seq ?_; refine W_seq ?_; refine W_reg (by kernel_rfl) ?_; refine wla rfl rfl (q_move (v := (i64 s1.2)) rfl s4_15) ?_; refine wla rfl rfl (q_move (v := (i64 s14.2)) rfl rfl) ?_; obtain ⟨c17, hc17, H14⟩ := bsi H14; refine wla rfl rfl (q_shrI c17 rfl rfl rfl (cnt_eq hc17)) ?_; obtain ⟨c18, hc18, H14⟩ := bsi H14; refine wla rfl rfl (q_remI rfl rfl rfl hc18) ?_; refine wla rfl rfl (q_eqI rfl rfl rfl) ?_; refine wl_nil ?_; refine W_th ?_; refine W_cond _ rfl rfl (fun hb19 => ?_) (fun hb19 => ?_)
              · replace H14 := (if_pos (of_decide_eq_true hb19)).symm.trans H14; refine W_exit ?_; refine th_x ?_; refine bk_x ?_; refine W_th ?_; refine W_reg (by kernel_rfl) ?_; refine wla rfl rfl (q_addI rfl s29_15 rfl) ?_; refine wla rfl rfl (q_move (v := (i64 ((wI (s14.2 + 1))))) rfl rfl) ?_; refine wl_nil ?_; obtain rfl := osi H14; exact ⟨_, rfl, v6_15, s0_15, s3_15, s4_15, s5_15, s6_15, s28_15, rfl, s87_15, hE15, o0_15, n0_15⟩
              replace H14 := (if_neg (of_decide_eq_false hb19)).symm.trans H14; refine W_skip ?_; refine W_th ?_; refine W_seq ?_; refine W_reg (by kernel_rfl) ?_; refine wls rfl rfl (stp_lit (L := [v6_15]) (R := (Sc u8)) [] ([] : List UInt8) rfl T22 rfl (by exact trivial) rfl (litC u8 (oneC_u8) (us := []) (l := ([] : List UInt8)) rfl) rfl (litS u8 (us := []) (l := ([] : List UInt8)) rfl) ?_); intro v20 w20 o20 n20 g20 l20; have x20 := grown_ext g20; have q21 : Nq v6_15 v20 := o0_15.nq n20; replace o0_15 := o0_15.extL (SlK.stab (Sc.stab _)) x20 (Lift.call _ x20 n20); have n23 := Nw.ext hE15 n20; have e22 := hE15.trans x20; refine wla rfl rfl (q_assign (v := v20) rfl rfl) ?_; refine wl_nil ?_; refine W_th ?_; refine W_seq ?_; refine W_seq ?_; refine W_reg (by kernel_rfl) ?_; refine wla rfl rfl (q_move (v := p0) rfl s0_15) ?_; obtain ⟨c24, hc24, H14⟩ := bsi H14; refine wla rfl rfl (q_adr rfl T27 rfl rfl (hp0.lift (Lift.ext e22 _)) hc24) ?_; refine wlq_load rfl rfl rfl T27 rfl hp0 hc24 e22 (fun v25 ha25 => ?_); refine wla rfl rfl (q_len rfl T22.sl rfl (ha25.lift (Lift.ext e22 _))) ?_; refine wla rfl rfl (q_move (v := (i64 0)) rfl rfl) ?_; refine wl_nil ?_; refine W_th ?_; obtain ⟨x26, G26, H14⟩ := bsi H14; refine W_mid (fun f w => ∃ v8_49 : Value, f 0 = p0 ∧ f 3 = (i64 s5.1) ∧ f 4 = (i64 s1.2) ∧ f 5 = (i64 s5.2) ∧ f 6 = v6_15 ∧ f 8 = v8_49 ∧ f 28 = (i64 ((a0m.length : Int))) ∧ f 29 = (i64 s14.2) ∧ f 87 = undef ∧ Ext w0 w ∧ OwK By w [v6_15, v8_49] 22 v6_15 s14.1 ∧ Nw w0 v6_15 ∧ OwK (Sc u8) w [v6_15, v8_49] 5 v8_49 x26 ∧ Nw w0 v8_49 ∧ Nq v6_15 v8_49) ?_ ?_
              · refine W_block ?_; refine W_loop (fun s26 f w => ∃ v8_41 : Value, f 0 = p0 ∧ f 3 = (i64 s5.1) ∧ f 4 = (i64 s1.2) ∧ f 5 = (i64 s5.2) ∧ f 6 = v6_15 ∧ f 7 = (i64 s14.2) ∧ f 8 = v8_41 ∧ f 28 = (i64 ((a0m.length : Int))) ∧ f 29 = (i64 s14.2) ∧ f 41 = (i64 ((c24.length : Int))) ∧ f 42 = (i64 s26.2) ∧ f 87 = undef ∧ Ext w0 w ∧ OwK By w [v6_15, v8_41] 22 v6_15 s14.1 ∧ Nw w0 v6_15 ∧ OwK (Sc u8) w [v6_15, v8_41] 5 v8_41 s26.1 ∧ Nw w0 v8_41 ∧ Nq v6_15 v8_41) G26 ?_ ?_
                · exact ⟨v20, s0_15, s3_15, s4_15, s5_15, s6_15, rfl, rfl, s28_15, s29_15, rfl, rfl, s87_15, e22, (o0_15.weak (SlK.stab (Sc.stab _)) (fun _ h => ⟨h.2.1, h.1, trivial⟩)), n0_15, (o20.weak (Sc.stab _) (fun _ h => ⟨h.2.1, h.1, trivial⟩)), n23, q21⟩
                rintro s26 _ _ w27 ⟨v8_27, s0_27, s3_27, s4_27, s5_27, s6_27, s7_27, s8_27, s28_27, s29_27, s41_27, s42_27, s87_27, hE27, o0_27, n0_27, o1_27, n1_27, q0_1_27⟩ H26 hr26; refine W_seq ?_; refine W_reg (by kernel_rfl) ?_; refine wla rfl rfl (q_ltI rfl s42_27 s41_27) ?_; refine wl_nil ?_; refine W_th ?_; refine W_seq ?_; refine W_cond _ rfl rfl (fun hb28 => ?_) (fun hb28 => ?_)
                · replace H26 := (if_pos (of_decide_eq_true hb28)).symm.trans H26; refine W_skip ?_; refine W_th ?_; refine W_seq ?_; refine W_block ?_; refine W_seq ?_; refine W_reg (by kernel_rfl) ?_; refine wla rfl rfl (q_move (v := (i64 s26.2)) rfl s42_27) ?_; refine wla rfl rfl (q_assign (v := (i64 s26.2)) rfl rfl) ?_; refine wl_nil ?_; refine W_th ?_; refine W_seq ?_; refine W_reg (by kernel_rfl) ?_; refine wla rfl rfl (q_move (v := (i64 s5.2)) rfl s5_27) ?_; refine wla rfl rfl (q_move (v := (i64 s26.2)) rfl rfl) ?_; obtain ⟨c29, hc29, H26⟩ := bsi H26; refine wla rfl rfl (q_shrI c29 rfl rfl rfl (cnt_eq hc29)) ?_; obtain ⟨c30, hc30, H26⟩ := bsi H26; refine wla rfl rfl (q_remI rfl rfl rfl hc30) ?_; refine wla rfl rfl (q_eqI rfl rfl rfl) ?_; refine wl_nil ?_; refine W_th ?_; refine W_cond _ rfl rfl (fun hb31 => ?_) (fun hb31 => ?_)
                  · replace H26 := (if_pos (of_decide_eq_true hb31)).symm.trans H26; refine W_reg (by kernel_rfl) ?_; refine wla rfl rfl (q_move (v := v8_27) rfl s8_27) ?_; refine wla rfl rfl (q_move (v := p0) rfl s0_27) ?_; refine wla rfl rfl (q_move (v := (i64 s14.2)) rfl s7_27) ?_; obtain ⟨c32, hc32, H26⟩ := bsi H26; refine wla rfl rfl (q_adr rfl T27 rfl rfl (hp0.lift (Lift.ext hE27 _)) hc32) ?_; refine wlq_load rfl rfl rfl T27 rfl hp0 hc32 hE27 (fun v33 ha33 => ?_); refine wla rfl rfl (q_move (v := (i64 s26.2)) rfl rfl) ?_; obtain ⟨c34, hc34, H26⟩ := bsi H26; refine wla rfl rfl (q_adr rfl T22 rfl rfl (ha33.lift (Lift.ext hE27 _)) hc34) ?_; refine wlq rfl rfl (q_loadS rfl T22 rfl (ha33.lift (Lift.ext hE27 _)) hc34) ?_; refine wls rfl rfl (stp_lit (L := [v6_15, v8_27]) (R := (Sc u8)) [(u8 c34)] ([c34] : List UInt8) rfl T22 rfl (by exact ⟨rfl, rfl, trivial⟩) rfl (litC u8 (oneC_u8) (us := [(u8 c34)]) (l := ([c34] : List UInt8)) rfl) rfl (litS u8 (us := [(u8 c34)]) (l := ([c34] : List UInt8)) rfl) ?_); intro v35 w35 o35 n35 g35 l35; have x35 := grown_ext g35; have i35 : By w35 [v6_15, v8_27] v35 (([c34] : List UInt8)) := OwK.slk (Sc.stab _) _ o35 (fun k hk => (Old.cons (Old.cons (Old.nil _) o1_27.lt) o0_27.lt) k (n35 k hk)) (fun _ h => h.2); replace o0_27 := o0_27.extL (SlK.stab (Sc.stab _)) x35 (Lift.ext x35 _); replace o1_27 := o1_27.extL (Sc.stab _) x35 (Lift.ext x35 _); have e36 := hE27.trans x35; obtain ⟨c37, hc37, H26⟩ := bsi H26; refine wls rfl rfl (stp_append (R := (Sc u8)) (v := v8_27) (u := v35) (Sc.stab _) [v6_15] [] rfl T22 rfl rfl o1_27 i35 (fun _ _ h => h) hc37 oc_u8 ?_); intro v37 w37 o37 g37 nx37 l37; replace i35 := i35.lift l37; have q38 : Nq v6_15 v37 := o0_27.nxt q0_1_27 nx37; replace o0_27 := o0_27.other (SlK.stab (Sc.stab _)) g37 q0_1_27 l37; have e39 := e36.grown g37 n1_27; have n40 := Nw.nxt e36 n1_27 nx37; refine wla rfl rfl (q_assign (v := v37) rfl rfl) ?_; refine wl_nil ?_; refine bk_n ?_; refine W_th ?_; refine W_reg (by kernel_rfl) ?_; refine wla rfl rfl (q_addI rfl s42_27 rfl) ?_; refine wla rfl rfl (q_move (v := (i64 ((wI (s26.2 + 1))))) rfl rfl) ?_; refine wl_nil ?_; obtain rfl := osi H26; exact ⟨_, rfl, v37, s0_27, s3_27, s4_27, s5_27, s6_27, s7_27, rfl, s28_27, s29_27, s41_27, rfl, s87_27, e39, o0_27, n0_27, o37, n40, q38⟩
                  replace H26 := (if_neg (of_decide_eq_false hb31)).symm.trans H26; refine W_skip ?_; refine bk_n ?_; refine W_th ?_; refine W_reg (by kernel_rfl) ?_; refine wla rfl rfl (q_addI rfl s42_27 rfl) ?_; refine wla rfl rfl (q_move (v := (i64 ((wI (s26.2 + 1))))) rfl rfl) ?_; refine wl_nil ?_; obtain rfl := osi H26; exact ⟨_, rfl, v8_27, s0_27, s3_27, s4_27, s5_27, s6_27, s7_27, s8_27, s28_27, s29_27, s41_27, rfl, s87_27, hE27, o0_27, n0_27, o1_27, n1_27, q0_1_27⟩
                replace H26 := (if_neg (of_decide_eq_false hb28)).symm.trans H26; refine W_exit ?_; refine th_x ?_; obtain rfl := osi H26; obtain rfl := hr26 _ rfl; refine th_x ?_; refine bk_x ?_; exact ⟨v8_27, s0_27, s3_27, s4_27, s5_27, s6_27, s8_27, s28_27, s29_27, s87_27, hE27, o0_27, n0_27, o1_27, n1_27, q0_1_27⟩
              rintro _ w42 ⟨v8_42, s0_42, s3_42, s4_42, s5_42, s6_42, s8_42, s28_42, s29_42, s87_42, hE42, o0_42, n0_42, o1_42, n1_42, q0_1_42⟩; refine W_th ?_; refine W_reg (by kernel_rfl) ?_; refine wla rfl rfl (q_move (v := v6_15) rfl s6_42) ?_; refine wla rfl rfl (q_move (v := v8_42) rfl s8_42) ?_; have i44 : By w42 [v6_15] v8_42 x26 := OwK.slk (Sc.stab _) [v6_15] o1_42 (fun k hk => ⟨(q0_1_42.symm) k hk, trivial⟩) (show ∀ k, Av [v6_15, v8_42] k → Av [v6_15] k from fun _ h => ⟨h.1, trivial⟩); replace o0_42 := o0_42.weak (SlK.stab (Sc.stab _)) (show ∀ k, Av [v6_15, v8_42] k → Av [v6_15] k from fun _ h => ⟨h.1, trivial⟩); refine wls rfl rfl (stp_lit (L := [v6_15]) (R := By) [v8_42] ([x26] : List (List UInt8)) rfl T27 rfl (by exact ⟨rfl, rfl, trivial⟩) rfl (LitR.cells (R := By) (w := w42) (L := [v6_15]) (l := ([x26] : List (List UInt8))) (LitR.cons i44 LitR.nil) (fun u x h => cells_sl u x h)) rfl (LitR.all (R := By) (w := w42) (L := [v6_15]) (l := ([x26] : List (List UInt8))) (SlK.stab (Sc.stab _)) (LitR.cons i44 LitR.nil)) ?_); intro v43 w43 o43 n43 g43 l43; have x43 := grown_ext g43; have i43 : Rw w43 [v6_15] v43 (([x26] : List (List UInt8))) := OwK.slk (SlK.stab (Sc.stab _)) _ o43 (fun k hk => (Old.cons (Old.nil _) o0_42.lt) k (n43 k hk)) (fun _ h => h.2); replace i44 := i44.lift (Lift.ext x43 _); replace o0_42 := o0_42.extL (SlK.stab (Sc.stab _)) x43 (Lift.ext x43 _); have e45 := hE42.trans x43; obtain ⟨c46, hc46, H14⟩ := bsi H14; refine wls rfl rfl (stp_append (R := By) (v := v6_15) (u := v43) (SlK.stab (Sc.stab _)) [] [] rfl T27 rfl rfl o0_42 i43 (fun _ _ h => h) hc46 oc_sl ?_); intro v46 w46 o46 g46 nx46 l46; replace i44 := i44.lift l46; replace i43 := i43.lift l46; have e47 := e45.grown g46 n0_42; have n48 := Nw.nxt e45 n0_42 nx46; refine wla rfl rfl (q_assign (v := v46) rfl rfl) ?_; refine wl_nil ?_; refine bk_n ?_; refine W_th ?_; refine W_reg (by kernel_rfl) ?_; refine wla rfl rfl (q_addI rfl s29_42 rfl) ?_; refine wla rfl rfl (q_move (v := (i64 ((wI (s14.2 + 1))))) rfl rfl) ?_; refine wl_nil ?_; obtain rfl := osi H14; exact ⟨_, rfl, v46, s0_42, s3_42, s4_42, s5_42, rfl, s28_42, rfl, s87_42, e47, o46, n48⟩
            replace H14 := (if_neg (of_decide_eq_false hb16)).symm.trans H14; refine W_exit ?_; refine th_x ?_; obtain rfl := osi H14; obtain rfl := hr14 _ rfl; refine th_x ?_; refine bk_x ?_; exact ⟨v6_15, s0_15, s3_15, s4_15, s5_15, s6_15, s87_15, hE15, o0_15, n0_15⟩
          rintro _ w51 ⟨v6_51, s0_51, s3_51, s4_51, s5_51, s6_51, s87_51, hE51, o0_51, n0_51⟩; refine W_th ?_; refine W_seq ?_; refine W_reg (by kernel_rfl) ?_; refine wla rfl rfl (q_move (v := v6_51) rfl s6_51) ?_; refine wla rfl rfl (q_len rfl T27.sl rfl (o0_51.rd (SlK.stab (Sc.stab _)))) ?_; refine wla rfl rfl (q_move (v := v6_51) rfl s6_51) ?_; obtain ⟨c52, hc52, H5⟩ := bsi H5; refine wla rfl rfl (q_adr rfl T27 rfl rfl (o0_51.rd (SlK.stab (Sc.stab _))) hc52) ?_; refine wlq_loadO (SlK.stab (Sc.stab _)) rfl rfl rfl T27 rfl o0_51 hc52 (fun v53 i53 => ?_); replace i53 : By w51 [v6_51] v53 c52 := i53; refine wla rfl rfl (q_len rfl T22.sl rfl i53) ?_; refine wla rfl rfl (q_eqI rfl rfl rfl) ?_; refine wlb rfl rfl (q_move (v := (.bool ((decide ((x14.length : Int) = (c52.length : Int)))))) rfl rfl) (fun hb54 => ?_) (fun hb54 => ?_)
          · replace H5 := (if_pos (of_decide_eq_true hb54)).symm.trans H5; refine wla rfl rfl (q_move (v := v6_51) rfl s6_51) ?_; refine wla rfl rfl (q_len rfl T27.sl rfl (o0_51.rd (SlK.stab (Sc.stab _)))) ?_; refine wla rfl rfl (q_move (v := (i64 s5.1)) rfl s3_51) ?_; refine wla rfl rfl (q_gtI rfl rfl rfl) ?_; refine wla rfl rfl (q_pick_t (v := (.bool ((decide (s5.1 < (x14.length : Int)))))) rfl rfl rfl) ?_; refine wlb rfl rfl (q_move (v := (.bool ((decide (s5.1 < (x14.length : Int)))))) rfl rfl) (fun hb55 => ?_) (fun hb55 => ?_)
            · replace H5 := (if_pos (of_decide_eq_true hb55)).symm.trans H5; refine wla rfl rfl (q_move (v := v6_51) rfl s6_51) ?_; obtain ⟨r56, hr56, H5⟩ := bsi H5; refine wls rfl rfl (stp_call (vs := [v6_51]) Try.func14 rfl rfl rfl (ar1 rfl) (ref04_Det_calls x14 v6_51 r56 _ (o0_51.rd (SlK.stab (Sc.stab _))) hr56) ?_); rintro _ w56 ⟨rfl, x56⟩; refine ⟨_, rfl, ?_⟩; replace i53 := i53.lift (Lift.ext x56 _); replace o0_51 := o0_51.extL (SlK.stab (Sc.stab _)) x56 (Lift.ext x56 _); have e57 := hE51.trans x56; refine wla rfl rfl (q_ne8 rfl rfl (cst8 (0 : UInt8) rfl)) ?_; refine wla rfl rfl (q_pick_t (v := (.bool ((!decide (r56 = (0 : UInt8)))))) rfl rfl rfl) ?_; refine wl_nil ?_; refine W_th ?_; refine W_cond _ rfl rfl (fun hb58 => ?_) (fun hb58 => ?_)
              · replace H5 := (if_neg (ndec_t hb58)).symm.trans H5; refine W_reg (by kernel_rfl) ?_; refine wla rfl rfl (q_move (v := v6_51) rfl s6_51) ?_; refine wla rfl rfl (q_len rfl T27.sl rfl (o0_51.rd (SlK.stab (Sc.stab _)))) ?_; refine wla rfl rfl (q_assign (v := (i64 ((x14.length : Int)))) rfl rfl) ?_; refine wl_nil ?_; refine bk_n ?_; refine W_th ?_; refine W_reg (by kernel_rfl) ?_; refine wla rfl rfl (q_move (v := (i64 s5.2)) rfl s5_51) ?_; refine wla rfl rfl (q_addI rfl rfl rfl) ?_; refine wla rfl rfl (q_assign (v := (i64 ((wI (s5.2 + 1))))) rfl rfl) ?_; refine wl_nil ?_; obtain rfl := osi H5; exact ⟨_, rfl, s0_51, rfl, s4_51, rfl, s87_51, e57⟩
              replace H5 := (if_pos (ndec_f hb58)).symm.trans H5; refine W_skip ?_; refine bk_n ?_; refine W_th ?_; refine W_reg (by kernel_rfl) ?_; refine wla rfl rfl (q_move (v := (i64 s5.2)) rfl s5_51) ?_; refine wla rfl rfl (q_addI rfl rfl rfl) ?_; refine wla rfl rfl (q_assign (v := (i64 ((wI (s5.2 + 1))))) rfl rfl) ?_; refine wl_nil ?_; obtain rfl := osi H5; exact ⟨_, rfl, s0_51, s3_51, s4_51, rfl, s87_51, e57⟩
            replace H5 := (if_neg (of_decide_eq_false hb55)).symm.trans H5; refine wlk rfl rfl ?_; refine wlk rfl rfl ?_; refine wlk rfl rfl ?_; refine wla rfl rfl (q_pick_f (v := (.bool false)) rfl rfl rfl) ?_; refine wl_nil ?_; refine W_th ?_; refine W_cond false rfl rfl (fun hb => by cases hb) (fun _ => ?_); refine W_skip ?_; refine bk_n ?_; refine W_th ?_; refine W_reg (by kernel_rfl) ?_; refine wla rfl rfl (q_move (v := (i64 s5.2)) rfl s5_51) ?_; refine wla rfl rfl (q_addI rfl rfl rfl) ?_; refine wla rfl rfl (q_assign (v := (i64 ((wI (s5.2 + 1))))) rfl rfl) ?_; refine wl_nil ?_; obtain rfl := osi H5; exact ⟨_, rfl, s0_51, s3_51, s4_51, rfl, s87_51, hE51⟩
          replace H5 := (if_neg (of_decide_eq_false hb54)).symm.trans H5; refine wlk rfl rfl ?_; refine wlk rfl rfl ?_; refine wlk rfl rfl ?_; refine wlk rfl rfl ?_; refine wla rfl rfl (q_pick_f (v := (.bool false)) rfl rfl rfl) ?_; refine wla rfl rfl (q_move (v := (.bool false)) rfl rfl) ?_; refine wlk rfl rfl ?_; refine wlk rfl rfl ?_; refine wlk rfl rfl ?_; refine wla rfl rfl (q_pick_f (v := (.bool false)) rfl rfl rfl) ?_; refine wl_nil ?_; refine W_th ?_; refine W_cond false rfl rfl (fun hb => by cases hb) (fun _ => ?_); refine W_skip ?_; refine bk_n ?_; refine W_th ?_; refine W_reg (by kernel_rfl) ?_; refine wla rfl rfl (q_move (v := (i64 s5.2)) rfl s5_51) ?_; refine wla rfl rfl (q_addI rfl rfl rfl) ?_; refine wla rfl rfl (q_assign (v := (i64 ((wI (s5.2 + 1))))) rfl rfl) ?_; refine wl_nil ?_; obtain rfl := osi H5; exact ⟨_, rfl, s0_51, s3_51, s4_51, rfl, s87_51, hE51⟩
        replace H5 := (if_neg (of_decide_eq_false hb10)).symm.trans H5; refine W_exit ?_; refine th_x ?_; obtain rfl := osi H5; obtain rfl := hr5 _ rfl; refine th_x ?_; refine bk_x ?_; exact ⟨s0_6, s3_6, s4_6, s87_6, hE6⟩
      rintro _ w61 ⟨s0_61, s3_61, s4_61, s87_61, hE61⟩; refine bk_n ?_; refine W_th ?_; refine W_reg (by kernel_rfl) ?_; refine wla rfl rfl (q_move (v := (i64 s1.2)) rfl s4_61) ?_; refine wla rfl rfl (q_addI rfl rfl rfl) ?_; refine wla rfl rfl (q_assign (v := (i64 ((wI (s1.2 + 1))))) rfl rfl) ?_; refine wl_nil ?_; obtain rfl := osi H1; exact ⟨_, rfl, s0_61, s3_61, rfl, s87_61, hE61⟩
    replace H1 := (if_neg (of_decide_eq_false hb4)).symm.trans H1; refine W_exit ?_; refine th_x ?_; obtain rfl := osi H1; obtain rfl := hr1 _ rfl; refine th_x ?_; refine bk_x ?_; exact ⟨s3_2, s87_2, hE2⟩
  rintro _ w65 ⟨s3_65, s87_65, hE65⟩; refine W_th ?_; refine W_seq ?_; refine W_reg (by kernel_rfl) ?_; refine wla rfl rfl (q_move (v := (i64 x1)) rfl s3_65) ?_; refine wla rfl rfl (q_assign (v := (i64 x1)) rfl rfl) ?_; refine wl_nil ?_; refine W_th ?_; refine W_ret ?_; obtain rfl := osi H; refine rt1 (i64 x1) rfl rfl rfl s87_65 ?_; exact ⟨rfl, hE65⟩
noncomputable def law04_MatrixSolves (a0n : Int) (a1columns : Int) (a2a : List UInt8) (a3v : List UInt8) : Option Bool :=
((law04_lives ).bind fun r1 =>
(if (!r1) = true then some false
else
((field_New ).bind fun r4 =>
((law04_square a2a (wI (1 + (wI ((((UInt64.ofInt a0n) % (4 : UInt64))).toNat : Int)))) (wI (1 + (wI ((((UInt64.ofInt a1columns) % (4 : UInt64))).toNat : Int))))).bind fun r6 =>
((matrix_New r6).bind fun r8 =>
((matrix_Solve r8.1 r4 a3v).bind fun r10 =>
(if r8.2 = 0 then
(if (a3v.length : Int) = (wI (1 + (wI ((((UInt64.ofInt a0n) % (4 : UInt64))).toNat : Int)))) then
((iterC (fun s18 : List (List UInt8) × Int =>
(if s18.2 < (r6.length : Int) then
((idx r6 s18.2).bind fun c21 =>
((idx a3v s18.2).bind fun c25 =>
((appL (([] : List UInt8)) c21).bind fun c30 =>
((appL c30 (([c25] : List UInt8))).bind fun c36 =>
((appL s18.1 (([c36] : List (List UInt8)))).bind fun c43 => some (.inl (c43, (wI (s18.2 + 1)))))))))
else some (.inr s18.1))) (([] : List (List UInt8)), 0)).bind fun x18 =>
((ref04_Rank x18).bind fun r48 =>
((ref04_Rank r6).bind fun r50 =>
(if r48 = r50 then
((iterC (fun s54 : Int × Int =>
(if s54.2 < (r10.1.length : Int) then
((idx r10.1 s54.2).bind fun c57 =>
(if c57 = (0 : UInt8) then some (.inl (s54.1, (wI (s54.2 + 1))))
else some (.inl ((wI (s54.1 + 1)), (wI (s54.2 + 1))))))
else some (.inr s54.1))) (0, 0)).bind fun x54 =>
(if r10.2 = 0 then
(if (r10.1.length : Int) = (wI (1 + (wI ((((UInt64.ofInt a1columns) % (4 : UInt64))).toNat : Int)))) then
((ref04_Times r6 r10.1).bind fun r66 =>
(if r66 = a3v then
((ref04_Rank r6).bind fun r69 => some (decide (x54 ≤ r69)))
else some false))
else some false)
else some false))
else
(if r10.2 = 7 then some (decide ((r10.1.length : Int) = 0))
else some false)))))
else
(if r8.2 = 0 then
(if r10.2 = 1 then some (decide ((r10.1.length : Int) = 0))
else some false)
else some false))
else
(if r8.2 = 0 then
(if r10.2 = 1 then some (decide ((r10.1.length : Int) = 0))
else some false)
else some false))))))))
set_option maxRecDepth 100000 in
set_option maxHeartbeats 8000000 in
theorem law04_MatrixSolves_calls (a0n : Int) (a1columns : Int) (a2a : List UInt8) (a3v : List UInt8) (p2 : Value) (p3 : Value) (r : Bool) (w0 : World) (hp2 : By w0 [] p2 a2a) (hp3 : By w0 [] p3 a3v) (H : law04_MatrixSolves a0n a1columns a2a a3v = some r) :
    Calls Try.prog 3 [(i64 a0n), (i64 a1columns), p2, p3].toArray w0 (fun e w' => e = .returned (.bool r) ∧ Ext w0 w') := by
  have hE : Ext w0 w0 := Ext.refl w0; unfold law04_MatrixSolves at H; refine calls_W (n := 135) Try.func3 rfl rfl rfl ?_; refine W_seq ?_; refine W_reg (by kernel_rfl) ?_; refine wla rfl rfl (q_assign (v := (.bool false)) rfl rfl) ?_; refine wl_nil ?_; refine W_th ?_; refine W_seq ?_; refine W_seq ?_; refine W_reg (by kernel_rfl) ?_; obtain ⟨r1, hr1, H⟩ := bsi H; refine wls rfl rfl (stp_call (vs := []) Try.func5 rfl rfl rfl (ar0 ) (law04_lives_calls   r1 _  hr1) ?_); rintro _ w1 ⟨rfl, x1⟩; refine ⟨_, rfl, ?_⟩; have e2 := hE.trans x1; refine wla rfl rfl (q_not rfl rfl) ?_; refine wl_nil ?_; refine W_th ?_; refine W_cond _ rfl rfl (fun hb3 => ?_) (fun hb3 => ?_)
  · replace H := (if_pos hb3).symm.trans H; refine W_seq ?_; refine W_reg (by kernel_rfl) ?_; refine wla rfl rfl (q_assign (v := (.bool false)) rfl rfl) ?_; refine wl_nil ?_; refine W_th ?_; refine W_ret ?_; refine th_r ?_; obtain rfl := osi H; refine rt1 (.bool false) rfl rfl rfl rfl ?_; exact ⟨rfl, e2⟩
  replace H := (if_neg (ne_true_of_eq_false hb3)).symm.trans H; refine W_skip ?_; refine W_th ?_; refine W_seq ?_; refine W_reg (by kernel_rfl) ?_; refine wla rfl rfl (q_move (v := (i64 a0n)) rfl rfl) ?_; refine wla rfl rfl (q_cvt64I rfl rfl rfl rfl) ?_; refine wla rfl rfl (q_rem64 rfl rfl (cst64 (4 : UInt64) rfl) (by decide)) ?_; refine wla rfl rfl (q_cvtI64 rfl rfl rfl rfl) ?_; refine wla rfl rfl (q_addI rfl rfl rfl) ?_; refine wla rfl rfl (q_move (v := (i64 a1columns)) rfl rfl) ?_; refine wla rfl rfl (q_cvt64I rfl rfl rfl rfl) ?_; refine wla rfl rfl (q_rem64 rfl rfl (cst64 (4 : UInt64) rfl) (by decide)) ?_; refine wla rfl rfl (q_cvtI64 rfl rfl rfl rfl) ?_; refine wla rfl rfl (q_addI rfl rfl rfl) ?_; refine wla rfl rfl (q_assign (v := (i64 ((wI (1 + (wI ((((UInt64.ofInt a0n) % (4 : UInt64))).toNat : Int))))))) rfl rfl) ?_; refine wla rfl rfl (q_assign (v := (i64 ((wI (1 + (wI ((((UInt64.ofInt a1columns) % (4 : UInt64))).toNat : Int))))))) rfl rfl) ?_; refine wl_nil ?_; refine W_th ?_; refine W_seq ?_; refine W_reg (by kernel_rfl) ?_; obtain ⟨r4, hr4, H⟩ := bsi H; refine wls rfl rfl (stp_call (vs := []) Try.func6 rfl rfl rfl (ar0 ) (field_New_calls   r4 _ [] (Old.nil _)  hr4) ?_); rintro _ w4 ⟨v4, rfl, x4, i4_0⟩; refine ⟨_, rfl, ?_⟩; have e5 := e2.trans x4; refine wla rfl rfl (q_assign (v := v4) rfl rfl) ?_; refine wl_nil ?_; refine W_th ?_; refine W_seq ?_; refine W_reg (by kernel_rfl) ?_; refine wla rfl rfl (q_move (v := p2) rfl rfl) ?_; refine wla rfl rfl (q_move (v := (i64 ((wI (1 + (wI ((((UInt64.ofInt a0n) % (4 : UInt64))).toNat : Int))))))) rfl rfl) ?_; refine wla rfl rfl (q_move (v := (i64 ((wI (1 + (wI ((((UInt64.ofInt a1columns) % (4 : UInt64))).toNat : Int))))))) rfl rfl) ?_; obtain ⟨r6, hr6, H⟩ := bsi H; refine wls rfl rfl (stp_call (vs := [p2, (i64 ((wI (1 + (wI ((((UInt64.ofInt a0n) % (4 : UInt64))).toNat : Int)))))), (i64 ((wI (1 + (wI ((((UInt64.ofInt a1columns) % (4 : UInt64))).toNat : Int))))))]) Try.func7 rfl rfl rfl (ar3 rfl rfl rfl) (law04_square_calls a2a (wI (1 + (wI ((((UInt64.ofInt a0n) % (4 : UInt64))).toNat : Int)))) (wI (1 + (wI ((((UInt64.ofInt a1columns) % (4 : UInt64))).toNat : Int)))) p2 r6 _ [] (Old.nil _) (hp2.lift (Lift.ext e5 _)) hr6) ?_); rintro _ w6 ⟨v6, rfl, x6, n6_0, o6_0⟩; refine ⟨_, rfl, ?_⟩; have i6_0 : Rw w6 [] v6 r6 := OwK.slk (SlK.stab (Sc.stab _)) _ o6_0 (fun k hk => (Old.nil _) k (n6_0 k hk)) (fun _ h => h.2); replace i4_0 := i4_0.lift (Lift.ext x6 _); have e7 := e5.trans x6; refine wla rfl rfl (q_assign (v := v6) rfl rfl) ?_; refine wl_nil ?_; refine W_th ?_; refine W_seq ?_; refine W_reg (by kernel_rfl) ?_; refine wla rfl rfl (q_move (v := v6) rfl rfl) ?_; obtain ⟨r8, hr8, H⟩ := bsi H; refine wls rfl rfl (stp_call (vs := [v6]) Try.func8 rfl rfl rfl (ar1 rfl) (matrix_New_calls r6 v6 r8 _ [] (Old.nil _) (i6_0.lift (Lift.sub (L' := []) (fun _ _ => trivial))) hr8) ?_); rintro _ w8 ⟨v8_0, rfl, x8, i8_0⟩; refine ⟨_, rfl, ?_⟩; replace i4_0 := i4_0.lift (Lift.ext x8 _)
  replace i6_0 := i6_0.lift (Lift.ext x8 _); have e9 := e7.trans x8; refine wla rfl rfl (q_move (v := (.tuple #[v8_0, (i64 r8.2)])) rfl rfl) ?_; refine wla rfl rfl (q_extract rfl rfl rfl) ?_; refine wla rfl rfl (q_extract rfl rfl rfl) ?_; refine wla rfl rfl (q_assign (v := v8_0) rfl rfl) ?_; refine wla rfl rfl (q_assign (v := (i64 r8.2)) rfl rfl) ?_; refine wl_nil ?_; refine W_th ?_; refine W_seq ?_; refine W_reg (by kernel_rfl) ?_; refine wla rfl rfl (q_move (v := v8_0) rfl rfl) ?_; refine wla rfl rfl (q_move (v := v4) rfl rfl) ?_; refine wla rfl rfl (q_move (v := p3) rfl rfl) ?_; obtain ⟨r10, hr10, H⟩ := bsi H; refine wls rfl rfl (stp_call (vs := [v8_0, v4, p3]) Try.func9 rfl rfl rfl (ar3 rfl rfl rfl) (matrix_Solve_calls r8.1 r4 a3v v8_0 v4 p3 r10 _ (i8_0.lift (Lift.sub (L' := []) (fun _ _ => trivial))) (i4_0.lift (Lift.sub (L' := []) (fun _ _ => trivial))) (hp3.lift (Lift.ext e9 _)) hr10) ?_); rintro _ w10 ⟨v10_0, rfl, x10, n10_0, o10_0⟩; refine ⟨_, rfl, ?_⟩; have i10_0 : By w10 [] v10_0 r10.1 := OwK.slk (Sc.stab _) _ (OwK.scal o10_0 (v10_0 :: [])) (fun k hk => (Old.nil _) k (n10_0 k hk)) (fun _ h => h.2); replace i4_0 := i4_0.lift (Lift.ext x10 _); replace i6_0 := i6_0.lift (Lift.ext x10 _); replace i8_0 := i8_0.lift (Lift.ext x10 _); have e11 := e9.trans x10; refine wla rfl rfl (q_move (v := (.tuple #[v10_0, (i64 r10.2)])) rfl rfl) ?_; refine wla rfl rfl (q_extract rfl rfl rfl) ?_; refine wla rfl rfl (q_extract rfl rfl rfl) ?_; refine wla rfl rfl (q_assign (v := v10_0) rfl rfl) ?_; refine wla rfl rfl (q_assign (v := (i64 r10.2)) rfl rfl) ?_; refine wl_nil ?_; refine W_th ?_; refine W_seq ?_; refine W_seq ?_; refine W_reg (by kernel_rfl) ?_; refine wla rfl rfl (q_move (v := (i64 r8.2)) rfl rfl) ?_; refine wla rfl rfl (q_neI rfl rfl rfl) ?_; refine wlb rfl rfl (q_move (v := (.bool ((!decide (r8.2 = 0))))) rfl rfl) (fun hb12 => ?_) (fun hb12 => ?_)
  · replace H := (if_neg (ndec_t hb12)).symm.trans H; refine wlk rfl rfl ?_; refine wlk rfl rfl ?_; refine wlk rfl rfl ?_; refine wlk rfl rfl ?_; refine wla rfl rfl (q_pick_t (v := (.bool true)) rfl rfl rfl) ?_; refine wl_nil ?_; refine W_th ?_; refine W_cond true rfl rfl (fun _ => ?_) (fun hb => by cases hb); refine W_seq ?_; refine W_reg (by kernel_rfl) ?_; refine wla rfl rfl (q_move (v := (i64 r8.2)) rfl rfl) ?_; refine wla rfl rfl (q_eqI rfl rfl rfl) ?_; refine wlb rfl rfl (q_move (v := (.bool ((decide (r8.2 = 0))))) rfl rfl) (fun hb13 => ?_) (fun hb13 => ?_)
    · replace H := (if_pos (of_decide_eq_true hb13)).symm.trans H; refine wla rfl rfl (q_move (v := (i64 r10.2)) rfl rfl) ?_; refine wla rfl rfl (q_eqI rfl rfl rfl) ?_; refine wla rfl rfl (q_pick_t (v := (.bool ((decide (r10.2 = 1))))) rfl rfl rfl) ?_; refine wlb rfl rfl (q_move (v := (.bool ((decide (r10.2 = 1))))) rfl rfl) (fun hb14 => ?_) (fun hb14 => ?_)
      · replace H := (if_pos (of_decide_eq_true hb14)).symm.trans H; refine wla rfl rfl (q_move (v := v10_0) rfl rfl) ?_; refine wla rfl rfl (q_len rfl T22.sl rfl i10_0) ?_; refine wla rfl rfl (q_eqI rfl rfl rfl) ?_; refine wla rfl rfl (q_pick_t (v := (.bool ((decide ((r10.1.length : Int) = 0))))) rfl rfl rfl) ?_; refine wla rfl rfl (q_assign (v := (.bool ((decide ((r10.1.length : Int) = 0))))) rfl rfl) ?_; refine wl_nil ?_; refine W_th ?_; refine W_ret ?_; refine th_r ?_; obtain rfl := osi H; refine rt1 (.bool ((decide ((r10.1.length : Int) = 0)))) rfl rfl rfl rfl ?_; exact ⟨rfl, e11⟩
      replace H := (if_neg (of_decide_eq_false hb14)).symm.trans H; refine wlk rfl rfl ?_; refine wlk rfl rfl ?_; refine wlk rfl rfl ?_; refine wla rfl rfl (q_pick_f (v := (.bool false)) rfl rfl rfl) ?_; refine wla rfl rfl (q_assign (v := (.bool false)) rfl rfl) ?_; refine wl_nil ?_; refine W_th ?_; refine W_ret ?_; refine th_r ?_; obtain rfl := osi H; refine rt1 (.bool false) rfl rfl rfl rfl ?_; exact ⟨rfl, e11⟩
    replace H := (if_neg (of_decide_eq_false hb13)).symm.trans H; refine wlk rfl rfl ?_; refine wlk rfl rfl ?_; refine wla rfl rfl (q_pick_f (v := (.bool false)) rfl rfl rfl) ?_; refine wla rfl rfl (q_move (v := (.bool false)) rfl rfl) ?_; refine wlk rfl rfl ?_; refine wlk rfl rfl ?_; refine wlk rfl rfl ?_; refine wla rfl rfl (q_pick_f (v := (.bool false)) rfl rfl rfl) ?_; refine wla rfl rfl (q_assign (v := (.bool false)) rfl rfl) ?_; refine wl_nil ?_; refine W_th ?_; refine W_ret ?_; refine th_r ?_; obtain rfl := osi H; refine rt1 (.bool false) rfl rfl rfl rfl ?_; exact ⟨rfl, e11⟩
  replace H := (if_pos (ndec_f hb12)).symm.trans H; refine wla rfl rfl (q_move (v := p3) rfl rfl) ?_; refine wla rfl rfl (q_len rfl T22.sl rfl (hp3.lift (Lift.ext e11 _))) ?_; refine wla rfl rfl (q_move (v := (i64 ((wI (1 + (wI ((((UInt64.ofInt a0n) % (4 : UInt64))).toNat : Int))))))) rfl rfl) ?_; refine wla rfl rfl (q_neI rfl rfl rfl) ?_; refine wla rfl rfl (q_pick_f (v := (.bool ((!decide ((a3v.length : Int) = (wI (1 + (wI ((((UInt64.ofInt a0n) % (4 : UInt64))).toNat : Int))))))))) rfl rfl rfl) ?_; refine wl_nil ?_; refine W_th ?_; refine W_cond _ rfl rfl (fun hb15 => ?_) (fun hb15 => ?_)
  · replace H := (if_neg (ndec_t hb15)).symm.trans H; refine W_seq ?_; refine W_reg (by kernel_rfl) ?_; refine wla rfl rfl (q_move (v := (i64 r8.2)) rfl rfl) ?_; refine wla rfl rfl (q_eqI rfl rfl rfl) ?_; refine wlb rfl rfl (q_move (v := (.bool ((decide (r8.2 = 0))))) rfl rfl) (fun hb16 => ?_) (fun hb16 => ?_)
    · replace H := (if_pos (of_decide_eq_true hb16)).symm.trans H; refine wla rfl rfl (q_move (v := (i64 r10.2)) rfl rfl) ?_; refine wla rfl rfl (q_eqI rfl rfl rfl) ?_; refine wla rfl rfl (q_pick_t (v := (.bool ((decide (r10.2 = 1))))) rfl rfl rfl) ?_; refine wlb rfl rfl (q_move (v := (.bool ((decide (r10.2 = 1))))) rfl rfl) (fun hb17 => ?_) (fun hb17 => ?_)
      · replace H := (if_pos (of_decide_eq_true hb17)).symm.trans H; refine wla rfl rfl (q_move (v := v10_0) rfl rfl) ?_; refine wla rfl rfl (q_len rfl T22.sl rfl i10_0) ?_; refine wla rfl rfl (q_eqI rfl rfl rfl) ?_; refine wla rfl rfl (q_pick_t (v := (.bool ((decide ((r10.1.length : Int) = 0))))) rfl rfl rfl) ?_; refine wla rfl rfl (q_assign (v := (.bool ((decide ((r10.1.length : Int) = 0))))) rfl rfl) ?_; refine wl_nil ?_; refine W_th ?_; refine W_ret ?_; refine th_r ?_; obtain rfl := osi H; refine rt1 (.bool ((decide ((r10.1.length : Int) = 0)))) rfl rfl rfl rfl ?_; exact ⟨rfl, e11⟩
      replace H := (if_neg (of_decide_eq_false hb17)).symm.trans H; refine wlk rfl rfl ?_; refine wlk rfl rfl ?_; refine wlk rfl rfl ?_; refine wla rfl rfl (q_pick_f (v := (.bool false)) rfl rfl rfl) ?_; refine wla rfl rfl (q_assign (v := (.bool false)) rfl rfl) ?_; refine wl_nil ?_; refine W_th ?_; refine W_ret ?_; refine th_r ?_; obtain rfl := osi H; refine rt1 (.bool false) rfl rfl rfl rfl ?_; exact ⟨rfl, e11⟩
    replace H := (if_neg (of_decide_eq_false hb16)).symm.trans H; refine wlk rfl rfl ?_; refine wlk rfl rfl ?_; refine wla rfl rfl (q_pick_f (v := (.bool false)) rfl rfl rfl) ?_; refine wla rfl rfl (q_move (v := (.bool false)) rfl rfl) ?_; refine wlk rfl rfl ?_; refine wlk rfl rfl ?_; refine wlk rfl rfl ?_; refine wla rfl rfl (q_pick_f (v := (.bool false)) rfl rfl rfl) ?_; refine wla rfl rfl (q_assign (v := (.bool false)) rfl rfl) ?_; refine wl_nil ?_; refine W_th ?_; refine W_ret ?_; refine th_r ?_; obtain rfl := osi H; refine rt1 (.bool false) rfl rfl rfl rfl ?_; exact ⟨rfl, e11⟩
  replace H := (if_pos (ndec_f hb15)).symm.trans H; refine W_skip ?_; refine W_th ?_; refine W_seq ?_; refine W_reg (by kernel_rfl) ?_; refine wla rfl rfl (q_assign (v := (.slice none 0 0)) rfl rfl) ?_; refine wl_nil ?_; refine W_th ?_; refine W_seq ?_; refine W_seq ?_; refine W_reg (by kernel_rfl) ?_; refine wla rfl rfl (q_move (v := v6) rfl rfl) ?_; refine wla rfl rfl (q_len rfl T27.sl rfl i6_0) ?_; refine wla rfl rfl (q_move (v := (i64 0)) rfl rfl) ?_; refine wl_nil ?_; refine W_th ?_; obtain ⟨x18, G18, H⟩ := bsi H; refine W_mid (fun f w => ∃ v15_72 : Value, f 1 = (i64 ((wI (1 + (wI ((((UInt64.ofInt a1columns) % (4 : UInt64))).toNat : Int)))))) ∧ f 3 = p3 ∧ f 10 = v6 ∧ f 13 = v10_0 ∧ f 14 = (i64 r10.2) ∧ f 15 = v15_72 ∧ f 135 = undef ∧ Ext w0 w ∧ OwK By w [v15_72] 22 v15_72 x18 ∧ Nw w0 v15_72 ∧ Rw w [v15_72] v6 r6 ∧ By w [v15_72] v10_0 r10.1) ?_ ?_
  · refine W_block ?_; refine W_loop (fun s18 f w => ∃ v15_46 : Value, f 1 = (i64 ((wI (1 + (wI ((((UInt64.ofInt a1columns) % (4 : UInt64))).toNat : Int)))))) ∧ f 3 = p3 ∧ f 10 = v6 ∧ f 13 = v10_0 ∧ f 14 = (i64 r10.2) ∧ f 15 = v15_46 ∧ f 69 = v6 ∧ f 70 = (i64 ((r6.length : Int))) ∧ f 71 = (i64 s18.2) ∧ f 135 = undef ∧ Ext w0 w ∧ OwK By w [v15_46] 22 v15_46 s18.1 ∧ Nw w0 v15_46 ∧ Rw w [v15_46] v6 r6 ∧ By w [v15_46] v10_0 r10.1) G18 ?_ ?_
    · exact ⟨(.slice none 0 0), rfl, rfl, rfl, rfl, rfl, rfl, rfl, rfl, rfl, rfl, e11, (OwK.nil _ _ _ _), (Nw.nil _), (i6_0.lift (Lift.sub (fun _ h => ⟨nh_nil, trivial⟩))), (i10_0.lift (Lift.sub (fun _ h => ⟨nh_nil, trivial⟩)))⟩
    rintro s18 _ _ w19 ⟨v15_19, s1_19, s3_19, s10_19, s13_19, s14_19, s15_19, s69_19, s70_19, s71_19, s135_19, hE19, o0_19, n0_19, i0_19, i1_19⟩ H18 hr18; refine W_seq ?_; refine W_reg (by kernel_rfl) ?_; refine wla rfl rfl (q_ltI rfl s71_19 s70_19) ?_; refine wl_nil ?_; refine W_th ?_; refine W_seq ?_; refine W_cond _ rfl rfl (fun hb20 => ?_) (fun hb20 => ?_)
    · replace H18 := (if_pos (of_decide_eq_true hb20)).symm.trans H18; refine W_skip ?_; refine W_th ?_; refine W_seq ?_; refine W_block ?_; refine W_seq ?_; refine W_reg (by kernel_rfl) ?_; refine wla rfl rfl (q_move (v := (i64 s18.2)) rfl s71_19) ?_; obtain ⟨c21, hc21, H18⟩ := bsi H18; refine wla rfl rfl (q_adr rfl T27 s69_19 s71_19 i0_19 hc21) ?_; refine wlq_load rfl rfl rfl T27 rfl i0_19 hc21 (Ext.refl _) (fun v22 i22 => ?_); refine wla rfl rfl (q_assign (v := (i64 s18.2)) rfl rfl) ?_; refine wla rfl rfl (q_assign (v := v22) rfl rfl) ?_; refine wl_nil ?_; refine W_th ?_; refine W_drawT [] [(0, 0), (2, 0), (4, 0), (5, 0), (6, 0)] (.br 1 [] (.br 3 [(7, 2), (8, 2), (9, 2), (10, 2), (11, 2), (12, 0)] .fin (.br 7 [] (.br 3 [(8, 2), (9, 2), (10, 2), (11, 2), (12, 0)] .fin (.br 8 [(3, 2), (9, 2), (10, 2), (11, 2), (12, 0)] .fin .fin)) .fin)) (.br 7 [] (.br 1 [] (.br 3 [(8, 2), (9, 2), (10, 2), (11, 2), (12, 0)] .fin (.br 8 [(3, 2), (9, 2), (10, 2), (11, 2), (12, 0)] .fin .fin)) (.br 8 [(1, 2), (3, 2), (9, 2), (10, 2), (11, 2), (12, 0)] .fin .fin)) .fin)) mixed (by kernel_rfl) (by kernel_rfl) (by kernel_rfl) (by kernel_rfl) ?_; have x23 := Ext.drew w19; replace i0_19 := i0_19.lift (Lift.ext x23 _); replace i1_19 := i1_19.lift (Lift.ext x23 _); replace i22 := i22.lift (Lift.ext x23 _); replace o0_19 := o0_19.extL (SlK.stab (Sc.stab _)) x23 (Lift.ext x23 _); have e24 := hE19.trans x23; refine wsa rfl rfl rfl (q_move (v := v15_19) rfl s15_19) ?_; refine wsa rfl rfl rfl (q_move (v := v22) rfl rfl) ?_; refine wsa rfl rfl rfl (q_move (v := p3) rfl s3_19) ?_; refine wsa rfl rfl rfl (q_move (v := (i64 s18.2)) rfl rfl) ?_; obtain ⟨c25, hc25, H18⟩ := bsi H18; refine wsa rfl rfl rfl (q_adr rfl T22 rfl rfl (hp3.lift (Lift.ext e24 _)) hc25) ?_; refine ws_nil ?_; refine wr_br ?_ ?_
      · refine wsc rfl (by kernel_rfl) rfl rfl (stp_lit (L := [v15_19]) (R := (Sc u8)) [] ([] : List UInt8) rfl T22 rfl (by exact trivial) rfl (litC u8 (oneC_u8) (us := []) (l := ([] : List UInt8)) rfl) rfl (litS u8 (us := []) (l := ([] : List UInt8)) rfl) ?_); intro v26 w26 o26 n26 g26 l26; have x26 := grown_ext g26; have q27 : Nq v15_19 v26 := o0_19.nq n26; replace i0_19 := i0_19.lift (Lift.call _ x26 n26); replace i1_19 := i1_19.lift (Lift.call _ x26 n26); replace i22 := i22.lift (Lift.call _ x26 n26); replace o0_19 := o0_19.extL (SlK.stab (Sc.stab _)) x26 (Lift.call _ x26 n26); have n29 := Nw.ext e24 n26; have e28 := e24.trans x26; refine ws_nil ?_; refine wt_br ?_; refine wr_br ?_ ?_
        · obtain ⟨c30, hc30, H18⟩ := bsi H18; refine wsc rfl (by kernel_rfl) rfl rfl (stp_append (R := (Sc u8)) (v := v26) (u := v22) (Sc.stab _) [] [v15_19] rfl T22 rfl rfl o26 i22 (fun _ _ h => h) hc30 oc_u8 ?_); intro v30 w30 o30 g30 nx30 l30; replace i0_19 := i0_19.lift l30; replace i1_19 := i1_19.lift l30; replace i22 := i22.lift l30; have q31 : Nq v15_19 v30 := o0_19.nxt q27 nx30; replace o0_19 := o0_19.other (SlK.stab (Sc.stab _)) g30 q27 l30; have e32 := e28.grown g30 n29; have n33 := Nw.nxt e28 n29 nx30; refine wss rfl rfl rfl (Qt.stp (q_loadS rfl T22 rfl (hp3.lift (Lift.ext e32 _)) hc25) ⟨Ext.refl _, ?_⟩); refine wsc rfl (by kernel_rfl) rfl rfl (stp_lit (L := [v30, v15_19]) (R := (Sc u8)) [(u8 c25)] ([c25] : List UInt8) rfl T22 rfl (by exact ⟨rfl, rfl, trivial⟩) rfl (litC u8 (oneC_u8) (us := [(u8 c25)]) (l := ([c25] : List UInt8)) rfl) rfl (litS u8 (us := [(u8 c25)]) (l := ([c25] : List UInt8)) rfl) ?_); intro v34 w34 o34 n34 g34 l34; have x34 := grown_ext g34; have i34 : By w34 [v30, v15_19] v34 (([c25] : List UInt8)) := OwK.slk (Sc.stab _) _ o34 (fun k hk => (Old.cons (Old.cons (Old.nil _) o0_19.lt) o30.lt) k (n34 k hk)) (fun _ h => h.2); replace i0_19 := i0_19.lift (Lift.ext x34 _); replace i1_19 := i1_19.lift (Lift.ext x34 _); replace i22 := i22.lift (Lift.ext x34 _); replace o30 := o30.extL (Sc.stab _) x34 (Lift.ext x34 _); replace o0_19 := o0_19.extL (SlK.stab (Sc.stab _)) x34 (Lift.ext x34 _); have e35 := e32.trans x34; obtain ⟨c36, hc36, H18⟩ := bsi H18; refine wsc rfl (by kernel_rfl) rfl rfl (stp_append (R := (Sc u8)) (v := v30) (u := v34) (Sc.stab _) [] [v15_19] rfl T22 rfl rfl o30 i34 (fun _ _ h => h) hc36 oc_u8 ?_); intro v36 w36 o36 g36 nx36 l36; replace i0_19 := i0_19.lift l36; replace i1_19 := i1_19.lift l36; replace i22 := i22.lift l36; replace i34 := i34.lift l36; have q37 : Nq v15_19 v36 := o0_19.nxt q31 nx36; replace o0_19 := o0_19.other (SlK.stab (Sc.stab _)) g36 q31 l36; have e38 := e35.grown g36 n33; have n39 := Nw.nxt e35 n33 nx36; have i41 : By w36 [v15_19] v36 c36 := OwK.slk (Sc.stab _) [v15_19] o36 (fun k hk => ⟨(q37.symm) k hk, trivial⟩) (show ∀ k, Av [v36, v15_19] k → Av [v15_19] k from fun _ h => ⟨h.2.1, trivial⟩); replace i0_19 := i0_19.lift (Lift.sub (show ∀ k, Av [v36, v15_19] k → Av [v15_19] k from fun _ h => ⟨h.2.1, trivial⟩)); replace i1_19 := i1_19.lift (Lift.sub (show ∀ k, Av [v36, v15_19] k → Av [v15_19] k from fun _ h => ⟨h.2.1, trivial⟩)); replace i22 := i22.lift (Lift.sub (show ∀ k, Av [v36, v15_19] k → Av [v15_19] k from fun _ h => ⟨h.2.1, trivial⟩)); replace i34 := i34.lift (Lift.sub (show ∀ k, Av [v36, v15_19] k → Av [v15_19] k from fun _ h => ⟨h.2.1, trivial⟩)); replace o0_19 := o0_19.weak (SlK.stab (Sc.stab _)) (show ∀ k, Av [v36, v15_19] k → Av [v15_19] k from fun _ h => ⟨h.2.1, trivial⟩); refine wsc rfl (by kernel_rfl) rfl rfl (stp_lit (L := [v15_19]) (R := By) [v36] ([c36] : List (List UInt8)) rfl T27 rfl (by exact ⟨rfl, rfl, trivial⟩) rfl (LitR.cells (R := By) (w := w36) (L := [v15_19]) (l := ([c36] : List (List UInt8))) (LitR.cons i41 LitR.nil) (fun u x h => cells_sl u x h)) rfl (LitR.all (R := By) (w := w36) (L := [v15_19]) (l := ([c36] : List (List UInt8))) (SlK.stab (Sc.stab _)) (LitR.cons i41 LitR.nil)) ?_)
          intro v40 w40 o40 n40 g40 l40; have x40 := grown_ext g40; have i40 : Rw w40 [v15_19] v40 (([c36] : List (List UInt8))) := OwK.slk (SlK.stab (Sc.stab _)) _ o40 (fun k hk => (Old.cons (Old.nil _) o0_19.lt) k (n40 k hk)) (fun _ h => h.2); replace i0_19 := i0_19.lift (Lift.ext x40 _); replace i1_19 := i1_19.lift (Lift.ext x40 _); replace i22 := i22.lift (Lift.ext x40 _); replace i34 := i34.lift (Lift.ext x40 _); replace i41 := i41.lift (Lift.ext x40 _); replace o0_19 := o0_19.extL (SlK.stab (Sc.stab _)) x40 (Lift.ext x40 _); have e42 := e38.trans x40; obtain ⟨c43, hc43, H18⟩ := bsi H18; refine wsc rfl (by kernel_rfl) rfl rfl (stp_append (R := By) (v := v15_19) (u := v40) (SlK.stab (Sc.stab _)) [] [] rfl T27 rfl rfl o0_19 i40 (fun _ _ h => h) hc43 oc_sl ?_); intro v43 w43 o43 g43 nx43 l43; replace i0_19 := i0_19.lift l43; replace i1_19 := i1_19.lift l43; replace i22 := i22.lift l43; replace i34 := i34.lift l43; replace i41 := i41.lift l43; replace i40 := i40.lift l43; have e44 := e42.grown g43 n0_19; have n45 := Nw.nxt e42 n0_19 nx43; refine wsa rfl rfl rfl (q_assign (v := v43) rfl rfl) ?_; refine ws_nil ?_; refine wt_fin ?_; refine bk_n ?_; refine W_th ?_; refine W_reg (by kernel_rfl) ?_; refine wla rfl rfl (q_addI rfl s71_19 rfl) ?_; refine wla rfl rfl (q_move (v := (i64 ((wI (s18.2 + 1))))) rfl rfl) ?_; refine wl_nil ?_; obtain rfl := osi H18; exact ⟨_, rfl, v43, s1_19, s3_19, s10_19, s13_19, s14_19, rfl, s69_19, s70_19, rfl, s135_19, e44, o43, n45, i0_19, i1_19⟩
        refine wr_br ?_ ?_
        · refine wss rfl rfl rfl (Qt.stp (q_loadS rfl T22 rfl (hp3.lift (Lift.ext e28 _)) hc25) ⟨Ext.refl _, ?_⟩); refine ws_nil ?_; refine wt_br ?_; refine wr_br ?_ ?_
          · obtain ⟨c30, hc30, H18⟩ := bsi H18; refine wsc rfl (by kernel_rfl) rfl rfl (stp_append (R := (Sc u8)) (v := v26) (u := v22) (Sc.stab _) [] [v15_19] rfl T22 rfl rfl o26 i22 (fun _ _ h => h) hc30 oc_u8 ?_); intro v30 w30 o30 g30 nx30 l30; replace i0_19 := i0_19.lift l30; replace i1_19 := i1_19.lift l30; replace i22 := i22.lift l30; have q31 : Nq v15_19 v30 := o0_19.nxt q27 nx30; replace o0_19 := o0_19.other (SlK.stab (Sc.stab _)) g30 q27 l30; have e32 := e28.grown g30 n29; have n33 := Nw.nxt e28 n29 nx30; refine wsc rfl (by kernel_rfl) rfl rfl (stp_lit (L := [v30, v15_19]) (R := (Sc u8)) [(u8 c25)] ([c25] : List UInt8) rfl T22 rfl (by exact ⟨rfl, rfl, trivial⟩) rfl (litC u8 (oneC_u8) (us := [(u8 c25)]) (l := ([c25] : List UInt8)) rfl) rfl (litS u8 (us := [(u8 c25)]) (l := ([c25] : List UInt8)) rfl) ?_); intro v34 w34 o34 n34 g34 l34; have x34 := grown_ext g34; have i34 : By w34 [v30, v15_19] v34 (([c25] : List UInt8)) := OwK.slk (Sc.stab _) _ o34 (fun k hk => (Old.cons (Old.cons (Old.nil _) o0_19.lt) o30.lt) k (n34 k hk)) (fun _ h => h.2); replace i0_19 := i0_19.lift (Lift.ext x34 _); replace i1_19 := i1_19.lift (Lift.ext x34 _); replace i22 := i22.lift (Lift.ext x34 _); replace o30 := o30.extL (Sc.stab _) x34 (Lift.ext x34 _); replace o0_19 := o0_19.extL (SlK.stab (Sc.stab _)) x34 (Lift.ext x34 _); have e35 := e32.trans x34; obtain ⟨c36, hc36, H18⟩ := bsi H18; refine wsc rfl (by kernel_rfl) rfl rfl (stp_append (R := (Sc u8)) (v := v30) (u := v34) (Sc.stab _) [] [v15_19] rfl T22 rfl rfl o30 i34 (fun _ _ h => h) hc36 oc_u8 ?_); intro v36 w36 o36 g36 nx36 l36; replace i0_19 := i0_19.lift l36; replace i1_19 := i1_19.lift l36; replace i22 := i22.lift l36; replace i34 := i34.lift l36; have q37 : Nq v15_19 v36 := o0_19.nxt q31 nx36; replace o0_19 := o0_19.other (SlK.stab (Sc.stab _)) g36 q31 l36; have e38 := e35.grown g36 n33; have n39 := Nw.nxt e35 n33 nx36; have i41 : By w36 [v15_19] v36 c36 := OwK.slk (Sc.stab _) [v15_19] o36 (fun k hk => ⟨(q37.symm) k hk, trivial⟩) (show ∀ k, Av [v36, v15_19] k → Av [v15_19] k from fun _ h => ⟨h.2.1, trivial⟩); replace i0_19 := i0_19.lift (Lift.sub (show ∀ k, Av [v36, v15_19] k → Av [v15_19] k from fun _ h => ⟨h.2.1, trivial⟩)); replace i1_19 := i1_19.lift (Lift.sub (show ∀ k, Av [v36, v15_19] k → Av [v15_19] k from fun _ h => ⟨h.2.1, trivial⟩)); replace i22 := i22.lift (Lift.sub (show ∀ k, Av [v36, v15_19] k → Av [v15_19] k from fun _ h => ⟨h.2.1, trivial⟩)); replace i34 := i34.lift (Lift.sub (show ∀ k, Av [v36, v15_19] k → Av [v15_19] k from fun _ h => ⟨h.2.1, trivial⟩)); replace o0_19 := o0_19.weak (SlK.stab (Sc.stab _)) (show ∀ k, Av [v36, v15_19] k → Av [v15_19] k from fun _ h => ⟨h.2.1, trivial⟩); refine wsc rfl (by kernel_rfl) rfl rfl (stp_lit (L := [v15_19]) (R := By) [v36] ([c36] : List (List UInt8)) rfl T27 rfl (by exact ⟨rfl, rfl, trivial⟩) rfl (LitR.cells (R := By) (w := w36) (L := [v15_19]) (l := ([c36] : List (List UInt8))) (LitR.cons i41 LitR.nil) (fun u x h => cells_sl u x h)) rfl (LitR.all (R := By) (w := w36) (L := [v15_19]) (l := ([c36] : List (List UInt8))) (SlK.stab (Sc.stab _)) (LitR.cons i41 LitR.nil)) ?_)
            intro v40 w40 o40 n40 g40 l40; have x40 := grown_ext g40; have i40 : Rw w40 [v15_19] v40 (([c36] : List (List UInt8))) := OwK.slk (SlK.stab (Sc.stab _)) _ o40 (fun k hk => (Old.cons (Old.nil _) o0_19.lt) k (n40 k hk)) (fun _ h => h.2); replace i0_19 := i0_19.lift (Lift.ext x40 _); replace i1_19 := i1_19.lift (Lift.ext x40 _); replace i22 := i22.lift (Lift.ext x40 _); replace i34 := i34.lift (Lift.ext x40 _); replace i41 := i41.lift (Lift.ext x40 _); replace o0_19 := o0_19.extL (SlK.stab (Sc.stab _)) x40 (Lift.ext x40 _); have e42 := e38.trans x40; obtain ⟨c43, hc43, H18⟩ := bsi H18; refine wsc rfl (by kernel_rfl) rfl rfl (stp_append (R := By) (v := v15_19) (u := v40) (SlK.stab (Sc.stab _)) [] [] rfl T27 rfl rfl o0_19 i40 (fun _ _ h => h) hc43 oc_sl ?_); intro v43 w43 o43 g43 nx43 l43; replace i0_19 := i0_19.lift l43; replace i1_19 := i1_19.lift l43; replace i22 := i22.lift l43; replace i34 := i34.lift l43; replace i41 := i41.lift l43; replace i40 := i40.lift l43; have e44 := e42.grown g43 n0_19; have n45 := Nw.nxt e42 n0_19 nx43; refine wsa rfl rfl rfl (q_assign (v := v43) rfl rfl) ?_; refine ws_nil ?_; refine wt_fin ?_; refine bk_n ?_; refine W_th ?_; refine W_reg (by kernel_rfl) ?_; refine wla rfl rfl (q_addI rfl s71_19 rfl) ?_; refine wla rfl rfl (q_move (v := (i64 ((wI (s18.2 + 1))))) rfl rfl) ?_; refine wl_nil ?_; obtain rfl := osi H18; exact ⟨_, rfl, v43, s1_19, s3_19, s10_19, s13_19, s14_19, rfl, s69_19, s70_19, rfl, s135_19, e44, o43, n45, i0_19, i1_19⟩
          refine wr_br ?_ ?_
          · refine wsc rfl (by kernel_rfl) rfl rfl (stp_lit (L := [v26, v15_19]) (R := (Sc u8)) [(u8 c25)] ([c25] : List UInt8) rfl T22 rfl (by exact ⟨rfl, rfl, trivial⟩) rfl (litC u8 (oneC_u8) (us := [(u8 c25)]) (l := ([c25] : List UInt8)) rfl) rfl (litS u8 (us := [(u8 c25)]) (l := ([c25] : List UInt8)) rfl) ?_); intro v30 w30 o30 n30 g30 l30; have x30 := grown_ext g30; have i30 : By w30 [v26, v15_19] v30 (([c25] : List UInt8)) := OwK.slk (Sc.stab _) _ o30 (fun k hk => (Old.cons (Old.cons (Old.nil _) o0_19.lt) o26.lt) k (n30 k hk)) (fun _ h => h.2); replace i0_19 := i0_19.lift (Lift.ext x30 _); replace i1_19 := i1_19.lift (Lift.ext x30 _); replace i22 := i22.lift (Lift.ext x30 _); replace o26 := o26.extL (Sc.stab _) x30 (Lift.ext x30 _); replace o0_19 := o0_19.extL (SlK.stab (Sc.stab _)) x30 (Lift.ext x30 _); have e31 := e28.trans x30; obtain ⟨c32, hc32, H18⟩ := bsi H18; refine wsc rfl (by kernel_rfl) rfl rfl (stp_append (R := (Sc u8)) (v := v26) (u := v22) (Sc.stab _) [] [v15_19] rfl T22 rfl rfl o26 i22 (fun _ _ h => h) hc32 oc_u8 ?_); intro v32 w32 o32 g32 nx32 l32; replace i0_19 := i0_19.lift l32; replace i1_19 := i1_19.lift l32; replace i22 := i22.lift l32; replace i30 := i30.lift l32; have q33 : Nq v15_19 v32 := o0_19.nxt q27 nx32; replace o0_19 := o0_19.other (SlK.stab (Sc.stab _)) g32 q27 l32; have e34 := e31.grown g32 n29; have n35 := Nw.nxt e31 n29 nx32; obtain ⟨c36, hc36, H18⟩ := bsi H18; refine wsc rfl (by kernel_rfl) rfl rfl (stp_append (R := (Sc u8)) (v := v32) (u := v30) (Sc.stab _) [] [v15_19] rfl T22 rfl rfl o32 i30 (fun _ _ h => h) hc36 oc_u8 ?_); intro v36 w36 o36 g36 nx36 l36; replace i0_19 := i0_19.lift l36; replace i1_19 := i1_19.lift l36; replace i22 := i22.lift l36; replace i30 := i30.lift l36; have q37 : Nq v15_19 v36 := o0_19.nxt q33 nx36; replace o0_19 := o0_19.other (SlK.stab (Sc.stab _)) g36 q33 l36; have e38 := e34.grown g36 n35; have n39 := Nw.nxt e34 n35 nx36; have i41 : By w36 [v15_19] v36 c36 := OwK.slk (Sc.stab _) [v15_19] o36 (fun k hk => ⟨(q37.symm) k hk, trivial⟩) (show ∀ k, Av [v36, v15_19] k → Av [v15_19] k from fun _ h => ⟨h.2.1, trivial⟩); replace i0_19 := i0_19.lift (Lift.sub (show ∀ k, Av [v36, v15_19] k → Av [v15_19] k from fun _ h => ⟨h.2.1, trivial⟩)); replace i1_19 := i1_19.lift (Lift.sub (show ∀ k, Av [v36, v15_19] k → Av [v15_19] k from fun _ h => ⟨h.2.1, trivial⟩)); replace i22 := i22.lift (Lift.sub (show ∀ k, Av [v36, v15_19] k → Av [v15_19] k from fun _ h => ⟨h.2.1, trivial⟩)); replace i30 := i30.lift (Lift.sub (show ∀ k, Av [v36, v15_19] k → Av [v15_19] k from fun _ h => ⟨h.2.1, trivial⟩)); replace o0_19 := o0_19.weak (SlK.stab (Sc.stab _)) (show ∀ k, Av [v36, v15_19] k → Av [v15_19] k from fun _ h => ⟨h.2.1, trivial⟩); refine wsc rfl (by kernel_rfl) rfl rfl (stp_lit (L := [v15_19]) (R := By) [v36] ([c36] : List (List UInt8)) rfl T27 rfl (by exact ⟨rfl, rfl, trivial⟩) rfl (LitR.cells (R := By) (w := w36) (L := [v15_19]) (l := ([c36] : List (List UInt8))) (LitR.cons i41 LitR.nil) (fun u x h => cells_sl u x h)) rfl (LitR.all (R := By) (w := w36) (L := [v15_19]) (l := ([c36] : List (List UInt8))) (SlK.stab (Sc.stab _)) (LitR.cons i41 LitR.nil)) ?_)
            intro v40 w40 o40 n40 g40 l40; have x40 := grown_ext g40; have i40 : Rw w40 [v15_19] v40 (([c36] : List (List UInt8))) := OwK.slk (SlK.stab (Sc.stab _)) _ o40 (fun k hk => (Old.cons (Old.nil _) o0_19.lt) k (n40 k hk)) (fun _ h => h.2); replace i0_19 := i0_19.lift (Lift.ext x40 _); replace i1_19 := i1_19.lift (Lift.ext x40 _); replace i22 := i22.lift (Lift.ext x40 _); replace i30 := i30.lift (Lift.ext x40 _); replace i41 := i41.lift (Lift.ext x40 _); replace o0_19 := o0_19.extL (SlK.stab (Sc.stab _)) x40 (Lift.ext x40 _); have e42 := e38.trans x40; obtain ⟨c43, hc43, H18⟩ := bsi H18; refine wsc rfl (by kernel_rfl) rfl rfl (stp_append (R := By) (v := v15_19) (u := v40) (SlK.stab (Sc.stab _)) [] [] rfl T27 rfl rfl o0_19 i40 (fun _ _ h => h) hc43 oc_sl ?_); intro v43 w43 o43 g43 nx43 l43; replace i0_19 := i0_19.lift l43; replace i1_19 := i1_19.lift l43; replace i22 := i22.lift l43; replace i30 := i30.lift l43; replace i41 := i41.lift l43; replace i40 := i40.lift l43; have e44 := e42.grown g43 n0_19; have n45 := Nw.nxt e42 n0_19 nx43; refine wsa rfl rfl rfl (q_assign (v := v43) rfl rfl) ?_; refine ws_nil ?_; refine wt_fin ?_; refine bk_n ?_; refine W_th ?_; refine W_reg (by kernel_rfl) ?_; refine wla rfl rfl (q_addI rfl s71_19 rfl) ?_; refine wla rfl rfl (q_move (v := (i64 ((wI (s18.2 + 1))))) rfl rfl) ?_; refine wl_nil ?_; obtain rfl := osi H18; exact ⟨_, rfl, v43, s1_19, s3_19, s10_19, s13_19, s14_19, rfl, s69_19, s70_19, rfl, s135_19, e44, o43, n45, i0_19, i1_19⟩
          trivial
        trivial
      refine wr_br ?_ ?_
      · refine wss rfl rfl rfl (Qt.stp (q_loadS rfl T22 rfl (hp3.lift (Lift.ext e24 _)) hc25) ⟨Ext.refl _, ?_⟩); refine ws_nil ?_; refine wt_br ?_; refine wr_br ?_ ?_
        · refine wsc rfl (by kernel_rfl) rfl rfl (stp_lit (L := [v15_19]) (R := (Sc u8)) [] ([] : List UInt8) rfl T22 rfl (by exact trivial) rfl (litC u8 (oneC_u8) (us := []) (l := ([] : List UInt8)) rfl) rfl (litS u8 (us := []) (l := ([] : List UInt8)) rfl) ?_); intro v26 w26 o26 n26 g26 l26; have x26 := grown_ext g26; have q27 : Nq v15_19 v26 := o0_19.nq n26; replace i0_19 := i0_19.lift (Lift.call _ x26 n26); replace i1_19 := i1_19.lift (Lift.call _ x26 n26); replace i22 := i22.lift (Lift.call _ x26 n26); replace o0_19 := o0_19.extL (SlK.stab (Sc.stab _)) x26 (Lift.call _ x26 n26); have n29 := Nw.ext e24 n26; have e28 := e24.trans x26; refine ws_nil ?_; refine wt_br ?_; refine wr_br ?_ ?_
          · obtain ⟨c30, hc30, H18⟩ := bsi H18; refine wsc rfl (by kernel_rfl) rfl rfl (stp_append (R := (Sc u8)) (v := v26) (u := v22) (Sc.stab _) [] [v15_19] rfl T22 rfl rfl o26 i22 (fun _ _ h => h) hc30 oc_u8 ?_); intro v30 w30 o30 g30 nx30 l30; replace i0_19 := i0_19.lift l30; replace i1_19 := i1_19.lift l30; replace i22 := i22.lift l30; have q31 : Nq v15_19 v30 := o0_19.nxt q27 nx30; replace o0_19 := o0_19.other (SlK.stab (Sc.stab _)) g30 q27 l30; have e32 := e28.grown g30 n29; have n33 := Nw.nxt e28 n29 nx30; refine wsc rfl (by kernel_rfl) rfl rfl (stp_lit (L := [v30, v15_19]) (R := (Sc u8)) [(u8 c25)] ([c25] : List UInt8) rfl T22 rfl (by exact ⟨rfl, rfl, trivial⟩) rfl (litC u8 (oneC_u8) (us := [(u8 c25)]) (l := ([c25] : List UInt8)) rfl) rfl (litS u8 (us := [(u8 c25)]) (l := ([c25] : List UInt8)) rfl) ?_); intro v34 w34 o34 n34 g34 l34; have x34 := grown_ext g34; have i34 : By w34 [v30, v15_19] v34 (([c25] : List UInt8)) := OwK.slk (Sc.stab _) _ o34 (fun k hk => (Old.cons (Old.cons (Old.nil _) o0_19.lt) o30.lt) k (n34 k hk)) (fun _ h => h.2); replace i0_19 := i0_19.lift (Lift.ext x34 _); replace i1_19 := i1_19.lift (Lift.ext x34 _); replace i22 := i22.lift (Lift.ext x34 _); replace o30 := o30.extL (Sc.stab _) x34 (Lift.ext x34 _); replace o0_19 := o0_19.extL (SlK.stab (Sc.stab _)) x34 (Lift.ext x34 _); have e35 := e32.trans x34; obtain ⟨c36, hc36, H18⟩ := bsi H18; refine wsc rfl (by kernel_rfl) rfl rfl (stp_append (R := (Sc u8)) (v := v30) (u := v34) (Sc.stab _) [] [v15_19] rfl T22 rfl rfl o30 i34 (fun _ _ h => h) hc36 oc_u8 ?_); intro v36 w36 o36 g36 nx36 l36; replace i0_19 := i0_19.lift l36; replace i1_19 := i1_19.lift l36; replace i22 := i22.lift l36; replace i34 := i34.lift l36; have q37 : Nq v15_19 v36 := o0_19.nxt q31 nx36; replace o0_19 := o0_19.other (SlK.stab (Sc.stab _)) g36 q31 l36; have e38 := e35.grown g36 n33; have n39 := Nw.nxt e35 n33 nx36; have i41 : By w36 [v15_19] v36 c36 := OwK.slk (Sc.stab _) [v15_19] o36 (fun k hk => ⟨(q37.symm) k hk, trivial⟩) (show ∀ k, Av [v36, v15_19] k → Av [v15_19] k from fun _ h => ⟨h.2.1, trivial⟩); replace i0_19 := i0_19.lift (Lift.sub (show ∀ k, Av [v36, v15_19] k → Av [v15_19] k from fun _ h => ⟨h.2.1, trivial⟩)); replace i1_19 := i1_19.lift (Lift.sub (show ∀ k, Av [v36, v15_19] k → Av [v15_19] k from fun _ h => ⟨h.2.1, trivial⟩)); replace i22 := i22.lift (Lift.sub (show ∀ k, Av [v36, v15_19] k → Av [v15_19] k from fun _ h => ⟨h.2.1, trivial⟩)); replace i34 := i34.lift (Lift.sub (show ∀ k, Av [v36, v15_19] k → Av [v15_19] k from fun _ h => ⟨h.2.1, trivial⟩)); replace o0_19 := o0_19.weak (SlK.stab (Sc.stab _)) (show ∀ k, Av [v36, v15_19] k → Av [v15_19] k from fun _ h => ⟨h.2.1, trivial⟩); refine wsc rfl (by kernel_rfl) rfl rfl (stp_lit (L := [v15_19]) (R := By) [v36] ([c36] : List (List UInt8)) rfl T27 rfl (by exact ⟨rfl, rfl, trivial⟩) rfl (LitR.cells (R := By) (w := w36) (L := [v15_19]) (l := ([c36] : List (List UInt8))) (LitR.cons i41 LitR.nil) (fun u x h => cells_sl u x h)) rfl (LitR.all (R := By) (w := w36) (L := [v15_19]) (l := ([c36] : List (List UInt8))) (SlK.stab (Sc.stab _)) (LitR.cons i41 LitR.nil)) ?_)
            intro v40 w40 o40 n40 g40 l40; have x40 := grown_ext g40; have i40 : Rw w40 [v15_19] v40 (([c36] : List (List UInt8))) := OwK.slk (SlK.stab (Sc.stab _)) _ o40 (fun k hk => (Old.cons (Old.nil _) o0_19.lt) k (n40 k hk)) (fun _ h => h.2); replace i0_19 := i0_19.lift (Lift.ext x40 _); replace i1_19 := i1_19.lift (Lift.ext x40 _); replace i22 := i22.lift (Lift.ext x40 _); replace i34 := i34.lift (Lift.ext x40 _); replace i41 := i41.lift (Lift.ext x40 _); replace o0_19 := o0_19.extL (SlK.stab (Sc.stab _)) x40 (Lift.ext x40 _); have e42 := e38.trans x40; obtain ⟨c43, hc43, H18⟩ := bsi H18; refine wsc rfl (by kernel_rfl) rfl rfl (stp_append (R := By) (v := v15_19) (u := v40) (SlK.stab (Sc.stab _)) [] [] rfl T27 rfl rfl o0_19 i40 (fun _ _ h => h) hc43 oc_sl ?_); intro v43 w43 o43 g43 nx43 l43; replace i0_19 := i0_19.lift l43; replace i1_19 := i1_19.lift l43; replace i22 := i22.lift l43; replace i34 := i34.lift l43; replace i41 := i41.lift l43; replace i40 := i40.lift l43; have e44 := e42.grown g43 n0_19; have n45 := Nw.nxt e42 n0_19 nx43; refine wsa rfl rfl rfl (q_assign (v := v43) rfl rfl) ?_; refine ws_nil ?_; refine wt_fin ?_; refine bk_n ?_; refine W_th ?_; refine W_reg (by kernel_rfl) ?_; refine wla rfl rfl (q_addI rfl s71_19 rfl) ?_; refine wla rfl rfl (q_move (v := (i64 ((wI (s18.2 + 1))))) rfl rfl) ?_; refine wl_nil ?_; obtain rfl := osi H18; exact ⟨_, rfl, v43, s1_19, s3_19, s10_19, s13_19, s14_19, rfl, s69_19, s70_19, rfl, s135_19, e44, o43, n45, i0_19, i1_19⟩
          refine wr_br ?_ ?_
          · refine wsc rfl (by kernel_rfl) rfl rfl (stp_lit (L := [v26, v15_19]) (R := (Sc u8)) [(u8 c25)] ([c25] : List UInt8) rfl T22 rfl (by exact ⟨rfl, rfl, trivial⟩) rfl (litC u8 (oneC_u8) (us := [(u8 c25)]) (l := ([c25] : List UInt8)) rfl) rfl (litS u8 (us := [(u8 c25)]) (l := ([c25] : List UInt8)) rfl) ?_); intro v30 w30 o30 n30 g30 l30; have x30 := grown_ext g30; have i30 : By w30 [v26, v15_19] v30 (([c25] : List UInt8)) := OwK.slk (Sc.stab _) _ o30 (fun k hk => (Old.cons (Old.cons (Old.nil _) o0_19.lt) o26.lt) k (n30 k hk)) (fun _ h => h.2); replace i0_19 := i0_19.lift (Lift.ext x30 _); replace i1_19 := i1_19.lift (Lift.ext x30 _); replace i22 := i22.lift (Lift.ext x30 _); replace o26 := o26.extL (Sc.stab _) x30 (Lift.ext x30 _); replace o0_19 := o0_19.extL (SlK.stab (Sc.stab _)) x30 (Lift.ext x30 _); have e31 := e28.trans x30; obtain ⟨c32, hc32, H18⟩ := bsi H18; refine wsc rfl (by kernel_rfl) rfl rfl (stp_append (R := (Sc u8)) (v := v26) (u := v22) (Sc.stab _) [] [v15_19] rfl T22 rfl rfl o26 i22 (fun _ _ h => h) hc32 oc_u8 ?_); intro v32 w32 o32 g32 nx32 l32; replace i0_19 := i0_19.lift l32; replace i1_19 := i1_19.lift l32; replace i22 := i22.lift l32; replace i30 := i30.lift l32; have q33 : Nq v15_19 v32 := o0_19.nxt q27 nx32; replace o0_19 := o0_19.other (SlK.stab (Sc.stab _)) g32 q27 l32; have e34 := e31.grown g32 n29; have n35 := Nw.nxt e31 n29 nx32; obtain ⟨c36, hc36, H18⟩ := bsi H18; refine wsc rfl (by kernel_rfl) rfl rfl (stp_append (R := (Sc u8)) (v := v32) (u := v30) (Sc.stab _) [] [v15_19] rfl T22 rfl rfl o32 i30 (fun _ _ h => h) hc36 oc_u8 ?_); intro v36 w36 o36 g36 nx36 l36; replace i0_19 := i0_19.lift l36; replace i1_19 := i1_19.lift l36; replace i22 := i22.lift l36; replace i30 := i30.lift l36; have q37 : Nq v15_19 v36 := o0_19.nxt q33 nx36; replace o0_19 := o0_19.other (SlK.stab (Sc.stab _)) g36 q33 l36; have e38 := e34.grown g36 n35; have n39 := Nw.nxt e34 n35 nx36; have i41 : By w36 [v15_19] v36 c36 := OwK.slk (Sc.stab _) [v15_19] o36 (fun k hk => ⟨(q37.symm) k hk, trivial⟩) (show ∀ k, Av [v36, v15_19] k → Av [v15_19] k from fun _ h => ⟨h.2.1, trivial⟩); replace i0_19 := i0_19.lift (Lift.sub (show ∀ k, Av [v36, v15_19] k → Av [v15_19] k from fun _ h => ⟨h.2.1, trivial⟩)); replace i1_19 := i1_19.lift (Lift.sub (show ∀ k, Av [v36, v15_19] k → Av [v15_19] k from fun _ h => ⟨h.2.1, trivial⟩)); replace i22 := i22.lift (Lift.sub (show ∀ k, Av [v36, v15_19] k → Av [v15_19] k from fun _ h => ⟨h.2.1, trivial⟩)); replace i30 := i30.lift (Lift.sub (show ∀ k, Av [v36, v15_19] k → Av [v15_19] k from fun _ h => ⟨h.2.1, trivial⟩)); replace o0_19 := o0_19.weak (SlK.stab (Sc.stab _)) (show ∀ k, Av [v36, v15_19] k → Av [v15_19] k from fun _ h => ⟨h.2.1, trivial⟩); refine wsc rfl (by kernel_rfl) rfl rfl (stp_lit (L := [v15_19]) (R := By) [v36] ([c36] : List (List UInt8)) rfl T27 rfl (by exact ⟨rfl, rfl, trivial⟩) rfl (LitR.cells (R := By) (w := w36) (L := [v15_19]) (l := ([c36] : List (List UInt8))) (LitR.cons i41 LitR.nil) (fun u x h => cells_sl u x h)) rfl (LitR.all (R := By) (w := w36) (L := [v15_19]) (l := ([c36] : List (List UInt8))) (SlK.stab (Sc.stab _)) (LitR.cons i41 LitR.nil)) ?_)
            intro v40 w40 o40 n40 g40 l40; have x40 := grown_ext g40; have i40 : Rw w40 [v15_19] v40 (([c36] : List (List UInt8))) := OwK.slk (SlK.stab (Sc.stab _)) _ o40 (fun k hk => (Old.cons (Old.nil _) o0_19.lt) k (n40 k hk)) (fun _ h => h.2); replace i0_19 := i0_19.lift (Lift.ext x40 _); replace i1_19 := i1_19.lift (Lift.ext x40 _); replace i22 := i22.lift (Lift.ext x40 _); replace i30 := i30.lift (Lift.ext x40 _); replace i41 := i41.lift (Lift.ext x40 _); replace o0_19 := o0_19.extL (SlK.stab (Sc.stab _)) x40 (Lift.ext x40 _); have e42 := e38.trans x40; obtain ⟨c43, hc43, H18⟩ := bsi H18; refine wsc rfl (by kernel_rfl) rfl rfl (stp_append (R := By) (v := v15_19) (u := v40) (SlK.stab (Sc.stab _)) [] [] rfl T27 rfl rfl o0_19 i40 (fun _ _ h => h) hc43 oc_sl ?_); intro v43 w43 o43 g43 nx43 l43; replace i0_19 := i0_19.lift l43; replace i1_19 := i1_19.lift l43; replace i22 := i22.lift l43; replace i30 := i30.lift l43; replace i41 := i41.lift l43; replace i40 := i40.lift l43; have e44 := e42.grown g43 n0_19; have n45 := Nw.nxt e42 n0_19 nx43; refine wsa rfl rfl rfl (q_assign (v := v43) rfl rfl) ?_; refine ws_nil ?_; refine wt_fin ?_; refine bk_n ?_; refine W_th ?_; refine W_reg (by kernel_rfl) ?_; refine wla rfl rfl (q_addI rfl s71_19 rfl) ?_; refine wla rfl rfl (q_move (v := (i64 ((wI (s18.2 + 1))))) rfl rfl) ?_; refine wl_nil ?_; obtain rfl := osi H18; exact ⟨_, rfl, v43, s1_19, s3_19, s10_19, s13_19, s14_19, rfl, s69_19, s70_19, rfl, s135_19, e44, o43, n45, i0_19, i1_19⟩
          trivial
        refine wr_br ?_ ?_
        · refine wsc rfl (by kernel_rfl) rfl rfl (stp_lit (L := [v15_19]) (R := (Sc u8)) [(u8 c25)] ([c25] : List UInt8) rfl T22 rfl (by exact ⟨rfl, rfl, trivial⟩) rfl (litC u8 (oneC_u8) (us := [(u8 c25)]) (l := ([c25] : List UInt8)) rfl) rfl (litS u8 (us := [(u8 c25)]) (l := ([c25] : List UInt8)) rfl) ?_); intro v26 w26 o26 n26 g26 l26; have x26 := grown_ext g26; have i26 : By w26 [v15_19] v26 (([c25] : List UInt8)) := OwK.slk (Sc.stab _) _ o26 (fun k hk => (Old.cons (Old.nil _) o0_19.lt) k (n26 k hk)) (fun _ h => h.2); replace i0_19 := i0_19.lift (Lift.ext x26 _); replace i1_19 := i1_19.lift (Lift.ext x26 _); replace i22 := i22.lift (Lift.ext x26 _); replace o0_19 := o0_19.extL (SlK.stab (Sc.stab _)) x26 (Lift.ext x26 _); have e27 := e24.trans x26; refine wsc rfl (by kernel_rfl) rfl rfl (stp_lit (L := [v15_19]) (R := (Sc u8)) [] ([] : List UInt8) rfl T22 rfl (by exact trivial) rfl (litC u8 (oneC_u8) (us := []) (l := ([] : List UInt8)) rfl) rfl (litS u8 (us := []) (l := ([] : List UInt8)) rfl) ?_); intro v28 w28 o28 n28 g28 l28; have x28 := grown_ext g28; have q29 : Nq v15_19 v28 := o0_19.nq n28; replace i0_19 := i0_19.lift (Lift.call _ x28 n28); replace i1_19 := i1_19.lift (Lift.call _ x28 n28); replace i22 := i22.lift (Lift.call _ x28 n28); replace i26 := i26.lift (Lift.call _ x28 n28); replace o0_19 := o0_19.extL (SlK.stab (Sc.stab _)) x28 (Lift.call _ x28 n28); have n31 := Nw.ext e27 n28; have e30 := e27.trans x28; obtain ⟨c32, hc32, H18⟩ := bsi H18; refine wsc rfl (by kernel_rfl) rfl rfl (stp_append (R := (Sc u8)) (v := v28) (u := v22) (Sc.stab _) [] [v15_19] rfl T22 rfl rfl o28 i22 (fun _ _ h => h) hc32 oc_u8 ?_); intro v32 w32 o32 g32 nx32 l32; replace i0_19 := i0_19.lift l32; replace i1_19 := i1_19.lift l32; replace i22 := i22.lift l32; replace i26 := i26.lift l32; have q33 : Nq v15_19 v32 := o0_19.nxt q29 nx32; replace o0_19 := o0_19.other (SlK.stab (Sc.stab _)) g32 q29 l32; have e34 := e30.grown g32 n31; have n35 := Nw.nxt e30 n31 nx32; obtain ⟨c36, hc36, H18⟩ := bsi H18; refine wsc rfl (by kernel_rfl) rfl rfl (stp_append (R := (Sc u8)) (v := v32) (u := v26) (Sc.stab _) [] [v15_19] rfl T22 rfl rfl o32 i26 (fun _ _ h => h) hc36 oc_u8 ?_); intro v36 w36 o36 g36 nx36 l36; replace i0_19 := i0_19.lift l36; replace i1_19 := i1_19.lift l36; replace i22 := i22.lift l36; replace i26 := i26.lift l36; have q37 : Nq v15_19 v36 := o0_19.nxt q33 nx36; replace o0_19 := o0_19.other (SlK.stab (Sc.stab _)) g36 q33 l36; have e38 := e34.grown g36 n35; have n39 := Nw.nxt e34 n35 nx36; have i41 : By w36 [v15_19] v36 c36 := OwK.slk (Sc.stab _) [v15_19] o36 (fun k hk => ⟨(q37.symm) k hk, trivial⟩) (show ∀ k, Av [v36, v15_19] k → Av [v15_19] k from fun _ h => ⟨h.2.1, trivial⟩); replace i0_19 := i0_19.lift (Lift.sub (show ∀ k, Av [v36, v15_19] k → Av [v15_19] k from fun _ h => ⟨h.2.1, trivial⟩)); replace i1_19 := i1_19.lift (Lift.sub (show ∀ k, Av [v36, v15_19] k → Av [v15_19] k from fun _ h => ⟨h.2.1, trivial⟩)); replace i22 := i22.lift (Lift.sub (show ∀ k, Av [v36, v15_19] k → Av [v15_19] k from fun _ h => ⟨h.2.1, trivial⟩))
          replace i26 := i26.lift (Lift.sub (show ∀ k, Av [v36, v15_19] k → Av [v15_19] k from fun _ h => ⟨h.2.1, trivial⟩)); replace o0_19 := o0_19.weak (SlK.stab (Sc.stab _)) (show ∀ k, Av [v36, v15_19] k → Av [v15_19] k from fun _ h => ⟨h.2.1, trivial⟩); refine wsc rfl (by kernel_rfl) rfl rfl (stp_lit (L := [v15_19]) (R := By) [v36] ([c36] : List (List UInt8)) rfl T27 rfl (by exact ⟨rfl, rfl, trivial⟩) rfl (LitR.cells (R := By) (w := w36) (L := [v15_19]) (l := ([c36] : List (List UInt8))) (LitR.cons i41 LitR.nil) (fun u x h => cells_sl u x h)) rfl (LitR.all (R := By) (w := w36) (L := [v15_19]) (l := ([c36] : List (List UInt8))) (SlK.stab (Sc.stab _)) (LitR.cons i41 LitR.nil)) ?_); intro v40 w40 o40 n40 g40 l40; have x40 := grown_ext g40; have i40 : Rw w40 [v15_19] v40 (([c36] : List (List UInt8))) := OwK.slk (SlK.stab (Sc.stab _)) _ o40 (fun k hk => (Old.cons (Old.nil _) o0_19.lt) k (n40 k hk)) (fun _ h => h.2); replace i0_19 := i0_19.lift (Lift.ext x40 _); replace i1_19 := i1_19.lift (Lift.ext x40 _); replace i22 := i22.lift (Lift.ext x40 _); replace i26 := i26.lift (Lift.ext x40 _); replace i41 := i41.lift (Lift.ext x40 _); replace o0_19 := o0_19.extL (SlK.stab (Sc.stab _)) x40 (Lift.ext x40 _); have e42 := e38.trans x40; obtain ⟨c43, hc43, H18⟩ := bsi H18; refine wsc rfl (by kernel_rfl) rfl rfl (stp_append (R := By) (v := v15_19) (u := v40) (SlK.stab (Sc.stab _)) [] [] rfl T27 rfl rfl o0_19 i40 (fun _ _ h => h) hc43 oc_sl ?_); intro v43 w43 o43 g43 nx43 l43; replace i0_19 := i0_19.lift l43; replace i1_19 := i1_19.lift l43; replace i22 := i22.lift l43; replace i26 := i26.lift l43; replace i41 := i41.lift l43; replace i40 := i40.lift l43; have e44 := e42.grown g43 n0_19; have n45 := Nw.nxt e42 n0_19 nx43; refine wsa rfl rfl rfl (q_assign (v := v43) rfl rfl) ?_; refine ws_nil ?_; refine wt_fin ?_; refine bk_n ?_; refine W_th ?_; refine W_reg (by kernel_rfl) ?_; refine wla rfl rfl (q_addI rfl s71_19 rfl) ?_; refine wla rfl rfl (q_move (v := (i64 ((wI (s18.2 + 1))))) rfl rfl) ?_; refine wl_nil ?_; obtain rfl := osi H18; exact ⟨_, rfl, v43, s1_19, s3_19, s10_19, s13_19, s14_19, rfl, s69_19, s70_19, rfl, s135_19, e44, o43, n45, i0_19, i1_19⟩
        trivial
      trivial
    replace H18 := (if_neg (of_decide_eq_false hb20)).symm.trans H18; refine W_exit ?_; refine th_x ?_; obtain rfl := osi H18; obtain rfl := hr18 _ rfl; refine th_x ?_; refine bk_x ?_; exact ⟨v15_19, s1_19, s3_19, s10_19, s13_19, s14_19, s15_19, s135_19, hE19, o0_19, n0_19, i0_19, i1_19⟩
  rintro _ w47 ⟨v15_47, s1_47, s3_47, s10_47, s13_47, s14_47, s15_47, s135_47, hE47, o0_47, n0_47, i0_47, i1_47⟩; refine W_th ?_; refine W_seq ?_; refine W_seq ?_; refine W_reg (by kernel_rfl) ?_; refine wla rfl rfl (q_move (v := v15_47) rfl s15_47) ?_; obtain ⟨r48, hr48, H⟩ := bsi H; refine wls rfl rfl (stp_call (vs := [v15_47]) Try.func10 rfl rfl rfl (ar1 rfl) (ref04_Rank_calls x18 v15_47 r48 _ (o0_47.rd (SlK.stab (Sc.stab _))) hr48) ?_); rintro _ w48 ⟨rfl, x48⟩; refine ⟨_, rfl, ?_⟩; replace i0_47 := i0_47.lift (Lift.ext x48 _); replace i1_47 := i1_47.lift (Lift.ext x48 _); replace o0_47 := o0_47.extL (SlK.stab (Sc.stab _)) x48 (Lift.ext x48 _); have e49 := hE47.trans x48; refine wla rfl rfl (q_move (v := v6) rfl s10_47) ?_; obtain ⟨r50, hr50, H⟩ := bsi H; refine wls rfl rfl (stp_call (vs := [v6]) Try.func10 rfl rfl rfl (ar1 rfl) (ref04_Rank_calls r6 v6 r50 _ (i0_47.lift (Lift.sub (L' := []) (fun _ _ => trivial))) hr50) ?_); rintro _ w50 ⟨rfl, x50⟩; refine ⟨_, rfl, ?_⟩; replace i0_47 := i0_47.lift (Lift.ext x50 _); replace i1_47 := i1_47.lift (Lift.ext x50 _); replace o0_47 := o0_47.extL (SlK.stab (Sc.stab _)) x50 (Lift.ext x50 _); have e51 := e49.trans x50; refine wla rfl rfl (q_neI rfl rfl rfl) ?_; refine wl_nil ?_; refine W_th ?_; refine W_cond _ rfl rfl (fun hb52 => ?_) (fun hb52 => ?_)
  · replace H := (if_neg (ndec_t hb52)).symm.trans H; refine W_seq ?_; refine W_reg (by kernel_rfl) ?_; refine wla rfl rfl (q_move (v := (i64 r10.2)) rfl s14_47) ?_; refine wla rfl rfl (q_eqI rfl rfl rfl) ?_; refine wlb rfl rfl (q_move (v := (.bool ((decide (r10.2 = 7))))) rfl rfl) (fun hb53 => ?_) (fun hb53 => ?_)
    · replace H := (if_pos (of_decide_eq_true hb53)).symm.trans H; refine wla rfl rfl (q_move (v := v10_0) rfl s13_47) ?_; refine wla rfl rfl (q_len rfl T22.sl rfl i1_47) ?_; refine wla rfl rfl (q_eqI rfl rfl rfl) ?_; refine wla rfl rfl (q_pick_t (v := (.bool ((decide ((r10.1.length : Int) = 0))))) rfl rfl rfl) ?_; refine wla rfl rfl (q_assign (v := (.bool ((decide ((r10.1.length : Int) = 0))))) rfl rfl) ?_; refine wl_nil ?_; refine W_th ?_; refine W_ret ?_; refine th_r ?_; obtain rfl := osi H; refine rt1 (.bool ((decide ((r10.1.length : Int) = 0)))) rfl rfl rfl s135_47 ?_; exact ⟨rfl, e51⟩
    replace H := (if_neg (of_decide_eq_false hb53)).symm.trans H; refine wlk rfl rfl ?_; refine wlk rfl rfl ?_; refine wlk rfl rfl ?_; refine wla rfl rfl (q_pick_f (v := (.bool false)) rfl rfl rfl) ?_; refine wla rfl rfl (q_assign (v := (.bool false)) rfl rfl) ?_; refine wl_nil ?_; refine W_th ?_; refine W_ret ?_; refine th_r ?_; obtain rfl := osi H; refine rt1 (.bool false) rfl rfl rfl s135_47 ?_; exact ⟨rfl, e51⟩
  replace H := (if_pos (ndec_f hb52)).symm.trans H; refine W_skip ?_; refine W_th ?_; refine W_seq ?_; refine W_reg (by kernel_rfl) ?_; refine wla rfl rfl (q_assign (v := (i64 0)) rfl rfl) ?_; refine wl_nil ?_; refine W_th ?_; refine W_seq ?_; refine W_seq ?_; refine W_reg (by kernel_rfl) ?_; refine wla rfl rfl (q_move (v := v10_0) rfl s13_47) ?_; refine wla rfl rfl (q_len rfl T22.sl rfl i1_47) ?_; refine wla rfl rfl (q_move (v := (i64 0)) rfl rfl) ?_; refine wl_nil ?_; refine W_th ?_; obtain ⟨x54, G54, H⟩ := bsi H; refine W_mid (fun f w => f 1 = (i64 ((wI (1 + (wI ((((UInt64.ofInt a1columns) % (4 : UInt64))).toNat : Int)))))) ∧ f 3 = p3 ∧ f 10 = v6 ∧ f 13 = v10_0 ∧ f 14 = (i64 r10.2) ∧ f 18 = (i64 x54) ∧ f 135 = undef ∧ Ext w0 w ∧ Rw w [] v6 r6 ∧ By w [] v10_0 r10.1) ?_ ?_
  · refine W_block ?_; refine W_loop (fun s54 f w => f 1 = (i64 ((wI (1 + (wI ((((UInt64.ofInt a1columns) % (4 : UInt64))).toNat : Int)))))) ∧ f 3 = p3 ∧ f 10 = v6 ∧ f 13 = v10_0 ∧ f 14 = (i64 r10.2) ∧ f 18 = (i64 s54.1) ∧ f 101 = v10_0 ∧ f 102 = (i64 ((r10.1.length : Int))) ∧ f 103 = (i64 s54.2) ∧ f 135 = undef ∧ Ext w0 w ∧ Rw w [] v6 r6 ∧ By w [] v10_0 r10.1) G54 ?_ ?_
    · exact ⟨s1_47, s3_47, s10_47, s13_47, s14_47, rfl, rfl, rfl, rfl, s135_47, e51, (i0_47.lift (Lift.sub (fun _ h => trivial))), (i1_47.lift (Lift.sub (fun _ h => trivial)))⟩
    rintro s54 _ _ w55 ⟨s1_55, s3_55, s10_55, s13_55, s14_55, s18_55, s101_55, s102_55, s103_55, s135_55, hE55, i0_55, i1_55⟩ H54 hr54; refine W_seq ?_; refine W_reg (by kernel_rfl) ?_; refine wla rfl rfl (q_ltI rfl s103_55 s102_55) ?_; refine wl_nil ?_; refine W_th ?_; refine W_seq ?_; refine W_cond _ rfl rfl (fun hb56 => ?_) (fun hb56 => ?_)
    · replace H54 := (if_pos (of_decide_eq_true hb56)).symm.trans H54; refine W_skip ?_; refine W_th ?_; refine W_seq ?_; refine W_block ?_; refine W_seq ?_; refine W_reg (by kernel_rfl) ?_; obtain ⟨c57, hc57, H54⟩ := bsi H54; refine wla rfl rfl (q_adr rfl T22 s101_55 s103_55 i1_55 hc57) ?_; refine wlq rfl rfl (q_loadS rfl T22 rfl i1_55 hc57) ?_; refine wla rfl rfl (q_assign (v := (u8 c57)) rfl rfl) ?_; refine wl_nil ?_; refine W_th ?_; refine W_seq ?_; refine W_reg (by kernel_rfl) ?_; refine wla rfl rfl (q_move (v := (u8 c57)) rfl rfl) ?_; refine wla rfl rfl (q_ne8 rfl rfl (cst8 (0 : UInt8) rfl)) ?_; refine wl_nil ?_; refine W_th ?_; refine W_cond _ rfl rfl (fun hb58 => ?_) (fun hb58 => ?_)
      · replace H54 := (if_neg (ndec_t hb58)).symm.trans H54; refine W_reg (by kernel_rfl) ?_; refine wla rfl rfl (q_move (v := (i64 s54.1)) rfl s18_55) ?_; refine wla rfl rfl (q_addI rfl rfl rfl) ?_; refine wla rfl rfl (q_assign (v := (i64 ((wI (s54.1 + 1))))) rfl rfl) ?_; refine wl_nil ?_; refine bk_n ?_; refine W_th ?_; refine W_reg (by kernel_rfl) ?_; refine wla rfl rfl (q_addI rfl s103_55 rfl) ?_; refine wla rfl rfl (q_move (v := (i64 ((wI (s54.2 + 1))))) rfl rfl) ?_; refine wl_nil ?_; obtain rfl := osi H54; exact ⟨_, rfl, s1_55, s3_55, s10_55, s13_55, s14_55, rfl, s101_55, s102_55, rfl, s135_55, hE55, i0_55, i1_55⟩
      replace H54 := (if_pos (ndec_f hb58)).symm.trans H54; refine W_skip ?_; refine bk_n ?_; refine W_th ?_; refine W_reg (by kernel_rfl) ?_; refine wla rfl rfl (q_addI rfl s103_55 rfl) ?_; refine wla rfl rfl (q_move (v := (i64 ((wI (s54.2 + 1))))) rfl rfl) ?_; refine wl_nil ?_; obtain rfl := osi H54; exact ⟨_, rfl, s1_55, s3_55, s10_55, s13_55, s14_55, s18_55, s101_55, s102_55, rfl, s135_55, hE55, i0_55, i1_55⟩
    replace H54 := (if_neg (of_decide_eq_false hb56)).symm.trans H54; refine W_exit ?_; refine th_x ?_; obtain rfl := osi H54; obtain rfl := hr54 _ rfl; refine th_x ?_; refine bk_x ?_; exact ⟨s1_55, s3_55, s10_55, s13_55, s14_55, s18_55, s135_55, hE55, i0_55, i1_55⟩
  rintro _ w60 ⟨s1_60, s3_60, s10_60, s13_60, s14_60, s18_60, s135_60, hE60, i0_60, i1_60⟩; refine W_th ?_; refine W_seq ?_; refine W_draw [12, 14] [(0, 0), (1, 0), (2, 0), (3, 0), (4, 0), (5, 0), (6, 0), (7, 0), (8, 0), (9, 0), (10, 0), (13, 0), (14, 1), (11, 2), (12, 1), (15, 0), (16, 0), (17, 0), (18, 0), (19, 0), (20, 2), (21, 0), (22, 0), (23, 0)] mixed (by kernel_rfl) (by kernel_rfl) (by kernel_rfl) (by kernel_rfl) ?_; have x61 := Ext.drew w60; replace i0_60 := i0_60.lift (Lift.ext x61 _); replace i1_60 := i1_60.lift (Lift.ext x61 _); have e62 := hE60.trans x61; refine wsa rfl rfl rfl (q_move (v := (i64 r10.2)) rfl s14_60) ?_; refine wsa rfl rfl rfl (q_eqI rfl rfl rfl) ?_; refine wsb rfl rfl rfl (q_move (v := (.bool ((decide (r10.2 = 0))))) rfl rfl) (fun hb63 => ?_) (fun hb63 => ?_)
  · replace H := (if_pos (of_decide_eq_true hb63)).symm.trans H; refine wsa rfl rfl rfl (q_move (v := v10_0) rfl s13_60) ?_; refine wsa rfl rfl rfl (q_len rfl T22.sl rfl i1_60) ?_; refine wsa rfl rfl rfl (q_move (v := (i64 ((wI (1 + (wI ((((UInt64.ofInt a1columns) % (4 : UInt64))).toNat : Int))))))) rfl s1_60) ?_; refine wsa rfl rfl rfl (q_eqI rfl rfl rfl) ?_; refine wsa rfl rfl rfl (q_pick_t (v := (.bool ((decide ((r10.1.length : Int) = (wI (1 + (wI ((((UInt64.ofInt a1columns) % (4 : UInt64))).toNat : Int))))))))) rfl rfl rfl) ?_; refine wsb rfl rfl rfl (q_move (v := (.bool ((decide ((r10.1.length : Int) = (wI (1 + (wI ((((UInt64.ofInt a1columns) % (4 : UInt64))).toNat : Int))))))))) rfl rfl) (fun hb65 => ?_) (fun hb65 => ?_)
    · replace H := (if_pos (of_decide_eq_true hb65)).symm.trans H; refine wsa rfl rfl rfl (q_move (v := v6) rfl s10_60) ?_; refine wsa rfl rfl rfl (q_move (v := v10_0) rfl s13_60) ?_; refine wsa rfl rfl rfl (q_move (v := p3) rfl s3_60) ?_; refine wsq rfl rfl rfl (q_str rfl T22 rfl rfl rfl (hp3.lift (Lift.ext e62 _))) ?_; obtain ⟨r66, hr66, H⟩ := bsi H; refine wss rfl rfl rfl (stp_call (vs := [v6, v10_0]) Try.func11 rfl rfl rfl (ar2 rfl rfl) (ref04_Times_calls r6 r10.1 v6 v10_0 r66 _ (i0_60.lift (Lift.sub (L' := []) (fun _ _ => trivial))) (i1_60.lift (Lift.sub (L' := []) (fun _ _ => trivial))) hr66) ?_); rintro _ w66 ⟨v66, rfl, x66, n66_0, o66_0⟩; refine ⟨_, rfl, x66, ?_⟩; have i66_0 : By w66 [] v66 r66 := OwK.slk (Sc.stab _) _ (OwK.scal o66_0 (v66 :: [])) (fun k hk => (Old.nil _) k (n66_0 k hk)) (fun _ h => h.2); replace i0_60 := i0_60.lift (Lift.ext x66 _); replace i1_60 := i1_60.lift (Lift.ext x66 _); have e67 := e62.trans x66; refine wsq rfl rfl rfl (q_str rfl T22 rfl rfl rfl i66_0) ?_; refine wsa rfl rfl rfl (q_eqS rfl rfl rfl) ?_; refine wsa rfl rfl rfl (q_pick_t (v := (.bool ((decide (r66 = a3v))))) rfl rfl rfl) ?_; refine wsb rfl rfl rfl (q_move (v := (.bool ((decide (r66 = a3v))))) rfl rfl) (fun hb68 => ?_) (fun hb68 => ?_)
      · replace H := (if_pos (of_decide_eq_true hb68)).symm.trans H; refine wsa rfl rfl rfl (q_move (v := (i64 x54)) rfl s18_60) ?_; refine wsa rfl rfl rfl (q_move (v := v6) rfl s10_60) ?_; obtain ⟨r69, hr69, H⟩ := bsi H; refine wsc rfl (by kernel_rfl) rfl rfl (stp_call (vs := [v6]) Try.func10 rfl rfl rfl (ar1 rfl) (ref04_Rank_calls r6 v6 r69 _ (i0_60.lift (Lift.sub (L' := []) (fun _ _ => trivial))) hr69) ?_); rintro _ w69 ⟨rfl, x69⟩; refine ⟨_, rfl, ?_⟩; replace i0_60 := i0_60.lift (Lift.ext x69 _); replace i1_60 := i1_60.lift (Lift.ext x69 _); replace i66_0 := i66_0.lift (Lift.ext x69 _); have e70 := e67.trans x69; refine wsa rfl rfl rfl (q_leI rfl rfl rfl) ?_; refine wsa rfl rfl rfl (q_pick_t (v := (.bool ((decide (x54 ≤ r69))))) rfl rfl rfl) ?_; refine wsa rfl rfl rfl (q_assign (v := (.bool ((decide (x54 ≤ r69))))) rfl rfl) ?_; refine ws_nil ?_; refine W_th ?_; refine W_ret ?_; obtain rfl := osi H; refine rt1 (.bool ((decide (x54 ≤ r69)))) rfl rfl rfl s135_60 ?_; exact ⟨rfl, e70⟩
      replace H := (if_neg (of_decide_eq_false hb68)).symm.trans H; refine wsk rfl rfl rfl ?_; refine wsk rfl rfl rfl ?_; refine wsk rfl rfl rfl ?_; refine wsk rfl rfl rfl ?_; refine wsa rfl rfl rfl (q_pick_f (v := (.bool false)) rfl rfl rfl) ?_; refine wsa rfl rfl rfl (q_assign (v := (.bool false)) rfl rfl) ?_; refine ws_nil ?_; refine W_th ?_; refine W_ret ?_; obtain rfl := osi H; refine rt1 (.bool false) rfl rfl rfl s135_60 ?_; exact ⟨rfl, e67⟩
    replace H := (if_neg (of_decide_eq_false hb65)).symm.trans H; refine wsk rfl rfl rfl ?_; refine wsk rfl rfl rfl ?_; refine wsk rfl rfl rfl ?_; refine wsk rfl rfl rfl ?_; refine wsk rfl rfl rfl ?_; refine wsk rfl rfl rfl ?_; refine wsk rfl rfl rfl ?_; refine wsa rfl rfl rfl (q_pick_f (v := (.bool false)) rfl rfl rfl) ?_; refine wsa rfl rfl rfl (q_move (v := (.bool false)) rfl rfl) ?_; refine wsk rfl rfl rfl ?_; refine wsk rfl rfl rfl ?_; refine wsk rfl rfl rfl ?_; refine wsk rfl rfl rfl ?_; refine wsa rfl rfl rfl (q_pick_f (v := (.bool false)) rfl rfl rfl) ?_; refine wsa rfl rfl rfl (q_assign (v := (.bool false)) rfl rfl) ?_; refine ws_nil ?_; refine W_th ?_; refine W_ret ?_; obtain rfl := osi H; refine rt1 (.bool false) rfl rfl rfl s135_60 ?_; exact ⟨rfl, e62⟩
  replace H := (if_neg (of_decide_eq_false hb63)).symm.trans H; refine wsk rfl rfl rfl ?_; refine wsk rfl rfl rfl ?_; refine wsk rfl rfl rfl ?_; refine wsk rfl rfl rfl ?_; refine wsa rfl rfl rfl (q_pick_f (v := (.bool false)) rfl rfl rfl) ?_; refine wsa rfl rfl rfl (q_move (v := (.bool false)) rfl rfl) ?_; refine wsk rfl rfl rfl ?_; refine wsk rfl rfl rfl ?_; refine wsk rfl rfl rfl ?_; refine wsk rfl rfl rfl ?_; refine wsk rfl rfl rfl ?_; refine wsk rfl rfl rfl ?_; refine wsk rfl rfl rfl ?_; refine wsa rfl rfl rfl (q_pick_f (v := (.bool false)) rfl rfl rfl) ?_; refine wsa rfl rfl rfl (q_move (v := (.bool false)) rfl rfl) ?_; refine wsk rfl rfl rfl ?_; refine wsk rfl rfl rfl ?_; refine wsk rfl rfl rfl ?_; refine wsk rfl rfl rfl ?_; refine wsa rfl rfl rfl (q_pick_f (v := (.bool false)) rfl rfl rfl) ?_; refine wsa rfl rfl rfl (q_assign (v := (.bool false)) rfl rfl) ?_; refine ws_nil ?_; refine W_th ?_; refine W_ret ?_; obtain rfl := osi H; refine rt1 (.bool false) rfl rfl rfl s135_60 ?_; exact ⟨rfl, e62⟩
end Gk

/- Printed by gen.py: for each Go function a pure function, and that the Go code comes to it. No condition beside the equation that says what the pure function gives. -/
set_option linter.unusedVariables false
set_option linter.unusedSimpArgs false
namespace Gk
open Go Go.Proofs
end Gk

/- Printed by gen.py: for each Go function a pure function, and that the Go code comes to it. No condition beside the equation that says what the pure function gives. -/
set_option linter.unusedVariables false
set_option linter.unusedSimpArgs false
namespace Gk
open Go Go.Proofs
end Gk

/- What the field's functions come to, in plain Lean. No condition but lengths. -/
set_option linter.unusedSimpArgs false
namespace Gk
open Gf
theorem idx_nat {α : Type} (l : List α) (n : Nat) : idx l (n : Int) = l[n]? := by simp [idx]
theorem idx_lg (a : UInt8) : idx lgT (a.toNat : Int) = some (lg a : Int) := by rw [idx_nat, lgT_get]
theorem idx_pw (n : Nat) (h : n < 510) : idx pwT (n : Int) = some (pw n) := by rw [idx_nat, pwT_get n h]
theorem Mul_eq (a b : UInt8) : field_Mul true a b = some (mul a b) := by
  unfold field_Mul
  rw [if_neg (by simp)]
  by_cases ha : a = 0
  · rw [if_pos ha, ha, zero_mul]
  · by_cases hb : b = 0
    · rw [if_neg ha, if_pos hb, hb, mul_zero]
    · have h1 := lg_lt a
      have h2 := lg_lt b
      have e : wI ((lg a : Int) + (lg b : Int)) = ((lg a + lg b : Nat) : Int) := by rw [wI_of (by omega) (by omega)]; omega
      rw [if_neg ha, if_neg hb]
      simp only [grd, idx_lg, Option.bind_some, e, idx_pw _ (show lg a + lg b < 510 by omega), mul_pw ha hb, if_true]
theorem Inv_eq (a : UInt8) : field_Inv true a = some (if a = 0 then (0, 7) else (inv a, 0)) := by
  unfold field_Inv
  rw [if_neg (by simp)]
  by_cases ha : a = 0
  · rw [if_pos ha, if_pos ha]
  · have h1 := lg_lt a
    have e : wI (255 - (lg a : Int)) = ((255 - lg a : Nat) : Int) := by rw [wI_of (by omega) (by omega)]; omega
    rw [if_neg ha, if_neg ha]
    simp only [grd, idx_lg, Option.bind_some, e, idx_pw _ (show 255 - lg a < 510 by omega), if_true, inv, if_neg ha]
def powZ (a : UInt8) (n : Int) : UInt8 := if n = 0 then 1 else if a = 0 then 0 else pw (lg a * (n % 255).toNat)
theorem Pow_eq (a : UInt8) (n : Int) : field_Pow true a n = some (powZ a n) := by
  unfold field_Pow powZ
  by_cases hn : n = 0
  · simp [hn]
  · by_cases ha : a = 0
    · simp [hn, ha]
    · have h1 := lg_lt a
      have e1 : remI n 255 = some (n.tmod 255) := by simp [remI]
      have b1 : -255 < n.tmod 255 ∧ n.tmod 255 < 255 := ⟨by have := Int.lt_tmod_of_pos n (b := 255) (by decide); omega, Int.tmod_lt_of_pos n (by decide)⟩
      have e2 : wI (n.tmod 255 + 255) = n.tmod 255 + 255 := wI_of (by omega) (by omega)
      have e3 : (n.tmod 255 + 255).tmod 255 = ((n % 255).toNat : Int) := by
        rw [Int.tmod_eq_emod_of_nonneg (by omega)]
        have := Int.mul_tdiv_add_tmod n 255
        omega
      have e4 : remI (n.tmod 255 + 255) 255 = some ((n % 255).toNat : Int) := by simp [remI, e3]
      have hk : (n % 255).toNat < 255 := by omega
      generalize (n % 255).toNat = k at hk e4
      have hm : lg a * k < 65025 := Nat.mul_lt_mul'' h1 hk
      have e5 : wI ((lg a : Int) * (k : Int)) = ((lg a * k : Nat) : Int) := by rw [← Int.natCast_mul, wI_nat (by omega)]
      have e6 : remI ((lg a * k : Nat) : Int) 255 = some (((lg a * k) % 255 : Nat) : Int) := remI_nat _ 255 (by decide)
      rw [if_neg (by simp), if_neg hn, if_neg ha, if_neg hn, if_neg ha]
      simp only [e1, Option.bind_some, e2, e4, grd, if_true, idx_lg, e5, e6]
      rw [idx_pw _ (by omega)]
      simp [pw_mod]
end Gk

/- Rows of bytes, sums of rows, the document's inverses and powers, in plain Lean. No condition. -/
set_option linter.unusedSimpArgs false
set_option linter.unusedVariables false
namespace Gk
open Gf
theorem makeL_nat {α : Type} (n : Nat) (z : α) (h : n ≤ most) : makeL (n : Int) z = some (List.replicate n z) := by
  unfold makeL; rw [if_pos ⟨by omega, by omega⟩]; simp
theorem copyL_all {α : Type} (z : α) (a : List α) : copyL (List.replicate a.length z) 0 a = a := by
  unfold copyL; simp
def sumL (a : List UInt8) (c : UInt8) (b : List UInt8) : List UInt8 := a.mapIdx fun j x => x ^^^ mul c (b.getD j 0)
def sumTo (a : List UInt8) (c : UInt8) (b : List UInt8) (i : Nat) : List UInt8 := a.mapIdx fun j x => if j < i then x ^^^ mul c (b.getD j 0) else x
theorem sumL_len (a : List UInt8) (c : UInt8) (b : List UInt8) : (sumL a c b).length = a.length := by simp [sumL]
theorem sumTo_set (a : List UInt8) (c : UInt8) (b : List UInt8) (i : Nat) (x : UInt8) (h : a[i]? = some x) (y : UInt8) (hb : b[i]? = some y) : (sumTo a c b i).set i (x ^^^ mul c y) = sumTo a c b (i + 1) := by
  apply List.ext_getElem?
  intro j
  simp only [sumTo, List.getElem?_set, List.getElem?_mapIdx, List.length_mapIdx]
  have hi := (List.getElem?_eq_some_iff.1 h).1
  by_cases hj : i = j
  · subst hj
    simp [hi, List.getD, hb]
    rw [(List.getElem?_eq_some_iff.1 h).2]
  · rw [if_neg hj]
    have : j < i + 1 ↔ j < i := by omega
    simp [this]
theorem sumTo_get (a : List UInt8) (c : UInt8) (b : List UInt8) (i : Nat) (x : UInt8) (h : a[i]? = some x) : (sumTo a c b i)[i]? = some x := by
  simp [sumTo, List.getElem?_mapIdx, h]
theorem sumTo_end (a : List UInt8) (c : UInt8) (b : List UInt8) (i : Nat) (h : b.length ≤ i ∨ a.length ≤ i) : sumTo a c b i = sumL a c b := by
  apply List.ext_getElem?
  intro j
  simp only [sumTo, sumL, List.getElem?_mapIdx]
  by_cases hj : j < i
  · simp [hj]
  · rcases h with h | h
    · have : b.getD j 0 = 0 := by simp [List.getD, List.getElem?_eq_none (show b.length ≤ j by omega)]
      simp only [hj, this, mul_zero, xor_zero, if_false]
    · simp [List.getElem?_eq_none (show a.length ≤ j by omega)]
theorem minI (a b : Nat) : (if (b : Int) < (a : Int) then (b : Int) else (a : Int)) = ((min a b : Nat) : Int) := by split <;> omega
theorem wI_succ (i : Nat) (h : i < 9223372036854775807) : wI ((i : Int) + 1) = ((i + 1 : Nat) : Int) := by rw [wI_of (by omega) (by omega)]; omega
theorem most_lt : most < 9223372036854775807 := by decide
theorem Sum_eq (a : List UInt8) (c : UInt8) (b : List UInt8) (h : a.length ≤ most) : field_Sum true a c b = some (sumL a c b) := by
  unfold field_Sum
  rw [if_neg (by simp), makeL_nat _ _ h]
  simp only [Option.bind_some, minI, copyL_all]
  have hm := most_lt
  refine bind_of (x := sumL a c b) (iterC_count (fun i => (sumTo a c b i, (i : Int))) (min a.length b.length) (sumL a c b) ?_ ?_ ?_) rfl
  · refine Prod.ext ?_ rfl
    apply List.ext_getElem?
    intro j
    simp [sumTo, List.getElem?_mapIdx]
  · intro i hi
    have h1 : i < a.length := by omega
    have h2 : i < b.length := by omega
    have e1 : a[i]? = some a[i] := by simp [h1]
    have e2 : b[i]? = some b[i] := by simp [h2]
    rw [if_pos (by omega)]
    simp only [idx_nat, sumTo_get a c b i _ e1, e2, Option.bind_some, Mul_eq, wI_succ i (by omega), Int.toNat_natCast]
    rw [sumTo_set a c b i _ e1 _ e2]
  · rw [if_neg (by omega)]
    simp only [sumTo_end a c b _ (show b.length ≤ min a.length b.length ∨ a.length ≤ min a.length b.length by omega)]
theorem Scale_eq (c : UInt8) (b : List UInt8) (h : b.length ≤ most) : field_Scale true c b = some (b.map (mul c)) := by
  unfold field_Scale
  rw [if_neg (by simp), makeL_nat _ _ h]
  simp only [Option.bind_some]
  rw [Sum_eq _ _ _ (by simpa using h)]
  simp only [Option.bind_some, Option.some.injEq]
  apply List.ext_getElem?
  intro j
  simp only [sumL, List.getElem?_mapIdx, List.getElem?_map, List.getElem?_replicate]
  by_cases hj : j < b.length
  · simp [hj, zero_xor]
  · simp [hj, List.getElem?_eq_none (show b.length ≤ j by omega)]
theorem appL_nil {α : Type} (a : List α) (h : a.length ≤ most) : appL [] a = some a := by
  unfold appL; rw [if_pos (by simpa using h)]; simp
end Gk

/- Polynomials over GF(256), as lists of numbers, the lowest first. Plain. No condition. -/
set_option linter.unusedSimpArgs false
namespace Gf
def co (p : List UInt8) (i : Nat) : UInt8 := p.getD i 0
theorem co_ge {p : List UInt8} {i : Nat} (h : p.length ≤ i) : co p i = 0 := by simp [co, List.getD_eq_getElem?_getD, List.getElem?_eq_none h]
theorem co_lt {p : List UInt8} {i : Nat} (h : i < p.length) : co p i = p[i] := by simp [co, List.getD_eq_getElem?_getD, h]
theorem co_get {p : List UInt8} {i : Nat} (h : i < p.length) : p[i]? = some (co p i) := by rw [co_lt h]; simp [h]
theorem co_rep (n i : Nat) : co (List.replicate n 0) i = 0 := by
  simp only [co, List.getD_eq_getElem?_getD, List.getElem?_replicate]; split <;> rfl
theorem co_map (c : UInt8) (p : List UInt8) (i : Nat) : co (p.map (mul c)) i = mul c (co p i) := by
  simp only [co, List.getD_eq_getElem?_getD, List.getElem?_map]
  cases p[i]? <;> simp [mul_zero]
theorem co_set {p : List UInt8} {j : Nat} (h : j < p.length) (c : UInt8) (i : Nat) : co (p.set j c) i = if i = j then c else co p i := by
  simp only [co, List.getD_eq_getElem?_getD, List.getElem?_set]
  by_cases hij : j = i
  · subst hij; simp [h]
  · simp [hij, Ne.symm hij]
end Gf

/- Interpolation over GF(256): roots, Lagrange's and Newton's way. Plain. No condition. -/
set_option linter.unusedSimpArgs false
set_option linter.unusedVariables false
namespace Gf
def pe (xs : List UInt8) (i : Nat) (x : UInt8) : Nat → UInt8
  | 0 => 1
  | n + 1 => if n = i then pe xs i x n else mul (pe xs i x n) (x ^^^ co xs n)
def sm (f : Nat → UInt8) : Nat → UInt8
  | 0 => 0
  | n + 1 => sm f n ^^^ f n
theorem sm_one (f : Nat → UInt8) (j : Nat) : ∀ n, (∀ i, i < n → i ≠ j → f i = 0) → sm f n = if j < n then f j else 0
  | 0, _ => rfl
  | n + 1, h => by
    unfold sm
    rw [sm_one f j n (fun i hi => h i (by omega))]
    by_cases hj : j < n
    · rw [if_pos hj, if_pos (by omega), h n (by omega) (by omega), xor_zero]
    · rw [if_neg hj, zero_xor]
      by_cases hn : n = j
      · subst hn; rw [if_pos (by omega)]
      · rw [if_neg (by omega)]; exact h n (by omega) hn
theorem sm_congr {f g : Nat → UInt8} : ∀ n, (∀ i, i < n → f i = g i) → sm f n = sm g n
  | 0, _ => rfl
  | n + 1, h => by unfold sm; rw [sm_congr n (fun i hi => h i (by omega)), h n (by omega)]
end Gf

/- Small laws of lists, rows and numbers. No condition but lengths. -/
set_option linter.unusedSimpArgs false
set_option linter.unusedVariables false
namespace Gk
open Gf
theorem idx_co {p : List UInt8} {i : Nat} (h : i < p.length) : idx p (i : Int) = some (co p i) := by rw [idx_nat, co_get h]
theorem subL_nat {α : Type} (l : List α) (a b : Nat) (h1 : a ≤ b) (h2 : b ≤ l.length) : subL l (a : Int) (b : Int) = some ((l.take b).drop a) := by
  unfold subL; rw [if_pos ⟨by omega, by omega, by omega⟩]; simp
theorem wI_add (a b : Nat) (h : a + b < 9223372036854775808) : wI ((a : Int) + (b : Int)) = ((a + b : Nat) : Int) := by rw [wI_of (by omega) (by omega)]; omega
theorem h257 : (257 : Nat) ≤ most := by decide
theorem most_lt' : most < 9223372036854775000 := by decide
theorem eq_of_co {p q : List UInt8} (hl : p.length = q.length) (h : ∀ i, co p i = co q i) : p = q := by
  apply List.ext_getElem hl
  intro i h1 h2
  have := h i
  rwa [co_lt h1, co_lt h2] at this
theorem co_sumL (a : List UInt8) (c : UInt8) (b : List UInt8) (i : Nat) : co (sumL a c b) i = if i < a.length then co a i ^^^ mul c (co b i) else 0 := by
  simp only [co, sumL, List.getD_eq_getElem?_getD, List.getElem?_mapIdx]
  by_cases h : i < a.length
  · simp [h]
  · simp [h, List.getElem?_eq_none (show a.length ≤ i by omega)]
theorem co_take (p : List UInt8) (n i : Nat) : co (p.take n) i = if i < n then co p i else 0 := by
  simp only [co, List.getD_eq_getElem?_getD, List.getElem?_take]; split <;> simp
theorem co_drop (p : List UInt8) (n i : Nat) : co (p.drop n) i = co p (n + i) := by
  simp only [co, List.getD_eq_getElem?_getD, List.getElem?_drop]
theorem take_snoc {p : List UInt8} {i : Nat} (h : i < p.length) : p.take (i + 1) = p.take i ++ [co p i] := by
  rw [List.take_add_one, co_get h]; rfl
theorem co_tab (n : Nat) (f : Nat → UInt8) (i : Nat) : co ((List.range n).map f) i = if i < n then f i else 0 := by
  simp only [co, List.getD_eq_getElem?_getD, List.getElem?_map]
  by_cases h : i < n
  · simp [h]
  · rw [List.getElem?_eq_none (by simpa using h), if_neg h]; rfl
theorem anyO_all {α : Type} (t : α → Option Bool) (b : α → Bool) : ∀ l : List α, (∀ x ∈ l, t x = some (b x)) → anyO t l = some (l.any b)
  | [], _ => rfl
  | x :: l, h => by
    unfold anyO
    rw [h x (by simp), Option.bind_some, anyO_all t b l (fun y hy => h y (by simp [hy])), List.any_cons]
    cases b x <;> rfl
theorem getD_get {l : List (List UInt8)} {k : Nat} (h : k < l.length) : l[k]? = some (l.getD k []) := by simp [List.getD_eq_getElem?_getD, h]
theorem getD_mem {l : List (List UInt8)} {k : Nat} (h : k < l.length) : l.getD k [] ∈ l := List.mem_of_getElem? (getD_get h)
theorem idx_getD {l : List (List UInt8)} {k : Nat} (h : k < l.length) : idx l (k : Int) = some (l.getD k []) := by rw [idx_nat, getD_get h]
theorem getD_set {l : List (List UInt8)} {j : Nat} (h : j < l.length) (r : List UInt8) (i : Nat) : (l.set j r).getD i [] = if i = j then r else l.getD i [] := by
  simp only [List.getD_eq_getElem?_getD, List.getElem?_set]
  by_cases hij : j = i
  · subst hij; simp [h]
  · simp [hij, Ne.symm hij]
theorem getD_rep {n i : Nat} (r : List UInt8) (h : i < n) : (List.replicate n r).getD i [] = r := by simp [List.getD_eq_getElem?_getD, h]
theorem getD_tab (n : Nat) (f : Nat → List UInt8) (i : Nat) (h : i < n) : ((List.range n).map f).getD i [] = f i := by simp [List.getD_eq_getElem?_getD, h]
theorem getD_map (f : List UInt8 → List UInt8) {l : List (List UInt8)} {i : Nat} (h : i < l.length) : (l.map f).getD i [] = f (l.getD i []) := by simp [List.getD_eq_getElem?_getD, h]
theorem rows_ext {a b : List (List UInt8)} (hl : a.length = b.length) (h : ∀ i, i < a.length → a.getD i [] = b.getD i []) : a = b := by
  apply List.ext_getElem hl
  intro i h1 h2
  have := h i h1
  simpa [List.getD_eq_getElem?_getD, h1, h2] using this
theorem idx_0 {l : List (List UInt8)} (h : 0 < l.length) : idx l 0 = some (l.getD 0 []) := by
  have := idx_getD (l := l) (k := 0) h
  rwa [show ((0 : Nat) : Int) = 0 from rfl] at this
theorem rows_snoc {l : List (List UInt8)} {i : Nat} (h : i < l.length) : l.take (i + 1) = l.take i ++ [l.getD i []] := by
  rw [List.take_add_one, getD_get h]; rfl
theorem appL_ok {α : Type} (a b : List α) (h : a.length + b.length ≤ most) (hb : b.length = 1) : appL a b = some (a ++ b) := by
  unfold appL; rw [if_pos (by omega)]
theorem mem_getD {l : List (List UInt8)} {r : List UInt8} (h : r ∈ l) : ∃ i, i < l.length ∧ l.getD i [] = r := by
  obtain ⟨i, hi, rfl⟩ := List.getElem_of_mem h
  exact ⟨i, hi, by simp [List.getD_eq_getElem?_getD, hi]⟩
def updB (row : List UInt8) (f : Nat → UInt8) (k : Nat) : List UInt8 := (List.range row.length).map fun j => if j < k then f j else co row j
theorem updB_len (row : List UInt8) (f : Nat → UInt8) (k : Nat) : (updB row f k).length = row.length := by simp [updB]
theorem co_updB (row : List UInt8) (f : Nat → UInt8) (k i : Nat) (h : i < row.length) : co (updB row f k) i = if i < k then f i else co row i := by
  unfold updB; rw [co_tab, if_pos h]
theorem updB_zero (row : List UInt8) (f : Nat → UInt8) : updB row f 0 = row := eq_of_co (updB_len _ _ _) fun i => by
  by_cases h : i < row.length
  · rw [co_updB _ _ _ _ h, if_neg (by omega)]
  · rw [co_ge (by rw [updB_len]; omega), co_ge (by omega)]
theorem updB_succ (row : List UInt8) (f : Nat → UInt8) (k : Nat) (h : k < row.length) : (updB row f k).set k (f k) = updB row f (k + 1) := eq_of_co (by simp [updB_len]) fun i => by
  rw [co_set (by rw [updB_len]; omega)]
  by_cases hi : i < row.length
  · rw [co_updB _ _ _ _ hi, co_updB _ _ _ _ hi]
    by_cases hik : i = k
    · rw [if_pos hik, if_pos (by omega), hik]
    · rw [if_neg hik]
      by_cases h2 : i < k
      · rw [if_pos h2, if_pos (by omega)]
      · rw [if_neg h2, if_neg (by omega)]
  · rw [if_neg (by omega), co_ge (by rw [updB_len]; omega), co_ge (by rw [updB_len]; omega)]
theorem updB_end (row : List UInt8) (f : Nat → UInt8) : updB row f row.length = (List.range row.length).map f := by
  unfold updB; exact List.map_congr_left fun j hj => by rw [if_pos (List.mem_range.1 hj)]
theorem idx_updB (row : List UInt8) (f : Nat → UInt8) (k i : Nat) (h : i < row.length) : idx (updB row f k) (i : Int) = some (if i < k then f i else co row i) := by
  rw [idx_co (by rw [updB_len]; exact h), co_updB _ _ _ _ h]
def updR (l : List (List UInt8)) (F : Nat → List UInt8) (i : Nat) : List (List UInt8) := (List.range l.length).map fun j => if j < i then F j else l.getD j []
theorem updR_len (l : List (List UInt8)) (F : Nat → List UInt8) (i : Nat) : (updR l F i).length = l.length := by simp [updR]
theorem getD_updR (l : List (List UInt8)) (F : Nat → List UInt8) (i j : Nat) (h : j < l.length) : (updR l F i).getD j [] = if j < i then F j else l.getD j [] := by
  unfold updR; rw [getD_tab _ _ _ h]
theorem updR_zero (l : List (List UInt8)) (F : Nat → List UInt8) : updR l F 0 = l := rows_ext (updR_len _ _ _) fun i h => by
  rw [updR_len] at h
  rw [getD_updR _ _ _ _ h, if_neg (by omega)]
theorem updR_succ (l : List (List UInt8)) (F : Nat → List UInt8) (k : Nat) (h : k < l.length) : (updR l F k).set k (F k) = updR l F (k + 1) := rows_ext (by simp [updR_len]) fun i hi => by
  rw [List.length_set, updR_len] at hi
  rw [getD_set (by rw [updR_len]; omega), getD_updR _ _ _ _ hi, getD_updR _ _ _ _ hi]
  by_cases hik : i = k
  · rw [if_pos hik, if_pos (by omega), hik]
  · rw [if_neg hik]
    by_cases h2 : i < k
    · rw [if_pos h2, if_pos (by omega)]
    · rw [if_neg h2, if_neg (by omega)]
theorem updR_end (l : List (List UInt8)) (F : Nat → List UInt8) : updR l F l.length = (List.range l.length).map F := by
  unfold updR; exact List.map_congr_left fun j hj => by rw [if_pos (List.mem_range.1 hj)]
theorem set_getD (l : List (List UInt8)) (i : Nat) : l.set i (l.getD i []) = l := by
  by_cases h : i < l.length
  · refine rows_ext (by simp) fun j hj => ?_
    rw [getD_set h]
    by_cases e : j = i
    · rw [if_pos e, e]
    · rw [if_neg e]
  · exact List.set_eq_of_length_le (by omega)
theorem idx_set {l : List (List UInt8)} {i : Nat} (h : i < l.length) (r : List UInt8) : idx (l.set i r) (i : Int) = some r := by
  rw [idx_getD (by simpa using h), getD_set h, if_pos rfl]
theorem row_loop {body : List (List UInt8) × Int → Option ((List (List UInt8) × Int) ⊕ List (List UInt8))} (l : List (List UInt8)) (i c : Nat) (h : i < l.length) (hc : (l.getD i []).length = c) (f : Nat → UInt8)
    (hs : ∀ k, k < c → body (l.set i (updB (l.getD i []) f k), (k : Int)) = some (.inl (l.set i ((updB (l.getD i []) f k).set k (f k)), ((k + 1 : Nat) : Int))))
    (he : ∀ s, body (s, (c : Int)) = some (.inr s)) : iterC body (l, 0) = some (l.set i ((List.range c).map f)) := by
  refine iterC_count (fun k => (l.set i (updB (l.getD i []) f k), (k : Int))) c _ ?_ ?_ ?_
  · rw [updB_zero, set_getD]; rfl
  · intro k hk
    rw [hs k hk, updB_succ _ _ _ (by omega)]
  · rw [he, ← hc, updB_end]
theorem rows_loop {body : List (List UInt8) × Int → Option ((List (List UInt8) × Int) ⊕ List (List UInt8))} (l : List (List UInt8)) (n : Nat) (hn : l.length = n) (F : Nat → List UInt8)
    (hs : ∀ i, i < n → body (updR l F i, (i : Int)) = some (.inl ((updR l F i).set i (F i), ((i + 1 : Nat) : Int))))
    (he : ∀ s, body (s, (n : Int)) = some (.inr s)) : iterC body (l, 0) = some ((List.range n).map F) := by
  refine iterC_count (fun i => (updR l F i, (i : Int))) n _ ?_ ?_ ?_
  · rw [updR_zero]; rfl
  · intro k hk
    rw [hs k hk, updR_succ _ _ _ (by omega)]
  · rw [he, ← hn, updR_end]
theorem flat_take_le (l : List (List UInt8)) (i : Nat) : (l.take i).flatten.length ≤ l.flatten.length := by
  have h := congrArg List.length (congrArg List.flatten (List.take_append_drop i l))
  rw [List.flatten_append, List.length_append] at h
  omega
theorem Concat_eq (l : List (List UInt8)) (h : l.flatten.length ≤ most) (hl : l.length ≤ most) : slices_Concat_sbytebyte l = some l.flatten := by
  unfold slices_Concat_sbytebyte
  have hmo := most_lt'
  refine bind_of (iterC_count (fun i => (((l.take i).flatten.length : Int), (i : Int))) l.length (l.flatten.length : Int) (by simp) ?_ (by simp)) ?_
  · intro i hi
    have h1 := flat_take_le l (i + 1)
    have e : (l.take (i + 1)).flatten.length = (l.take i).flatten.length + (l.getD i []).length := by rw [rows_snoc hi, List.flatten_append, List.length_append]; simp
    simp only
    rw [if_pos (by omega), idx_getD hi, Option.bind_some, wI_add _ _ (by omega), if_neg (by omega), wI_succ i (by omega), e]
  · unfold slices_Grow
    rw [if_pos (by omega), Option.bind_some]
    refine bind_of (iterC_count (fun i => ((l.take i).flatten, (i : Int))) l.length l.flatten (by simp) ?_ (by simp)) rfl
    intro i hi
    have h1 := flat_take_le l (i + 1)
    have e : (l.take (i + 1)).flatten = (l.take i).flatten ++ l.getD i [] := by rw [rows_snoc hi, List.flatten_append]; simp
    have e2 := congrArg List.length e
    rw [List.length_append] at e2
    simp only
    rw [if_pos (by omega), idx_getD hi, Option.bind_some]
    unfold appL
    rw [if_pos (by omega), Option.bind_some, wI_succ i (by omega), e]
end Gk

/- Chapter 4 in plain Lean: what makes matrices, and products. No condition but lengths. -/
set_option linter.unusedSimpArgs false
set_option linter.unusedVariables false
namespace Gk
open Gf
theorem size_eq (n : Int) : matrix_size n = some (decide (1 ≤ n ∧ n ≤ 64)) := by
  unfold matrix_size
  by_cases h : 1 ≤ n
  · rw [if_pos h]; simp [h]
  · rw [if_neg h]; simp [h]
theorem blank_eq (n c : Nat) (hn : n ≤ most) (hc : c ≤ most) : matrix_blank (n : Int) (c : Int) = some (List.replicate n (List.replicate c 0)) := by
  unfold matrix_blank
  have hm := most_lt'
  rw [makeL_nat _ _ hn, Option.bind_some]
  refine bind_of ?_ rfl
  obtain ⟨x, e1, e2⟩ := iterC_up (s0 := List.replicate n ([] : List UInt8)) (fun i s => s.length = n ∧ ∀ j, j < i → s.getD j [] = List.replicate c 0) n (fun x : List (List UInt8) => x = List.replicate n (List.replicate c 0))
    (body := fun s9 : List (List UInt8) × Int => (if s9.2 < ((List.replicate n ([] : List UInt8)).length : Int) then ((makeL (c : Int) (0 : UInt8)).bind fun c14 => ((idx s9.1 s9.2).bind fun c19 => some (.inl ((s9.1.set (s9.2 : Int).toNat c14), (wI (s9.2 + 1)))))) else some (.inr s9.1)))
    ⟨by simp, fun j hj => absurd hj (Nat.not_lt_zero _)⟩
    (fun i s hi hI => by
      obtain ⟨hl, hs⟩ := hI
      refine ⟨s.set i (List.replicate c 0), ?_, by simpa using hl, fun j hj => ?_⟩
      · simp only
        rw [if_pos (by rw [List.length_replicate]; omega), makeL_nat _ _ hc, Option.bind_some, idx_getD (by omega), Option.bind_some, wI_succ i (by omega), Int.toNat_natCast]
      · rw [getD_set (by omega)]
        by_cases hji : j = i
        · rw [if_pos hji]
        · rw [if_neg hji]; exact hs j (by omega))
    (fun s hI => ⟨s, by simp, rows_ext (by rw [hI.1]; simp) (fun j hj => by rw [hI.2 j (by omega), getD_rep _ (by omega)])⟩)
  rw [e1, e2]
def Rec (l : List (List UInt8)) (d : Nat) : Prop := ∀ i, i < l.length → (l.getD i []).length = d
theorem New_ok (l : List (List UInt8)) (d : Nat) (h0 : 0 < l.length) (h1 : l.length ≤ 64) (d0 : 0 < d) (d1 : d ≤ 64) (hr : Rec l d) : matrix_New l = some (some l, 0) := by
  unfold matrix_New
  have hm := h257
  have hd := hr 0 h0
  rw [size_eq, Option.bind_some, if_neg (by simp; omega), idx_0 h0, Option.bind_some, hd, size_eq, Option.bind_some, if_neg (by simp; omega), Option.bind_some, hd, blank_eq _ _ (by omega) (by omega), Option.bind_some]
  obtain ⟨x, e1, e2⟩ := iterC_up (s0 := List.replicate l.length (List.replicate d (0 : UInt8))) (fun i s => s.length = l.length ∧ ∀ j, j < l.length → s.getD j [] = if j < i then l.getD j [] else List.replicate d 0) l.length (fun x : List (List UInt8) ⊕ (Option (List (List UInt8)) × Int) => x = .inl l)
    (body := fun s15 : List (List UInt8) × Int => (if s15.2 < (l.length : Int) then ((idx l s15.2).bind fun c18 => ((some (l.getD 0 [])).bind fun c20 => (if (c18.length : Int) = (c20.length : Int) then ((idx s15.1 s15.2).bind fun c23 => some (.inl ((s15.1.set (s15.2 : Int).toNat (copyL c23 0 c18)), (wI (s15.2 + 1))))) else some (.inr (.inr ((none : Option (List (List UInt8))), 1)))))) else some (.inr (.inl s15.1))))
    ⟨by simp, fun j hj => by rw [getD_rep _ hj, if_neg (by omega)]⟩
    (fun i s hi hI => by
      obtain ⟨hl, hs⟩ := hI
      refine ⟨s.set i (l.getD i []), ?_, by simpa using hl, fun j hj => ?_⟩
      · simp only
        rw [if_pos (by omega), idx_getD hi, Option.bind_some, Option.bind_some, hd, hr i hi, if_pos rfl, idx_getD (by omega), Option.bind_some, hs i hi, if_neg (by omega), wI_succ i (by omega), Int.toNat_natCast]
        rw [show copyL (List.replicate d (0 : UInt8)) 0 (l.getD i []) = l.getD i [] from by
          have := copyL_all (0 : UInt8) (l.getD i [])
          rwa [hr i hi] at this]
      · rw [getD_set (by omega)]
        by_cases hji : j = i
        · rw [if_pos hji, if_pos (by omega), hji]
        · rw [if_neg hji, hs j hj]
          by_cases h2 : j < i
          · rw [if_pos h2, if_pos (by omega)]
          · rw [if_neg h2, if_neg (by omega)])
    (fun s hI => ⟨_, by simp, congrArg Sum.inl (rows_ext hI.1 (fun j hj => by rw [hI.2 j (by omega), if_pos (by omega)]))⟩)
  rw [e1, Option.bind_some, e2, Sum.elim_inl]
theorem Size_some (l : List (List UInt8)) (h0 : 0 < l.length) : matrix_Size (some l) = some ((l.length : Int), ((l.getD 0 []).length : Int)) := by
  unfold matrix_Size
  rw [if_neg (by simp), Option.bind_some, idx_0 h0, Option.bind_some]
theorem Row_ok (l : List (List UInt8)) (i : Nat) (h : i < l.length) (hm : (l.getD i []).length ≤ most) : matrix_Row (some l) (i : Int) = some (l.getD i []) := by
  unfold matrix_Row slices_Clone_sbytebyte
  rw [if_neg (by simp), if_neg (by omega), Option.bind_some, if_neg (by omega), idx_getD h, Option.bind_some, appL_nil _ hm, Option.bind_some]
def vdm (xs : List UInt8) (c : Nat) : List (List UInt8) := (List.range xs.length).map fun i => (List.range c).map fun (k : Nat) => powZ (co xs i) (k : Int)
theorem Vandermonde_ok (xs : List UInt8) (c : Nat) (h0 : 0 < xs.length) (h1 : xs.length ≤ 64) (c0 : 0 < c) (c1 : c ≤ 64) : matrix_Vandermonde true xs (c : Int) = some (some (vdm xs c), 0) := by
  unfold matrix_Vandermonde
  have hmo := h257
  rw [if_neg (by decide), size_eq, Option.bind_some, if_neg (by simp; omega), size_eq, Option.bind_some, if_neg (by simp; omega), blank_eq _ _ (by omega) (by omega), Option.bind_some]
  refine bind_of (x := vdm xs c) ?_ rfl
  refine rows_loop _ xs.length (by simp) _ (fun i hi => ?_) (fun s => by simp)
  simp only
  have hU := updR_len (List.replicate xs.length (List.replicate c (0 : UInt8))) (fun i => (List.range c).map fun (k : Nat) => powZ (co xs i) (k : Int)) i
  have hG := getD_updR (List.replicate xs.length (List.replicate c (0 : UInt8))) (fun i => (List.range c).map fun (k : Nat) => powZ (co xs i) (k : Int)) i i (by simpa using hi)
  rw [if_neg (by omega), getD_rep _ hi] at hG
  rw [List.length_replicate] at hU
  generalize updR (List.replicate xs.length (List.replicate c (0 : UInt8))) (fun i => (List.range c).map fun (k : Nat) => powZ (co xs i) (k : Int)) i = s at hU hG ⊢
  rw [if_pos (by omega), idx_co hi, Option.bind_some]
  refine bind_of (row_loop s i c (by omega) (by rw [hG]; simp) (fun (k : Nat) => powZ (co xs i) (k : Int)) (fun k hk => ?_) (fun s => by simp)) (by rw [wI_succ i (by omega)])
  simp only
  rw [if_pos (by omega), idx_set (by omega), Option.bind_some, Pow_eq, Option.bind_some, idx_updB _ _ _ _ (by rw [hG]; simpa using hk), Option.bind_some, wI_succ k (by omega), Int.toNat_natCast, Int.toNat_natCast, List.set_set]
theorem lives4 : law04_lives = some true := by
  unfold law04_lives
  rw [field_New, Option.bind_some]
  have e := Vandermonde_ok [1, 2] 2 (by decide) (by decide) (by decide) (by decide)
  rw [show ((2 : Nat) : Int) = 2 from rfl] at e
  have hv : vdm [1, 2] 2 = [[1, 1], [1, 2]] := by decide +kernel
  rw [e, Option.bind_some, if_pos rfl, hv]
  have e2 := Row_ok [[1, 1], [1, 2]] 1 (by decide) (by decide)
  rw [show ((1 : Nat) : Int) = 1 from rfl] at e2
  rw [e2]
  decide +kernel
end Gk

/- Chapter 4: products of matrices, in plain Lean. No condition but lengths. -/
set_option linter.unusedSimpArgs false
set_option linter.unusedVariables false
namespace Gk
open Gf
def dot (r v : List UInt8) (d : Nat) : UInt8 := sm (fun k => mul (co r k) (co v k)) d
def tm (m : List (List UInt8)) (v : List UInt8) (d : Nat) : List UInt8 := (List.range m.length).map fun i => dot (m.getD i []) v d
theorem tm_len (m : List (List UInt8)) (v : List UInt8) (d : Nat) : (tm m v d).length = m.length := by simp [tm]
theorem co_tm (m : List (List UInt8)) (v : List UInt8) (d i : Nat) (h : i < m.length) : co (tm m v d) i = dot (m.getD i []) v d := by unfold tm; rw [co_tab, if_pos h]
theorem refTimes_eq (m : List (List UInt8)) (v : List UInt8) (d : Nat) (h1 : m.length ≤ most) (hr : Rec m d) (hv : d ≤ v.length) (hd : d ≤ most) : ref04_Times m v = some (tm m v d) := by
  unfold ref04_Times
  have hmo := most_lt'
  refine bind_of ?_ rfl
  refine iterC_count (fun i => ((List.range i).map fun i => dot (m.getD i []) v d, (i : Int))) m.length _ rfl ?_ (by simp [tm])
  intro i hi
  simp only
  rw [if_pos (by omega), idx_getD hi, Option.bind_some]
  have hrk := hr i hi
  refine bind_of (iterC_count (fun k => (dot (m.getD i []) v k, (k : Int))) d (dot (m.getD i []) v d) rfl ?_ ?_) ?_
  · intro k hk
    simp only
    rw [if_pos (by omega), idx_co (by omega), Option.bind_some, idx_co (by omega), Option.bind_some, refMul_eq, Option.bind_some, wI_succ k (by omega)]
    rfl
  · simp only
    rw [if_neg (by omega)]
  · rw [appL_ok _ _ (by simp; omega) rfl, Option.bind_some, wI_succ i (by omega), List.range_succ, List.map_append]
    rfl
def sqr (b : List UInt8) (n c : Nat) : List (List UInt8) := (List.range n).map fun i => (List.range c).map fun k => co b (i * c + k)
theorem sqr_len (b : List UInt8) (n c : Nat) : (sqr b n c).length = n := by simp [sqr]
theorem sqr_rec (b : List UInt8) (n c : Nat) : Rec (sqr b n c) c := fun i hi => by
  rw [sqr_len] at hi
  unfold sqr; rw [getD_tab _ _ _ hi]; simp
theorem wI_mul (a b : Nat) (h : a * b < 9223372036854775808) : wI ((a : Int) * (b : Int)) = ((a * b : Nat) : Int) := by
  rw [← Int.natCast_mul]; exact wI_nat h
theorem square_eq (b : List UInt8) (n c : Nat) (hn : n ≤ 100) (hc : c ≤ 100) : law04_square b (n : Int) (c : Int) = some (sqr b n c) := by
  unfold law04_square
  have h2 := h257
  rw [makeL_nat _ _ (by omega), Option.bind_some]
  refine bind_of (rows_loop (body := fun s5 : List (List UInt8) × Int => (if s5.2 < ((List.replicate n ([] : List UInt8)).length : Int) then ((makeL (c : Int) (0 : UInt8)).bind fun c8 => ((idx s5.1 s5.2).bind fun c12 => ((idx ((s5.1.set (s5.2 : Int).toNat c8)) s5.2).bind fun c17 => ((iterC (fun s19 : List (List UInt8) × Int => (if s19.2 < (c17.length : Int) then (if (wI ((wI (s5.2 * (c : Int))) + s19.2)) < (b.length : Int) then ((idx s19.1 s5.2).bind fun c25 => ((idx b ((wI ((wI (s5.2 * (c : Int))) + s19.2)))).bind fun c27 => ((idx c25 s19.2).bind fun c28 => some (.inl ((s19.1.set (s5.2 : Int).toNat (c25.set (s19.2 : Int).toNat c27)), (wI (s19.2 + 1))))))) else some (.inl (s19.1, (wI (s19.2 + 1))))) else some (.inr s19.1))) ((s5.1.set (s5.2 : Int).toNat c8), 0)).bind fun x19 => some (.inl (x19, (wI (s5.2 + 1)))))))) else some (.inr s5.1))) (List.replicate n ([] : List UInt8)) n (by simp) (fun i => (List.range c).map fun k => co b (i * c + k)) (fun i hi => ?_) (fun s => by simp)) rfl
  simp only
  have hU := updR_len (List.replicate n ([] : List UInt8)) (fun i => (List.range c).map fun k => co b (i * c + k)) i
  rw [List.length_replicate] at hU
  generalize updR (List.replicate n ([] : List UInt8)) (fun i => (List.range c).map fun k => co b (i * c + k)) i = s at hU ⊢
  have hU2 : i < (s.set i (List.replicate c (0 : UInt8))).length := by rw [List.length_set]; omega
  rw [if_pos (by rw [List.length_replicate]; omega), makeL_nat _ _ (by omega), Option.bind_some, idx_getD (by omega), Option.bind_some, Int.toNat_natCast, idx_set (by omega), Option.bind_some]
  have hic : i * c ≤ 10000 := by
    have := Nat.mul_le_mul (show i ≤ 100 by omega) hc; omega
  have hgi : (s.set i (List.replicate c (0 : UInt8))).getD i [] = List.replicate c 0 := by rw [getD_set (by omega), if_pos rfl]
  have hlc : (List.replicate c (0 : UInt8)).length = c := List.length_replicate ..
  refine bind_of (row_loop _ i c hU2 (by rw [hgi]; simp) (fun k => co b (i * c + k)) (fun k hk => ?_) (fun s => by simp)) (by rw [wI_succ i (by omega), List.set_set])
  simp only
  rw [if_pos (by rw [hlc]; omega), wI_mul i c (by omega), wI_add (i * c) k (by omega), hgi, wI_succ k (by omega)]
  by_cases hb : i * c + k < b.length
  · rw [if_pos (by omega), idx_set hU2, Option.bind_some, idx_co hb, Option.bind_some, idx_updB _ _ _ _ (by rw [hlc]; omega), Option.bind_some, Int.toNat_natCast, List.set_set]
  · rw [if_neg (by omega)]
    have : (updB (List.replicate c (0 : UInt8)) (fun k => co b (i * c + k)) k).set k (co b (i * c + k)) = updB (List.replicate c (0 : UInt8)) (fun k => co b (i * c + k)) k := by
      refine eq_of_co (by simp) fun j => ?_
      rw [co_set (by rw [updB_len, hlc]; exact hk)]
      by_cases e : j = k
      · rw [if_pos e, e, co_updB _ _ _ _ (by rw [hlc]; exact hk), if_neg (by omega), co_rep, co_ge (by omega)]
      · rw [if_neg e]
    rw [this]
end Gk

/- Linear algebra over GF(256): rows are reduced. Plain Lean. -/
set_option linter.unusedSimpArgs false
set_option linter.unusedVariables false
namespace Gk
open Gf
theorem la_add (f g : Nat → UInt8) : ∀ n, sm (fun i => f i ^^^ g i) n = sm f n ^^^ sm g n
  | 0 => (xor_self 0).symm
  | n + 1 => by unfold sm; rw [la_add f g n, xor_xor_swap]
theorem la_mul (c : UInt8) (f : Nat → UInt8) : ∀ n, sm (fun i => mul c (f i)) n = mul c (sm f n)
  | 0 => (mul_zero c).symm
  | n + 1 => by unfold sm; rw [la_mul c f n, mul_add]
theorem la_zero {f : Nat → UInt8} : ∀ n, (∀ i, i < n → f i = 0) → sm f n = 0
  | 0, _ => rfl
  | n + 1, h => by unfold sm; rw [la_zero n (fun i hi => h i (by omega)), h n (by omega)]; rfl
theorem la_swap (f : Nat → Nat → UInt8) (a : Nat) : ∀ b, sm (fun i => sm (fun j => f i j) b) a = sm (fun j => sm (fun i => f i j) a) b
  | 0 => la_zero a (fun _ _ => rfl)
  | b + 1 => by
    show sm (fun i => sm (fun j => f i j) b ^^^ f i b) a = sm (fun j => sm (fun i => f i j) a) b ^^^ sm (fun i => f i b) a
    rw [la_add, la_swap f a b]
def ld (r : List UInt8) (v : Nat → UInt8) (d : Nat) : UInt8 := sm (fun k => mul (co r k) (v k)) d
theorem ld_lin (r : List UInt8) (a : List UInt8) (x : UInt8) (b : List UInt8) (v : Nat → UInt8) (d : Nat) (h : ∀ i, i < d → co r i = co a i ^^^ mul x (co b i)) : ld r v d = ld a v d ^^^ mul x (ld b v d) := by
  unfold ld
  rw [← la_mul, ← la_add]
  exact sm_congr _ fun i hi => by rw [h i hi, add_mul, mul_assoc]
theorem ld_scl (r : List UInt8) (x : UInt8) (b : List UInt8) (v : Nat → UInt8) (d : Nat) (h : ∀ i, i < d → co r i = mul x (co b i)) : ld r v d = mul x (ld b v d) := by
  unfold ld
  rw [← la_mul]
  exact sm_congr _ fun i hi => by rw [h i hi, mul_assoc]
theorem ld_zero (r : List UInt8) (v : Nat → UInt8) (d : Nat) (h : ∀ i, i < d → co r i = 0) : ld r v d = 0 :=
  la_zero _ fun i hi => by rw [h i hi, zero_mul]
def Ker (l : List (List UInt8)) (d : Nat) (v : Nat → UInt8) : Prop := ∀ i, i < l.length → ld (l.getD i []) v d = 0
structure Red (l0 l : List (List UInt8)) (d : Nat) (ln : List Nat) (c : Nat) : Prop where
  len : l.length = l0.length
  rc : ∀ i, i < l.length → (l.getD i []).length = d
  ker : ∀ v, Ker l d v ↔ Ker l0 d v
  le : ln.length ≤ l.length
  cd : c ≤ d
  lt : ∀ i, i < ln.length → ln.getD i 0 < c
  one : ∀ i, i < ln.length → ∀ k, k < l.length → co (l.getD k []) (ln.getD i 0) = if k = i then 1 else 0
  low : ∀ k, ln.length ≤ k → k < l.length → ∀ j, j < c → co (l.getD k []) j = 0
  alt : ln = List.range c ∨ (ln.length < c ∧ ∃ v : Nat → UInt8, Ker l0 d v ∧ (∃ k, k < c ∧ v k ≠ 0) ∧ ∀ k, c ≤ k → v k = 0)
theorem Red.start (l : List (List UInt8)) (d : Nat) (hr : ∀ i, i < l.length → (l.getD i []).length = d) : Red l l d [] 0 :=
  { len := rfl, rc := hr, ker := fun _ => Iff.rfl, le := Nat.zero_le _, cd := Nat.zero_le _, lt := fun i h => absurd h (by simp), one := fun i h => absurd h (by simp), low := fun k _ _ j h => absurd h (by omega), alt := .inl rfl }
theorem getD_app0 (l : List Nat) (c i : Nat) (h : i < l.length) : (l ++ [c]).getD i 0 = l.getD i 0 := by simp [List.getD_eq_getElem?_getD, List.getElem?_append_left h]
theorem getD_app1 (l : List Nat) (c : Nat) : (l ++ [c]).getD l.length 0 = c := by simp [List.getD_eq_getElem?_getD]
theorem getD_rng (c i : Nat) (h : i < c) : (List.range c).getD i 0 = i := by simp [List.getD_eq_getElem?_getD, h]
theorem Red.skip {l0 l : List (List UInt8)} {d : Nat} {ln : List Nat} {c : Nat} (h : Red l0 l d ln c) (hc : c < d) (hz : ∀ k, ln.length ≤ k → k < l.length → co (l.getD k []) c = 0) : Red l0 l d ln (c + 1) :=
  { len := h.len, rc := h.rc, ker := h.ker, le := h.le, cd := hc, lt := fun i hi => Nat.lt_succ_of_lt (h.lt i hi), one := h.one
    low := fun k h1 h2 j hj => by
      rcases Nat.lt_succ_iff_lt_or_eq.1 hj with h3 | h3
      · exact h.low k h1 h2 j h3
      · rw [h3]; exact hz k h1 h2
    alt := by
      rcases h.alt with ha | ⟨ha, v, hv, ⟨k, hk, hk'⟩, hvz⟩
      · right
        have hlen : ln.length = c := by rw [ha]; simp
        refine ⟨by omega, fun i => if i < c then co (l.getD i []) c else if i = c then 1 else 0, (h.ker _).1 ?_, ⟨c, by omega, by simp⟩, fun k hk => by simp only; rw [if_neg (by omega), if_neg (by omega)]⟩
        intro i hi
        have hone : ∀ j, j < c → co (l.getD i []) j = if i = j then 1 else 0 := fun j hj => by
          have := h.one j (by omega) i hi
          rwa [ha, getD_rng c j hj] at this
        unfold ld
        -- the sum: up to c, at c, beyond
        have hs : ∀ n, n ≤ c → sm (fun k => mul (co (l.getD i []) k) (if k < c then co (l.getD k []) c else if k = c then 1 else 0)) n = if i < n then co (l.getD i []) c else 0 := by
          intro n hn
          rw [sm_one _ i n (fun k hk hki => by rw [hone k (by omega), if_neg (Ne.symm hki), zero_mul])]
          by_cases e : i < n
          · rw [if_pos e, if_pos e, hone i (by omega), if_pos rfl, if_pos (by omega), one_mul]
          · rw [if_neg e, if_neg e]
        have hs2 : ∀ m, sm (fun k => mul (co (l.getD i []) k) (if k < c then co (l.getD k []) c else if k = c then 1 else 0)) (c + 1 + m) = 0 := by
          intro m
          induction m with
          | zero =>
            show sm _ c ^^^ _ = 0
            rw [hs c (Nat.le_refl _)]; simp only; rw [if_neg (Nat.lt_irrefl c), if_pos trivial, mul_one]
            by_cases e : i < c
            · rw [if_pos e, xor_self]
            · rw [if_neg e, zero_xor, hz i (by omega) hi]
          | succ m ih =>
            show sm _ (c + 1 + m) ^^^ mul (co (l.getD i []) (c + 1 + m)) (if c + 1 + m < c then co (l.getD (c + 1 + m) []) c else if c + 1 + m = c then 1 else 0) = 0
            rw [ih, if_neg (by omega), if_neg (by omega), mul_zero, xor_zero]
        have := hs2 (d - (c + 1))
        rwa [show c + 1 + (d - (c + 1)) = d by omega] at this
      · exact .inr ⟨by omega, v, hv, ⟨k, by omega, hk'⟩, fun k hk => hvz k (by omega)⟩ }
theorem Red.lead {l0 l : List (List UInt8)} {d : Nat} {ln : List Nat} {c : Nat} (h : Red l0 l d ln c) (hc : c < d) (j : Nat) (hj : ln.length ≤ j) (hjl : j < l.length) (hx : co (l.getD j []) c ≠ 0)
    (l' : List (List UInt8)) (hl' : l'.length = l.length) (hr' : ∀ i, i < l'.length → (l'.getD i []).length = d)
    (ha : ∀ i, i < d → co (l'.getD ln.length []) i = mul (inv (co (l.getD j []) c)) (co (l.getD j []) i))
    (hk : ∀ k, k < l.length → k ≠ ln.length → ∀ i, i < d → co (l'.getD k []) i = co (l.getD (if k = j then ln.length else k) []) i ^^^ mul (co (l.getD (if k = j then ln.length else k) []) c) (co (l'.getD ln.length []) i)) :
    Red l0 l' d (ln ++ [c]) (c + 1) := by
  have hal : ln.length < l.length := by omega
  have hp0 : ∀ i, i < c → co (l'.getD ln.length []) i = 0 := fun i hi => by rw [ha i (by omega), h.low j hj hjl i hi, mul_zero]
  have hpc : co (l'.getD ln.length []) c = 1 := by rw [ha c hc, inv_mul hx]
  have hkc : ∀ k, k < l.length → k ≠ ln.length → co (l'.getD k []) c = 0 := fun k h1 h2 => by rw [hk k h1 h2 c hc, hpc, mul_one, xor_self]
  have hlow : ∀ k, k < l.length → k ≠ ln.length → ∀ i, i < c → co (l'.getD k []) i = co (l.getD (if k = j then ln.length else k) []) i := fun k h1 h2 i hi => by
    rw [hk k h1 h2 i (by omega), hp0 i hi, mul_zero, xor_zero]
  refine { len := hl'.trans h.len, rc := hr', ker := ?_, le := by simp; omega, cd := hc, lt := ?_, one := ?_, low := ?_, alt := ?_ }
  · intro v
    rw [← h.ker v]
    have hda : ld (l'.getD ln.length []) v d = mul (inv (co (l.getD j []) c)) (ld (l.getD j []) v d) := ld_scl _ _ _ v d ha
    have hdk : ∀ k, k < l.length → k ≠ ln.length → ld (l'.getD k []) v d = ld (l.getD (if k = j then ln.length else k) []) v d ^^^ mul (co (l.getD (if k = j then ln.length else k) []) c) (ld (l'.getD ln.length []) v d) := fun k h1 h2 => ld_lin _ _ _ _ v d (hk k h1 h2)
    constructor
    · intro hv m hm
      have h0 := hv ln.length (by omega)
      by_cases hmj : m = j
      · rw [hmj]
        rw [hda] at h0
        rcases mul_eq_zero h0 with e | e
        · exact absurd e (inv_ne hx)
        · exact e
      · by_cases hma : m = ln.length
        · have hja : j ≠ ln.length := fun e => hmj (hma.trans e.symm)
          have := hv j (by omega)
          rw [hdk j hjl hja, if_pos rfl, h0, mul_zero, xor_zero] at this
          rw [hma]; exact this
        · have := hv m (by omega)
          rw [hdk m hm hma, if_neg hmj, h0, mul_zero, xor_zero] at this
          exact this
    · intro hv m hm
      have h0 : ld (l'.getD ln.length []) v d = 0 := by rw [hda, hv j hjl, mul_zero]
      by_cases hma : m = ln.length
      · rw [hma]; exact h0
      · rw [hdk m (by omega) hma, h0, mul_zero, xor_zero]
        by_cases hmj : m = j
        · rw [if_pos hmj]; exact hv _ hal
        · rw [if_neg hmj]; exact hv m (by omega)
  · intro i hi
    rw [List.length_append] at hi
    by_cases e : i < ln.length
    · rw [getD_app0 _ _ _ e]; exact Nat.lt_succ_of_lt (h.lt i e)
    · have : i = ln.length := by simp at hi; omega
      rw [this, getD_app1]; omega
  · intro i hi k hkl
    rw [hl'] at hkl
    rw [List.length_append] at hi
    by_cases e : i < ln.length
    · rw [getD_app0 _ _ _ e]
      have hp := h.lt i e
      by_cases hka : k = ln.length
      · rw [hka, hp0 _ hp, if_neg (by omega)]
      · rw [hlow k hkl hka _ hp]
        by_cases hkj : k = j
        · rw [if_pos hkj, h.low _ (Nat.le_refl _) hal _ hp, if_neg (by omega)]
        · rw [if_neg hkj]; exact h.one i e k hkl
    · have hia : i = ln.length := by simp at hi; omega
      rw [hia, getD_app1]
      by_cases hka : k = ln.length
      · rw [hka, hpc, if_pos rfl]
      · rw [hkc k hkl hka, if_neg hka]
  · intro k h1 h2 i hi
    rw [hl'] at h2
    rw [List.length_append] at h1
    have hka : k ≠ ln.length := by simp at h1; omega
    rcases Nat.lt_succ_iff_lt_or_eq.1 hi with h3 | h3
    · rw [hlow k h2 hka i h3]
      by_cases hkj : k = j
      · rw [if_pos hkj, h.low _ (Nat.le_refl _) hal _ h3]
      · rw [if_neg hkj]; exact h.low k (by simp at h1; omega) h2 i h3
    · rw [h3]; exact hkc k h2 hka
  · rcases h.alt with e | ⟨e, v, hv, ⟨k, hk1, hk2⟩, hvz⟩
    · left; rw [e, List.range_succ]
    · exact .inr ⟨by simp; omega, v, hv, ⟨k, by omega, hk2⟩, fun k hk => hvz k (by omega)⟩
theorem Red.full {l0 l : List (List UInt8)} {d : Nat} {ln : List Nat} {c : Nat} (h : Red l0 l d ln c) (hf : ln.length = l.length) : ∀ k, c + k ≤ d → Red l0 l d ln (c + k)
  | 0, _ => h
  | k + 1, hk => (h.full hf k (by omega)).skip (by omega) (fun i h1 h2 => by omega)
theorem Red.exist (l : List (List UInt8)) (d : Nat) (hr : ∀ i, i < l.length → (l.getD i []).length = d) : ∀ c, c ≤ d → ∃ l' ln, Red l l' d ln c
  | 0, _ => ⟨l, [], Red.start l d hr⟩
  | c + 1, hc => by
    obtain ⟨l1, ln, h⟩ := Red.exist l d hr c (by omega)
    by_cases hz : ∀ k, ln.length ≤ k → k < l1.length → co (l1.getD k []) c = 0
    · exact ⟨l1, ln, h.skip (by omega) hz⟩
    · have : ∃ j, ln.length ≤ j ∧ j < l1.length ∧ co (l1.getD j []) c ≠ 0 := Classical.byContradiction fun hn => hz fun k h1 h2 => Classical.byContradiction fun h3 => hn ⟨k, h1, h2, h3⟩
      obtain ⟨j, h1, h2, h3⟩ := this
      let piv : List UInt8 := (List.range d).map fun i => mul (inv (co (l1.getD j []) c)) (co (l1.getD j []) i)
      let s : Nat → List UInt8 := fun k => l1.getD (if k = j then ln.length else k) []
      refine ⟨(List.range l1.length).map fun k => if k = ln.length then piv else (List.range d).map fun i => co (s k) i ^^^ mul (co (s k) c) (co piv i), _, h.lead (by omega) j h1 h2 h3 _ (by simp) ?_ ?_ ?_⟩
      · intro i hi
        rw [List.length_map, List.length_range] at hi
        rw [getD_tab _ _ _ hi]
        by_cases e : i = ln.length
        · rw [if_pos e]; simp [piv]
        · rw [if_neg e]; simp
      · intro i hi
        rw [getD_tab _ _ _ (by omega), if_pos rfl, co_tab, if_pos hi]
      · intro k hk hka i hi
        rw [getD_tab _ _ _ hk, if_neg hka, getD_tab _ _ _ (by omega), if_pos rfl, co_tab, if_pos hi]
theorem ker_wide (l : List (List UInt8)) (d : Nat) (hr : ∀ i, i < l.length → (l.getD i []).length = d) (hd : l.length < d) : ∃ v, Ker l d v ∧ ∃ k, k < d ∧ v k ≠ 0 := by
  obtain ⟨l', ln, h⟩ := Red.exist l d hr d (Nat.le_refl _)
  rcases h.alt with e | ⟨_, v, hv, hk, _⟩
  · have := h.le; have := h.len; rw [e, List.length_range] at *; omega
  · exact ⟨v, hv, hk⟩
def comb (A : Nat → Nat → UInt8) (y : Nat → UInt8) (s : Nat) (k : Nat) : UInt8 := sm (fun t => mul (y t) (A t k)) s
theorem ld_comb (r : List UInt8) (A : Nat → Nat → UInt8) (y : Nat → UInt8) (s d : Nat) : ld r (comb A y s) d = sm (fun t => mul (y t) (ld r (A t) d)) s := by
  unfold ld comb
  have h1 : sm (fun k => mul (co r k) (sm (fun t => mul (y t) (A t k)) s)) d = sm (fun k => sm (fun t => mul (y t) (mul (co r k) (A t k))) s) d :=
    sm_congr _ fun k _ => by rw [← la_mul]; exact sm_congr _ fun t _ => mul_left_comm _ _ _
  rw [h1, la_swap]
  exact sm_congr _ fun t _ => la_mul _ _ _
def Ind (l : List (List UInt8)) (d : Nat) (A : Nat → Nat → UInt8) (s : Nat) : Prop := ∀ y, Ker l d (comb A y s) → ∀ t, t < s → y t = 0
theorem ld_unit (r : List UInt8) (p d : Nat) (hp : p < d) : ld r (fun k => if k = p then 1 else 0) d = co r p := by
  unfold ld
  rw [sm_one _ p d (fun i _ hi => by simp only; rw [if_neg hi, mul_zero]), if_pos hp]; simp only; rw [if_pos trivial, mul_one]
theorem Red.ind {l0 l : List (List UInt8)} {d : Nat} {ln : List Nat} {c : Nat} (h : Red l0 l d ln c) : Ind l0 d (fun t k => if k = ln.getD t 0 then 1 else 0) ln.length := by
  intro y hy t ht
  have := (h.ker _).2 hy t (by have := h.le; omega)
  rw [ld_comb] at this
  rw [sm_one _ t ln.length (fun i hi hit => by rw [ld_unit _ _ _ (Nat.lt_of_lt_of_le (h.lt i hi) h.cd), h.one i hi t (by have := h.le; omega), if_neg (Ne.symm hit), mul_zero]), if_pos ht, ld_unit _ _ _ (Nat.lt_of_lt_of_le (h.lt t ht) h.cd), h.one t ht t (by have := h.le; omega), if_pos rfl, mul_one] at this
  exact this
theorem Red.most {l0 l : List (List UInt8)} {d : Nat} {ln : List Nat} (h : Red l0 l d ln d) {A : Nat → Nat → UInt8} {s : Nat} (hA : Ind l0 d A s) : s ≤ ln.length := by
  refine Classical.byContradiction fun hn => ?_
  let B : List (List UInt8) := (List.range ln.length).map fun i => (List.range s).map fun t => ld (l.getD i []) (A t) d
  have hB : B.length = ln.length := by simp [B]
  obtain ⟨y, hy, t, ht, hyt⟩ := ker_wide B s (fun i hi => by rw [hB] at hi; simp only [B]; rw [getD_tab _ _ _ hi]; simp) (by omega)
  refine hyt (hA y ((h.ker _).1 ?_) t ht)
  intro i hi
  by_cases e : i < ln.length
  · have := hy i (by omega)
    simp only [B] at this
    rw [getD_tab _ _ _ e] at this
    rw [ld_comb]
    unfold ld at this
    refine Eq.trans (sm_congr _ fun k hk => ?_) this
    rw [co_tab, if_pos hk, mul_comm]; rfl
  · exact ld_zero _ _ _ fun k hk => h.low i (by omega) hi k hk
theorem Red.uniq {l0 l l' : List (List UInt8)} {d : Nat} {ln ln' : List Nat} (h : Red l0 l d ln d) (h' : Red l0 l' d ln' d) : ln.length = ln'.length :=
  Nat.le_antisymm (h'.most h.ind) (h.most h'.ind)
end Gk

/- Chapter 4: what reduce does, in plain Lean. No condition but lengths. -/
set_option linter.unusedSimpArgs false
set_option linter.unusedVariables false
namespace Gk
open Gf
theorem find_row (c : Nat) : ∀ (m : List (List UInt8)) (k : Nat), (∀ j, j < m.length → c < (m.getD j []).length) →
    (∃ j, j < m.length ∧ findAt (fun y => matrix_reduce_1 y (c : Int)) (k : Int) m = some ((k + j : Nat) : Int) ∧ co (m.getD j []) c ≠ 0) ∨
    (findAt (fun y => matrix_reduce_1 y (c : Int)) (k : Int) m = some (-1) ∧ ∀ j, j < m.length → co (m.getD j []) c = 0)
  | [], k, _ => .inr ⟨rfl, fun j h => by simp at h⟩
  | r :: m, k, h => by
    have h0 : c < r.length := h 0 (by simp)
    have e : matrix_reduce_1 r (c : Int) = some (!decide (co r c = 0)) := by unfold matrix_reduce_1; rw [idx_co h0, Option.bind_some]
    unfold findAt
    rw [e, Option.bind_some]
    by_cases hz : co r c = 0
    · rw [if_neg (by simp [hz])]
      rcases find_row c m (k + 1) (fun j hj => by have := h (j + 1) (by simp; omega); simpa using this) with ⟨j, h1, h2, h3⟩ | ⟨h2, h3⟩
      · left
        refine ⟨j + 1, by simp; omega, ?_, by simpa using h3⟩
        rw [show ((k : Int) + 1) = ((k + 1 : Nat) : Int) by omega, h2]; congr 1; omega
      · right
        refine ⟨by rw [show ((k : Int) + 1) = ((k + 1 : Nat) : Int) by omega, h2], fun j hj => ?_⟩
        cases j with
        | zero => simpa using hz
        | succ j => simpa using h3 j (by simp at hj; omega)
    · left
      refine ⟨0, by simp, ?_, by simpa using hz⟩
      rw [if_pos (by simp [hz])]; simp
theorem loopEx {S X Y : Type} {body : S → Option (S ⊕ X)} {s0 : S} {g : X → Option Y} {post : X → Prop} {Q : Y → Prop} (h : ∃ x, iterC body s0 = some x ∧ post x) (hg : ∀ x, post x → ∃ y, g x = some y ∧ Q y) : ∃ y, (iterC body s0).bind g = some y ∧ Q y := by
  obtain ⟨x, e, hp⟩ := h
  obtain ⟨y, e2, hq⟩ := hg x hp
  exact ⟨y, by rw [e]; exact e2, hq⟩
theorem loopIn {S X Y Z : Type} {body : S → Option (S ⊕ X)} {s0 : S} {g : X → Option (Y ⊕ Z)} {post : X → Prop} {Q : Y → Prop} (h : ∃ x, iterC body s0 = some x ∧ post x) (hg : ∀ x, post x → ∃ y, g x = some (.inl y) ∧ Q y) : ∃ y, (iterC body s0).bind g = some (.inl y) ∧ Q y := by
  obtain ⟨x, e, hp⟩ := h
  obtain ⟨y, e2, hq⟩ := hg x hp
  exact ⟨y, by rw [e]; exact e2, hq⟩
theorem reduce_ok (l : List (List UInt8)) (d c : Nat) (hn : l.length ≤ 1000) (hd : d ≤ 1000) (hr : ∀ i, i < l.length → (l.getD i []).length = d) (hc : c ≤ d) :
    ∃ y, matrix_reduce true l (c : Int) = some y ∧ ∃ ln : List Nat, y.2 = ln.map (fun (n : Nat) => (n : Int)) ∧ Red l y.1 d ln c := by
  unfold matrix_reduce
  have hm : 1000 < most := by decide
  have hm2 := most_lt'
  refine loopEx (post := fun x : List (List UInt8) × List Int => ∃ ln : List Nat, x.2 = ln.map (fun (n : Nat) => (n : Int)) ∧ Red l x.1 d ln c) (iterC_inv
    (fun s => ∃ (c' : Nat) (ln : List Nat), s.2.2 = (c' : Int) ∧ s.2.1 = ln.map (fun (n : Nat) => (n : Int)) ∧ c' ≤ c ∧ Red l s.1 d ln c') (fun s => c - s.2.2.toNat)
    _ (by
      rintro ⟨s, q, _⟩ ⟨c', ln, rfl, rfl, hc', hR⟩
      simp only at hR ⊢
      have hsl : s.length = l.length := hR.len
      have hle := hR.le
      by_cases hcc : c' < c
      · rw [if_pos (by omega), List.length_map]
        by_cases ha : ln.length < s.length
        · left
          rw [if_pos (by omega), subL_nat _ _ _ (by omega) (Nat.le_refl _), Option.bind_some, lim_of (by simp; omega), Option.bind_some]
          have hsub : ∀ j, (((s.take s.length).drop ln.length).getD j []) = s.getD (ln.length + j) [] := fun j => by simp [List.getD_eq_getElem?_getD, List.getElem?_drop]
          have hsubl : ((s.take s.length).drop ln.length).length = s.length - ln.length := by simp
          rcases find_row c' ((s.take s.length).drop ln.length) 0 (fun j hj => by rw [hsub, hR.rc _ (by omega)]; omega) with ⟨j, hj, hf, hne⟩ | ⟨hf, hz⟩
          · replace hf : findAt (fun y => matrix_reduce_1 y (c' : Int)) 0 ((s.take s.length).drop ln.length) = _ := hf
            rw [hf, Option.bind_some, if_neg (by omega)]
            rw [hsub] at hne
            rw [Nat.zero_add]
            have hjl : ln.length + j < s.length := by omega
            rw [show ((ln.length : Int) + (j : Int)) = ((ln.length + j : Nat) : Int) by omega, wI_nat (by omega), idx_getD hjl, Option.bind_some, idx_getD ha, Option.bind_some, Int.toNat_natCast, Int.toNat_natCast]
            rw [idx_getD (by simp; omega), Option.bind_some, idx_getD (by simp; omega), Option.bind_some]
            have e38 : ((s.set ln.length (s.getD (ln.length + j) [])).set (ln.length + j) (s.getD ln.length [])).getD ln.length [] = s.getD (ln.length + j) [] := by
              rw [getD_set (by simp; omega)]
              by_cases h0 : ln.length = ln.length + j
              · rw [if_pos h0]; exact congrArg (fun k => s.getD k []) h0
              · rw [if_neg h0, getD_set (by omega), if_pos rfl]
            rw [e38, idx_co (by rw [hR.rc _ hjl]; omega), Option.bind_some, Inv_eq, Option.bind_some, if_neg hne, Option.bind_some]
            simp only
            rw [Scale_eq _ _ (by rw [hR.rc _ hjl]; omega), Option.bind_some]
            obtain ⟨piv, hpiv⟩ : ∃ piv, piv = (s.getD (ln.length + j) []).map (mul (inv (co (s.getD (ln.length + j) []) c'))) := ⟨_, rfl⟩
            rw [← hpiv]
            have hpl : piv.length = d := by rw [hpiv, List.length_map, hR.rc _ hjl]
            obtain ⟨s3, hs3⟩ : ∃ s3, s3 = ((s.set ln.length (s.getD (ln.length + j) [])).set (ln.length + j) (s.getD ln.length [])).set ln.length piv := ⟨_, rfl⟩
            rw [← hs3]
            have h3l : s3.length = s.length := by rw [hs3]; simp
            have h3a : s3.getD ln.length [] = piv := by rw [hs3, getD_set (by simp; omega), if_pos rfl]
            have h3k : ∀ k, k < s.length → k ≠ ln.length → s3.getD k [] = s.getD (if k = ln.length + j then ln.length else k) [] := fun k hk hka => by
              rw [hs3, getD_set (by simp; omega), if_neg hka, getD_set (by simp; omega)]
              by_cases h0 : k = ln.length + j
              · rw [if_pos h0, if_pos h0]
              · rw [if_neg h0, if_neg h0, getD_set (by omega), if_neg hka]
            rw [h3l]
            refine loopIn (iterC_up (fun i t => t.length = s.length ∧ t.getD ln.length [] = piv ∧ ∀ k, k < s.length → k ≠ ln.length → t.getD k [] = if k < i then sumL (s3.getD k []) (co (s3.getD k []) c') piv else s3.getD k []) s.length (fun t => t.length = s.length ∧ t.getD ln.length [] = piv ∧ ∀ k, k < s.length → k ≠ ln.length → t.getD k [] = sumL (s3.getD k []) (co (s3.getD k []) c') piv)
              ⟨h3l, h3a, fun k hk hka => by rw [if_neg (by omega)]⟩ (by
                intro i t hi hI
                obtain ⟨h1, h2, h3⟩ := hI
                simp only
                rw [if_pos (by omega)]
                by_cases hia : i = ln.length
                · rw [if_pos (by omega), wI_succ i (by omega)]
                  refine ⟨t, rfl, h1, h2, fun k hk hka => ?_⟩
                  rw [h3 k hk hka]
                  by_cases hki : k < i
                  · rw [if_pos hki, if_pos (by omega)]
                  · rw [if_neg hki, if_neg (by omega)]
                · rw [if_neg (by omega), idx_getD (by omega), Option.bind_some]
                  have hti := h3 i hi hia
                  rw [if_neg (by omega)] at hti
                  have hrl : (s3.getD i []).length = d := by
                    rw [h3k i hi hia]
                    exact hR.rc _ (by split <;> omega)
                  rw [hti, idx_co (by omega), Option.bind_some, idx_getD (by omega), Option.bind_some, h2, Sum_eq _ _ _ (by omega), Option.bind_some, wI_succ i (by omega), Int.toNat_natCast]
                  refine ⟨_, rfl, by simpa using h1, by rw [getD_set (by omega), if_neg (by omega), h2], fun k hk hka => ?_⟩
                  rw [getD_set (by omega)]
                  by_cases hki : k = i
                  · rw [if_pos hki, if_pos (by omega), hki]
                  · rw [if_neg hki, h3 k hk hka]
                    by_cases hlt : k < i
                    · rw [if_pos hlt, if_pos (by omega)]
                    · rw [if_neg hlt, if_neg (by omega)]) (by
                intro t hI
                obtain ⟨h1, h2, h3⟩ := hI
                refine ⟨t, by simp only; rw [if_neg (by omega)], h1, h2, fun k hk hka => ?_⟩
                rw [h3 k hk hka, if_pos hk])) ?_
            rintro s4 ⟨h4l, h4a, h4k⟩
            rw [appL_ok _ _ (by simp; omega) rfl, Option.bind_some, wI_succ c' (by omega)]
            refine ⟨_, rfl, ⟨c' + 1, ln ++ [c'], rfl, by simp, by omega, ?_⟩, by simp only [Int.toNat_natCast]; omega⟩
            refine hR.lead (by omega) (ln.length + j) (by omega) hjl hne s4 h4l (fun i hi => ?_) (fun i hi => ?_) (fun k hk hka i hi => ?_)
            · by_cases hia : i = ln.length
              · rw [hia, h4a, hpl]
              · rw [h4k i (by omega) hia, sumL_len, h3k i (by omega) hia]
                exact hR.rc _ (by split <;> omega)
            · rw [h4a, hpiv, co_map]
            · rw [h4k k hk hka, co_sumL, h4a, if_pos (by rw [h3k k hk hka, hR.rc _ (by split <;> omega)]; exact hi), h3k k hk hka]
          · replace hf : findAt (fun y => matrix_reduce_1 y (c' : Int)) 0 ((s.take s.length).drop ln.length) = _ := hf
            rw [hf, Option.bind_some, if_pos (by decide), wI_succ c' (by omega)]
            refine ⟨_, rfl, ⟨c' + 1, ln, rfl, rfl, by omega, hR.skip (by omega) fun k h1 h2 => ?_⟩, by simp only [Int.toNat_natCast]; omega⟩
            have := hz (k - ln.length) (by omega)
            rwa [hsub, show ln.length + (k - ln.length) = k by omega] at this
        · right
          rw [if_neg (by omega)]
          refine ⟨_, rfl, ln, rfl, ?_⟩
          have := hR.full (by omega) (c - c') (by omega)
          rwa [show c' + (c - c') = c by omega] at this
      · right
        rw [if_neg (by omega)]
        obtain rfl : c' = c := by omega
        exact ⟨_, rfl, ln, rfl, hR⟩) (l, [], 0) ⟨0, [], rfl, rfl, Nat.zero_le _, Red.start l d hr⟩) (fun x hx => ⟨_, rfl, hx⟩)
end Gk

/- Chapter 4: ranks, in plain Lean; the law MatrixRules. No condition but lengths. -/
set_option linter.unusedSimpArgs false
set_option linter.unusedVariables false
namespace Gk
open Gf
end Gk

/- Determinants and ranks over GF(256), in plain Lean. No condition. -/
set_option linter.unusedSimpArgs false
set_option linter.unusedVariables false
namespace Gk
open Gf
def minor (M : Nat → Nat → UInt8) (i : Nat) : Nat → Nat → UInt8 := fun r c => M (if r < i then r else r + 1) (c + 1)
def dt : Nat → (Nat → Nat → UInt8) → UInt8
  | 0, _ => 1
  | n + 1, M => sm (fun i => mul (M i 0) (dt n (minor M i))) (n + 1)
theorem dt_congr : ∀ (n : Nat) (M M' : Nat → Nat → UInt8), (∀ i j, i < n → j < n → M i j = M' i j) → dt n M = dt n M'
  | 0, _, _, _ => rfl
  | n + 1, M, M', h => by
    unfold dt
    refine sm_congr _ fun i hi => ?_
    rw [h i 0 hi (by omega), dt_congr n (minor M i) (minor M' i) fun r c hr hc => h _ _ (by split <;> omega) (by omega)]
def updr (M : Nat → Nat → UInt8) (r : Nat) (a : Nat → UInt8) : Nat → Nat → UInt8 := fun i => if i = r then a else M i
theorem updr_at (M : Nat → Nat → UInt8) (r : Nat) (a : Nat → UInt8) : updr M r a r = a := by unfold updr; rw [if_pos rfl]
theorem updr_ne (M : Nat → Nat → UInt8) {r i : Nat} (a : Nat → UInt8) (h : i ≠ r) : updr M r a i = M i := by unfold updr; rw [if_neg h]
theorem updr_self (M : Nat → Nat → UInt8) (r : Nat) : updr M r (M r) = M := by
  funext i; unfold updr
  by_cases h : i = r
  · rw [if_pos h, h]
  · rw [if_neg h]
theorem minor_self (M : Nat → Nat → UInt8) (r : Nat) (a : Nat → UInt8) : minor (updr M r a) r = minor M r := by
  funext i c; unfold minor updr
  by_cases h : i < r
  · rw [if_pos h, if_neg (by omega)]
  · rw [if_neg h, if_neg (by omega)]
theorem minor_updr (M : Nat → Nat → UInt8) (r k : Nat) (a : Nat → UInt8) (h : k ≠ r) : minor (updr M r a) k = updr (minor M k) (if r < k then r else r - 1) (fun c => a (c + 1)) := by
  funext i c; unfold minor updr
  by_cases h1 : i < k
  · rw [if_pos h1]
    by_cases h2 : i = r
    · rw [if_pos h2, if_pos (by rw [if_pos (by omega)]; exact h2)]
    · rw [if_neg h2, if_neg (by split <;> omega)]; simp only; rw [if_pos h1]
  · rw [if_neg h1]
    by_cases h2 : i + 1 = r
    · rw [if_pos h2, if_pos (by rw [if_neg (by omega)]; omega)]
    · rw [if_neg h2, if_neg (by split <;> omega)]; simp only; rw [if_neg h1]
theorem dt_lin : ∀ (n : Nat) (M : Nat → Nat → UInt8) (r : Nat) (a b : Nat → UInt8) (x : UInt8), r < n → dt n (updr M r (fun c => a c ^^^ mul x (b c))) = dt n (updr M r a) ^^^ mul x (dt n (updr M r b))
  | 0, _, r, _, _, _, h => by omega
  | n + 1, M, r, a, b, x, h => by
    unfold dt
    rw [← la_mul, ← la_add]
    refine sm_congr _ fun i hi => ?_
    by_cases e : i = r
    · subst e
      rw [updr_at, updr_at, updr_at, minor_self, minor_self, minor_self, add_mul, mul_assoc]
    · rw [updr_ne _ _ e, updr_ne _ _ e, updr_ne _ _ e, minor_updr _ _ _ _ e, minor_updr _ _ _ _ e, minor_updr _ _ _ _ e, dt_lin n (minor M i) _ (fun c => a (c + 1)) (fun c => b (c + 1)) x (by split <;> omega), mul_add, mul_left_comm x]
theorem sm_two (f : Nat → UInt8) (i : Nat) : ∀ n, i + 1 < n → f i = f (i + 1) → (∀ k, k < n → k ≠ i → k ≠ i + 1 → f k = 0) → sm f n = 0
  | 0, h, _, _ => by omega
  | n + 1, h, e, hz => by
    unfold sm
    by_cases hn : i + 1 = n
    · have h1 : sm f n = f i := by
        rw [sm_one f i n (fun k hk hki => hz k (by omega) hki (by omega)), if_pos (by omega)]
      rw [h1, e, hn, xor_self]
    · rw [sm_two f i n (by omega) e (fun k hk => hz k (by omega)), hz n (by omega) (by omega) (by omega)]; rfl
theorem dt_adj : ∀ (n : Nat) (M : Nat → Nat → UInt8) (i : Nat), i + 1 < n → M i = M (i + 1) → dt n M = 0
  | 0, _, _, h, _ => by omega
  | n + 1, M, i, h, e => by
    unfold dt
    refine sm_two _ i (n + 1) h ?_ ?_
    · have : minor M i = minor M (i + 1) := by
        funext r c; unfold minor
        by_cases h1 : r < i
        · rw [if_pos h1, if_pos (by omega)]
        · by_cases h2 : r = i
          · rw [if_neg h1, if_pos (by omega), h2, e]
          · rw [if_neg h1, if_neg (by omega)]
      rw [this, e]
    · intro k hk h1 h2
      have : dt n (minor M k) = 0 := by
        by_cases h3 : k < i
        · refine dt_adj n (minor M k) (i - 1) (by omega) ?_
          funext c; unfold minor
          rw [if_neg (by omega), if_neg (by omega), show i - 1 + 1 = i by omega, e]
        · refine dt_adj n (minor M k) i (by omega) ?_
          funext c; unfold minor
          rw [if_pos (by omega), if_pos (by omega), e]
      rw [this, mul_zero]
theorem dt_swap (n : Nat) (M : Nat → Nat → UInt8) (i : Nat) (h : i + 1 < n) : dt n (updr (updr M i (M (i + 1))) (i + 1) (M i)) = dt n M := by
  have X : ∀ p q r : Nat → UInt8, updr (updr M i p) (i + 1) q = updr (updr M (i + 1) q) i p := fun p q r => by
    funext k; unfold updr
    by_cases h1 : k = i + 1
    · rw [if_pos h1, if_neg (by omega), if_pos h1]
    · rw [if_neg h1]
      by_cases h2 : k = i
      · rw [if_pos h2, if_pos h2]
      · rw [if_neg h2, if_neg h2, if_neg h1]
  have same : ∀ p : Nat → UInt8, dt n (updr (updr M i p) (i + 1) p) = 0 := fun p => dt_adj n _ i h (by
    rw [updr_at, updr_ne _ _ (by omega), updr_at])
  have L1 : ∀ p q r : Nat → UInt8, dt n (updr (updr M i p) (i + 1) (fun c => q c ^^^ mul 1 (r c))) = dt n (updr (updr M i p) (i + 1) q) ^^^ dt n (updr (updr M i p) (i + 1) r) := fun p q r => by
    rw [dt_lin n _ _ q r 1 h, one_mul]
  have L2 : ∀ p q r : Nat → UInt8, dt n (updr (updr M i (fun c => q c ^^^ mul 1 (r c))) (i + 1) p) = dt n (updr (updr M i q) (i + 1) p) ^^^ dt n (updr (updr M i r) (i + 1) p) := fun p q r => by
    rw [X _ _ p, X _ _ p, X _ _ p, dt_lin n _ _ q r 1 (by omega), one_mul]
  have h0 := same (fun c => M i c ^^^ mul 1 (M (i + 1) c))
  rw [L1, L2, L2, same, same] at h0
  rw [zero_xor, xor_zero] at h0
  have h1 := xor_eq_zero h0
  rw [h1]
  congr 1
  rw [updr_self]
  have : updr M (i + 1) (M (i + 1)) = M := updr_self M (i + 1)
  exact this
theorem dt_same (n : Nat) : ∀ (d : Nat) (M : Nat → Nat → UInt8) (i : Nat), i + d + 1 < n → M i = M (i + d + 1) → dt n M = 0
  | 0, M, i, h, e => dt_adj n M i h e
  | d + 1, M, i, h, e => by
    rw [← dt_swap n M (i + d + 1) (by omega)]
    refine dt_same n d _ i (by omega) ?_
    rw [updr_ne _ _ (by omega), updr_ne _ _ (by omega), updr_ne _ _ (by omega), updr_at]
    exact e
theorem dt_eqr (n : Nat) (M : Nat → Nat → UInt8) (i j : Nat) (hi : i < n) (hj : j < n) (hij : i ≠ j) (e : M i = M j) : dt n M = 0 := by
  by_cases h : i < j
  · exact dt_same n (j - i - 1) M i (by omega) (by rw [show i + (j - i - 1) + 1 = j by omega]; exact e)
  · exact dt_same n (i - j - 1) M j (by omega) (by rw [show j + (i - j - 1) + 1 = i by omega]; exact e.symm)
theorem dt_row (n : Nat) (M : Nat → Nat → UInt8) (k a : Nat) (x : UInt8) (hk : k < n) (ha : a < n) (h : k ≠ a) : dt n (updr M k (fun c => M k c ^^^ mul x (M a c))) = dt n M := by
  rw [dt_lin n M k (M k) (M a) x hk, updr_self, dt_eqr n (updr M k (M a)) k a hk ha h (by rw [updr_at, updr_ne _ _ (Ne.symm h)]), mul_zero, xor_zero]
def clr (M : Nat → Nat → UInt8) (i : Nat) (y : Nat → UInt8) (t : Nat) : Nat → Nat → UInt8 := fun k c => if k < t ∧ k ≠ i then M k c ^^^ mul (y k) (M i c) else M k c
theorem dt_clr (n : Nat) (M : Nat → Nat → UInt8) (i : Nat) (y : Nat → UInt8) (hi : i < n) : ∀ t, t ≤ n → dt n (clr M i y t) = dt n M
  | 0, _ => congrArg _ (by funext k c; unfold clr; rw [if_neg (by omega)])
  | t + 1, ht => by
    rw [← dt_clr n M i y hi t (by omega)]
    by_cases e : t = i
    · congr 1; funext k c; unfold clr
      by_cases h1 : k < t ∧ k ≠ i
      · rw [if_pos h1, if_pos ⟨by omega, h1.2⟩]
      · rw [if_neg h1, if_neg (by omega)]
    · rw [← dt_row n (clr M i y t) t i (y t) (by omega) hi e]
      congr 1; funext k c; unfold updr
      by_cases h1 : k = t
      · rw [if_pos h1, h1]
        unfold clr
        rw [if_pos ⟨by omega, e⟩, if_neg (by omega), if_neg (by omega)]
      · rw [if_neg h1]; unfold clr
        by_cases h2 : k < t ∧ k ≠ i
        · rw [if_pos h2, if_pos ⟨by omega, h2.2⟩]
        · rw [if_neg h2, if_neg (by omega)]
def KerF (n : Nat) (M : Nat → Nat → UInt8) (v : Nat → UInt8) : Prop := ∀ i, i < n → sm (fun k => mul (M i k) (v k)) n = 0
theorem la_front2 (f : Nat → UInt8) : ∀ n, sm f (n + 1) = f 0 ^^^ sm (fun i => f (i + 1)) n
  | 0 => by show 0 ^^^ f 0 = f 0 ^^^ 0; rw [xor_comm]
  | n + 1 => by
    show sm f (n + 1) ^^^ f (n + 1) = f 0 ^^^ (sm (fun i => f (i + 1)) n ^^^ f (n + 1))
    rw [la_front2 f n, xor_assoc]
theorem kerF_clr (n : Nat) (M : Nat → Nat → UInt8) (i : Nat) (y : Nat → UInt8) (hi : i < n) (v : Nat → UInt8) : KerF n (clr M i y n) v ↔ KerF n M v := by
  have e : ∀ k, k ≠ i → k < n → sm (fun c => mul (clr M i y n k c) (v c)) n = sm (fun c => mul (M k c) (v c)) n ^^^ mul (y k) (sm (fun c => mul (M i c) (v c)) n) := fun k hk hkn => by
    rw [← la_mul, ← la_add]
    refine sm_congr _ fun c _ => ?_
    unfold clr
    rw [if_pos ⟨hkn, hk⟩, add_mul, mul_assoc]
  have ei : sm (fun c => mul (clr M i y n i c) (v c)) n = sm (fun c => mul (M i c) (v c)) n := sm_congr _ fun c _ => by
    unfold clr; rw [if_neg (by omega)]
  constructor
  · intro h k hk
    have h0 := h i hi
    rw [ei] at h0
    by_cases hki : k = i
    · rw [hki]; exact h0
    · have := h k hk
      rwa [e k hki hk, h0, mul_zero, xor_zero] at this
  · intro h k hk
    by_cases hki : k = i
    · rw [hki, ei]; exact h i hi
    · rw [e k hki hk, h k hk, h i hi, mul_zero]; rfl
theorem dt_ker : ∀ (n : Nat) (M : Nat → Nat → UInt8), dt n M ≠ 0 ↔ ∀ v, KerF n M v → ∀ k, k < n → v k = 0
  | 0, M => ⟨fun _ v _ k hk => by omega, fun _ => by show (1 : UInt8) ≠ 0; decide⟩
  | n + 1, M => by
    by_cases hz : ∀ i, i < n + 1 → M i 0 = 0
    · have h0 : dt (n + 1) M = 0 := la_zero _ fun i hi => by rw [hz i hi, zero_mul]
      constructor
      · intro h; exact absurd h0 h
      · intro h
        have := h (fun k => if k = 0 then 1 else 0) (fun i hi => by
          rw [la_front2]
          simp only
          rw [if_pos trivial, hz i hi, zero_mul, la_zero n (fun k hk => by rw [if_neg (by omega), mul_zero])]; rfl) 0 (by omega)
        simp at this
    · obtain ⟨i, hi, hne⟩ : ∃ i, i < n + 1 ∧ M i 0 ≠ 0 := Classical.byContradiction fun hn => hz fun i hi => Classical.byContradiction fun h2 => hn ⟨i, hi, h2⟩
      obtain ⟨y, hy⟩ : ∃ y : Nat → UInt8, y = fun k => mul (M k 0) (inv (M i 0)) := ⟨_, rfl⟩
      have hc0 : ∀ k, k < n + 1 → k ≠ i → clr M i y (n + 1) k 0 = 0 := fun k hk hki => by
        unfold clr
        rw [if_pos ⟨hk, hki⟩, hy]
        simp only
        rw [mul_assoc, inv_mul hne, mul_one, xor_self]
      have hci : ∀ c, clr M i y (n + 1) i c = M i c := fun c => by unfold clr; rw [if_neg (by omega)]
      have hd : dt (n + 1) M = mul (M i 0) (dt n (minor (clr M i y (n + 1)) i)) := by
        rw [← dt_clr (n + 1) M i y hi (n + 1) (Nat.le_refl _)]
        show sm _ (n + 1) = _
        rw [sm_one _ i (n + 1) (fun k hk hki => by rw [hc0 k hk hki, zero_mul]), if_pos hi, hci]
      have ih := dt_ker n (minor (clr M i y (n + 1)) i)
      have h1 : dt (n + 1) M ≠ 0 ↔ dt n (minor (clr M i y (n + 1)) i) ≠ 0 := by
        rw [hd]
        exact ⟨fun h e => h (by rw [e, mul_zero]), fun h => mul_ne hne h⟩
      rw [h1, ih]
      -- rows of the rest, behind their first number
      have hrow : ∀ (v : Nat → UInt8) k, k < n + 1 → k ≠ i → sm (fun c => mul (clr M i y (n + 1) k c) (v c)) (n + 1) = sm (fun c => mul (clr M i y (n + 1) k (c + 1)) (v (c + 1))) n := fun v k hk hki => by
        rw [la_front2, hc0 k hk hki, zero_mul, zero_xor]
      constructor
      · intro h v hv
        have hv2 := (kerF_clr (n + 1) M i y hi v).2 hv
        have ht : ∀ k, k < n → v (k + 1) = 0 := h (fun c => v (c + 1)) (fun r hr => by
          unfold minor
          by_cases hri : r < i
          · rw [if_pos hri]
            have := hv2 r (by omega)
            rwa [hrow v r (by omega) (by omega)] at this
          · rw [if_neg hri]
            have := hv2 (r + 1) (by omega)
            rwa [hrow v (r + 1) (by omega) (by omega)] at this)
        have h0 : v 0 = 0 := by
          have := hv i hi
          rw [la_front2, la_zero n (fun k hk => by rw [ht k hk, mul_zero]), xor_zero] at this
          rcases mul_eq_zero this with e | e
          · exact absurd e hne
          · exact e
        intro k hk
        cases k with
        | zero => exact h0
        | succ k => exact ht k (by omega)
      · intro h w hw k hk
        have := h (fun c => if c = 0 then mul (inv (M i 0)) (sm (fun c => mul (M i (c + 1)) (w c)) n) else w (c - 1)) ((kerF_clr (n + 1) M i y hi _).1 fun k hk => by
          by_cases hki : k = i
          · rw [hki, la_front2]
            simp only
            rw [if_pos trivial, hci, ← mul_assoc, mul_inv hne, one_mul]
            have : sm (fun c => mul (clr M i y (n + 1) i (c + 1)) (if c + 1 = 0 then mul (inv (M i 0)) (sm (fun c => mul (M i (c + 1)) (w c)) n) else w (c + 1 - 1))) n = sm (fun c => mul (M i (c + 1)) (w c)) n := sm_congr _ fun c _ => by
              rw [if_neg (by omega), hci, show c + 1 - 1 = c by omega]
            rw [this, xor_self]
          · rw [hrow _ k hk hki]
            by_cases hri : k < i
            · refine Eq.trans (sm_congr n fun c _ => ?_) (hw k (by omega))
              rw [if_neg (by omega), show c + 1 - 1 = c by omega]
              unfold minor; rw [if_pos hri]
            · refine Eq.trans (sm_congr n fun c _ => ?_) (hw (k - 1) (by omega))
              rw [if_neg (by omega), show c + 1 - 1 = c by omega]
              unfold minor; rw [if_neg (by omega), show k - 1 + 1 = k by omega]) (k + 1) (by omega)
        rwa [if_neg (by omega), show k + 1 - 1 = k by omega] at this
end Gk

/- Ranks are the sizes of the greatest squares that have a determinant, in plain Lean. No condition. -/
set_option linter.unusedSimpArgs false
set_option linter.unusedVariables false
namespace Gk
open Gf
theorem Red.next {l0 l1 : List (List UInt8)} {d : Nat} {ln : List Nat} {c : Nat} (h : Red l0 l1 d ln c) (hc : c < d) (hx : ∃ j, ln.length ≤ j ∧ j < l1.length ∧ co (l1.getD j []) c ≠ 0) : ∃ l', Red l0 l' d (ln ++ [c]) (c + 1) := by
  obtain ⟨j, h1, h2, h3⟩ := hx
  let piv : List UInt8 := (List.range d).map fun i => mul (inv (co (l1.getD j []) c)) (co (l1.getD j []) i)
  let s : Nat → List UInt8 := fun k => l1.getD (if k = j then ln.length else k) []
  refine ⟨(List.range l1.length).map fun k => if k = ln.length then piv else (List.range d).map fun i => co (s k) i ^^^ mul (co (s k) c) (co piv i), h.lead hc j h1 h2 h3 _ (by simp) ?_ ?_ ?_⟩
  · intro i hi
    rw [List.length_map, List.length_range] at hi
    rw [getD_tab _ _ _ hi]
    by_cases e : i = ln.length
    · rw [if_pos e]; simp [piv]
    · rw [if_neg e]; simp
  · intro i hi
    rw [getD_tab _ _ _ (by omega), if_pos rfl, co_tab, if_pos hi]
  · intro k hk hka i hi
    rw [getD_tab _ _ _ hk, if_neg hka, getD_tab _ _ _ (by omega), if_pos rfl, co_tab, if_pos hi]
theorem Red.existS (l : List (List UInt8)) (d : Nat) (hr : ∀ i, i < l.length → (l.getD i []).length = d) : ∀ c, c ≤ d → ∃ (l' : List (List UInt8)) (ln : List Nat), Red l l' d ln c ∧ ln.Sublist (List.range c)
  | 0, _ => ⟨l, [], Red.start l d hr, by simp⟩
  | c + 1, hc => by
    obtain ⟨l1, ln, h, hs⟩ := Red.existS l d hr c (by omega)
    by_cases hz : ∀ k, ln.length ≤ k → k < l1.length → co (l1.getD k []) c = 0
    · exact ⟨l1, ln, h.skip (by omega) hz, by rw [List.range_succ]; exact hs.trans (List.sublist_append_left _ _)⟩
    · obtain ⟨l', h'⟩ := h.next (by omega) (Classical.byContradiction fun hn => hz fun k h1 h2 => Classical.byContradiction fun h3 => hn ⟨k, h1, h2, h3⟩)
      exact ⟨l', _, h', by rw [List.range_succ]; exact hs.append_right _⟩
def enP (l : List (List UInt8)) (S T : List Nat) : Nat → Nat → UInt8 := fun a b => co (l.getD (S.getD a 0) []) (T.getD b 0)
theorem rank_up {l l' : List (List UInt8)} {d : Nat} {ln S T : List Nat} (h : Red l l' d ln d) (hS : ∀ a, a < S.length → S.getD a 0 < l.length) (hT : ∀ b, b < T.length → T.getD b 0 < d) (hST : S.length = T.length) (hd : dt S.length (enP l S T) ≠ 0) : S.length ≤ ln.length := by
  refine h.most (A := fun t k => if k = T.getD t 0 then 1 else 0) fun y hy t ht => ?_
  refine (dt_ker S.length (enP l S T)).1 hd y (fun a ha => ?_) t ht
  have := hy (S.getD a 0) (hS a ha)
  rw [ld_comb] at this
  refine Eq.trans (sm_congr _ fun b hb => ?_) this
  rw [ld_unit _ _ _ (hT b (by omega)), mul_comm]; rfl
theorem getD_erase (S : List Nat) (q a : Nat) : (S.eraseIdx q).getD a 0 = S.getD (if a < q then a else a + 1) 0 := by
  simp only [List.getD_eq_getElem?_getD, List.getElem?_eraseIdx]
  split <;> rfl
theorem rank_cut (C : Nat → Nat → UInt8) (R n : Nat) : ∀ (m : Nat) (S : List Nat), S.Sublist (List.range n) → S.length = R + m → (∀ y : Nat → UInt8, (∀ a, a < S.length → sm (fun t => mul (C (S.getD a 0) t) (y t)) R = 0) → ∀ t, t < R → y t = 0) →
    ∃ S' : List Nat, S'.Sublist (List.range n) ∧ S'.length = R ∧ (∀ y : Nat → UInt8, (∀ a, a < S'.length → sm (fun t => mul (C (S'.getD a 0) t) (y t)) R = 0) → ∀ t, t < R → y t = 0)
  | 0, S, hs, hl, hP => ⟨S, hs, hl, hP⟩
  | m + 1, S, hs, hl, hP => by
    let B : List (List UInt8) := (List.range R).map fun t => (List.range S.length).map fun a => C (S.getD a 0) t
    have hB : B.length = R := by simp [B]
    obtain ⟨z, hz, q, hq, hzq⟩ := ker_wide B S.length (fun i hi => by rw [hB] at hi; simp only [B]; rw [getD_tab _ _ _ hi]; simp) (by omega)
    have hlen : (S.eraseIdx q).length = R + m := by rw [List.length_eraseIdx, if_pos hq]; omega
    refine rank_cut C R n m (S.eraseIdx q) ((List.eraseIdx_sublist S q).trans hs) hlen fun y hy => hP y ?_
    have hne : ∀ a, a < S.length → a ≠ q → sm (fun t => mul (C (S.getD a 0) t) (y t)) R = 0 := fun a ha haq => by
      by_cases h1 : a < q
      · have := hy a (by omega)
        rwa [getD_erase, if_pos h1] at this
      · have := hy (a - 1) (by omega)
        rwa [getD_erase, if_neg (by omega), show a - 1 + 1 = a by omega] at this
    have hq0 : sm (fun t => mul (C (S.getD q 0) t) (y t)) R = 0 := by
      have h1 : sm (fun a => mul (z a) (sm (fun t => mul (C (S.getD a 0) t) (y t)) R)) S.length = 0 := by
        have h2 : sm (fun a => mul (z a) (sm (fun t => mul (C (S.getD a 0) t) (y t)) R)) S.length = sm (fun a => sm (fun t => mul (y t) (mul (C (S.getD a 0) t) (z a))) R) S.length := sm_congr _ fun a _ => by
          rw [← la_mul]; exact sm_congr _ fun t _ => by rw [mul_comm (z a), mul_comm (C (S.getD a 0) t) (y t), mul_assoc]
        rw [h2, la_swap]
        refine la_zero _ fun t ht => ?_
        rw [la_mul]
        have := hz t (by omega)
        simp only [B] at this
        rw [getD_tab _ _ _ ht] at this
        unfold ld at this
        rw [show sm (fun a => mul (C (S.getD a 0) t) (z a)) S.length = 0 from Eq.trans (sm_congr _ fun a ha => by rw [co_tab, if_pos ha]) this, mul_zero]
      rw [sm_one _ q S.length (fun a ha haq => by rw [hne a ha haq, mul_zero]), if_pos hq] at h1
      rcases mul_eq_zero h1 with e | e
      · exact absurd e hzq
      · exact e
    intro a ha
    by_cases haq : a = q
    · rw [haq]; exact hq0
    · exact hne a ha haq
theorem rank_down (l : List (List UInt8)) (d : Nat) (hr : ∀ i, i < l.length → (l.getD i []).length = d) : ∃ (l' : List (List UInt8)) (ln S : List Nat), Red l l' d ln d ∧ ln.Sublist (List.range d) ∧ S.Sublist (List.range l.length) ∧ S.length = ln.length ∧ dt ln.length (enP l S ln) ≠ 0 := by
  obtain ⟨l', ln, h, hs⟩ := Red.existS l d hr d (Nat.le_refl _)
  have hle := h.le
  have hll := h.len
  obtain ⟨S, hS, hSl, hP⟩ := rank_cut (fun i t => co (l.getD i []) (ln.getD t 0)) ln.length l.length (l.length - ln.length) (List.range l.length) (List.Sublist.refl _) (by rw [List.length_range]; omega) (fun y hy => h.ind y fun i hi => by
    have := hy i (by rw [List.length_range]; exact hi)
    rw [getD_rng _ _ hi] at this
    rw [ld_comb]
    refine Eq.trans (sm_congr _ fun t ht => ?_) this
    rw [ld_unit _ _ _ (h.lt t ht), mul_comm])
  refine ⟨l', ln, S, h, hs, hS, hSl, (dt_ker ln.length (enP l S ln)).2 fun v hv => hP v fun a ha => ?_⟩
  exact hv a (by omega)
end Gk

/- Chapter 4: the document's determinants and ranks, in plain Lean. No condition but lengths. -/
set_option linter.unusedSimpArgs false
set_option linter.unusedVariables false
namespace Gk
open Gf
def en (l : List (List UInt8)) : Nat → Nat → UInt8 := fun i k => co (l.getD i []) k
theorem idx0_co {p : List UInt8} (h : 0 < p.length) : idx p 0 = some (co p 0) := idx_co (i := 0) h
theorem getD_eraseR (l : List (List UInt8)) (q a : Nat) : (l.eraseIdx q).getD a [] = l.getD (if a < q then a else a + 1) [] := by
  simp only [List.getD_eq_getElem?_getD, List.getElem?_eraseIdx]
  split <;> rfl
theorem take_erase (l : List (List UInt8)) (i k : Nat) (hk : k < l.length) : (l.take (k + 1)).eraseIdx i = if k = i then (l.take k).eraseIdx i else (l.take k).eraseIdx i ++ [l.getD k []] := by
  rw [rows_snoc hk]
  have hl : (l.take k).length = k := by simp; omega
  by_cases e : k = i
  · subst e
    rw [if_pos rfl, List.eraseIdx_of_length_le (l := l.take k) (by omega)]
    have := List.eraseIdx_append_of_length_le (l := l.take k) (k := k) (by omega) [l.getD k []]
    rw [this, hl, Nat.sub_self]; simp
  · rw [if_neg e]
    by_cases h : i < k
    · rw [List.eraseIdx_append_of_lt_length (by omega)]
    · rw [List.eraseIdx_of_length_le (by simp; omega), List.eraseIdx_of_length_le (by omega)]
theorem Det_ok : ∀ (n : Nat) (l : List (List UInt8)) (fu : Nat), l.length = n → (∀ i, i < n → (l.getD i []).length = n) → n < fu → n ≤ 100 → ref04_Det_n fu l = some (dt n (en l))
  | _, _, 0, _, _, h, _ => by omega
  | 0, l, fu + 1, hl, _, _, _ => by
    unfold ref04_Det_n
    rw [if_pos (by omega)]; rfl
  | n + 1, l, fu + 1, hl, hr, hf, hn => by
    have hm : 1000 < most := by decide
    have hm2 := most_lt'
    unfold ref04_Det_n
    rw [if_neg (by omega)]
    refine bind_of (x := dt (n + 1) (en l)) (iterC_count (fun i => (sm (fun i => mul (en l i 0) (dt n (minor (en l) i))) i, (i : Int))) (n + 1) _ rfl (fun i hi => ?_) ?_) rfl
    · have hri := hr i hi
      simp only
      rw [if_pos (by omega), idx_getD (by omega), Option.bind_some, idx0_co (by omega), Option.bind_some]
      by_cases hz : co (l.getD i []) 0 = 0
      · rw [if_pos hz, wI_succ i (by omega)]
        have : mul (en l i 0) (dt n (minor (en l) i)) = 0 := by unfold en; rw [hz, zero_mul]
        show _ = some (Sum.inl (sm _ i ^^^ _, _))
        simp only [this, xor_zero]
      · rw [if_neg hz]
        refine bind_of (x := (l.eraseIdx i).map (List.drop 1)) (iterC_count (fun k => (((l.take k).eraseIdx i).map (List.drop 1), (k : Int))) (n + 1) _ (by simp) (fun k hk => ?_) ?_) ?_
        · simp only
          rw [if_pos (by omega), idx_getD (by omega), Option.bind_some, take_erase l i k (by omega)]
          by_cases e : k = i
          · rw [if_pos (by omega), if_pos e, wI_succ k (by omega)]
          · have hs : subL (l.getD k []) 1 ((l.getD k []).length : Int) = some ((l.getD k []).drop 1) := by
              have := subL_nat (l.getD k []) 1 (l.getD k []).length (by have := hr k hk; omega) (Nat.le_refl _)
              rw [List.take_length] at this
              exact this
            rw [if_neg (by omega), if_neg e, hs, Option.bind_some, appL_ok _ _ (by
              have := List.length_eraseIdx (l := l.take k) (i := i)
              have h3 : (l.take k).length = k := by simp; omega
              rw [List.length_map, this]
              split <;> simp <;> omega) rfl, Option.bind_some, wI_succ k (by omega), List.map_append]
            rfl
        · simp only
          rw [if_neg (by omega), List.take_of_length_le (by omega)]
        · have hle : (l.eraseIdx i).length = n := by rw [List.length_eraseIdx, if_pos (by omega)]; omega
          have hg : ∀ r, r < n → ((l.eraseIdx i).map (List.drop 1)).getD r [] = (l.getD (if r < i then r else r + 1) []).drop 1 := fun r hr2 => by
            rw [getD_map _ (by omega), getD_eraseR]
          rw [Option.bind_some, Det_ok n ((l.eraseIdx i).map (List.drop 1)) fu (by rw [List.length_map, hle]) (fun r hr2 => by
            rw [hg r hr2, List.length_drop, hr _ (by split <;> omega)]; omega) (by omega) (by omega), Option.bind_some, refMul_eq, Option.bind_some, wI_succ i (by omega)]
          have : dt n (en ((l.eraseIdx i).map (List.drop 1))) = dt n (minor (en l) i) := dt_congr n _ _ fun r c hr2 _ => by
            unfold en minor
            rw [hg r hr2, co_drop, Nat.add_comm 1 c]
          rw [this]; rfl
    · simp only
      rw [if_neg (by omega)]; rfl
def bitsL (n a : Nat) : List Nat := (List.range n).filter fun i => a.testBit i
theorem bitsL_succ (n a : Nat) : bitsL (n + 1) a = bitsL n a ++ if a.testBit n = true then [n] else [] := by
  unfold bitsL
  rw [List.range_succ, List.filter_append]
  congr 1
  by_cases h : a.testBit n = true <;> simp [h]
theorem bitsL_sub (n a : Nat) : (bitsL n a).Sublist (List.range n) := List.filter_sublist
theorem mask (f : Nat → Bool) : ∀ n, ∃ a, a < 2 ^ n ∧ ∀ i, i < n → a.testBit i = f i
  | 0 => ⟨0, by simp, fun i h => by omega⟩
  | n + 1 => by
    obtain ⟨a, ha, hf⟩ := mask f n
    have h2 : 2 ^ (n + 1) = 2 ^ n + 2 ^ n := by rw [Nat.pow_succ]; omega
    have han := Nat.testBit_lt_two_pow ha
    by_cases h : f n = true
    · refine ⟨2 ^ n + a, by omega, fun i hi => ?_⟩
      by_cases e : i = n
      · rw [e, Nat.testBit_two_pow_add_eq, han, h]; rfl
      · rw [Nat.testBit_two_pow_add_gt (by omega)]; exact hf i (by omega)
    · refine ⟨a, by omega, fun i hi => ?_⟩
      by_cases e : i = n
      · rw [e, han]; cases hb : f n with
        | false => rfl
        | true => exact absurd hb h
      · exact hf i (by omega)
theorem sub_filter : ∀ {S l : List Nat}, S.Sublist l → l.Nodup → l.filter (fun i => decide (i ∈ S)) = S
  | _, _, .slnil, _ => rfl
  | S, _, .cons a (l₂ := l) h, hn => by
    rw [List.nodup_cons] at hn
    have : a ∉ S := fun ha => hn.1 (h.subset ha)
    rw [List.filter_cons, if_neg (by simpa using this)]
    exact sub_filter h hn.2
  | _, _, .cons_cons a (l₁ := S) (l₂ := l) h, hn => by
    rw [List.nodup_cons] at hn
    rw [List.filter_cons, if_pos (by simp)]
    congr 1
    rw [← sub_filter h hn.2]
    refine List.filter_congr fun x hx => ?_
    have : x ≠ a := fun e => hn.1 (e ▸ hx)
    rw [sub_filter h hn.2]
    simp [this]
theorem mask_sub {S : List Nat} {n : Nat} (h : S.Sublist (List.range n)) : ∃ a, a < 2 ^ n ∧ bitsL n a = S := by
  obtain ⟨a, ha, hf⟩ := mask (fun i => decide (i ∈ S)) n
  refine ⟨a, ha, ?_⟩
  rw [← sub_filter h List.nodup_range]
  unfold bitsL
  exact List.filter_congr fun x hx => hf x (by simpa using hx)
theorem bitsL_pos {n a : Nat} (h0 : 1 ≤ a) (h1 : a < 2 ^ n) : 0 < (bitsL n a).length := by
  refine Classical.byContradiction fun hn => ?_
  have he : bitsL n a = [] := List.eq_nil_of_length_eq_zero (by omega)
  have : a = 0 := Nat.eq_of_testBit_eq fun i => by
    rw [Nat.zero_testBit]
    by_cases hi : i < n
    · cases hb : a.testBit i with
      | false => rfl
      | true =>
        have : i ∈ bitsL n a := by unfold bitsL; simp [hi, hb]
        rw [he] at this; cases this
    · exact Nat.testBit_lt_two_pow (Nat.lt_of_lt_of_le h1 (Nat.pow_le_pow_right (by decide) (by omega)))
  omega
theorem sub_lt {S : List Nat} {n : Nat} (h : S.Sublist (List.range n)) (a : Nat) (ha : a < S.length) : S.getD a 0 < n := by
  have : S.getD a 0 ∈ S := by simp [List.getD_eq_getElem?_getD, ha]
  have := h.subset this
  simpa using this
def part (l : List (List UInt8)) (S T : List Nat) : List (List UInt8) := S.map fun i => T.map fun c => co (l.getD i []) c
theorem part_len (l : List (List UInt8)) (S T : List Nat) : (part l S T).length = S.length := by simp [part]
theorem getD_part (l : List (List UInt8)) (S T : List Nat) (a : Nat) (h : a < S.length) : (part l S T).getD a [] = T.map fun c => co (l.getD (S.getD a 0) []) c := by
  unfold part; simp [List.getD_eq_getElem?_getD, h]
theorem co_mapN (T : List Nat) (f : Nat → UInt8) (b : Nat) (h : b < T.length) : co (T.map f) b = f (T.getD b 0) := by
  simp [co, List.getD_eq_getElem?_getD, h]
theorem en_part (l : List (List UInt8)) (S T : List Nat) (s : Nat) (hS : S.length = s) (hT : T.length = s) : dt s (en (part l S T)) = dt s (enP l S T) := dt_congr s _ _ fun a b ha hb => by
  unfold en enP
  rw [getD_part _ _ _ _ (by omega), co_mapN _ _ _ (by omega)]
theorem bit_rem (a i : Nat) (h : i ≤ 64) : remI (shrI (a : Int) i) 2 = some (if a.testBit i = true then 1 else 0) := by
  rw [shrI_nat a i h]
  have := remI_nat (a >>> i) 2 (by decide)
  rw [show ((2 : Nat) : Int) = 2 from rfl] at this
  rw [this, Nat.testBit_eq_decide_div_mod_eq, ← Nat.shiftRight_eq_div_pow]
  by_cases h1 : a >>> i % 2 = 1
  · rw [if_pos (decide_eq_true h1), h1]; rfl
  · rw [if_neg (by rw [decide_eq_true_eq]; exact h1), show a >>> i % 2 = 0 by omega]; rfl
theorem row_part (r : List UInt8) (d b : Nat) (hd : r.length = d) (h : d ≤ 64) (l : List (List UInt8)) (i : Nat) (hi : i < l.length) (hl : (l.getD i []).length = d) : iterC (fun s26 : List UInt8 × Int =>
    (if s26.2 < (r.length : Int) then ((cnt s26.2).bind fun c29 => ((remI ((shrI (b : Int) c29)) 2).bind fun c30 => (if c30 = 1 then ((idx l (i : Int)).bind fun c32 => ((idx c32 s26.2).bind fun c34 => ((appL s26.1 (([c34] : List UInt8))).bind fun c37 => some (.inl (c37, (wI (s26.2 + 1))))))) else some (.inl (s26.1, (wI (s26.2 + 1))))))) else some (.inr s26.1))) (([] : List UInt8), 0) = some ((bitsL d b).map fun c => co (l.getD i []) c) := by
  have hm : 1000 < most := by decide
  refine iterC_count (fun k => ((bitsL k b).map fun c => co (l.getD i []) c, (k : Int))) d _ rfl (fun k hk => ?_) (by simp; omega)
  simp only
  rw [if_pos (by omega), cnt_nat, Option.bind_some, bit_rem b k (by omega), Option.bind_some, bitsL_succ]
  have hbl : (bitsL k b).length ≤ k := by have := (bitsL_sub k b).length_le; simpa using this
  by_cases hb : b.testBit k = true
  · rw [if_pos hb, if_pos rfl, if_pos hb, idx_getD hi, Option.bind_some, idx_co (by omega), Option.bind_some, appL_ok _ _ (by simp; omega) rfl, Option.bind_some, wI_succ k (by omega)]
    simp
  · rw [if_neg hb, if_neg (by decide), if_neg hb, wI_succ k (by omega)]
    simp
end Gk

/- Chapter 4: inverses, in plain Lean. No condition but lengths. -/
set_option linter.unusedSimpArgs false
set_option linter.unusedVariables false
namespace Gk
open Gf
def wth (a b : List (List UInt8)) : List (List UInt8) := (List.range a.length).map fun i => a.getD i [] ++ b.getD i []
theorem wth_len (a b : List (List UInt8)) : (wth a b).length = a.length := by simp [wth]
theorem getD_wth (a b : List (List UInt8)) (i : Nat) (h : i < a.length) : (wth a b).getD i [] = a.getD i [] ++ b.getD i [] := by unfold wth; rw [getD_tab _ _ _ h]
theorem with_ok (a b : List (List UInt8)) (d1 d2 : Nat) (hn : a.length ≤ 1000) (h1 : d1 ≤ 1000) (h2 : d2 ≤ 1000) (hl : b.length = a.length) (hra : ∀ i, i < a.length → (a.getD i []).length = d1) (hrb : ∀ i, i < b.length → (b.getD i []).length = d2) : matrix_with a b = some (wth a b) := by
  unfold matrix_with
  have hm : 3000 < most := by decide
  have hm2 := most_lt'
  refine bind_of (x := wth a b) ?_ rfl
  refine iterC_count (fun i => ((wth a b).take i, (i : Int))) a.length (wth a b) (by simp) (fun i hi => ?_) ?_
  · simp only
    rw [if_pos (by omega), idx_getD hi, Option.bind_some, idx_getD (by omega), Option.bind_some, Concat_eq _ (by have := hra i hi; have := hrb i (by omega); simp only [List.flatten_cons, List.flatten_nil, List.append_nil, List.length_append]; omega) (by simp; omega), Option.bind_some, appL_ok _ _ (by simp [wth_len]; omega) rfl, Option.bind_some, wI_succ i (by omega), rows_snoc (by rw [wth_len]; exact hi), getD_wth _ _ _ hi]
    simp
  · simp only
    rw [if_neg (by omega), List.take_of_length_le (by rw [wth_len]; omega)]
theorem co_appR (a b : List UInt8) (n i : Nat) (h : a.length = n) : co (a ++ b) (n + i) = co b i := by
  subst h; simp [co, List.getD_eq_getElem?_getD, List.getElem?_append_right]
theorem co_appL (a b : List UInt8) (n i : Nat) (h : a.length = n) (hi : i < n) : co (a ++ b) i = co a i := by
  subst h; simp [co, List.getD_eq_getElem?_getD, List.getElem?_append_left hi]
end Gk

/- Chapter 4: the document's ranks; the law MatrixInverts, in plain Lean. No condition but lengths. -/
set_option linter.unusedSimpArgs false
set_option linter.unusedVariables false
namespace Gk
open Gf
theorem Det_eq (l : List (List UInt8)) (n : Nat) (hl : l.length = n) (hr : ∀ i, i < n → (l.getD i []).length = n) (hn : n ≤ 100) : ref04_Det l = some (dt n (en l)) := by
  unfold ref04_Det
  exact Det_ok n l _ hl hr (by omega) hn
theorem rows_part (l : List (List UInt8)) (n d a b : Nat) (hl : l.length = n) (h0 : 0 < n) (hn : n ≤ 64) (hd : d ≤ 64) (hr : ∀ i, i < n → (l.getD i []).length = d) : iterC (fun s14 : List (List UInt8) × Int =>
(if s14.2 < (l.length : Int) then
((cnt s14.2).bind fun c17 =>
((remI ((shrI (a : Int) c17)) 2).bind fun c18 =>
(if c18 = 0 then some (.inl (s14.1, (wI (s14.2 + 1))))
else
((idx l 0).bind fun c24 =>
((iterC (fun s26 : List UInt8 × Int =>
(if s26.2 < (c24.length : Int) then
((cnt s26.2).bind fun c29 =>
((remI ((shrI (b : Int) c29)) 2).bind fun c30 =>
(if c30 = 1 then
((idx l s14.2).bind fun c32 =>
((idx c32 s26.2).bind fun c34 =>
((appL s26.1 (([c34] : List UInt8))).bind fun c37 => some (.inl (c37, (wI (s26.2 + 1)))))))
else some (.inl (s26.1, (wI (s26.2 + 1)))))))
else some (.inr s26.1))) (([] : List UInt8), 0)).bind fun x26 =>
((appL s14.1 (([x26] : List (List UInt8)))).bind fun c46 => some (.inl (c46, (wI (s14.2 + 1))))))))))
else some (.inr s14.1))) (([] : List (List UInt8)), 0) = some (part l (bitsL n a) (bitsL d b)) := by
  have hm : 1000 < most := by decide
  refine iterC_count (fun k => (part l (bitsL k a) (bitsL d b), (k : Int))) n _ rfl (fun k hk => ?_) (by simp only; rw [if_neg (by omega)])
  simp only
  rw [if_pos (by omega), cnt_nat, Option.bind_some, bit_rem a k (by omega), Option.bind_some, bitsL_succ]
  have hbl : (bitsL k a).length ≤ k := by have := (bitsL_sub k a).length_le; simpa using this
  by_cases hb : a.testBit k = true
  · rw [if_pos hb, if_neg (by decide), if_pos hb, idx_0 (by omega), Option.bind_some]
    refine bind_of (row_part (l.getD 0 []) d b (hr 0 h0) hd l k (by omega) (hr k hk)) ?_
    rw [appL_ok _ _ (by rw [part_len]; simp; omega) rfl, Option.bind_some, wI_succ k (by omega)]
    simp [part]
  · rw [if_neg hb, if_pos rfl, if_neg hb, wI_succ k (by omega), List.append_nil]
theorem shl_one (m : Nat) (h : m ≤ 20) : shlI 1 m = ((2 ^ m : Nat) : Int) ∧ 2 ^ m ≤ 1048576 := by
  have hp : 2 ^ m ≤ 2 ^ 20 := Nat.pow_le_pow_right (by decide) h
  have := shlI_nat 1 m (by omega) (by rw [Nat.one_mul]; omega)
  rw [show ((1 : Nat) : Int) = 1 from rfl] at this
  exact ⟨by rw [this, Nat.shiftLeft_eq, Nat.one_mul], by omega⟩
theorem iterEq {S X : Type} {body : S → Option (S ⊕ X)} {s0 : S} {y : X} (h : ∃ x, iterC body s0 = some x ∧ x = y) : iterC body s0 = some y := by
  obtain ⟨x, e, rfl⟩ := h
  exact e
theorem loopIn2 {S X Z σ : Type} {body : S → Option (S ⊕ X)} {s0 : S} {g : X → Option ((σ × Int) ⊕ Z)} {post : X → Prop} {Q : σ → Prop} {j : Int} (h : ∃ x, iterC body s0 = some x ∧ post x) (hg : ∀ x, post x → ∃ s', g x = some (.inl (s', j)) ∧ Q s') : ∃ s', (iterC body s0).bind g = some (.inl (s', j)) ∧ Q s' := by
  obtain ⟨x, e, hp⟩ := h
  obtain ⟨y, e2, hq⟩ := hg x hp
  exact ⟨y, by rw [e]; exact e2, hq⟩
theorem refRank_ok (l l' : List (List UInt8)) (n d : Nat) (ln : List Nat) (hl : l.length = n) (h0 : 0 < n) (hn : n ≤ 20) (d0 : 0 < d) (hd : d ≤ 20) (hR : Red l l' d ln d) (hr : ∀ i, i < n → (l.getD i []).length = d) : ref04_Rank l = some (ln.length : Int) := by
  obtain ⟨l2, ln2, S0, h2, hs2, hS0, hSl, hdt⟩ := rank_down l d (fun i hi => hr i (by omega))
  have hRR : ln.length = ln2.length := hR.uniq h2
  rw [hl] at hS0
  obtain ⟨a0, ha0, ea0⟩ := mask_sub hS0
  obtain ⟨b0, hb0, eb0⟩ := mask_sub hs2
  obtain ⟨sn, bn⟩ := shl_one n hn
  obtain ⟨sd, bd⟩ := shl_one d hd
  have up : ∀ a b : Nat, (bitsL n a).length = (bitsL d b).length → dt (bitsL n a).length (enP l (bitsL n a) (bitsL d b)) ≠ 0 → (bitsL n a).length ≤ ln.length := fun a b e h =>
    rank_up hR (fun k hk => by rw [hl]; exact sub_lt (bitsL_sub n a) k hk) (fun k hk => sub_lt (bitsL_sub d b) k hk) e h
  unfold ref04_Rank
  rw [hl]
  refine bind_of (x := (ln.length : Int)) ?_ rfl
  refine iterEq (iterC_from (s0 := (0 : Int)) (fun (a : Nat) (s : Int) => ∃ q : Nat, s = (q : Int) ∧ q ≤ ln.length ∧ (0 < ln.length → a0 < a → ln.length ≤ q)) 1 (2 ^ n) (by have := Nat.one_le_two_pow (n := n); omega) (fun x => x = (ln.length : Int)) ⟨0, rfl, Nat.zero_le _, fun hp ha => by
      have : a0 = 0 := by omega
      rw [this] at ea0
      have : S0 = [] := by rw [← ea0]; unfold bitsL; simp
      rw [this] at hSl; simp at hSl; omega⟩ ?_ ?_)
  · rintro a s ha1 ha2 ⟨q0, rfl, hq0, hqa⟩
    simp only
    rw [cnt_nat, Option.bind_some, sn, if_pos (by omega)]
    refine loopIn2 (post := fun x => ∃ q : Nat, x = (q : Int) ∧ q0 ≤ q ∧ q ≤ ln.length ∧ (0 < ln.length → a = a0 → ln.length ≤ q)) (iterC_from (s0 := (q0 : Int)) (fun (b : Nat) (s : Int) => ∃ q : Nat, s = (q : Int) ∧ q0 ≤ q ∧ q ≤ ln.length ∧ (0 < ln.length → a = a0 → b0 < b → ln.length ≤ q)) 1 (2 ^ d) (by have := Nat.one_le_two_pow (n := d); omega) _ ⟨q0, rfl, Nat.le_refl _, hq0, fun hp _ hb => by
      have : b0 = 0 := by omega
      rw [this] at eb0
      have : ln2 = [] := by rw [← eb0]; unfold bitsL; simp
      rw [this] at hRR; simp at hRR; rw [hRR] at hp; simp at hp⟩ ?_ ?_) ?_
    · rintro b s hb1 hb2 ⟨q, rfl, hqq, hqR, hqb⟩
      simp only
      rw [idx_0 (by omega), Option.bind_some, hr 0 h0, cnt_nat, Option.bind_some, sd, if_pos (by omega)]
      have hSp := bitsL_pos ha1 ha2
      have hrp := rows_part l n d a b hl h0 (by omega) (by omega) hr
      rw [hl, idx_0 (l := l) (by omega)] at hrp
      rw [hrp, Option.bind_some]
      have hup := up a b
      have hw : a = a0 → b = b0 → bitsL n a = S0 ∧ bitsL d b = ln2 := fun h1 h2 => ⟨by rw [h1, ea0], by rw [h2, eb0]⟩
      have hSn : (bitsL n a).length ≤ n := by have := (bitsL_sub n a).length_le; simpa using this
      generalize bitsL n a = S at hSp hup hw hSn ⊢
      generalize bitsL d b = T at hup hw ⊢
      have e0 : idx (part l S T) 0 = some (T.map fun c => co (l.getD (S.getD 0 0) []) c) := by rw [idx_0 (by rw [part_len]; exact hSp), getD_part _ _ _ _ hSp]
      rw [e0, Option.bind_some, part_len, List.length_map]
      by_cases h1 : S.length = T.length
      · rw [if_pos (by omega)]
        by_cases h2 : q < S.length
        · rw [if_pos (by omega)]
          · rw [Det_eq (part l S T) S.length (part_len _ _ _) (fun i hi => by rw [getD_part _ _ _ _ hi, List.length_map, h1]) (by omega), Option.bind_some, en_part l S T S.length rfl h1.symm]
            by_cases h3 : dt S.length (enP l S T) = 0
            · rw [if_pos h3, wI_succ b (by omega)]
              refine ⟨_, rfl, q, rfl, hqq, hqR, fun hp ea hb => ?_⟩
              by_cases hbb : b = b0
              · obtain ⟨e1, e2⟩ := hw ea hbb
                rw [e1, e2] at h3
                rw [hSl] at h3
                exact absurd h3 hdt
              · exact hqb hp ea (by omega)
            · rw [if_neg h3, wI_succ b (by omega)]
              refine ⟨_, rfl, S.length, rfl, by omega, hup h1 h3, fun hp ea hb => ?_⟩
              by_cases hbb : b = b0
              · obtain ⟨e1, e2⟩ := hw ea hbb
                rw [e1, hSl]; omega
              · have := hqb hp ea (by omega); omega
        · rw [if_neg (by omega), wI_succ b (by omega)]
          refine ⟨_, rfl, q, rfl, hqq, hqR, fun hp ea hb => ?_⟩
          by_cases hbb : b = b0
          · obtain ⟨e1, e2⟩ := hw ea hbb
            rw [e1, hSl] at h2; omega
          · exact hqb hp ea (by omega)
      · rw [if_neg (by omega), wI_succ b (by omega)]
        refine ⟨_, rfl, q, rfl, hqq, hqR, fun hp ea hb => ?_⟩
        by_cases hbb : b = b0
        · obtain ⟨e1, e2⟩ := hw ea hbb
          exact absurd (by rw [e1, e2]; exact hSl) h1
        · exact hqb hp ea (by omega)
    · rintro s ⟨q, rfl, hqq, hqR, hqb⟩
      refine ⟨_, by simp only; rw [idx_0 (by omega), Option.bind_some, hr 0 h0, cnt_nat, Option.bind_some, sd, if_neg (by omega)], q, rfl, hqq, hqR, fun hp ea => hqb hp ea hb0⟩
    · rintro x ⟨q, rfl, hqq, hqR, hqb⟩
      rw [wI_succ a (by omega)]
      refine ⟨_, rfl, q, rfl, hqR, fun hp ha => ?_⟩
      by_cases haa : a = a0
      · exact hqb hp haa
      · have := hqa hp (by omega); omega
  · rintro s ⟨q, rfl, hqR, hqa⟩
    refine ⟨_, by simp only; rw [cnt_nat, Option.bind_some, sn, if_neg (by omega)], ?_⟩
    by_cases hp : 0 < ln.length
    · have := hqa hp ha0
      rw [show q = ln.length by omega]
    · rw [show q = ln.length by omega]
theorem side4 (n : Int) : ∃ k : Nat, 1 ≤ k ∧ k ≤ 4 ∧ wI (1 + wI (((UInt64.ofInt n % (4 : UInt64)).toNat : Nat) : Int)) = (k : Int) := by
  have h : (UInt64.ofInt n % (4 : UInt64)).toNat < 4 := by
    rw [UInt64.toNat_mod]; exact Nat.mod_lt _ (by decide)
  refine ⟨1 + (UInt64.ofInt n % (4 : UInt64)).toNat, by omega, by omega, ?_⟩
  generalize (UInt64.ofInt n % (4 : UInt64)).toNat = j at h ⊢
  rw [wI_nat (by omega), wI_of (by omega) (by omega)]; omega
end Gk

/- The law MatrixSolves, in plain Lean. No condition but lengths. -/
set_option linter.unusedSimpArgs false
set_option linter.unusedVariables false
namespace Gk
open Gf
theorem Red.dist {l0 l : List (List UInt8)} {d : Nat} {ln : List Nat} {c : Nat} (h : Red l0 l d ln c) {i t : Nat} (hi : i < ln.length) (ht : t < ln.length) (hit : i ≠ t) : ln.getD i 0 ≠ ln.getD t 0 := fun e => by
  have h1 := h.one i hi t (by have := h.le; omega)
  have h2 := h.one t ht t (by have := h.le; omega)
  rw [if_neg (Ne.symm hit)] at h1
  rw [if_pos rfl, ← e, h1] at h2
  exact absurd h2 (by decide)
def cutR (l : List (List UInt8)) (d : Nat) : List (List UInt8) := (List.range l.length).map fun i => (l.getD i []).take d
theorem cutR_len (l : List (List UInt8)) (d : Nat) : (cutR l d).length = l.length := by simp [cutR]
theorem getD_cutR (l : List (List UInt8)) (d i : Nat) (h : i < l.length) : (cutR l d).getD i [] = (l.getD i []).take d := by unfold cutR; rw [getD_tab _ _ _ h]
theorem ld_last (r : List UInt8) (v : Nat → UInt8) (d : Nat) : ld r v (d + 1) = ld r v d ^^^ mul (co r d) (v d) := rfl
theorem ld_congr (r r' : List UInt8) (v v' : Nat → UInt8) (d : Nat) (hr : ∀ i, i < d → co r i = co r' i) (hv : ∀ i, i < d → v i = v' i) : ld r v d = ld r' v' d := by
  unfold ld
  exact sm_congr _ fun i hi => by rw [hr i hi, hv i hi]
def sidC (x : List (List UInt8)) (v : List UInt8) : List (List UInt8) := (List.range x.length).map fun i => x.getD i [] ++ [co v i]
theorem sidC_len (x : List (List UInt8)) (v : List UInt8) : (sidC x v).length = x.length := by simp [sidC]
theorem getD_sidC (x : List (List UInt8)) (v : List UInt8) (i : Nat) (h : i < x.length) : (sidC x v).getD i [] = x.getD i [] ++ [co v i] := by unfold sidC; rw [getD_tab _ _ _ h]
theorem sidC_rec (x : List (List UInt8)) (v : List UInt8) (d : Nat) (hr : Rec x d) : Rec (sidC x v) (d + 1) := fun i hi => by
  rw [sidC_len] at hi
  rw [getD_sidC _ _ _ hi, List.length_append, hr i hi]; rfl
theorem ld_sidC (x : List (List UInt8)) (v : List UInt8) (d : Nat) (hr : Rec x d) (u : Nat → UInt8) (i : Nat) (h : i < x.length) : ld ((sidC x v).getD i []) u (d + 1) = ld (x.getD i []) u d ^^^ mul (co v i) (u d) := by
  rw [getD_sidC _ _ _ h, ld_last]
  congr 1
  · exact ld_congr _ _ _ _ d (fun k hk => co_appL _ _ d k (hr i h) hk) (fun _ _ => rfl)
  · have := co_appR (x.getD i []) [co v i] d 0 (hr i h)
    rw [Nat.add_zero] at this
    rw [this]; rfl
theorem cut_red {x : List (List UInt8)} {v : List UInt8} {d : Nat} {l : List (List UInt8)} {ln : List Nat} (hr : Rec x d) (h : Red (sidC x v) l (d + 1) ln d) : Red x (cutR l d) d ln d := by
  have hl : l.length = x.length := h.len.trans (sidC_len _ _)
  have hco : ∀ i, i < l.length → ∀ j, j < d → co ((cutR l d).getD i []) j = co (l.getD i []) j := fun i hi j hj => by rw [getD_cutR _ _ _ hi, co_take, if_pos hj]
  have hK1 : ∀ u : Nat → UInt8, u d = 0 → (Ker l (d + 1) u ↔ Ker (cutR l d) d u) := fun u hu => by
    constructor
    · intro hk i hi
      rw [cutR_len] at hi
      have := hk i hi
      rw [ld_last, hu, mul_zero, xor_zero] at this
      rw [← this]
      exact ld_congr _ _ _ _ d (fun j hj => hco i hi j hj) (fun _ _ => rfl)
    · intro hk i hi
      rw [ld_last, hu, mul_zero, xor_zero, ← hk i (by rw [cutR_len]; exact hi)]
      exact ld_congr _ _ _ _ d (fun j hj => (hco i hi j hj).symm) (fun _ _ => rfl)
  have hK2 : ∀ u : Nat → UInt8, u d = 0 → (Ker (sidC x v) (d + 1) u ↔ Ker x d u) := fun u hu => by
    constructor
    · intro hk i hi
      have := hk i (by rw [sidC_len]; exact hi)
      rwa [ld_sidC _ _ _ hr _ _ hi, hu, mul_zero, xor_zero] at this
    · intro hk i hi
      rw [sidC_len] at hi
      rw [ld_sidC _ _ _ hr _ _ hi, hu, mul_zero, xor_zero]; exact hk i hi
  have hK0 : ∀ (m : List (List UInt8)) (u : Nat → UInt8), Ker m d u ↔ Ker m d (fun k => if k < d then u k else 0) := fun m u => by
    have : ∀ r, ld r (fun k => if k < d then u k else 0) d = ld r u d := fun r => ld_congr _ _ _ _ d (fun _ _ => rfl) (fun i hi => by rw [if_pos hi])
    unfold Ker
    constructor
    · intro hk i hi; rw [this]; exact hk i hi
    · intro hk i hi; rw [← this]; exact hk i hi
  exact
  { len := by rw [cutR_len, hl]
    rc := fun i hi => by
      rw [cutR_len] at hi
      rw [getD_cutR _ _ _ hi, List.length_take, h.rc i hi]; omega
    ker := fun u => by
      rw [hK0 (cutR l d) u, hK0 x u, ← hK1 _ (by simp), ← hK2 _ (by simp)]
      exact h.ker _
    le := by rw [cutR_len]; exact h.le
    cd := Nat.le_refl _
    lt := h.lt
    one := fun i hi k hk => by
      rw [cutR_len] at hk
      rw [hco k hk _ (h.lt i hi)]; exact h.one i hi k hk
    low := fun k h1 h2 j hj => by
      rw [cutR_len] at h2
      rw [hco k h2 j hj]; exact h.low k h1 h2 j hj
    alt := by
      rcases h.alt with e | ⟨e, u, hu, ⟨k, hk, hk'⟩, hz⟩
      · exact .inl e
      · exact .inr ⟨e, u, (hK2 u (hz d (Nat.le_refl _))).1 hu, ⟨k, hk, hk'⟩, hz⟩ }
def nzc (l : List UInt8) : Nat := l.countP fun a => decide (a ≠ 0)
theorem nzc_set (l : List UInt8) (i : Nat) (a : UInt8) : nzc (l.set i a) ≤ nzc l + 1 := by
  unfold nzc
  by_cases h : i < l.length
  · rw [List.countP_set h]; split <;> split <;> omega
  · rw [List.set_eq_of_length_le (by omega)]; omega
theorem comb_succ (A : Nat → Nat → UInt8) (y : Nat → UInt8) (s k : Nat) : comb A y (s + 1) k = comb A y s k ^^^ mul (y s) (A s k) := rfl
set_option maxHeartbeats 1000000 in
theorem Solve_ok (x : List (List UInt8)) (v : List UInt8) (n d : Nat) (h0 : 0 < n) (h1 : n ≤ 64) (d1 : d ≤ 64) (hl : x.length = n) (hr : Rec x d) (hv : v.length = n) :
    ∃ (l : List (List UInt8)) (ln : List Nat), Red (sidC x v) l (d + 1) ln d ∧
    (((∀ k, ln.length ≤ k → k < l.length → co (l.getD k []) d = 0) ∧ ∃ u, matrix_Solve (some x) true v = some (u, 0) ∧ u.length = d ∧ nzc u ≤ ln.length ∧ tm x u d = v) ∨
     ((∃ k, ln.length ≤ k ∧ k < l.length ∧ co (l.getD k []) d ≠ 0) ∧ matrix_Solve (some x) true v = some ([], 7))) := by
  have hm : 1000 < most := by decide
  have hm2 := most_lt'
  obtain ⟨y, e, ln, e2, hR⟩ := reduce_ok (sidC x v) (d + 1) d (by rw [sidC_len]; omega) (by omega) (sidC_rec x v d hr) (by omega)
  have hyl : y.1.length = n := by rw [hR.len, sidC_len, hl]
  have hln : y.2.length = ln.length := by rw [e2]; simp
  have hle := hR.le
  have hwith : matrix_with x (v.map fun b => [b]) = some (sidC x v) := by
    have := with_ok x (v.map fun b => [b]) d 1 (by omega) (by omega) (by omega) (by simp; omega) hr (fun i hi => by
      have hi' : i < v.length := by simpa using hi
      simp [List.getD_eq_getElem?_getD, hi'])
    rw [this]
    congr 1
    refine rows_ext (by rw [wth_len, sidC_len]) fun i hi => ?_
    rw [wth_len] at hi
    rw [getD_wth _ _ _ hi, getD_sidC _ _ _ hi]
    congr 1
    have hi' : i < v.length := by omega
    simp [List.getD_eq_getElem?_getD, co, hi']
  refine ⟨y.1, ln, hR, ?_⟩
  have hS : ∀ {r}, (((anyO (fun y34 => matrix_Solve_1 y34 (d : Int)) (y.1.drop ln.length)).bind fun r34 =>
      (if r34 = true then some (([] : List UInt8), (7 : Int)) else ((makeL (d : Int) (0 : UInt8)).bind fun c37 => ((iterC (fun s43 : List UInt8 × Int =>
        (if s43.2 < (y.2.length : Int) then ((idx y.2 s43.2).bind fun c46 => ((idx y.1 s43.2).bind fun c49 => ((idx c49 (d : Int)).bind fun c51 => ((idx s43.1 c46).bind fun c52 =>
          some (.inl ((s43.1.set (c46 : Int).toNat c51), (wI (s43.2 + 1)))))))) else some (.inr s43.1))) (c37, 0)).bind fun x43 => some (x43, 0)))))) = r → matrix_Solve (some x) true v = r := by
    intro r hr2
    unfold matrix_Solve
    rw [Size_some x (by omega), Option.bind_some, if_neg (by simp), if_neg (by simp)]
    simp only
    rw [hr 0 (by omega), hl, if_pos (by omega)]
    refine bind_of (x := v.map fun b => [b]) (iterC_count (fun k => ((v.take k).map fun b => [b], (k : Int))) n _ (by simp) (fun k hk => ?_) ?_) ?_
    · simp only
      rw [if_pos (by omega), idx_co (by omega), Option.bind_some, appL_ok _ _ (by simp; omega) rfl, Option.bind_some, wI_succ k (by omega), take_snoc (by omega)]
      simp
    · simp only
      rw [if_neg (by omega), List.take_of_length_le (by omega)]
    · rw [Option.bind_some, hwith, Option.bind_some, e, Option.bind_some]
      rw [hln, subL_nat _ _ _ (by omega) (Nat.le_refl _), Option.bind_some, List.take_of_length_le (Nat.le_refl _), lim_of (by simp; omega), Option.bind_some]
      rw [hln] at hr2
      exact hr2
  have hany : anyO (fun y34 => matrix_Solve_1 y34 (d : Int)) (y.1.drop ln.length) = some ((y.1.drop ln.length).any fun r => decide (co r d ≠ 0)) := anyO_all _ _ _ fun r hr3 => by
    obtain ⟨i, hi, rfl⟩ := mem_getD hr3
    have : ((y.1.drop ln.length).getD i []).length = d + 1 := by
      have hi2 : i < y.1.length - ln.length := by simpa using hi
      have : (y.1.drop ln.length).getD i [] = y.1.getD (ln.length + i) [] := by simp [List.getD_eq_getElem?_getD]
      rw [this]; exact hR.rc _ (by omega)
    unfold matrix_Solve_1
    rw [idx_co (by omega), Option.bind_some]
    simp
  have hdrop : ∀ i, (y.1.drop ln.length).getD i [] = y.1.getD (ln.length + i) [] := fun i => by simp [List.getD_eq_getElem?_getD]
  by_cases hz : ∀ k, ln.length ≤ k → k < y.1.length → co (y.1.getD k []) d = 0
  · left
    refine ⟨hz, ?_⟩
    have hno : ((y.1.drop ln.length).any fun r => decide (co r d ≠ 0)) = false := by
      rw [List.any_eq_false]
      intro r hr3
      obtain ⟨i, hi, rfl⟩ := mem_getD hr3
      have hi2 : i < y.1.length - ln.length := by simpa using hi
      rw [hdrop, hz _ (by omega) (by omega)]; simp
    have hloop : ∃ u, iterC (fun s43 : List UInt8 × Int =>
        (if s43.2 < (y.2.length : Int) then ((idx y.2 s43.2).bind fun c46 => ((idx y.1 s43.2).bind fun c49 => ((idx c49 (d : Int)).bind fun c51 => ((idx s43.1 c46).bind fun c52 =>
          some (.inl ((s43.1.set (c46 : Int).toNat c51), (wI (s43.2 + 1)))))))) else some (.inr s43.1))) (List.replicate d 0, 0) = some u ∧ (u.length = d ∧ nzc u ≤ ln.length ∧ ∀ k, k < d → co u k = comb (fun t k => if k = ln.getD t 0 then 1 else 0) (fun t => co (y.1.getD t []) d) ln.length k) := by
      refine iterC_up (fun i u => u.length = d ∧ nzc u ≤ i ∧ ∀ k, k < d → co u k = comb (fun t k => if k = ln.getD t 0 then 1 else 0) (fun t => co (y.1.getD t []) d) i k) ln.length _ ⟨by simp, by simp [nzc], fun k hk => by rw [co_rep]; simp [comb, sm]⟩ ?_ ?_
      · rintro i u hi ⟨hu, hn, hc⟩
        simp only
        have hidx : idx y.2 (i : Int) = some ((ln.getD i 0 : Nat) : Int) := by rw [e2, idx_nat]; simp [List.getD_eq_getElem?_getD, hi]
        have hlt := hR.lt i hi
        rw [if_pos (by omega), hidx, Option.bind_some, idx_getD (by omega), Option.bind_some, idx_co (by rw [hR.rc i (by omega)]; omega), Option.bind_some, idx_co (by omega), Option.bind_some, wI_succ i (by omega), Int.toNat_natCast]
        refine ⟨_, rfl, by simpa using hu, Nat.le_trans (nzc_set _ _ _) (by omega), fun k hk => ?_⟩
        rw [co_set (by omega), comb_succ]
        by_cases hkl : k = ln.getD i 0
        · rw [if_pos hkl, if_pos hkl, mul_one]
          have : comb (fun t k => if k = ln.getD t 0 then 1 else 0) (fun t => co (y.1.getD t []) d) i k = 0 := la_zero _ fun t ht => by
            simp only
            rw [if_neg (by rw [hkl]; exact hR.dist hi (by omega) (by omega)), mul_zero]
          rw [this, zero_xor]
        · rw [if_neg hkl, if_neg hkl, mul_zero, xor_zero]; exact hc k hk
      · rintro u hI
        exact ⟨u, by simp only; rw [if_neg (by omega)], hI⟩
    obtain ⟨u, eu, hu, hn, hc⟩ := hloop
    refine ⟨u, hS ?_, hu, hn, ?_⟩
    · rw [hany, hno, Option.bind_some, if_neg (by decide), makeL_nat _ _ (by omega), Option.bind_some, eu]; rfl
    · have hK := (hR.ker (fun k => if k < d then co u k else 1)).1 (fun k hk => by
        rw [ld_last]
        rw [if_neg (Nat.lt_irrefl d), mul_one]
        have : ld (y.1.getD k []) (fun k => if k < d then co u k else 1) d = ld (y.1.getD k []) (comb (fun t k => if k = ln.getD t 0 then 1 else 0) (fun t => co (y.1.getD t []) d) ln.length) d := ld_congr _ _ _ _ d (fun _ _ => rfl) (fun i hi => by rw [if_pos hi, hc i hi])
        rw [this, ld_comb]
        by_cases hkl : k < ln.length
        · rw [sm_one _ k ln.length (fun t ht htk => by rw [ld_unit _ _ _ (hR.lt t ht), hR.one t ht k hk, if_neg (Ne.symm htk), mul_zero]), if_pos hkl, ld_unit _ _ _ (hR.lt k hkl), hR.one k hkl k hk, if_pos rfl, mul_one, xor_self]
        · rw [hz k (by omega) hk, la_zero _ (fun t ht => by rw [ld_unit _ _ _ (hR.lt t ht), hR.low k (by omega) hk _ (hR.lt t ht), mul_zero])]; rfl)
      refine eq_of_co (by rw [tm_len]; omega) fun i => ?_
      by_cases hi : i < n
      · rw [co_tm _ _ _ _ (by omega)]
        have := hK i (by rw [sidC_len]; omega)
        rw [ld_sidC _ _ _ hr _ _ (by omega)] at this
        rw [if_neg (Nat.lt_irrefl d), mul_one] at this
        have h3 := xor_eq_zero this
        rw [← h3]
        unfold dot ld
        exact sm_congr _ fun k hk => by
          show _ = mul _ (if k < d then co u k else 1)
          rw [if_pos hk]
      · rw [co_ge (by rw [tm_len]; omega), co_ge (by omega)]
  · right
    obtain ⟨k, hk1, hk2, hk3⟩ : ∃ k, ln.length ≤ k ∧ k < y.1.length ∧ co (y.1.getD k []) d ≠ 0 := Classical.byContradiction fun hn => hz fun k h1 h2 => Classical.byContradiction fun h3 => hn ⟨k, h1, h2, h3⟩
    refine ⟨⟨k, hk1, hk2, hk3⟩, hS ?_⟩
    have hyes : ((y.1.drop ln.length).any fun r => decide (co r d ≠ 0)) = true := by
      rw [List.any_eq_true]
      refine ⟨(y.1.drop ln.length).getD (k - ln.length) [], getD_mem (by simp; omega), ?_⟩
      rw [hdrop, show ln.length + (k - ln.length) = k by omega]
      simpa using hk3
    rw [hany, hyes, Option.bind_some, if_pos rfl]
theorem Solve_bad (x : List (List UInt8)) (v : List UInt8) (h0 : 0 < x.length) (hv : v.length ≠ x.length) : matrix_Solve (some x) true v = some ([], 1) := by
  unfold matrix_Solve
  rw [Size_some x h0, Option.bind_some, if_neg (by simp), if_neg (by simp)]
  simp only
  rw [if_neg (by omega)]
theorem nzc_snoc (l : List UInt8) (i : Nat) (h : i < l.length) : nzc (l.take (i + 1)) = nzc (l.take i) + if co l i = 0 then 0 else 1 := by
  unfold nzc
  rw [take_snoc h, List.countP_append]
  by_cases e : co l i = 0 <;> simp [e]
theorem law04_MatrixSolves_true (n c : Int) (a v : List UInt8) (lo0 : -9223372036854775808 ≤ n) (hi0 : n ≤ 9223372036854775807) (lo1 : -9223372036854775808 ≤ c) (hi1 : c ≤ 9223372036854775807) : law04_MatrixSolves n c a v = some true := by
  have h2 := h257
  have hm2 := most_lt'
  unfold law04_MatrixSolves
  obtain ⟨n, n0, n1, en'⟩ := side4 n
  obtain ⟨c, c0, c1, ec⟩ := side4 c
  simp only [en', ec]
  rw [lives4, Option.bind_some, if_neg (by decide), field_New, Option.bind_some, square_eq _ _ _ (by omega) (by omega), Option.bind_some]
  have lx := sqr_len a n c
  have rx := sqr_rec a n c
  generalize sqr a n c = x at lx rx ⊢
  rw [New_ok x c (by omega) (by omega) (by omega) (by omega) rx, Option.bind_some]
  simp only
  by_cases hv : v.length = n
  · obtain ⟨l, ln, hR, hcase⟩ := Solve_ok x v n c (by omega) (by omega) (by omega) lx rx hv
    have hRx := cut_red rx hR
    have hrk := refRank_ok x _ n c ln lx (by omega) (by omega) (by omega) (by omega) hRx (fun i hi => rx i (by omega))
    have hmore : iterC (fun s18 : List (List UInt8) × Int =>
        (if s18.2 < (x.length : Int) then ((idx x s18.2).bind fun c21 => ((idx v s18.2).bind fun c25 => ((appL (([] : List UInt8)) c21).bind fun c30 => ((appL c30 (([c25] : List UInt8))).bind fun c36 => ((appL s18.1 (([c36] : List (List UInt8)))).bind fun c43 =>
          some (.inl (c43, (wI (s18.2 + 1))))))))) else some (.inr s18.1))) (([] : List (List UInt8)), 0) = some (sidC x v) := by
      refine iterC_count (fun k => ((sidC x v).take k, (k : Int))) n _ (by simp) (fun k hk => ?_) ?_
      · simp only
        have hrk := rx k (by omega)
        rw [if_pos (by omega), idx_getD (by omega), Option.bind_some, idx_co (by omega), Option.bind_some, appL_nil _ (by omega), Option.bind_some, appL_ok _ _ (by simp only [List.length_cons, List.length_nil]; omega) rfl, Option.bind_some, appL_ok _ _ (by simp [sidC_len]; omega) rfl, Option.bind_some, wI_succ k (by omega), rows_snoc (by rw [sidC_len]; omega), getD_sidC _ _ _ (by omega)]
      · simp only
        rw [if_neg (by omega), List.take_of_length_le (by rw [sidC_len]; omega)]
    have hrm := sidC_rec x v c rx
    have hlm : (sidC x v).length = n := by rw [sidC_len, lx]
    rcases hcase with ⟨hz, u, eu, hu, hn, ht⟩ | ⟨⟨k, hk1, hk2, hk3⟩, eu⟩
    · have hrk2 := refRank_ok (sidC x v) _ n (c + 1) ln hlm (by omega) (by omega) (by omega) (by omega) (hR.skip (by omega) hz) (fun i hi => hrm i (by omega))
      have hcnt : iterC (fun s54 : Int × Int =>
          (if s54.2 < (u.length : Int) then ((idx u s54.2).bind fun c57 => (if c57 = (0 : UInt8) then some (.inl (s54.1, (wI (s54.2 + 1)))) else some (.inl ((wI (s54.1 + 1)), (wI (s54.2 + 1)))))) else some (.inr s54.1))) (0, 0) = some (nzc u : Int) := by
        refine iterC_count (fun k => ((nzc (u.take k) : Int), (k : Int))) c _ (by simp [nzc]) (fun k hk => ?_) ?_
        · simp only
          have hle : nzc (u.take k) ≤ k := by
            unfold nzc
            exact Nat.le_trans List.countP_le_length (by simp; omega)
          rw [if_pos (by omega), idx_co (by omega), Option.bind_some, nzc_snoc u k (by omega), wI_succ k (by omega)]
          by_cases e0 : co u k = 0
          · rw [if_pos e0, if_pos e0]; rfl
          · rw [if_neg e0, if_neg e0, wI_succ _ (by omega)]
        · simp only
          rw [if_neg (by omega), List.take_of_length_le (by omega)]
      rw [eu, Option.bind_some, if_pos trivial, if_pos (by omega), hmore, Option.bind_some, hrk2, Option.bind_some, hrk, Option.bind_some, if_pos rfl]
      simp only
      rw [hcnt, Option.bind_some, if_pos trivial, if_pos (by omega), refTimes_eq x u c (by omega) rx (by omega) (by omega), Option.bind_some, if_pos ht, Option.bind_some, decide_eq_true (by omega)]
    · obtain ⟨l', hR'⟩ := hR.next (by omega) ⟨k, hk1, hk2, hk3⟩
      have hrk2 := refRank_ok (sidC x v) _ n (c + 1) (ln ++ [c]) hlm (by omega) (by omega) (by omega) (by omega) hR' (fun i hi => hrm i (by omega))
      rw [eu, Option.bind_some, if_pos trivial, if_pos (by omega), hmore, Option.bind_some, hrk2, Option.bind_some, hrk, Option.bind_some, if_neg (by rw [List.length_append]; simp; omega)]
      rfl
  · rw [Solve_bad x v (by omega) (by omega), Option.bind_some, if_pos trivial, if_neg (by omega)]
    rfl
end Gk

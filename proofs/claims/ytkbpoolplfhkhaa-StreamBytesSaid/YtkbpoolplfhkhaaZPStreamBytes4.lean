/- Parts L6, Qh, one behind the other. What is proved: said at the head of each part. No condition beside those said there. -/
import Derived.Test.YtkbpoolplfhkhaaRows
import Derived.Orders
import Derived.Deep.Draws
import Derived.Laws.World
import Derived.KernelRfl
import Derived.OrdersIn
import Derived.TacticsIn
import Derived.RangeFuncCalls
import Derived.Deep.LoopGhost
import Derived.Tactics
import Derived.Sort.LoopGhostIn
import Derived.RangeFuncLeaves
import Derived.RangeFuncNested
import Derived.RangeFuncRecord
import Derived.Laws.Sem
import Derived.OwnWalk
import Derived.RangeFuncWrites
import Derived.Laws.IdiomCopy
import Derived.WalkKit
import Derived.ProofKit
import Derived.OpenShut
import Derived.ChangeOld
import Derived.Below
import Derived.Test.YtkbpoolplfhkhaaProg
import Derived.MapKept
import Derived.Lib.AppendZerosOnto
import Derived.Laws.CopyRow
import Derived.Laws.Cells
import Derived.Lib.SlBytesConst
import Derived.Test.YtkbpoolplfhkhaaZPStreamBytes1
import Derived.Test.YtkbpoolplfhkhaaZPStreamBytes2
import Derived.Test.YtkbpoolplfhkhaaZPStreamBytes3
/- Printed by gen.py: for each Go function a pure function, and that the Go code comes to it. No condition beside the equation that says what the pure function gives. -/
set_option linter.unusedVariables false
set_option linter.unusedSimpArgs false
namespace Gk
open Go Go.Proofs
noncomputable def law06_made (a0k : List UInt8) : Option (Option Cip × List UInt8) :=
((makeL 16 (0 : UInt8)).bind fun c1 =>
((field_New ).bind fun r6 =>
((cipher_New r6 (copyL c1 0 a0k)).bind fun r8 =>
some (r8.1, (copyL c1 0 a0k)))))
set_option maxRecDepth 100000 in
set_option maxHeartbeats 8000000 in
theorem law06_made_calls (a0k : List UInt8) (p0 : Value) (r : Option Cip × List UInt8) (w0 : World) (L0 : List Value) (hL0 : Old w0 L0) (hp0 : By w0 [] p0 a0k) (H : law06_made a0k = some r) :
    Calls Try.prog 24 [p0].toArray w0 (fun e w' => ∃ u0 u1 : Value, e = .returned (.tuple #[u0, u1]) ∧ Ext w0 w' ∧ Ci w' L0 u0 r.1 ∧ Nw w0 u1 ∧ OwK (Sc u8) w' [] 5 u1 r.2) := by
  have hE : Ext w0 w0 := Ext.refl w0; unfold law06_made at H; refine calls_W (n := 19) Try.func24 rfl rfl rfl ?_; refine W_seq ?_; refine W_reg (by kernel_rfl) ?_; refine wla rfl rfl (q_assign (v := (.pointer none)) rfl rfl) ?_; refine wla rfl rfl (q_assign (v := (.slice none 0 0)) rfl rfl) ?_; refine wl_nil ?_; refine W_th ?_; refine W_seq ?_; refine W_reg (by kernel_rfl) ?_; obtain ⟨c1, hc1, H⟩ := bsi H; refine wls rfl rfl (stp_make (L := (L0)) (R := (Sc u8)) rfl T22 rfl rfl hc1 (fun _ _ => rfl) ?_); intro v1 w1 o1 n1 g1 l1; have x1 := grown_ext g1; have n3 := Nw.ext hE n1; have e2 := hE.trans x1; refine wla rfl rfl (q_assign (v := v1) rfl rfl) ?_; refine wl_nil ?_; refine W_th ?_; refine W_seq ?_; refine W_reg (by kernel_rfl) ?_; refine wla rfl rfl (q_move (v := v1) rfl rfl) ?_; refine wla rfl rfl (q_move (v := p0) rfl rfl) ?_; refine wls rfl rfl (stp_copy (R := (Sc u8)) (off := 0) (dv := v1) (u := p0) (Sc.stab _) [] (L0) rfl T22 rfl rfl o1 (copy_whole o1) (by decide) (Int.natCast_nonneg _) (hp0.lift (Lift.ext e2 _)) (fun _ _ h => h) oc_u8 ?_); intro w4 o4 g4 l4; have e5 := e2.grown g4 n3; refine wl_nil ?_; refine W_th ?_; refine W_seq ?_; refine W_reg (by kernel_rfl) ?_; obtain ⟨r6, hr6, H⟩ := bsi H; refine wls rfl rfl (stp_call (vs := []) Try.func18 rfl rfl rfl (ar0 ) (field_New_calls   r6 _ (v1 :: L0) (Old.cons (hL0.ext e5) o4.lt)  hr6) ?_); rintro _ w6 ⟨v6, rfl, x6, i6_0⟩; refine ⟨_, rfl, ?_⟩; replace o4 := o4.extL (Sc.stab _) x6 (Lift.ext x6 _); have e7 := e5.trans x6; refine wla rfl rfl (q_move (v := v1) rfl rfl) ?_; obtain ⟨r8, hr8, H⟩ := bsi H; refine wls rfl rfl (stp_call (vs := [v6, v1]) Try.func17 rfl rfl rfl (ar2 rfl rfl) (cipher_New_calls r6 (copyL c1 0 a0k) v6 v1 r8 _ (v1 :: L0) (Old.cons (hL0.ext e7) o4.lt) i6_0 (o4.rd (Sc.stab _)) hr8) ?_); rintro _ w8 ⟨v8_0, rfl, x8, i8_0⟩; refine ⟨_, rfl, ?_⟩; replace i6_0 := i6_0.lift (Lift.ext x8 _); replace o4 := o4.extL (Sc.stab _) x8 (Lift.ext x8 _); have e9 := e7.trans x8; refine wla rfl rfl (q_move (v := (.tuple #[v8_0, (i64 r8.2)])) rfl rfl) ?_; refine wla rfl rfl (q_extract rfl rfl rfl) ?_; refine wla rfl rfl (q_extract rfl rfl rfl) ?_; refine wla rfl rfl (q_assign (v := v8_0) rfl rfl) ?_; refine wla rfl rfl (q_assign (v := (i64 r8.2)) rfl rfl) ?_; refine wl_nil ?_; refine W_th ?_; refine W_seq ?_; refine W_reg (by kernel_rfl) ?_; refine wla rfl rfl (q_move (v := v8_0) rfl rfl) ?_; refine wla rfl rfl (q_move (v := v1) rfl rfl) ?_; refine wla rfl rfl (q_assign (v := v8_0) rfl rfl) ?_; refine wla rfl rfl (q_assign (v := v1) rfl rfl) ?_; refine wl_nil ?_; refine W_th ?_; refine W_ret ?_; obtain rfl := osi H; refine rt2 v8_0 v1 rfl rfl rfl rfl rfl rfl ?_; exact ⟨v8_0, v1, rfl, e9, (i8_0.lift (Lift.sub (fun _ h => h.2))), n3, (o4.weak (Sc.stab _) (fun _ _ => trivial))⟩
noncomputable def law06_nonce (a0b : List UInt8) : Option (List UInt8) :=
((makeL 8 (0 : UInt8)).bind fun c1 =>
some (copyL c1 0 a0b))
set_option maxRecDepth 100000 in
set_option maxHeartbeats 8000000 in
theorem law06_nonce_calls (a0b : List UInt8) (p0 : Value) (r : List UInt8) (w0 : World) (hp0 : By w0 [] p0 a0b) (H : law06_nonce a0b = some r) :
    Calls Try.prog 26 [p0].toArray w0 (fun e w' => ∃ u0 : Value, e = .returned u0 ∧ Ext w0 w' ∧ Nw w0 u0 ∧ OwK (Sc u8) w' [] 5 u0 r) := by
  have hE : Ext w0 w0 := Ext.refl w0; unfold law06_nonce at H; refine calls_W (n := 9) Try.func26 rfl rfl rfl ?_; refine W_seq ?_; refine W_reg (by kernel_rfl) ?_; refine wla rfl rfl (q_assign (v := (.slice none 0 0)) rfl rfl) ?_; refine wl_nil ?_; refine W_th ?_; refine W_seq ?_; refine W_reg (by kernel_rfl) ?_; obtain ⟨c1, hc1, H⟩ := bsi H; refine wls rfl rfl (stp_make (L := []) (R := (Sc u8)) rfl T22 rfl rfl hc1 (fun _ _ => rfl) ?_); intro v1 w1 o1 n1 g1 l1; have x1 := grown_ext g1; have n3 := Nw.ext hE n1; have e2 := hE.trans x1; refine wla rfl rfl (q_assign (v := v1) rfl rfl) ?_; refine wl_nil ?_; refine W_th ?_; refine W_seq ?_; refine W_reg (by kernel_rfl) ?_; refine wla rfl rfl (q_move (v := v1) rfl rfl) ?_; refine wla rfl rfl (q_move (v := p0) rfl rfl) ?_; refine wls rfl rfl (stp_copy (R := (Sc u8)) (off := 0) (dv := v1) (u := p0) (Sc.stab _) [] [] rfl T22 rfl rfl o1 (copy_whole o1) (by decide) (Int.natCast_nonneg _) (hp0.lift (Lift.ext e2 _)) (fun _ _ h => h) oc_u8 ?_); intro w4 o4 g4 l4; have e5 := e2.grown g4 n3; refine wl_nil ?_; refine W_th ?_; refine W_seq ?_; refine W_reg (by kernel_rfl) ?_; refine wla rfl rfl (q_move (v := v1) rfl rfl) ?_; refine wla rfl rfl (q_assign (v := v1) rfl rfl) ?_; refine wl_nil ?_; refine W_th ?_; refine W_ret ?_; obtain rfl := osi H; refine rt1 v1 rfl rfl rfl rfl ?_; exact ⟨v1, rfl, e5, n3, (o4.weak (Sc.stab _) (fun _ _ => trivial))⟩
noncomputable def law06_lives  : Option Bool :=
((law06_made ([] : List UInt8)).bind fun r1 =>
((makeL 8 (0 : UInt8)).bind fun c3 =>
((stream_Bytes r1.1 c3 16 16).bind fun r6 =>
(if r6.2 = 0 then
((ref01_Put (1 : UInt64) 8).bind fun r11 =>
((appL c3 r11).bind fun c13 =>
((ref05_Encrypt r1.2 c13).bind fun r16 =>
some (decide (r6.1 = r16)))))
else
some false))))
set_option maxRecDepth 100000 in
set_option maxHeartbeats 8000000 in
theorem law06_lives_calls  (r : Bool) (w0 : World) (H : law06_lives = some r) :
    Calls Try.prog 23 [].toArray w0 (fun e w' => e = .returned (.bool r) ∧ Ext w0 w') := by
  have hE : Ext w0 w0 := Ext.refl w0; unfold law06_lives at H; refine calls_W (n := 30) Try.func23 rfl rfl rfl ?_; refine W_seq ?_; refine W_reg (by kernel_rfl) ?_; refine wla rfl rfl (q_assign (v := (.bool false)) rfl rfl) ?_; refine wl_nil ?_; refine W_th ?_; refine W_seq ?_; refine W_reg (by kernel_rfl) ?_; obtain ⟨r1, hr1, H⟩ := bsi H; refine wls rfl rfl (stp_call (vs := [(.slice none 0 0)]) Try.func24 rfl rfl rfl (ar1 rfl) (law06_made_calls ([] : List UInt8) (.slice none 0 0) r1 _ [] (Old.nil _) (SlK.nil _ _ _) hr1) ?_); rintro _ w1 ⟨v1_0, v1_1, rfl, x1, i1_0, n1_1, o1_1⟩; refine ⟨_, rfl, ?_⟩; have i1_1 : By w1 [] v1_1 r1.2 := OwK.slk (Sc.stab _) _ (OwK.scal o1_1 (v1_1 :: [])) (fun k hk => (Old.nil _) k (n1_1 k hk)) (fun _ h => h.2); have e2 := hE.trans x1; refine wla rfl rfl (q_move (v := (.tuple #[v1_0, v1_1])) rfl rfl) ?_; refine wla rfl rfl (q_extract rfl rfl rfl) ?_; refine wla rfl rfl (q_extract rfl rfl rfl) ?_; refine wla rfl rfl (q_assign (v := v1_0) rfl rfl) ?_; refine wla rfl rfl (q_assign (v := v1_1) rfl rfl) ?_; refine wl_nil ?_; refine W_th ?_; refine W_seq ?_; refine W_reg (by kernel_rfl) ?_; obtain ⟨c3, hc3, H⟩ := bsi H; refine wls rfl rfl (stp_make (L := []) (R := (Sc u8)) rfl T22 rfl rfl hc3 (fun _ _ => rfl) ?_); intro v3 w3 o3 n3 g3 l3; have x3 := grown_ext g3; replace i1_0 := i1_0.lift (Lift.call _ x3 n3); replace i1_1 := i1_1.lift (Lift.call _ x3 n3); have n5 := Nw.ext e2 n3; have e4 := e2.trans x3; refine wla rfl rfl (q_assign (v := v3) rfl rfl) ?_; refine wl_nil ?_; refine W_th ?_; refine W_seq ?_; refine W_reg (by kernel_rfl) ?_; refine wla rfl rfl (q_move (v := v1_0) rfl rfl) ?_; refine wla rfl rfl (q_move (v := v3) rfl rfl) ?_; obtain ⟨r6, hr6, H⟩ := bsi H; refine wls rfl rfl (stp_call (vs := [v1_0, v3, (i64 16), (i64 16)]) Try.func25 rfl rfl rfl (ar4 rfl rfl rfl rfl) (stream_Bytes_calls r1.1 c3 16 16 v1_0 v3 r6 _ (i1_0.lift (Lift.sub (fun _ _ => trivial))) (o3.rd (Sc.stab _)) hr6) ?_); rintro _ w6 ⟨v6_0, rfl, x6, n6_0, o6_0⟩; refine ⟨_, rfl, ?_⟩; have i6_0 : By w6 [v3] v6_0 r6.1 := SlK.avail o6_0 _ (fun k hk => (Old.cons (Old.nil _) o3.lt) k (n6_0 k hk)); replace i1_0 := i1_0.lift (Lift.ext x6 _); replace i1_1 := i1_1.lift (Lift.ext x6 _); replace o3 := o3.extL (Sc.stab _) x6 (Lift.ext x6 _); have e7 := e4.trans x6; refine wla rfl rfl (q_move (v := (.tuple #[v6_0, (i64 r6.2)])) rfl rfl) ?_; refine wla rfl rfl (q_extract rfl rfl rfl) ?_; refine wla rfl rfl (q_extract rfl rfl rfl) ?_; refine wla rfl rfl (q_assign (v := v6_0) rfl rfl) ?_; refine wla rfl rfl (q_assign (v := (i64 r6.2)) rfl rfl) ?_; refine wl_nil ?_; refine W_th ?_; refine W_seq ?_; refine W_drawT [10] [(0, 0), (1, 0), (2, 0), (3, 0), (5, 0), (6, 0)] (.br 4 [(7, 2), (8, 2), (9, 2), (10, 1), (11, 0), (12, 0), (13, 0)] .fin (.br 7 [] (.br 4 [(8, 2), (9, 2), (10, 1), (11, 0), (12, 0), (13, 0)] .fin (.br 8 [] (.br 4 [(9, 2), (10, 1), (11, 0), (12, 0), (13, 0)] .fin (.br 9 [(10, 1), (4, 2), (11, 0), (12, 0), (13, 0)] .fin .fin)) .fin)) .fin)) mixed (by kernel_rfl) (by kernel_rfl) (by kernel_rfl) (by kernel_rfl) ?_
  have x8 := Ext.drew w6; replace i1_0 := i1_0.lift (Lift.ext x8 _); replace i1_1 := i1_1.lift (Lift.ext x8 _); replace i6_0 := i6_0.lift (Lift.ext x8 _); replace o3 := o3.extL (Sc.stab _) x8 (Lift.ext x8 _); have e9 := e7.trans x8; refine wsa rfl rfl rfl (q_move (v := (i64 r6.2)) rfl rfl) ?_; refine wsa rfl rfl rfl (q_eqI rfl rfl rfl) ?_; refine wsb rfl rfl rfl (q_move (v := (.bool ((decide (r6.2 = 0))))) rfl rfl) (fun hb10 => ?_) (fun hb10 => ?_)
  · replace H := (if_pos (of_decide_eq_true hb10)).symm.trans H; refine wsa rfl rfl rfl (q_move (v := v6_0) rfl rfl) ?_; refine wsa rfl rfl rfl (q_move (v := v1_1) rfl rfl) ?_; refine wsa rfl rfl rfl (q_move (v := v3) rfl rfl) ?_; refine ws_nil ?_; refine wr_br ?_ ?_
    · refine wss rfl rfl rfl (Qt.stp (q_str rfl T22 rfl rfl rfl i6_0) ⟨Ext.refl _, ?_⟩); obtain ⟨r11, hr11, H⟩ := bsi H; refine wsc rfl (by kernel_rfl) rfl rfl (stp_call (vs := [(u64 1), (i64 8)]) Try.func27 rfl rfl rfl (ar2 (by exact (cst64 (1 : UInt64) rfl)) rfl) (ref01_Put_calls (1 : UInt64) 8  r11 _  hr11) ?_); rintro _ w11 ⟨v11, rfl, x11, n11_0, o11_0⟩; refine ⟨_, rfl, ?_⟩; have i11_0 : By w11 [v3] v11 r11 := OwK.slk (Sc.stab _) _ (OwK.scal o11_0 (v11 :: [v3])) (fun k hk => (Old.cons (Old.nil _) o3.lt) k (n11_0 k hk)) (fun _ h => h.2); replace i1_0 := i1_0.lift (Lift.ext x11 _); replace i1_1 := i1_1.lift (Lift.ext x11 _); replace i6_0 := i6_0.lift (Lift.ext x11 _); replace o3 := o3.extL (Sc.stab _) x11 (Lift.ext x11 _); have e12 := e9.trans x11; obtain ⟨c13, hc13, H⟩ := bsi H; refine wsc rfl (by kernel_rfl) rfl rfl (stp_append (R := (Sc u8)) (v := v3) (u := v11) (Sc.stab _) [] [] rfl T22 rfl rfl o3 i11_0 (fun _ _ h => h) hc13 oc_u8 ?_); intro v13 w13 o13 g13 nx13 l13; replace i1_0 := i1_0.lift l13; replace i1_1 := i1_1.lift l13; replace i6_0 := i6_0.lift l13; replace i11_0 := i11_0.lift l13; have e14 := e12.grown g13 n5; have n15 := Nw.nxt e12 n5 nx13; obtain ⟨r16, hr16, H⟩ := bsi H; refine wsc rfl (by kernel_rfl) rfl rfl (stp_call (vs := [v1_1, v13]) Try.func21 rfl rfl rfl (ar2 rfl rfl) (ref05_Encrypt_calls r1.2 c13 v1_1 v13 r16 _ (i1_1.lift (Lift.sub (fun _ _ => trivial))) (o13.rd (Sc.stab _)) hr16) ?_); rintro _ w16 ⟨v16, rfl, x16, n16_0, o16_0⟩; refine ⟨_, rfl, ?_⟩; have i16_0 : By w16 [v13] v16 r16 := SlK.avail o16_0 _ (fun k hk => (Old.cons (Old.nil _) o13.lt) k (n16_0 k hk)); replace i1_0 := i1_0.lift (Lift.ext x16 _); replace i1_1 := i1_1.lift (Lift.ext x16 _); replace i6_0 := i6_0.lift (Lift.ext x16 _); replace i11_0 := i11_0.lift (Lift.ext x16 _); replace o13 := o13.extL (Sc.stab _) x16 (Lift.ext x16 _); have e17 := e14.trans x16; refine wsq rfl rfl rfl (q_str rfl T22 rfl rfl rfl i16_0) ?_; refine wsa rfl rfl rfl (q_eqS rfl rfl rfl) ?_; refine wsa rfl rfl rfl (q_pick_t (v := (.bool ((decide (r6.1 = r16))))) rfl rfl rfl) ?_; refine wsa rfl rfl rfl (q_assign (v := (.bool ((decide (r6.1 = r16))))) rfl rfl) ?_; refine ws_nil ?_; refine wt_fin ?_; refine W_th ?_; refine W_ret ?_; obtain rfl := osi H; refine rt1 (.bool ((decide (r6.1 = r16)))) rfl rfl rfl rfl ?_; exact ⟨rfl, e17⟩
    refine wr_br ?_ ?_
    · obtain ⟨r11, hr11, H⟩ := bsi H; refine wsc rfl (by kernel_rfl) rfl rfl (stp_call (vs := [(u64 1), (i64 8)]) Try.func27 rfl rfl rfl (ar2 (by exact (cst64 (1 : UInt64) rfl)) rfl) (ref01_Put_calls (1 : UInt64) 8  r11 _  hr11) ?_); rintro _ w11 ⟨v11, rfl, x11, n11_0, o11_0⟩; refine ⟨_, rfl, ?_⟩; have i11_0 : By w11 [v3] v11 r11 := OwK.slk (Sc.stab _) _ (OwK.scal o11_0 (v11 :: [v3])) (fun k hk => (Old.cons (Old.nil _) o3.lt) k (n11_0 k hk)) (fun _ h => h.2); replace i1_0 := i1_0.lift (Lift.ext x11 _); replace i1_1 := i1_1.lift (Lift.ext x11 _); replace i6_0 := i6_0.lift (Lift.ext x11 _); replace o3 := o3.extL (Sc.stab _) x11 (Lift.ext x11 _); have e12 := e9.trans x11; refine ws_nil ?_; refine wt_br ?_; refine wr_br ?_ ?_
      · refine wss rfl rfl rfl (Qt.stp (q_str rfl T22 rfl rfl rfl i6_0) ⟨Ext.refl _, ?_⟩); obtain ⟨c13, hc13, H⟩ := bsi H; refine wsc rfl (by kernel_rfl) rfl rfl (stp_append (R := (Sc u8)) (v := v3) (u := v11) (Sc.stab _) [] [] rfl T22 rfl rfl o3 i11_0 (fun _ _ h => h) hc13 oc_u8 ?_); intro v13 w13 o13 g13 nx13 l13; replace i1_0 := i1_0.lift l13; replace i1_1 := i1_1.lift l13; replace i6_0 := i6_0.lift l13; replace i11_0 := i11_0.lift l13; have e14 := e12.grown g13 n5; have n15 := Nw.nxt e12 n5 nx13; obtain ⟨r16, hr16, H⟩ := bsi H; refine wsc rfl (by kernel_rfl) rfl rfl (stp_call (vs := [v1_1, v13]) Try.func21 rfl rfl rfl (ar2 rfl rfl) (ref05_Encrypt_calls r1.2 c13 v1_1 v13 r16 _ (i1_1.lift (Lift.sub (fun _ _ => trivial))) (o13.rd (Sc.stab _)) hr16) ?_); rintro _ w16 ⟨v16, rfl, x16, n16_0, o16_0⟩; refine ⟨_, rfl, ?_⟩; have i16_0 : By w16 [v13] v16 r16 := SlK.avail o16_0 _ (fun k hk => (Old.cons (Old.nil _) o13.lt) k (n16_0 k hk)); replace i1_0 := i1_0.lift (Lift.ext x16 _); replace i1_1 := i1_1.lift (Lift.ext x16 _); replace i6_0 := i6_0.lift (Lift.ext x16 _); replace i11_0 := i11_0.lift (Lift.ext x16 _); replace o13 := o13.extL (Sc.stab _) x16 (Lift.ext x16 _); have e17 := e14.trans x16; refine wsq rfl rfl rfl (q_str rfl T22 rfl rfl rfl i16_0) ?_; refine wsa rfl rfl rfl (q_eqS rfl rfl rfl) ?_; refine wsa rfl rfl rfl (q_pick_t (v := (.bool ((decide (r6.1 = r16))))) rfl rfl rfl) ?_; refine wsa rfl rfl rfl (q_assign (v := (.bool ((decide (r6.1 = r16))))) rfl rfl) ?_; refine ws_nil ?_; refine wt_fin ?_; refine W_th ?_; refine W_ret ?_; obtain rfl := osi H; refine rt1 (.bool ((decide (r6.1 = r16)))) rfl rfl rfl rfl ?_; exact ⟨rfl, e17⟩
      refine wr_br ?_ ?_
      · obtain ⟨c13, hc13, H⟩ := bsi H; refine wsc rfl (by kernel_rfl) rfl rfl (stp_append (R := (Sc u8)) (v := v3) (u := v11) (Sc.stab _) [] [] rfl T22 rfl rfl o3 i11_0 (fun _ _ h => h) hc13 oc_u8 ?_); intro v13 w13 o13 g13 nx13 l13; replace i1_0 := i1_0.lift l13; replace i1_1 := i1_1.lift l13; replace i6_0 := i6_0.lift l13; replace i11_0 := i11_0.lift l13; have e14 := e12.grown g13 n5; have n15 := Nw.nxt e12 n5 nx13; refine ws_nil ?_; refine wt_br ?_; refine wr_br ?_ ?_
        · refine wss rfl rfl rfl (Qt.stp (q_str rfl T22 rfl rfl rfl i6_0) ⟨Ext.refl _, ?_⟩); obtain ⟨r16, hr16, H⟩ := bsi H; refine wsc rfl (by kernel_rfl) rfl rfl (stp_call (vs := [v1_1, v13]) Try.func21 rfl rfl rfl (ar2 rfl rfl) (ref05_Encrypt_calls r1.2 c13 v1_1 v13 r16 _ (i1_1.lift (Lift.sub (fun _ _ => trivial))) (o13.rd (Sc.stab _)) hr16) ?_); rintro _ w16 ⟨v16, rfl, x16, n16_0, o16_0⟩; refine ⟨_, rfl, ?_⟩; have i16_0 : By w16 [v13] v16 r16 := SlK.avail o16_0 _ (fun k hk => (Old.cons (Old.nil _) o13.lt) k (n16_0 k hk)); replace i1_0 := i1_0.lift (Lift.ext x16 _); replace i1_1 := i1_1.lift (Lift.ext x16 _); replace i6_0 := i6_0.lift (Lift.ext x16 _); replace i11_0 := i11_0.lift (Lift.ext x16 _); replace o13 := o13.extL (Sc.stab _) x16 (Lift.ext x16 _); have e17 := e14.trans x16; refine wsq rfl rfl rfl (q_str rfl T22 rfl rfl rfl i16_0) ?_; refine wsa rfl rfl rfl (q_eqS rfl rfl rfl) ?_; refine wsa rfl rfl rfl (q_pick_t (v := (.bool ((decide (r6.1 = r16))))) rfl rfl rfl) ?_; refine wsa rfl rfl rfl (q_assign (v := (.bool ((decide (r6.1 = r16))))) rfl rfl) ?_; refine ws_nil ?_; refine wt_fin ?_; refine W_th ?_; refine W_ret ?_; obtain rfl := osi H; refine rt1 (.bool ((decide (r6.1 = r16)))) rfl rfl rfl rfl ?_; exact ⟨rfl, e17⟩
        refine wr_br ?_ ?_
        · obtain ⟨r16, hr16, H⟩ := bsi H; refine wsc rfl (by kernel_rfl) rfl rfl (stp_call (vs := [v1_1, v13]) Try.func21 rfl rfl rfl (ar2 rfl rfl) (ref05_Encrypt_calls r1.2 c13 v1_1 v13 r16 _ (i1_1.lift (Lift.sub (fun _ _ => trivial))) (o13.rd (Sc.stab _)) hr16) ?_); rintro _ w16 ⟨v16, rfl, x16, n16_0, o16_0⟩; refine ⟨_, rfl, ?_⟩; have i16_0 : By w16 [v13] v16 r16 := SlK.avail o16_0 _ (fun k hk => (Old.cons (Old.nil _) o13.lt) k (n16_0 k hk)); replace i1_0 := i1_0.lift (Lift.ext x16 _); replace i1_1 := i1_1.lift (Lift.ext x16 _); replace i6_0 := i6_0.lift (Lift.ext x16 _); replace i11_0 := i11_0.lift (Lift.ext x16 _); replace o13 := o13.extL (Sc.stab _) x16 (Lift.ext x16 _); have e17 := e14.trans x16; refine wsq rfl rfl rfl (q_str rfl T22 rfl rfl rfl i16_0) ?_; refine wss rfl rfl rfl (Qt.stp (q_str rfl T22 rfl rfl rfl i6_0) ⟨Ext.refl _, ?_⟩); refine wsa rfl rfl rfl (q_eqS rfl rfl rfl) ?_; refine wsa rfl rfl rfl (q_pick_t (v := (.bool ((decide (r6.1 = r16))))) rfl rfl rfl) ?_; refine wsa rfl rfl rfl (q_assign (v := (.bool ((decide (r6.1 = r16))))) rfl rfl) ?_; refine ws_nil ?_; refine wt_fin ?_; refine W_th ?_; refine W_ret ?_; obtain rfl := osi H; refine rt1 (.bool ((decide (r6.1 = r16)))) rfl rfl rfl rfl ?_; exact ⟨rfl, e17⟩
        trivial
      trivial
    trivial
  replace H := (if_neg (of_decide_eq_false hb10)).symm.trans H; refine wsk rfl rfl rfl ?_; refine wsk rfl rfl rfl ?_; refine wsk rfl rfl rfl ?_; refine ws_nil ?_; refine wr_br ?_ ?_
  · refine wsk rfl rfl rfl ?_; refine wsk rfl rfl rfl ?_; refine wsk rfl rfl rfl ?_; refine wsk rfl rfl rfl ?_; refine wsk rfl rfl rfl ?_; refine wsk rfl rfl rfl ?_; refine wsa rfl rfl rfl (q_pick_f (v := (.bool false)) rfl rfl rfl) ?_; refine wsa rfl rfl rfl (q_assign (v := (.bool false)) rfl rfl) ?_; refine ws_nil ?_; refine wt_fin ?_; refine W_th ?_; refine W_ret ?_; obtain rfl := osi H; refine rt1 (.bool false) rfl rfl rfl rfl ?_; exact ⟨rfl, e9⟩
  refine wr_br ?_ ?_
  · refine wsk rfl rfl rfl ?_; refine ws_nil ?_; refine wt_br ?_; refine wr_br ?_ ?_
    · refine wsk rfl rfl rfl ?_; refine wsk rfl rfl rfl ?_; refine wsk rfl rfl rfl ?_; refine wsk rfl rfl rfl ?_; refine wsk rfl rfl rfl ?_; refine wsa rfl rfl rfl (q_pick_f (v := (.bool false)) rfl rfl rfl) ?_; refine wsa rfl rfl rfl (q_assign (v := (.bool false)) rfl rfl) ?_; refine ws_nil ?_; refine wt_fin ?_; refine W_th ?_; refine W_ret ?_; obtain rfl := osi H; refine rt1 (.bool false) rfl rfl rfl rfl ?_; exact ⟨rfl, e9⟩
    refine wr_br ?_ ?_
    · refine wsk rfl rfl rfl ?_; refine ws_nil ?_; refine wt_br ?_; refine wr_br ?_ ?_
      · refine wsk rfl rfl rfl ?_; refine wsk rfl rfl rfl ?_; refine wsk rfl rfl rfl ?_; refine wsk rfl rfl rfl ?_; refine wsa rfl rfl rfl (q_pick_f (v := (.bool false)) rfl rfl rfl) ?_; refine wsa rfl rfl rfl (q_assign (v := (.bool false)) rfl rfl) ?_; refine ws_nil ?_; refine wt_fin ?_; refine W_th ?_; refine W_ret ?_; obtain rfl := osi H; refine rt1 (.bool false) rfl rfl rfl rfl ?_; exact ⟨rfl, e9⟩
      refine wr_br ?_ ?_
      · refine wsk rfl rfl rfl ?_; refine wsk rfl rfl rfl ?_; refine wsk rfl rfl rfl ?_; refine wsk rfl rfl rfl ?_; refine wsa rfl rfl rfl (q_pick_f (v := (.bool false)) rfl rfl rfl) ?_; refine wsa rfl rfl rfl (q_assign (v := (.bool false)) rfl rfl) ?_; refine ws_nil ?_; refine wt_fin ?_; refine W_th ?_; refine W_ret ?_; obtain rfl := osi H; refine rt1 (.bool false) rfl rfl rfl rfl ?_; exact ⟨rfl, e9⟩
      trivial
    trivial
  trivial
noncomputable def law06_StreamBytes (a0k : List UInt8) (a1n : List UInt8) (a2at : Int) (a3size : Int) : Option Bool :=
((law06_lives ).bind fun r1 =>
(if (!r1) = true then
some false
else
((law06_made a0k).bind fun r4 =>
((law06_nonce a1n).bind fun r6 =>
((stream_Bytes r4.1 r6 (wI ((((UInt64.ofInt a2at) % (1073741825 : UInt64))).toNat : Int)) (wI ((((UInt64.ofInt a3size) % (200 : UInt64))).toNat : Int))).bind fun r8 =>
(if r8.2 = 0 then
(if (r8.1.length : Int) = (wI ((((UInt64.ofInt a3size) % (200 : UInt64))).toNat : Int)) then
((iterC (fun s12 : List UInt8 × Int =>
(if s12.2 < (r8.1.length : Int) then
(((if s12.2 = 0 then
((law06_nonce a1n).bind fun r17 =>
((divI ((wI ((wI ((((UInt64.ofInt a2at) % (1073741825 : UInt64))).toNat : Int)) + s12.2))) 16).bind fun c20 =>
((ref01_Put (UInt64.ofInt c20) 8).bind fun r21 =>
((appL r17 r21).bind fun c23 =>
((ref05_Encrypt r4.2 c23).bind fun r26 =>
some r26)))))
else
((remI ((wI ((wI ((((UInt64.ofInt a2at) % (1073741825 : UInt64))).toNat : Int)) + s12.2))) 16).bind fun c28 =>
(if c28 = 0 then
((law06_nonce a1n).bind fun r30 =>
((divI ((wI ((wI ((((UInt64.ofInt a2at) % (1073741825 : UInt64))).toNat : Int)) + s12.2))) 16).bind fun c33 =>
((ref01_Put (UInt64.ofInt c33) 8).bind fun r34 =>
((appL r30 r34).bind fun c36 =>
((ref05_Encrypt r4.2 c36).bind fun r39 =>
some r39)))))
else
some s12.1)))).bind fun x15 =>
((idx r8.1 s12.2).bind fun c44 =>
((remI ((wI ((wI ((((UInt64.ofInt a2at) % (1073741825 : UInt64))).toNat : Int)) + s12.2))) 16).bind fun c45 =>
((idx x15 c45).bind fun c46 =>
(if c44 = c46 then
some (.inl (x15, (wI (s12.2 + 1))))
else
some (.inr (.inr false)))))))
else
some (.inr (.inl ())))) (([] : List UInt8), 0)).bind (Sum.elim (fun y12 =>
some true) (fun q12 => some q12)))
else
some false)
else
some false))))))
set_option maxRecDepth 100000 in
set_option maxHeartbeats 8000000 in
theorem law06_StreamBytes_calls (a0k : List UInt8) (a1n : List UInt8) (a2at : Int) (a3size : Int) (p0 : Value) (p1 : Value) (r : Bool) (w0 : World) (hp0 : By w0 [] p0 a0k) (hp1 : By w0 [] p1 a1n) (H : law06_StreamBytes a0k a1n a2at a3size = some r) :
    Calls Try.prog 6 [p0, p1, (i64 a2at), (i64 a3size)].toArray w0 (fun e w' => e = .returned (.bool r) ∧ Ext w0 w') := by
  have hE : Ext w0 w0 := Ext.refl w0; unfold law06_StreamBytes at H; refine calls_W (n := 85) Try.func6 rfl rfl rfl ?_; refine W_seq ?_; refine W_reg (by kernel_rfl) ?_; refine wla rfl rfl (q_assign (v := (.bool false)) rfl rfl) ?_; refine wl_nil ?_; refine W_th ?_; refine W_seq ?_; refine W_seq ?_; refine W_reg (by kernel_rfl) ?_; obtain ⟨r1, hr1, H⟩ := bsi H; refine wls rfl rfl (stp_call (vs := []) Try.func23 rfl rfl rfl (ar0 ) (law06_lives_calls   r1 _  hr1) ?_); rintro _ w1 ⟨rfl, x1⟩; refine ⟨_, rfl, ?_⟩; have e2 := hE.trans x1; refine wla rfl rfl (q_not rfl rfl) ?_; refine wl_nil ?_; refine W_th ?_; refine W_cond _ rfl rfl (fun hb3 => ?_) (fun hb3 => ?_)
  · replace H := (if_pos hb3).symm.trans H; refine W_seq ?_; refine W_reg (by kernel_rfl) ?_; refine wla rfl rfl (q_assign (v := (.bool false)) rfl rfl) ?_; refine wl_nil ?_; refine W_th ?_; refine W_ret ?_; refine th_r ?_; obtain rfl := osi H; refine rt1 (.bool false) rfl rfl rfl rfl ?_; exact ⟨rfl, e2⟩
  replace H := (if_neg (ne_true_of_eq_false hb3)).symm.trans H; refine W_skip ?_; refine W_th ?_; refine W_seq ?_; refine W_reg (by kernel_rfl) ?_; refine wla rfl rfl (q_move (v := p0) rfl rfl) ?_; obtain ⟨r4, hr4, H⟩ := bsi H; refine wls rfl rfl (stp_call (vs := [p0]) Try.func24 rfl rfl rfl (ar1 rfl) (law06_made_calls a0k p0 r4 _ [] (Old.nil _) (hp0.lift (Lift.ext e2 _)) hr4) ?_); rintro _ w4 ⟨v4_0, v4_1, rfl, x4, i4_0, n4_1, o4_1⟩; refine ⟨_, rfl, ?_⟩; have i4_1 : By w4 [] v4_1 r4.2 := OwK.slk (Sc.stab _) _ (OwK.scal o4_1 (v4_1 :: [])) (fun k hk => (Old.nil _) k (n4_1 k hk)) (fun _ h => h.2); have e5 := e2.trans x4; refine wla rfl rfl (q_move (v := (.tuple #[v4_0, v4_1])) rfl rfl) ?_; refine wla rfl rfl (q_extract rfl rfl rfl) ?_; refine wla rfl rfl (q_extract rfl rfl rfl) ?_; refine wla rfl rfl (q_assign (v := v4_0) rfl rfl) ?_; refine wla rfl rfl (q_assign (v := v4_1) rfl rfl) ?_; refine wl_nil ?_; refine W_th ?_; refine W_seq ?_; refine W_reg (by kernel_rfl) ?_; refine wla rfl rfl (q_move (v := (i64 a2at)) rfl rfl) ?_; refine wla rfl rfl (q_cvt64I rfl rfl rfl rfl) ?_; refine wla rfl rfl (q_rem64 rfl rfl (cst64 (1073741825 : UInt64) rfl) (by decide)) ?_; refine wla rfl rfl (q_cvtI64 rfl rfl rfl rfl) ?_; refine wla rfl rfl (q_move (v := (i64 a3size)) rfl rfl) ?_; refine wla rfl rfl (q_cvt64I rfl rfl rfl rfl) ?_; refine wla rfl rfl (q_rem64 rfl rfl (cst64 (200 : UInt64) rfl) (by decide)) ?_; refine wla rfl rfl (q_cvtI64 rfl rfl rfl rfl) ?_; refine wla rfl rfl (q_assign (v := (i64 ((wI ((((UInt64.ofInt a2at) % (1073741825 : UInt64))).toNat : Int))))) rfl rfl) ?_; refine wla rfl rfl (q_assign (v := (i64 ((wI ((((UInt64.ofInt a3size) % (200 : UInt64))).toNat : Int))))) rfl rfl) ?_; refine wl_nil ?_; refine W_th ?_; refine W_seq ?_; refine W_reg (by kernel_rfl) ?_; refine wla rfl rfl (q_move (v := v4_0) rfl rfl) ?_; refine wla rfl rfl (q_move (v := p1) rfl rfl) ?_; obtain ⟨r6, hr6, H⟩ := bsi H; refine wls rfl rfl (stp_call (vs := [p1]) Try.func26 rfl rfl rfl (ar1 rfl) (law06_nonce_calls a1n p1 r6 _ (hp1.lift (Lift.ext e5 _)) hr6) ?_); rintro _ w6 ⟨v6, rfl, x6, n6_0, o6_0⟩; refine ⟨_, rfl, ?_⟩; have i6_0 : By w6 [] v6 r6 := OwK.slk (Sc.stab _) _ (OwK.scal o6_0 (v6 :: [])) (fun k hk => (Old.nil _) k (n6_0 k hk)) (fun _ h => h.2); replace i4_0 := i4_0.lift (Lift.ext x6 _); replace i4_1 := i4_1.lift (Lift.ext x6 _); have e7 := e5.trans x6; refine wla rfl rfl (q_move (v := (i64 ((wI ((((UInt64.ofInt a2at) % (1073741825 : UInt64))).toNat : Int))))) rfl rfl) ?_; refine wla rfl rfl (q_move (v := (i64 ((wI ((((UInt64.ofInt a3size) % (200 : UInt64))).toNat : Int))))) rfl rfl) ?_; obtain ⟨r8, hr8, H⟩ := bsi H; refine wls rfl rfl (stp_call (vs := [v4_0, v6, (i64 ((wI ((((UInt64.ofInt a2at) % (1073741825 : UInt64))).toNat : Int)))), (i64 ((wI ((((UInt64.ofInt a3size) % (200 : UInt64))).toNat : Int))))]) Try.func25 rfl rfl rfl (ar4 rfl rfl rfl rfl) (stream_Bytes_calls r4.1 r6 (wI ((((UInt64.ofInt a2at) % (1073741825 : UInt64))).toNat : Int)) (wI ((((UInt64.ofInt a3size) % (200 : UInt64))).toNat : Int)) v4_0 v6 r8 _ (i4_0.lift (Lift.sub (fun _ _ => trivial))) (i6_0.lift (Lift.sub (fun _ _ => trivial))) hr8) ?_)
  rintro _ w8 ⟨v8_0, rfl, x8, n8_0, o8_0⟩; refine ⟨_, rfl, ?_⟩; have i8_0 : By w8 [] v8_0 r8.1 := SlK.avail o8_0 _ (fun k hk => (Old.nil _) k (n8_0 k hk)); replace i4_0 := i4_0.lift (Lift.ext x8 _); replace i4_1 := i4_1.lift (Lift.ext x8 _); replace i6_0 := i6_0.lift (Lift.ext x8 _); have e9 := e7.trans x8; refine wla rfl rfl (q_move (v := (.tuple #[v8_0, (i64 r8.2)])) rfl rfl) ?_; refine wla rfl rfl (q_extract rfl rfl rfl) ?_; refine wla rfl rfl (q_extract rfl rfl rfl) ?_; refine wla rfl rfl (q_assign (v := v8_0) rfl rfl) ?_; refine wla rfl rfl (q_assign (v := (i64 r8.2)) rfl rfl) ?_; refine wl_nil ?_; refine W_th ?_; refine W_seq ?_; refine W_seq ?_; refine W_reg (by kernel_rfl) ?_; refine wla rfl rfl (q_move (v := (i64 r8.2)) rfl rfl) ?_; refine wla rfl rfl (q_neI rfl rfl rfl) ?_; refine wlb rfl rfl (q_move (v := (.bool ((!decide (r8.2 = 0))))) rfl rfl) (fun hb10 => ?_) (fun hb10 => ?_)
  · replace H := (if_neg (ndec_t hb10)).symm.trans H; refine wlk rfl rfl ?_; refine wlk rfl rfl ?_; refine wlk rfl rfl ?_; refine wlk rfl rfl ?_; refine wla rfl rfl (q_pick_t (v := (.bool true)) rfl rfl rfl) ?_; refine wl_nil ?_; refine W_th ?_; refine W_cond true rfl rfl (fun _ => ?_) (fun hb => by cases hb); refine W_seq ?_; refine W_reg (by kernel_rfl) ?_; refine wla rfl rfl (q_assign (v := (.bool false)) rfl rfl) ?_; refine wl_nil ?_; refine W_th ?_; refine W_ret ?_; refine th_r ?_; obtain rfl := osi H; refine rt1 (.bool false) rfl rfl rfl rfl ?_; exact ⟨rfl, e9⟩
  replace H := (if_pos (ndec_f hb10)).symm.trans H; refine wla rfl rfl (q_move (v := v8_0) rfl rfl) ?_; refine wla rfl rfl (q_len rfl T22.sl rfl i8_0) ?_; refine wla rfl rfl (q_move (v := (i64 ((wI ((((UInt64.ofInt a3size) % (200 : UInt64))).toNat : Int))))) rfl rfl) ?_; refine wla rfl rfl (q_neI rfl rfl rfl) ?_; refine wla rfl rfl (q_pick_f (v := (.bool ((!decide ((r8.1.length : Int) = (wI ((((UInt64.ofInt a3size) % (200 : UInt64))).toNat : Int))))))) rfl rfl rfl) ?_; refine wl_nil ?_; refine W_th ?_; refine W_cond _ rfl rfl (fun hb11 => ?_) (fun hb11 => ?_)
  · replace H := (if_neg (ndec_t hb11)).symm.trans H; refine W_seq ?_; refine W_reg (by kernel_rfl) ?_; refine wla rfl rfl (q_assign (v := (.bool false)) rfl rfl) ?_; refine wl_nil ?_; refine W_th ?_; refine W_ret ?_; refine th_r ?_; obtain rfl := osi H; refine rt1 (.bool false) rfl rfl rfl rfl ?_; exact ⟨rfl, e9⟩
  replace H := (if_pos (ndec_f hb11)).symm.trans H; refine W_skip ?_; refine W_th ?_; refine W_seq ?_; refine W_reg (by kernel_rfl) ?_; refine wla rfl rfl (q_assign (v := (.slice none 0 0)) rfl rfl) ?_; refine wl_nil ?_; refine W_th ?_; refine W_seq ?_; refine W_seq ?_; refine W_reg (by kernel_rfl) ?_; refine wla rfl rfl (q_move (v := v8_0) rfl rfl) ?_; refine wla rfl rfl (q_len rfl T22.sl rfl i8_0) ?_; refine wla rfl rfl (q_move (v := (i64 0)) rfl rfl) ?_; refine wl_nil ?_; refine W_th ?_; obtain ⟨x12, G12, H⟩ := bsi H; refine W_mid (fun f w => ∃ y12, x12 = .inl y12 ∧ f 85 = undef ∧ Ext w0 w) ?_ ?_
  · refine W_block ?_; refine W_loop (fun s12 f w => ∃ v13_49 : Value, f 1 = p1 ∧ f 2 = (i64 ((wI ((((UInt64.ofInt a2at) % (1073741825 : UInt64))).toNat : Int)))) ∧ f 10 = v4_1 ∧ f 11 = v8_0 ∧ f 13 = v13_49 ∧ f 48 = (i64 ((r8.1.length : Int))) ∧ f 49 = (i64 s12.2) ∧ f 85 = undef ∧ Ext w0 w ∧ By w [] v4_1 r4.2 ∧ By w [] v8_0 r8.1 ∧ By w [] v13_49 s12.1) G12 ?_ ?_
    · exact ⟨(.slice none 0 0), rfl, rfl, rfl, rfl, rfl, rfl, rfl, rfl, e9, i4_1, i8_0, (SlK.nil _ _ _)⟩
    rintro s12 _ _ w13 ⟨v13_13, s1_13, s2_13, s10_13, s11_13, s13_13, s48_13, s49_13, s85_13, hE13, i0_13, i1_13, i2_13⟩ H12 hr12; refine W_seq ?_; refine W_reg (by kernel_rfl) ?_; refine wla rfl rfl (q_ltI rfl s49_13 s48_13) ?_; refine wl_nil ?_; refine W_th ?_; refine W_seq ?_; refine W_cond _ rfl rfl (fun hb14 => ?_) (fun hb14 => ?_)
    · replace H12 := (if_pos (of_decide_eq_true hb14)).symm.trans H12; refine W_skip ?_; refine W_th ?_; refine W_seq ?_; refine W_block ?_; refine W_seq ?_; refine W_reg (by kernel_rfl) ?_; refine wla rfl rfl (q_move (v := (i64 s12.2)) rfl s49_13) ?_; refine wla rfl rfl (q_assign (v := (i64 s12.2)) rfl rfl) ?_; refine wl_nil ?_; refine W_th ?_; refine W_seq ?_; obtain ⟨x15, H15, H12⟩ := bsi H12; refine W_mid (fun f w => ∃ v13_48 : Value, f 1 = p1 ∧ f 2 = (i64 ((wI ((((UInt64.ofInt a2at) % (1073741825 : UInt64))).toNat : Int)))) ∧ f 10 = v4_1 ∧ f 11 = v8_0 ∧ f 13 = v13_48 ∧ f 14 = (i64 s12.2) ∧ f 48 = (i64 ((r8.1.length : Int))) ∧ f 49 = (i64 s12.2) ∧ f 85 = undef ∧ Ext w0 w ∧ By w [] v4_1 r4.2 ∧ By w [] v8_0 r8.1 ∧ By w [] v13_48 x15) ?_ ?_
      · refine W_seq ?_; refine W_reg (by kernel_rfl) ?_; refine wla rfl rfl (q_move (v := (i64 s12.2)) rfl rfl) ?_; refine wla rfl rfl (q_eqI rfl rfl rfl) ?_; refine wlb rfl rfl (q_move (v := (.bool ((decide (s12.2 = 0))))) rfl rfl) (fun hb16 => ?_) (fun hb16 => ?_)
        · replace H15 := (if_pos (of_decide_eq_true hb16)).symm.trans H15; refine wlk rfl rfl ?_; refine wlk rfl rfl ?_; refine wlk rfl rfl ?_; refine wlk rfl rfl ?_; refine wlk rfl rfl ?_; refine wla rfl rfl (q_pick_t (v := (.bool true)) rfl rfl rfl) ?_; refine wl_nil ?_; refine W_th ?_; refine W_cond true rfl rfl (fun _ => ?_) (fun hb => by cases hb); refine W_reg (by kernel_rfl) ?_; refine wla rfl rfl (q_move (v := v4_1) rfl s10_13) ?_; refine wla rfl rfl (q_move (v := p1) rfl s1_13) ?_; obtain ⟨r17, hr17, H15⟩ := bsi H15; refine wls rfl rfl (stp_call (vs := [p1]) Try.func26 rfl rfl rfl (ar1 rfl) (law06_nonce_calls a1n p1 r17 _ (hp1.lift (Lift.ext hE13 _)) hr17) ?_); rintro _ w17 ⟨v17, rfl, x17, n17_0, o17_0⟩; refine ⟨_, rfl, ?_⟩; have o17 : OwK (Sc u8) w17 (v17 :: []) 5 v17 r17 := OwK.scal o17_0 _; replace i0_13 := i0_13.lift (Lift.call _ x17 n17_0); replace i1_13 := i1_13.lift (Lift.call _ x17 n17_0); replace i2_13 := i2_13.lift (Lift.call _ x17 n17_0); have n19 := Nw.ext hE13 n17_0; have e18 := hE13.trans x17; refine wla rfl rfl (q_move (v := (i64 ((wI ((((UInt64.ofInt a2at) % (1073741825 : UInt64))).toNat : Int))))) rfl s2_13) ?_; refine wla rfl rfl (q_move (v := (i64 s12.2)) rfl rfl) ?_; refine wla rfl rfl (q_addI rfl rfl rfl) ?_; obtain ⟨c20, hc20, H15⟩ := bsi H15; refine wla rfl rfl (q_divI rfl rfl rfl hc20) ?_; refine wla rfl rfl (q_cvt64I rfl rfl rfl rfl) ?_; obtain ⟨r21, hr21, H15⟩ := bsi H15; refine wls rfl rfl (stp_call (vs := [(u64 ((UInt64.ofInt c20))), (i64 8)]) Try.func27 rfl rfl rfl (ar2 rfl rfl) (ref01_Put_calls (UInt64.ofInt c20) 8  r21 _  hr21) ?_); rintro _ w21 ⟨v21, rfl, x21, n21_0, o21_0⟩; refine ⟨_, rfl, ?_⟩; have i21_0 : By w21 [v17] v21 r21 := OwK.slk (Sc.stab _) _ (OwK.scal o21_0 (v21 :: [v17])) (fun k hk => (Old.cons (Old.nil _) o17.lt) k (n21_0 k hk)) (fun _ h => h.2); replace i0_13 := i0_13.lift (Lift.ext x21 _); replace i1_13 := i1_13.lift (Lift.ext x21 _); replace i2_13 := i2_13.lift (Lift.ext x21 _); replace o17 := o17.extL (Sc.stab _) x21 (Lift.ext x21 _); have e22 := e18.trans x21; obtain ⟨c23, hc23, H15⟩ := bsi H15; refine wls rfl rfl (stp_append (R := (Sc u8)) (v := v17) (u := v21) (Sc.stab _) [] [] rfl T22 rfl rfl o17 i21_0 (fun _ _ h => h) hc23 oc_u8 ?_); intro v23 w23 o23 g23 nx23 l23; replace i0_13 := i0_13.lift l23; replace i1_13 := i1_13.lift l23; replace i2_13 := i2_13.lift l23; replace i21_0 := i21_0.lift l23; have e24 := e22.grown g23 n19; have n25 := Nw.nxt e22 n19 nx23; obtain ⟨r26, hr26, H15⟩ := bsi H15; refine wls rfl rfl (stp_call (vs := [v4_1, v23]) Try.func21 rfl rfl rfl (ar2 rfl rfl) (ref05_Encrypt_calls r4.2 c23 v4_1 v23 r26 _ (i0_13.lift (Lift.sub (fun _ _ => trivial))) (o23.rd (Sc.stab _)) hr26) ?_); rintro _ w26 ⟨v26, rfl, x26, n26_0, o26_0⟩; refine ⟨_, rfl, ?_⟩; have i26_0 : By w26 [v23] v26 r26 := SlK.avail o26_0 _ (fun k hk => (Old.cons (Old.nil _) o23.lt) k (n26_0 k hk)); replace i0_13 := i0_13.lift (Lift.ext x26 _)
          replace i1_13 := i1_13.lift (Lift.ext x26 _); replace i2_13 := i2_13.lift (Lift.ext x26 _); replace i21_0 := i21_0.lift (Lift.ext x26 _); replace o23 := o23.extL (Sc.stab _) x26 (Lift.ext x26 _); have e27 := e24.trans x26; refine wla rfl rfl (q_assign (v := v26) rfl rfl) ?_; refine wl_nil ?_; obtain rfl := osi H15; exact ⟨v26, s1_13, s2_13, s10_13, s11_13, rfl, rfl, s48_13, s49_13, s85_13, e27, (i0_13.lift (Lift.sub (fun _ h => trivial))), (i1_13.lift (Lift.sub (fun _ h => trivial))), (i26_0.lift (Lift.sub (fun _ h => trivial)))⟩
        replace H15 := (if_neg (of_decide_eq_false hb16)).symm.trans H15; refine wla rfl rfl (q_move (v := (i64 ((wI ((((UInt64.ofInt a2at) % (1073741825 : UInt64))).toNat : Int))))) rfl s2_13) ?_; refine wla rfl rfl (q_move (v := (i64 s12.2)) rfl rfl) ?_; refine wla rfl rfl (q_addI rfl rfl rfl) ?_; obtain ⟨c28, hc28, H15⟩ := bsi H15; refine wla rfl rfl (q_remI rfl rfl rfl hc28) ?_; refine wla rfl rfl (q_eqI rfl rfl rfl) ?_; refine wla rfl rfl (q_pick_f (v := (.bool ((decide (c28 = 0))))) rfl rfl rfl) ?_; refine wl_nil ?_; refine W_th ?_; refine W_cond _ rfl rfl (fun hb29 => ?_) (fun hb29 => ?_)
        · replace H15 := (if_pos (of_decide_eq_true hb29)).symm.trans H15; refine W_reg (by kernel_rfl) ?_; refine wla rfl rfl (q_move (v := v4_1) rfl s10_13) ?_; refine wla rfl rfl (q_move (v := p1) rfl s1_13) ?_; obtain ⟨r30, hr30, H15⟩ := bsi H15; refine wls rfl rfl (stp_call (vs := [p1]) Try.func26 rfl rfl rfl (ar1 rfl) (law06_nonce_calls a1n p1 r30 _ (hp1.lift (Lift.ext hE13 _)) hr30) ?_); rintro _ w30 ⟨v30, rfl, x30, n30_0, o30_0⟩; refine ⟨_, rfl, ?_⟩; have o30 : OwK (Sc u8) w30 (v30 :: []) 5 v30 r30 := OwK.scal o30_0 _; replace i0_13 := i0_13.lift (Lift.call _ x30 n30_0); replace i1_13 := i1_13.lift (Lift.call _ x30 n30_0); replace i2_13 := i2_13.lift (Lift.call _ x30 n30_0); have n32 := Nw.ext hE13 n30_0; have e31 := hE13.trans x30; refine wla rfl rfl (q_move (v := (i64 ((wI ((((UInt64.ofInt a2at) % (1073741825 : UInt64))).toNat : Int))))) rfl s2_13) ?_; refine wla rfl rfl (q_move (v := (i64 s12.2)) rfl rfl) ?_; refine wla rfl rfl (q_addI rfl rfl rfl) ?_; obtain ⟨c33, hc33, H15⟩ := bsi H15; refine wla rfl rfl (q_divI rfl rfl rfl hc33) ?_; refine wla rfl rfl (q_cvt64I rfl rfl rfl rfl) ?_; obtain ⟨r34, hr34, H15⟩ := bsi H15; refine wls rfl rfl (stp_call (vs := [(u64 ((UInt64.ofInt c33))), (i64 8)]) Try.func27 rfl rfl rfl (ar2 rfl rfl) (ref01_Put_calls (UInt64.ofInt c33) 8  r34 _  hr34) ?_); rintro _ w34 ⟨v34, rfl, x34, n34_0, o34_0⟩; refine ⟨_, rfl, ?_⟩; have i34_0 : By w34 [v30] v34 r34 := OwK.slk (Sc.stab _) _ (OwK.scal o34_0 (v34 :: [v30])) (fun k hk => (Old.cons (Old.nil _) o30.lt) k (n34_0 k hk)) (fun _ h => h.2); replace i0_13 := i0_13.lift (Lift.ext x34 _); replace i1_13 := i1_13.lift (Lift.ext x34 _); replace i2_13 := i2_13.lift (Lift.ext x34 _); replace o30 := o30.extL (Sc.stab _) x34 (Lift.ext x34 _); have e35 := e31.trans x34; obtain ⟨c36, hc36, H15⟩ := bsi H15; refine wls rfl rfl (stp_append (R := (Sc u8)) (v := v30) (u := v34) (Sc.stab _) [] [] rfl T22 rfl rfl o30 i34_0 (fun _ _ h => h) hc36 oc_u8 ?_); intro v36 w36 o36 g36 nx36 l36; replace i0_13 := i0_13.lift l36; replace i1_13 := i1_13.lift l36; replace i2_13 := i2_13.lift l36; replace i34_0 := i34_0.lift l36; have e37 := e35.grown g36 n32; have n38 := Nw.nxt e35 n32 nx36; obtain ⟨r39, hr39, H15⟩ := bsi H15; refine wls rfl rfl (stp_call (vs := [v4_1, v36]) Try.func21 rfl rfl rfl (ar2 rfl rfl) (ref05_Encrypt_calls r4.2 c36 v4_1 v36 r39 _ (i0_13.lift (Lift.sub (fun _ _ => trivial))) (o36.rd (Sc.stab _)) hr39) ?_); rintro _ w39 ⟨v39, rfl, x39, n39_0, o39_0⟩; refine ⟨_, rfl, ?_⟩; have i39_0 : By w39 [v36] v39 r39 := SlK.avail o39_0 _ (fun k hk => (Old.cons (Old.nil _) o36.lt) k (n39_0 k hk)); replace i0_13 := i0_13.lift (Lift.ext x39 _); replace i1_13 := i1_13.lift (Lift.ext x39 _); replace i2_13 := i2_13.lift (Lift.ext x39 _); replace i34_0 := i34_0.lift (Lift.ext x39 _); replace o36 := o36.extL (Sc.stab _) x39 (Lift.ext x39 _); have e40 := e37.trans x39; refine wla rfl rfl (q_assign (v := v39) rfl rfl) ?_
          refine wl_nil ?_; obtain rfl := osi H15; exact ⟨v39, s1_13, s2_13, s10_13, s11_13, rfl, rfl, s48_13, s49_13, s85_13, e40, (i0_13.lift (Lift.sub (fun _ h => trivial))), (i1_13.lift (Lift.sub (fun _ h => trivial))), (i39_0.lift (Lift.sub (fun _ h => trivial)))⟩
        replace H15 := (if_neg (of_decide_eq_false hb29)).symm.trans H15; refine W_skip ?_; obtain rfl := osi H15; exact ⟨v13_13, s1_13, s2_13, s10_13, s11_13, s13_13, rfl, s48_13, s49_13, s85_13, hE13, i0_13, i1_13, i2_13⟩
      rintro _ w41 ⟨v13_41, s1_41, s2_41, s10_41, s11_41, s13_41, s14_41, s48_41, s49_41, s85_41, hE41, i0_41, i1_41, i2_41⟩; refine W_th ?_; refine W_seq ?_; refine W_draw [3, 10] [(0, 0), (1, 0), (2, 0), (3, 1), (4, 0), (5, 0), (6, 0), (7, 0), (8, 0), (9, 0), (10, 1), (11, 0)] mixed (by kernel_rfl) (by kernel_rfl) (by kernel_rfl) (by kernel_rfl) ?_; have x42 := Ext.drew w41; replace i0_41 := i0_41.lift (Lift.ext x42 _); replace i1_41 := i1_41.lift (Lift.ext x42 _); replace i2_41 := i2_41.lift (Lift.ext x42 _); have e43 := hE41.trans x42; refine wsa rfl rfl rfl (q_move (v := v8_0) rfl s11_41) ?_; refine wsa rfl rfl rfl (q_move (v := (i64 s12.2)) rfl s14_41) ?_; obtain ⟨c44, hc44, H12⟩ := bsi H12; refine wsa rfl rfl rfl (q_adr rfl T22 rfl rfl i1_41 hc44) ?_; refine wsq rfl rfl rfl (q_loadS rfl T22 rfl i1_41 hc44) ?_; refine wsa rfl rfl rfl (q_move (v := v13_41) rfl s13_41) ?_; refine wsa rfl rfl rfl (q_move (v := (i64 ((wI ((((UInt64.ofInt a2at) % (1073741825 : UInt64))).toNat : Int))))) rfl s2_41) ?_; refine wsa rfl rfl rfl (q_move (v := (i64 s12.2)) rfl s14_41) ?_; refine wsa rfl rfl rfl (q_addI rfl rfl rfl) ?_; obtain ⟨c45, hc45, H12⟩ := bsi H12; refine wsa rfl rfl rfl (q_remI rfl rfl rfl hc45) ?_; obtain ⟨c46, hc46, H12⟩ := bsi H12; refine wsa rfl rfl rfl (q_adr rfl T22 rfl rfl i2_41 hc46) ?_; refine wsq rfl rfl rfl (q_loadS rfl T22 rfl i2_41 hc46) ?_; refine wsa rfl rfl rfl (q_ne8 rfl rfl rfl) ?_; refine ws_nil ?_; refine W_th ?_; refine W_cond _ rfl rfl (fun hb47 => ?_) (fun hb47 => ?_)
      · replace H12 := (if_neg (ndec_t hb47)).symm.trans H12; refine W_seq ?_; refine W_reg (by kernel_rfl) ?_; refine wla rfl rfl (q_assign (v := (.bool false)) rfl rfl) ?_; refine wl_nil ?_; refine W_th ?_; refine W_ret ?_; refine bk_r ?_; refine th_r ?_; obtain rfl := osi H12; obtain rfl := hr12 _ rfl; simp only [Sum.elim_inr] at H; refine th_r ?_; refine bk_r ?_; refine th_r ?_; refine th_r ?_; obtain rfl := osi H; refine rt1 (.bool false) rfl rfl rfl s85_41 ?_; exact ⟨rfl, e43⟩
      replace H12 := (if_pos (ndec_f hb47)).symm.trans H12; refine W_skip ?_; refine bk_n ?_; refine W_th ?_; refine W_reg (by kernel_rfl) ?_; refine wla rfl rfl (q_addI rfl s49_41 rfl) ?_; refine wla rfl rfl (q_move (v := (i64 ((wI (s12.2 + 1))))) rfl rfl) ?_; refine wl_nil ?_; obtain rfl := osi H12; exact ⟨_, rfl, v13_41, s1_41, s2_41, s10_41, s11_41, s13_41, s48_41, rfl, s85_41, e43, i0_41, i1_41, i2_41⟩
    replace H12 := (if_neg (of_decide_eq_false hb14)).symm.trans H12; refine W_exit ?_; refine th_x ?_; obtain rfl := osi H12; obtain rfl := hr12 _ rfl; refine th_x ?_; refine bk_x ?_; exact ⟨_, rfl, s85_13, hE13⟩
  rintro _ w50 ⟨y12, rfl, s85_50, hE50⟩; simp only [Sum.elim_inl] at H; refine W_th ?_; refine W_seq ?_; refine W_reg (by kernel_rfl) ?_; refine wla rfl rfl (q_assign (v := (.bool true)) rfl rfl) ?_; refine wl_nil ?_; refine W_th ?_; refine W_ret ?_; obtain rfl := osi H; refine rt1 (.bool true) rfl rfl rfl s85_50 ?_; exact ⟨rfl, hE50⟩
end Gk

/- Chapter 6's statements, in plain Lean. No condition. -/
set_option linter.unusedSimpArgs false
set_option linter.unusedVariables false
namespace Gk
open Gf
theorem made6 (k : List UInt8) : ∃ c k0 ks, law06_made k = some (some c, padK 16 k) ∧ Good c k0 ks ∧ keysF (padK 16 k) = k0 :: ks := by
  have hm : (1000 : Nat) ≤ most := by decide
  obtain ⟨c, k0, ks, hN, G, hK⟩ := New_good (padK 16 k) 4 (.inl rfl) (padK_len _ _)
  refine ⟨c, k0, ks, ?_, G, hK⟩
  unfold law06_made
  rw [show makeL 16 (0 : UInt8) = some (List.replicate 16 0) from makeL_nat 16 _ (by omega), Option.bind_some, show field_New = some true by rfl, Option.bind_some, show copyL (List.replicate 16 (0 : UInt8)) 0 k = padK 16 k by rfl, hN, Option.bind_some]
theorem nonce6 (b : List UInt8) : law06_nonce b = some (padK 8 b) := by
  have hm : (1000 : Nat) ≤ most := by decide
  unfold law06_nonce
  rw [show makeL 8 (0 : UInt8) = some (List.replicate 8 0) from makeL_nat 8 _ (by omega), Option.bind_some]; rfl
theorem rblk {k k0 : List UInt8} {ks : List (List UInt8)} (hk : keysF (padK 16 k) = k0 :: ks) (nonce : List UInt8) (hn : nonce.length = 8) (c : Nat) : ref05_Encrypt (padK 16 k) (nonce ++ b8 (UInt64.ofNat c)) = some (blk5 k0 ks nonce c) :=
  rEncrypt_eq _ _ k0 ks 4 (.inl rfl) (padK_len _ _) (by rw [List.length_append, b8_len, hn]) hk
theorem strL_blk {c : Cip} {k0 : List UInt8} {ks : List (List UInt8)} (G : Good c k0 ks) (nonce : List UInt8) (hn : nonce.length = 8) (i : Nat) : strL k0 ks nonce (16 * i) 16 = blk5 k0 ks nonce i := by
  have hbl := blk5_len G nonce hn i
  refine ext_co (by rw [strL_len, hbl]) fun j hj => ?_
  rw [strL_len] at hj
  rw [co_strL _ _ _ _ _ _ hj, strm, show (16 * i + j) / 16 = i by omega, show (16 * i + j) % 16 = j by omega]
theorem lives6 : law06_lives = some true := by
  have hm : (1000 : Nat) ≤ most := by decide
  obtain ⟨c, k0, ks, hM, G, hK⟩ := made6 []
  unfold law06_lives
  have hB := Bytes_eq G (List.replicate 8 0) (by simp) 16 16 (by omega) (by omega)
  have hs := strL_blk G (List.replicate 8 0) (by simp) 1
  have hr := rblk hK (List.replicate 8 0) (by simp) 1
  rw [hM, Option.bind_some, show makeL 8 (0 : UInt8) = some (List.replicate 8 0) from makeL_nat 8 _ (by omega), Option.bind_some, show (16 : Int) = ((16 : Nat) : Int) by rfl, hB, Option.bind_some]
  dsimp only
  rw [if_pos rfl, rPut_eq, Option.bind_some]
  unfold appL
  rw [if_pos (by rw [b8_len]; simp; omega), Option.bind_some]
  rw [show (UInt64.ofNat 1) = (1 : UInt64) by rfl] at hr
  rw [hr, Option.bind_some, ← hs, decide_eq_true rfl]
theorem mod_nat (a : Int) (m : UInt64) (h0 : 0 < m.toNat) (h : m.toNat ≤ 2000000000) : ∃ n : Nat, n < m.toNat ∧ wI ((((UInt64.ofInt a) % m).toNat : Int)) = (n : Int) := by
  have h1 : ((UInt64.ofInt a) % m).toNat < m.toNat := by rw [UInt64.toNat_mod]; exact Nat.mod_lt _ h0
  exact ⟨_, h1, wI_nat (by omega)⟩
theorem ofInt64 (n : Nat) (h : n < 18446744073709551616) : UInt64.ofInt (n : Int) = UInt64.ofNat n := by
  apply UInt64.toNat_inj.1
  simp [UInt64.ofInt]; omega
theorem law06_StreamBytes_true (k n : List UInt8) (at_ size : Int) (la : -9223372036854775808 ≤ at_) (ha : at_ ≤ 9223372036854775807) (ls : -9223372036854775808 ≤ size) (hs : size ≤ 9223372036854775807) : law06_StreamBytes k n at_ size = some true := by
  have hm : (1000 : Nat) ≤ most := by decide
  obtain ⟨c, k0, ks, hM, G, hK⟩ := made6 k
  have hn : (padK 8 n).length = 8 := padK_len _ _
  obtain ⟨a, ha1, ha2⟩ := mod_nat at_ 1073741825 (by decide) (by decide)
  obtain ⟨z, hz1, hz2⟩ := mod_nat size 200 (by decide) (by decide)
  have ha3 : a < 1073741825 := ha1
  have hz3 : z < 200 := hz1
  unfold law06_StreamBytes
  rw [ha2, hz2, lives6, Option.bind_some, if_neg (by simp), hM, Option.bind_some, nonce6, Option.bind_some]
  simp only [nonce6, Option.bind_some]
  generalize padK 8 n = nn at *
  rw [Bytes_eq G nn hn a z (by omega) (by omega), Option.bind_some]
  dsimp only
  rw [if_pos rfl, strL_len, if_pos rfl]
  have hE : ∀ i : Nat, i < 200 → ((divI ((wI ((a : Int) + (i : Int)))) 16).bind fun c20 => ((ref01_Put (UInt64.ofInt c20) 8).bind fun r21 => ((appL nn r21).bind fun c23 => ((ref05_Encrypt (padK 16 k) c23).bind fun r26 => some r26)))) = some (blk5 k0 ks nn ((a + i) / 16)) := fun i hi => by
    rw [wI_add _ _ (by omega), show (16 : Int) = ((16 : Nat) : Int) by rfl, divI_nat _ _ (by omega) (by omega), Option.bind_some, rPut_eq, Option.bind_some, ofInt64 _ (by omega)]
    unfold appL
    rw [if_pos (by rw [b8_len, hn]; omega), Option.bind_some, rblk hK nn hn, Option.bind_some]
  refine bind_of (x := .inl ()) (iterC_count (fun i => (if i = 0 then [] else blk5 k0 ks nn ((a + (i - 1)) / 16), (i : Int))) z _ rfl ?_ ?_) rfl
  · intro i hi
    dsimp only
    rw [if_pos (by omega)]
    refine bind_of (x := blk5 k0 ks nn ((a + i) / 16)) ?_ ?_
    · by_cases h0 : i = 0
      · rw [if_pos (by omega)]; exact hE i (by omega)
      · rw [if_neg (by omega), wI_add _ _ (by omega), show (16 : Int) = ((16 : Nat) : Int) by rfl, remI_nat _ _ (by omega), Option.bind_some]
        by_cases h16 : (a + i) % 16 = 0
        · rw [if_pos (by omega)]
          have := hE i (by omega)
          rw [wI_add _ _ (by omega)] at this
          exact this
        · rw [if_neg (by omega), if_neg h0, show (a + (i - 1)) / 16 = (a + i) / 16 by omega]
    · have hbl := blk5_len G nn hn ((a + i) / 16)
      have hm16 : (a + i) % 16 < 16 := Nat.mod_lt _ (by omega)
      rw [idx_co (by rw [strL_len]; omega), Option.bind_some, wI_add _ _ (by omega), show (16 : Int) = ((16 : Nat) : Int) by rfl, remI_nat _ _ (by omega), Option.bind_some, idx_co (by omega), Option.bind_some, co_strL _ _ _ _ _ _ hi]
      rw [if_pos (by rfl), wI_succ _ (by omega), if_neg (by omega), Nat.add_sub_cancel]
  · dsimp only
    rw [if_neg (by omega)]
end Gk

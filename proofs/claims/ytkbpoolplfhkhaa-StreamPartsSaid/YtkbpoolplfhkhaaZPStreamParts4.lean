/- Parts L6, Qh, one behind the other. What is proved: said at the head of each part. No condition beside those said there. -/
import Derived.Test.YtkbpoolplfhkhaaRows
import Derived.Orders
import Derived.Deep.Draws
import Derived.Laws.World
import Derived.KernelRfl
import Derived.OrdersIn
import Derived.TacticsIn
import Derived.RangeFuncCalls
import Derived.Deep.LoopGhost
import Derived.Tactics
import Derived.Sort.LoopGhostIn
import Derived.RangeFuncLeaves
import Derived.RangeFuncNested
import Derived.RangeFuncRecord
import Derived.Laws.Sem
import Derived.OwnWalk
import Derived.RangeFuncWrites
import Derived.Laws.IdiomCopy
import Derived.WalkKit
import Derived.ProofKit
import Derived.OpenShut
import Derived.ChangeOld
import Derived.Below
import Derived.Test.YtkbpoolplfhkhaaProg
import Derived.MapKept
import Derived.Lib.AppendZerosOnto
import Derived.Laws.CopyRow
import Derived.Laws.Cells
import Derived.Lib.SlBytesConst
import Derived.Test.YtkbpoolplfhkhaaZPStreamParts1
import Derived.Test.YtkbpoolplfhkhaaZPStreamParts2
import Derived.Test.YtkbpoolplfhkhaaZPStreamParts3
/- Printed by gen.py: for each Go function a pure function, and that the Go code comes to it. No condition beside the equation that says what the pure function gives. -/
set_option linter.unusedVariables false
set_option linter.unusedSimpArgs false
namespace Gk
open Go Go.Proofs
noncomputable def law06_made (a0k : List UInt8) : Option (Option Cip × List UInt8) :=
((makeL 16 (0 : UInt8)).bind fun c1 =>
((field_New ).bind fun r6 =>
((cipher_New r6 (copyL c1 0 a0k)).bind fun r8 => some (r8.1, (copyL c1 0 a0k)))))
set_option maxRecDepth 100000 in
set_option maxHeartbeats 8000000 in
theorem law06_made_calls (a0k : List UInt8) (p0 : Value) (r : Option Cip × List UInt8) (w0 : World) (L0 : List Value) (hL0 : Old w0 L0) (hp0 : By w0 [] p0 a0k) (H : law06_made a0k = some r) :
    Calls Try.prog 24 [p0].toArray w0 (fun e w' => ∃ u0 u1 : Value, e = .returned (.tuple #[u0, u1]) ∧ Ext w0 w' ∧ Ci w' L0 u0 r.1 ∧ Nw w0 u1 ∧ OwK (Sc u8) w' [] 5 u1 r.2) := by
  have hE : Ext w0 w0 := Ext.refl w0; unfold law06_made at H; refine calls_W (n := 19) Try.func24 rfl rfl rfl ?_; refine W_seq ?_; refine W_reg (by kernel_rfl) ?_; refine wla rfl rfl (q_assign (v := (.pointer none)) rfl rfl) ?_; refine wla rfl rfl (q_assign (v := (.slice none 0 0)) rfl rfl) ?_; refine wl_nil ?_; refine W_th ?_; refine W_seq ?_; refine W_reg (by kernel_rfl) ?_; obtain ⟨c1, hc1, H⟩ := bsi H; refine wls rfl rfl (stp_make (L := (L0)) (R := (Sc u8)) rfl T22 rfl rfl hc1 (fun _ _ => rfl) ?_); intro v1 w1 o1 n1 g1 l1; have x1 := grown_ext g1; have n3 := Nw.ext hE n1; have e2 := hE.trans x1; refine wla rfl rfl (q_assign (v := v1) rfl rfl) ?_; refine wl_nil ?_; refine W_th ?_; refine W_seq ?_; refine W_reg (by kernel_rfl) ?_; refine wla rfl rfl (q_move (v := v1) rfl rfl) ?_; refine wla rfl rfl (q_move (v := p0) rfl rfl) ?_; refine wls rfl rfl (stp_copy (R := (Sc u8)) (off := 0) (dv := v1) (u := p0) (Sc.stab _) [] (L0) rfl T22 rfl rfl o1 (copy_whole o1) (by decide) (Int.natCast_nonneg _) (hp0.lift (Lift.ext e2 _)) (fun _ _ h => h) oc_u8 ?_); intro w4 o4 g4 l4; have e5 := e2.grown g4 n3; refine wl_nil ?_; refine W_th ?_; refine W_seq ?_; refine W_reg (by kernel_rfl) ?_; obtain ⟨r6, hr6, H⟩ := bsi H; refine wls rfl rfl (stp_call (vs := []) Try.func18 rfl rfl rfl (ar0 ) (field_New_calls   r6 _ (v1 :: L0) (Old.cons (hL0.ext e5) o4.lt)  hr6) ?_); rintro _ w6 ⟨v6, rfl, x6, i6_0⟩; refine ⟨_, rfl, ?_⟩; replace o4 := o4.extL (Sc.stab _) x6 (Lift.ext x6 _); have e7 := e5.trans x6; refine wla rfl rfl (q_move (v := v1) rfl rfl) ?_; obtain ⟨r8, hr8, H⟩ := bsi H; refine wls rfl rfl (stp_call (vs := [v6, v1]) Try.func17 rfl rfl rfl (ar2 rfl rfl) (cipher_New_calls r6 (copyL c1 0 a0k) v6 v1 r8 _ (v1 :: L0) (Old.cons (hL0.ext e7) o4.lt) i6_0 (o4.rd (Sc.stab _)) hr8) ?_); rintro _ w8 ⟨v8_0, rfl, x8, i8_0⟩; refine ⟨_, rfl, ?_⟩; replace i6_0 := i6_0.lift (Lift.ext x8 _); replace o4 := o4.extL (Sc.stab _) x8 (Lift.ext x8 _); have e9 := e7.trans x8; refine wla rfl rfl (q_move (v := (.tuple #[v8_0, (i64 r8.2)])) rfl rfl) ?_; refine wla rfl rfl (q_extract rfl rfl rfl) ?_; refine wla rfl rfl (q_extract rfl rfl rfl) ?_; refine wla rfl rfl (q_assign (v := v8_0) rfl rfl) ?_; refine wla rfl rfl (q_assign (v := (i64 r8.2)) rfl rfl) ?_; refine wl_nil ?_; refine W_th ?_; refine W_seq ?_; refine W_reg (by kernel_rfl) ?_; refine wla rfl rfl (q_move (v := v8_0) rfl rfl) ?_; refine wla rfl rfl (q_move (v := v1) rfl rfl) ?_; refine wla rfl rfl (q_assign (v := v8_0) rfl rfl) ?_; refine wla rfl rfl (q_assign (v := v1) rfl rfl) ?_; refine wl_nil ?_; refine W_th ?_; refine W_ret ?_; obtain rfl := osi H; refine rt2 v8_0 v1 rfl rfl rfl rfl rfl rfl ?_; exact ⟨v8_0, v1, rfl, e9, (i8_0.lift (Lift.sub (fun _ h => h.2))), n3, (o4.weak (Sc.stab _) (fun _ _ => trivial))⟩
noncomputable def law06_nonce (a0b : List UInt8) : Option (List UInt8) :=
((makeL 8 (0 : UInt8)).bind fun c1 => some (copyL c1 0 a0b))
set_option maxRecDepth 100000 in
set_option maxHeartbeats 8000000 in
theorem law06_nonce_calls (a0b : List UInt8) (p0 : Value) (r : List UInt8) (w0 : World) (hp0 : By w0 [] p0 a0b) (H : law06_nonce a0b = some r) :
    Calls Try.prog 26 [p0].toArray w0 (fun e w' => ∃ u0 : Value, e = .returned u0 ∧ Ext w0 w' ∧ Nw w0 u0 ∧ OwK (Sc u8) w' [] 5 u0 r) := by
  have hE : Ext w0 w0 := Ext.refl w0; unfold law06_nonce at H; refine calls_W (n := 9) Try.func26 rfl rfl rfl ?_; refine W_seq ?_; refine W_reg (by kernel_rfl) ?_; refine wla rfl rfl (q_assign (v := (.slice none 0 0)) rfl rfl) ?_; refine wl_nil ?_; refine W_th ?_; refine W_seq ?_; refine W_reg (by kernel_rfl) ?_; obtain ⟨c1, hc1, H⟩ := bsi H; refine wls rfl rfl (stp_make (L := []) (R := (Sc u8)) rfl T22 rfl rfl hc1 (fun _ _ => rfl) ?_); intro v1 w1 o1 n1 g1 l1; have x1 := grown_ext g1; have n3 := Nw.ext hE n1; have e2 := hE.trans x1; refine wla rfl rfl (q_assign (v := v1) rfl rfl) ?_; refine wl_nil ?_; refine W_th ?_; refine W_seq ?_; refine W_reg (by kernel_rfl) ?_; refine wla rfl rfl (q_move (v := v1) rfl rfl) ?_; refine wla rfl rfl (q_move (v := p0) rfl rfl) ?_; refine wls rfl rfl (stp_copy (R := (Sc u8)) (off := 0) (dv := v1) (u := p0) (Sc.stab _) [] [] rfl T22 rfl rfl o1 (copy_whole o1) (by decide) (Int.natCast_nonneg _) (hp0.lift (Lift.ext e2 _)) (fun _ _ h => h) oc_u8 ?_); intro w4 o4 g4 l4; have e5 := e2.grown g4 n3; refine wl_nil ?_; refine W_th ?_; refine W_seq ?_; refine W_reg (by kernel_rfl) ?_; refine wla rfl rfl (q_move (v := v1) rfl rfl) ?_; refine wla rfl rfl (q_assign (v := v1) rfl rfl) ?_; refine wl_nil ?_; refine W_th ?_; refine W_ret ?_; obtain rfl := osi H; refine rt1 v1 rfl rfl rfl rfl ?_; exact ⟨v1, rfl, e5, n3, (o4.weak (Sc.stab _) (fun _ _ => trivial))⟩
noncomputable def law06_lives  : Option Bool :=
((law06_made ([] : List UInt8)).bind fun r1 =>
((makeL 8 (0 : UInt8)).bind fun c3 =>
((stream_Bytes r1.1 c3 16 16).bind fun r6 =>
(if r6.2 = 0 then
((ref01_Put (1 : UInt64) 8).bind fun r11 =>
((appL c3 r11).bind fun c13 =>
((ref05_Encrypt r1.2 c13).bind fun r16 => some (decide (r6.1 = r16)))))
else some false))))
set_option maxRecDepth 100000 in
set_option maxHeartbeats 8000000 in
theorem law06_lives_calls  (r : Bool) (w0 : World) (H : law06_lives = some r) :
    Calls Try.prog 23 [].toArray w0 (fun e w' => e = .returned (.bool r) ∧ Ext w0 w') := by
  have hE : Ext w0 w0 := Ext.refl w0; unfold law06_lives at H; refine calls_W (n := 30) Try.func23 rfl rfl rfl ?_; refine W_seq ?_; refine W_reg (by kernel_rfl) ?_; refine wla rfl rfl (q_assign (v := (.bool false)) rfl rfl) ?_; refine wl_nil ?_; refine W_th ?_; refine W_seq ?_; refine W_reg (by kernel_rfl) ?_; obtain ⟨r1, hr1, H⟩ := bsi H; refine wls rfl rfl (stp_call (vs := [(.slice none 0 0)]) Try.func24 rfl rfl rfl (ar1 rfl) (law06_made_calls ([] : List UInt8) (.slice none 0 0) r1 _ [] (Old.nil _) (SlK.nil _ _ _) hr1) ?_); rintro _ w1 ⟨v1_0, v1_1, rfl, x1, i1_0, n1_1, o1_1⟩; refine ⟨_, rfl, ?_⟩; have i1_1 : By w1 [] v1_1 r1.2 := OwK.slk (Sc.stab _) _ (OwK.scal o1_1 (v1_1 :: [])) (fun k hk => (Old.nil _) k (n1_1 k hk)) (fun _ h => h.2); have e2 := hE.trans x1; refine wla rfl rfl (q_move (v := (.tuple #[v1_0, v1_1])) rfl rfl) ?_; refine wla rfl rfl (q_extract rfl rfl rfl) ?_; refine wla rfl rfl (q_extract rfl rfl rfl) ?_; refine wla rfl rfl (q_assign (v := v1_0) rfl rfl) ?_; refine wla rfl rfl (q_assign (v := v1_1) rfl rfl) ?_; refine wl_nil ?_; refine W_th ?_; refine W_seq ?_; refine W_reg (by kernel_rfl) ?_; obtain ⟨c3, hc3, H⟩ := bsi H; refine wls rfl rfl (stp_make (L := []) (R := (Sc u8)) rfl T22 rfl rfl hc3 (fun _ _ => rfl) ?_); intro v3 w3 o3 n3 g3 l3; have x3 := grown_ext g3; replace i1_0 := i1_0.lift (Lift.call _ x3 n3); replace i1_1 := i1_1.lift (Lift.call _ x3 n3); have n5 := Nw.ext e2 n3; have e4 := e2.trans x3; refine wla rfl rfl (q_assign (v := v3) rfl rfl) ?_; refine wl_nil ?_; refine W_th ?_; refine W_seq ?_; refine W_reg (by kernel_rfl) ?_; refine wla rfl rfl (q_move (v := v1_0) rfl rfl) ?_; refine wla rfl rfl (q_move (v := v3) rfl rfl) ?_; obtain ⟨r6, hr6, H⟩ := bsi H; refine wls rfl rfl (stp_call (vs := [v1_0, v3, (i64 16), (i64 16)]) Try.func25 rfl rfl rfl (ar4 rfl rfl rfl rfl) (stream_Bytes_calls r1.1 c3 16 16 v1_0 v3 r6 _ (i1_0.lift (Lift.sub (fun _ _ => trivial))) (o3.rd (Sc.stab _)) hr6) ?_); rintro _ w6 ⟨v6_0, rfl, x6, n6_0, o6_0⟩; refine ⟨_, rfl, ?_⟩; have i6_0 : By w6 [v3] v6_0 r6.1 := SlK.avail o6_0 _ (fun k hk => (Old.cons (Old.nil _) o3.lt) k (n6_0 k hk)); replace i1_0 := i1_0.lift (Lift.ext x6 _); replace i1_1 := i1_1.lift (Lift.ext x6 _); replace o3 := o3.extL (Sc.stab _) x6 (Lift.ext x6 _); have e7 := e4.trans x6; refine wla rfl rfl (q_move (v := (.tuple #[v6_0, (i64 r6.2)])) rfl rfl) ?_; refine wla rfl rfl (q_extract rfl rfl rfl) ?_; refine wla rfl rfl (q_extract rfl rfl rfl) ?_; refine wla rfl rfl (q_assign (v := v6_0) rfl rfl) ?_; refine wla rfl rfl (q_assign (v := (i64 r6.2)) rfl rfl) ?_; refine wl_nil ?_; refine W_th ?_; refine W_seq ?_; refine W_drawT [10] [(0, 0), (1, 0), (2, 0), (3, 0), (5, 0), (6, 0)] (.br 4 [(7, 2), (8, 2), (9, 2), (10, 1), (11, 0), (12, 0), (13, 0)] .fin (.br 7 [] (.br 4 [(8, 2), (9, 2), (10, 1), (11, 0), (12, 0), (13, 0)] .fin (.br 8 [] (.br 4 [(9, 2), (10, 1), (11, 0), (12, 0), (13, 0)] .fin (.br 9 [(10, 1), (4, 2), (11, 0), (12, 0), (13, 0)] .fin .fin)) .fin)) .fin)) mixed (by kernel_rfl) (by kernel_rfl) (by kernel_rfl) (by kernel_rfl) ?_
  have x8 := Ext.drew w6; replace i1_0 := i1_0.lift (Lift.ext x8 _); replace i1_1 := i1_1.lift (Lift.ext x8 _); replace i6_0 := i6_0.lift (Lift.ext x8 _); replace o3 := o3.extL (Sc.stab _) x8 (Lift.ext x8 _); have e9 := e7.trans x8; refine wsa rfl rfl rfl (q_move (v := (i64 r6.2)) rfl rfl) ?_; refine wsa rfl rfl rfl (q_eqI rfl rfl rfl) ?_; refine wsb rfl rfl rfl (q_move (v := (.bool ((decide (r6.2 = 0))))) rfl rfl) (fun hb10 => ?_) (fun hb10 => ?_)
  · replace H := (if_pos (of_decide_eq_true hb10)).symm.trans H; refine wsa rfl rfl rfl (q_move (v := v6_0) rfl rfl) ?_; refine wsa rfl rfl rfl (q_move (v := v1_1) rfl rfl) ?_; refine wsa rfl rfl rfl (q_move (v := v3) rfl rfl) ?_; refine ws_nil ?_; refine wr_br ?_ ?_
    · refine wss rfl rfl rfl (Qt.stp (q_str rfl T22 rfl rfl rfl i6_0) ⟨Ext.refl _, ?_⟩); obtain ⟨r11, hr11, H⟩ := bsi H; refine wsc rfl (by kernel_rfl) rfl rfl (stp_call (vs := [(u64 1), (i64 8)]) Try.func27 rfl rfl rfl (ar2 (by exact (cst64 (1 : UInt64) rfl)) rfl) (ref01_Put_calls (1 : UInt64) 8  r11 _  hr11) ?_); rintro _ w11 ⟨v11, rfl, x11, n11_0, o11_0⟩; refine ⟨_, rfl, ?_⟩; have i11_0 : By w11 [v3] v11 r11 := OwK.slk (Sc.stab _) _ (OwK.scal o11_0 (v11 :: [v3])) (fun k hk => (Old.cons (Old.nil _) o3.lt) k (n11_0 k hk)) (fun _ h => h.2); replace i1_0 := i1_0.lift (Lift.ext x11 _); replace i1_1 := i1_1.lift (Lift.ext x11 _); replace i6_0 := i6_0.lift (Lift.ext x11 _); replace o3 := o3.extL (Sc.stab _) x11 (Lift.ext x11 _); have e12 := e9.trans x11; obtain ⟨c13, hc13, H⟩ := bsi H; refine wsc rfl (by kernel_rfl) rfl rfl (stp_append (R := (Sc u8)) (v := v3) (u := v11) (Sc.stab _) [] [] rfl T22 rfl rfl o3 i11_0 (fun _ _ h => h) hc13 oc_u8 ?_); intro v13 w13 o13 g13 nx13 l13; replace i1_0 := i1_0.lift l13; replace i1_1 := i1_1.lift l13; replace i6_0 := i6_0.lift l13; replace i11_0 := i11_0.lift l13; have e14 := e12.grown g13 n5; have n15 := Nw.nxt e12 n5 nx13; obtain ⟨r16, hr16, H⟩ := bsi H; refine wsc rfl (by kernel_rfl) rfl rfl (stp_call (vs := [v1_1, v13]) Try.func21 rfl rfl rfl (ar2 rfl rfl) (ref05_Encrypt_calls r1.2 c13 v1_1 v13 r16 _ (i1_1.lift (Lift.sub (fun _ _ => trivial))) (o13.rd (Sc.stab _)) hr16) ?_); rintro _ w16 ⟨v16, rfl, x16, n16_0, o16_0⟩; refine ⟨_, rfl, ?_⟩; have i16_0 : By w16 [v13] v16 r16 := SlK.avail o16_0 _ (fun k hk => (Old.cons (Old.nil _) o13.lt) k (n16_0 k hk)); replace i1_0 := i1_0.lift (Lift.ext x16 _); replace i1_1 := i1_1.lift (Lift.ext x16 _); replace i6_0 := i6_0.lift (Lift.ext x16 _); replace i11_0 := i11_0.lift (Lift.ext x16 _); replace o13 := o13.extL (Sc.stab _) x16 (Lift.ext x16 _); have e17 := e14.trans x16; refine wsq rfl rfl rfl (q_str rfl T22 rfl rfl rfl i16_0) ?_; refine wsa rfl rfl rfl (q_eqS rfl rfl rfl) ?_; refine wsa rfl rfl rfl (q_pick_t (v := (.bool ((decide (r6.1 = r16))))) rfl rfl rfl) ?_; refine wsa rfl rfl rfl (q_assign (v := (.bool ((decide (r6.1 = r16))))) rfl rfl) ?_; refine ws_nil ?_; refine wt_fin ?_; refine W_th ?_; refine W_ret ?_; obtain rfl := osi H; refine rt1 (.bool ((decide (r6.1 = r16)))) rfl rfl rfl rfl ?_; exact ⟨rfl, e17⟩
    refine wr_br ?_ ?_
    · obtain ⟨r11, hr11, H⟩ := bsi H; refine wsc rfl (by kernel_rfl) rfl rfl (stp_call (vs := [(u64 1), (i64 8)]) Try.func27 rfl rfl rfl (ar2 (by exact (cst64 (1 : UInt64) rfl)) rfl) (ref01_Put_calls (1 : UInt64) 8  r11 _  hr11) ?_); rintro _ w11 ⟨v11, rfl, x11, n11_0, o11_0⟩; refine ⟨_, rfl, ?_⟩; have i11_0 : By w11 [v3] v11 r11 := OwK.slk (Sc.stab _) _ (OwK.scal o11_0 (v11 :: [v3])) (fun k hk => (Old.cons (Old.nil _) o3.lt) k (n11_0 k hk)) (fun _ h => h.2); replace i1_0 := i1_0.lift (Lift.ext x11 _); replace i1_1 := i1_1.lift (Lift.ext x11 _); replace i6_0 := i6_0.lift (Lift.ext x11 _); replace o3 := o3.extL (Sc.stab _) x11 (Lift.ext x11 _); have e12 := e9.trans x11; refine ws_nil ?_; refine wt_br ?_; refine wr_br ?_ ?_
      · refine wss rfl rfl rfl (Qt.stp (q_str rfl T22 rfl rfl rfl i6_0) ⟨Ext.refl _, ?_⟩); obtain ⟨c13, hc13, H⟩ := bsi H; refine wsc rfl (by kernel_rfl) rfl rfl (stp_append (R := (Sc u8)) (v := v3) (u := v11) (Sc.stab _) [] [] rfl T22 rfl rfl o3 i11_0 (fun _ _ h => h) hc13 oc_u8 ?_); intro v13 w13 o13 g13 nx13 l13; replace i1_0 := i1_0.lift l13; replace i1_1 := i1_1.lift l13; replace i6_0 := i6_0.lift l13; replace i11_0 := i11_0.lift l13; have e14 := e12.grown g13 n5; have n15 := Nw.nxt e12 n5 nx13; obtain ⟨r16, hr16, H⟩ := bsi H; refine wsc rfl (by kernel_rfl) rfl rfl (stp_call (vs := [v1_1, v13]) Try.func21 rfl rfl rfl (ar2 rfl rfl) (ref05_Encrypt_calls r1.2 c13 v1_1 v13 r16 _ (i1_1.lift (Lift.sub (fun _ _ => trivial))) (o13.rd (Sc.stab _)) hr16) ?_); rintro _ w16 ⟨v16, rfl, x16, n16_0, o16_0⟩; refine ⟨_, rfl, ?_⟩; have i16_0 : By w16 [v13] v16 r16 := SlK.avail o16_0 _ (fun k hk => (Old.cons (Old.nil _) o13.lt) k (n16_0 k hk)); replace i1_0 := i1_0.lift (Lift.ext x16 _); replace i1_1 := i1_1.lift (Lift.ext x16 _); replace i6_0 := i6_0.lift (Lift.ext x16 _); replace i11_0 := i11_0.lift (Lift.ext x16 _); replace o13 := o13.extL (Sc.stab _) x16 (Lift.ext x16 _); have e17 := e14.trans x16; refine wsq rfl rfl rfl (q_str rfl T22 rfl rfl rfl i16_0) ?_; refine wsa rfl rfl rfl (q_eqS rfl rfl rfl) ?_; refine wsa rfl rfl rfl (q_pick_t (v := (.bool ((decide (r6.1 = r16))))) rfl rfl rfl) ?_; refine wsa rfl rfl rfl (q_assign (v := (.bool ((decide (r6.1 = r16))))) rfl rfl) ?_; refine ws_nil ?_; refine wt_fin ?_; refine W_th ?_; refine W_ret ?_; obtain rfl := osi H; refine rt1 (.bool ((decide (r6.1 = r16)))) rfl rfl rfl rfl ?_; exact ⟨rfl, e17⟩
      refine wr_br ?_ ?_
      · obtain ⟨c13, hc13, H⟩ := bsi H; refine wsc rfl (by kernel_rfl) rfl rfl (stp_append (R := (Sc u8)) (v := v3) (u := v11) (Sc.stab _) [] [] rfl T22 rfl rfl o3 i11_0 (fun _ _ h => h) hc13 oc_u8 ?_); intro v13 w13 o13 g13 nx13 l13; replace i1_0 := i1_0.lift l13; replace i1_1 := i1_1.lift l13; replace i6_0 := i6_0.lift l13; replace i11_0 := i11_0.lift l13; have e14 := e12.grown g13 n5; have n15 := Nw.nxt e12 n5 nx13; refine ws_nil ?_; refine wt_br ?_; refine wr_br ?_ ?_
        · refine wss rfl rfl rfl (Qt.stp (q_str rfl T22 rfl rfl rfl i6_0) ⟨Ext.refl _, ?_⟩); obtain ⟨r16, hr16, H⟩ := bsi H; refine wsc rfl (by kernel_rfl) rfl rfl (stp_call (vs := [v1_1, v13]) Try.func21 rfl rfl rfl (ar2 rfl rfl) (ref05_Encrypt_calls r1.2 c13 v1_1 v13 r16 _ (i1_1.lift (Lift.sub (fun _ _ => trivial))) (o13.rd (Sc.stab _)) hr16) ?_); rintro _ w16 ⟨v16, rfl, x16, n16_0, o16_0⟩; refine ⟨_, rfl, ?_⟩; have i16_0 : By w16 [v13] v16 r16 := SlK.avail o16_0 _ (fun k hk => (Old.cons (Old.nil _) o13.lt) k (n16_0 k hk)); replace i1_0 := i1_0.lift (Lift.ext x16 _); replace i1_1 := i1_1.lift (Lift.ext x16 _); replace i6_0 := i6_0.lift (Lift.ext x16 _); replace i11_0 := i11_0.lift (Lift.ext x16 _); replace o13 := o13.extL (Sc.stab _) x16 (Lift.ext x16 _); have e17 := e14.trans x16; refine wsq rfl rfl rfl (q_str rfl T22 rfl rfl rfl i16_0) ?_; refine wsa rfl rfl rfl (q_eqS rfl rfl rfl) ?_; refine wsa rfl rfl rfl (q_pick_t (v := (.bool ((decide (r6.1 = r16))))) rfl rfl rfl) ?_; refine wsa rfl rfl rfl (q_assign (v := (.bool ((decide (r6.1 = r16))))) rfl rfl) ?_; refine ws_nil ?_; refine wt_fin ?_; refine W_th ?_; refine W_ret ?_; obtain rfl := osi H; refine rt1 (.bool ((decide (r6.1 = r16)))) rfl rfl rfl rfl ?_; exact ⟨rfl, e17⟩
        refine wr_br ?_ ?_
        · obtain ⟨r16, hr16, H⟩ := bsi H; refine wsc rfl (by kernel_rfl) rfl rfl (stp_call (vs := [v1_1, v13]) Try.func21 rfl rfl rfl (ar2 rfl rfl) (ref05_Encrypt_calls r1.2 c13 v1_1 v13 r16 _ (i1_1.lift (Lift.sub (fun _ _ => trivial))) (o13.rd (Sc.stab _)) hr16) ?_); rintro _ w16 ⟨v16, rfl, x16, n16_0, o16_0⟩; refine ⟨_, rfl, ?_⟩; have i16_0 : By w16 [v13] v16 r16 := SlK.avail o16_0 _ (fun k hk => (Old.cons (Old.nil _) o13.lt) k (n16_0 k hk)); replace i1_0 := i1_0.lift (Lift.ext x16 _); replace i1_1 := i1_1.lift (Lift.ext x16 _); replace i6_0 := i6_0.lift (Lift.ext x16 _); replace i11_0 := i11_0.lift (Lift.ext x16 _); replace o13 := o13.extL (Sc.stab _) x16 (Lift.ext x16 _); have e17 := e14.trans x16; refine wsq rfl rfl rfl (q_str rfl T22 rfl rfl rfl i16_0) ?_; refine wss rfl rfl rfl (Qt.stp (q_str rfl T22 rfl rfl rfl i6_0) ⟨Ext.refl _, ?_⟩); refine wsa rfl rfl rfl (q_eqS rfl rfl rfl) ?_; refine wsa rfl rfl rfl (q_pick_t (v := (.bool ((decide (r6.1 = r16))))) rfl rfl rfl) ?_; refine wsa rfl rfl rfl (q_assign (v := (.bool ((decide (r6.1 = r16))))) rfl rfl) ?_; refine ws_nil ?_; refine wt_fin ?_; refine W_th ?_; refine W_ret ?_; obtain rfl := osi H; refine rt1 (.bool ((decide (r6.1 = r16)))) rfl rfl rfl rfl ?_; exact ⟨rfl, e17⟩
        trivial
      trivial
    trivial
  replace H := (if_neg (of_decide_eq_false hb10)).symm.trans H; refine wsk rfl rfl rfl ?_; refine wsk rfl rfl rfl ?_; refine wsk rfl rfl rfl ?_; refine ws_nil ?_; refine wr_br ?_ ?_
  · refine wsk rfl rfl rfl ?_; refine wsk rfl rfl rfl ?_; refine wsk rfl rfl rfl ?_; refine wsk rfl rfl rfl ?_; refine wsk rfl rfl rfl ?_; refine wsk rfl rfl rfl ?_; refine wsa rfl rfl rfl (q_pick_f (v := (.bool false)) rfl rfl rfl) ?_; refine wsa rfl rfl rfl (q_assign (v := (.bool false)) rfl rfl) ?_; refine ws_nil ?_; refine wt_fin ?_; refine W_th ?_; refine W_ret ?_; obtain rfl := osi H; refine rt1 (.bool false) rfl rfl rfl rfl ?_; exact ⟨rfl, e9⟩
  refine wr_br ?_ ?_
  · refine wsk rfl rfl rfl ?_; refine ws_nil ?_; refine wt_br ?_; refine wr_br ?_ ?_
    · refine wsk rfl rfl rfl ?_; refine wsk rfl rfl rfl ?_; refine wsk rfl rfl rfl ?_; refine wsk rfl rfl rfl ?_; refine wsk rfl rfl rfl ?_; refine wsa rfl rfl rfl (q_pick_f (v := (.bool false)) rfl rfl rfl) ?_; refine wsa rfl rfl rfl (q_assign (v := (.bool false)) rfl rfl) ?_; refine ws_nil ?_; refine wt_fin ?_; refine W_th ?_; refine W_ret ?_; obtain rfl := osi H; refine rt1 (.bool false) rfl rfl rfl rfl ?_; exact ⟨rfl, e9⟩
    refine wr_br ?_ ?_
    · refine wsk rfl rfl rfl ?_; refine ws_nil ?_; refine wt_br ?_; refine wr_br ?_ ?_
      · refine wsk rfl rfl rfl ?_; refine wsk rfl rfl rfl ?_; refine wsk rfl rfl rfl ?_; refine wsk rfl rfl rfl ?_; refine wsa rfl rfl rfl (q_pick_f (v := (.bool false)) rfl rfl rfl) ?_; refine wsa rfl rfl rfl (q_assign (v := (.bool false)) rfl rfl) ?_; refine ws_nil ?_; refine wt_fin ?_; refine W_th ?_; refine W_ret ?_; obtain rfl := osi H; refine rt1 (.bool false) rfl rfl rfl rfl ?_; exact ⟨rfl, e9⟩
      refine wr_br ?_ ?_
      · refine wsk rfl rfl rfl ?_; refine wsk rfl rfl rfl ?_; refine wsk rfl rfl rfl ?_; refine wsk rfl rfl rfl ?_; refine wsa rfl rfl rfl (q_pick_f (v := (.bool false)) rfl rfl rfl) ?_; refine wsa rfl rfl rfl (q_assign (v := (.bool false)) rfl rfl) ?_; refine ws_nil ?_; refine wt_fin ?_; refine W_th ?_; refine W_ret ?_; obtain rfl := osi H; refine rt1 (.bool false) rfl rfl rfl rfl ?_; exact ⟨rfl, e9⟩
      trivial
    trivial
  trivial
noncomputable def law06_StreamParts (a0k : List UInt8) (a1n : List UInt8) (a2at : Int) (a3size : Int) (a4from : Int) : Option Bool :=
((law06_lives ).bind fun r1 =>
(if (!r1) = true then
((law06_lives ).bind fun r4 => some r4)
else
(if 100 < (a1n.length : Int) then
((law06_lives ).bind fun r7 => some r7)
else
((law06_made a0k).bind fun r9 =>
((stream_Bytes r9.1 a1n a2at (if 300 < a3size then 300 else a3size)).bind fun r11 =>
(((if (a1n.length : Int) = 8 then
(if a2at < 0 then some 2
else
(if a3size < 0 then some 2
else
(if 1073741824 < a2at then some 2
else some 0)))
else some 3)).bind fun x13 =>
((law06_nonce a1n).bind fun r19 =>
((stream_Bytes r9.1 r19 0 1048577).bind fun r21 =>
((law06_nonce a1n).bind fun r23 =>
((stream_Bytes (none : Option Cip) r23 0 1).bind fun r25 =>
((law06_nonce a1n).bind fun r27 =>
((stream_Xor (none : Option Cip) r27 ([] : List UInt8)).bind fun r29 =>
(if r11.2 = x13 then
(if r21.2 = 2 then
(if r25.2 = 1 then
(if r29.2 = 1 then
((law06_nonce a1n).bind fun r35 =>
((stream_Bytes r9.1 r35 0 300).bind fun r37 =>
((law06_nonce a1n).bind fun r39 =>
((stream_Bytes r9.1 r39 (wI ((((UInt64.ofInt a4from) % (300 : UInt64))).toNat : Int)) (wI (300 - (wI ((((UInt64.ofInt a4from) % (300 : UInt64))).toNat : Int))))).bind fun r41 =>
(if r41.2 = 0 then
((subL r37.1 ((wI ((((UInt64.ofInt a4from) % (300 : UInt64))).toNat : Int))) ((r37.1.length : Int))).bind fun c46 => some (decide (r41.1 = c46)))
else some false)))))
else some false)
else some false)
else some false)
else some false)))))))))))))
set_option maxRecDepth 100000 in
set_option maxHeartbeats 8000000 in
theorem law06_StreamParts_calls (a0k : List UInt8) (a1n : List UInt8) (a2at : Int) (a3size : Int) (a4from : Int) (p0 : Value) (p1 : Value) (r : Bool) (w0 : World) (hp0 : By w0 [] p0 a0k) (hp1 : By w0 [] p1 a1n) (H : law06_StreamParts a0k a1n a2at a3size a4from = some r) :
    Calls Try.prog 8 [p0, p1, (i64 a2at), (i64 a3size), (i64 a4from)].toArray w0 (fun e w' => e = .returned (.bool r) ∧ Ext w0 w') := by
  have hE : Ext w0 w0 := Ext.refl w0; unfold law06_StreamParts at H; refine calls_W (n := 129) Try.func8 rfl rfl rfl ?_; refine W_seq ?_; refine W_reg (by kernel_rfl) ?_; refine wla rfl rfl (q_assign (v := (.bool false)) rfl rfl) ?_; refine wl_nil ?_; refine W_th ?_; refine W_seq ?_; refine W_seq ?_; refine W_reg (by kernel_rfl) ?_; obtain ⟨r1, hr1, H⟩ := bsi H; refine wls rfl rfl (stp_call (vs := []) Try.func23 rfl rfl rfl (ar0 ) (law06_lives_calls   r1 _  hr1) ?_); rintro _ w1 ⟨rfl, x1⟩; refine ⟨_, rfl, ?_⟩; have e2 := hE.trans x1; refine wla rfl rfl (q_not rfl rfl) ?_; refine wlb rfl rfl (q_move (v := (.bool ((!r1)))) rfl rfl) (fun hb3 => ?_) (fun hb3 => ?_)
  · replace H := (if_pos hb3).symm.trans H; refine wlk rfl rfl ?_; refine wlk rfl rfl ?_; refine wlk rfl rfl ?_; refine wla rfl rfl (q_pick_t (v := (.bool true)) rfl rfl rfl) ?_; refine wl_nil ?_; refine W_th ?_; refine W_cond true rfl rfl (fun _ => ?_) (fun hb => by cases hb); refine W_seq ?_; refine W_reg (by kernel_rfl) ?_; obtain ⟨r4, hr4, H⟩ := bsi H; refine wls rfl rfl (stp_call (vs := []) Try.func23 rfl rfl rfl (ar0 ) (law06_lives_calls   r4 _  hr4) ?_); rintro _ w4 ⟨rfl, x4⟩; refine ⟨_, rfl, ?_⟩; have e5 := e2.trans x4; refine wla rfl rfl (q_assign (v := (.bool r4)) rfl rfl) ?_; refine wl_nil ?_; refine W_th ?_; refine W_ret ?_; refine th_r ?_; obtain rfl := osi H; refine rt1 (.bool r4) rfl rfl rfl rfl ?_; exact ⟨rfl, e5⟩
  replace H := (if_neg (ne_true_of_eq_false hb3)).symm.trans H; refine wla rfl rfl (q_move (v := p1) rfl rfl) ?_; refine wla rfl rfl (q_len rfl T22.sl rfl (hp1.lift (Lift.ext e2 _))) ?_; refine wla rfl rfl (q_gtI rfl rfl rfl) ?_; refine wla rfl rfl (q_pick_f (v := (.bool ((decide (100 < (a1n.length : Int)))))) rfl rfl rfl) ?_; refine wl_nil ?_; refine W_th ?_; refine W_cond _ rfl rfl (fun hb6 => ?_) (fun hb6 => ?_)
  · replace H := (if_pos (of_decide_eq_true hb6)).symm.trans H; refine W_seq ?_; refine W_reg (by kernel_rfl) ?_; obtain ⟨r7, hr7, H⟩ := bsi H; refine wls rfl rfl (stp_call (vs := []) Try.func23 rfl rfl rfl (ar0 ) (law06_lives_calls   r7 _  hr7) ?_); rintro _ w7 ⟨rfl, x7⟩; refine ⟨_, rfl, ?_⟩; have e8 := e2.trans x7; refine wla rfl rfl (q_assign (v := (.bool r7)) rfl rfl) ?_; refine wl_nil ?_; refine W_th ?_; refine W_ret ?_; refine th_r ?_; obtain rfl := osi H; refine rt1 (.bool r7) rfl rfl rfl rfl ?_; exact ⟨rfl, e8⟩
  replace H := (if_neg (of_decide_eq_false hb6)).symm.trans H; refine W_skip ?_; refine W_th ?_; refine W_seq ?_; refine W_reg (by kernel_rfl) ?_; refine wla rfl rfl (q_move (v := p0) rfl rfl) ?_; obtain ⟨r9, hr9, H⟩ := bsi H; refine wls rfl rfl (stp_call (vs := [p0]) Try.func24 rfl rfl rfl (ar1 rfl) (law06_made_calls a0k p0 r9 _ [] (Old.nil _) (hp0.lift (Lift.ext e2 _)) hr9) ?_); rintro _ w9 ⟨v9_0, v9_1, rfl, x9, i9_0, n9_1, o9_1⟩; refine ⟨_, rfl, ?_⟩; have i9_1 : By w9 [] v9_1 r9.2 := OwK.slk (Sc.stab _) _ (OwK.scal o9_1 (v9_1 :: [])) (fun k hk => (Old.nil _) k (n9_1 k hk)) (fun _ h => h.2); have e10 := e2.trans x9; refine wla rfl rfl (q_move (v := (.tuple #[v9_0, v9_1])) rfl rfl) ?_; refine wla rfl rfl (q_extract rfl rfl rfl) ?_; refine wla rfl rfl (q_extract rfl rfl rfl) ?_; refine wla rfl rfl (q_assign (v := v9_0) rfl rfl) ?_; refine wla rfl rfl (q_assign (v := v9_1) rfl rfl) ?_; refine wl_nil ?_; refine W_th ?_; refine W_seq ?_; refine W_reg (by kernel_rfl) ?_; refine wla rfl rfl (q_move (v := v9_0) rfl rfl) ?_; refine wla rfl rfl (q_move (v := p1) rfl rfl) ?_; refine wla rfl rfl (q_move (v := (i64 a2at)) rfl rfl) ?_; refine wla rfl rfl (q_move (v := (i64 a3size)) rfl rfl) ?_; refine wla rfl rfl (q_minI rfl rfl rfl) ?_; obtain ⟨r11, hr11, H⟩ := bsi H; refine wls rfl rfl (stp_call (vs := [v9_0, p1, (i64 a2at), (i64 ((if 300 < a3size then 300 else a3size)))]) Try.func25 rfl rfl rfl (ar4 rfl rfl rfl rfl) (stream_Bytes_calls r9.1 a1n a2at (if 300 < a3size then 300 else a3size) v9_0 p1 r11 _ (i9_0.lift (Lift.sub (fun _ _ => trivial))) (hp1.lift (Lift.ext e10 _)) hr11) ?_); rintro _ w11 ⟨v11_0, rfl, x11, n11_0, o11_0⟩; refine ⟨_, rfl, ?_⟩; have i11_0 : By w11 [] v11_0 r11.1 := SlK.avail o11_0 _ (fun k hk => (Old.nil _) k (n11_0 k hk)); replace i9_0 := i9_0.lift (Lift.ext x11 _); replace i9_1 := i9_1.lift (Lift.ext x11 _); have e12 := e10.trans x11; refine wla rfl rfl (q_move (v := (.tuple #[v11_0, (i64 r11.2)])) rfl rfl) ?_; refine wla rfl rfl (q_extract rfl rfl rfl) ?_; refine wla rfl rfl (q_extract rfl rfl rfl) ?_; refine wla rfl rfl (q_assign (v := v11_0) rfl rfl) ?_; refine wla rfl rfl (q_assign (v := (i64 r11.2)) rfl rfl) ?_; refine wl_nil ?_; refine W_th ?_; refine W_seq ?_; refine W_reg (by kernel_rfl) ?_; refine wla rfl rfl (q_assign (v := (i64 0)) rfl rfl) ?_; refine wl_nil ?_; refine W_th ?_; refine W_seq ?_; obtain ⟨x13, H13, H⟩ := bsi H; refine W_mid (fun f w => f 1 = p1 ∧ f 4 = (i64 a4from) ∧ f 11 = v9_0 ∧ f 14 = (i64 r11.2) ∧ f 15 = (i64 x13) ∧ f 129 = undef ∧ Ext w0 w ∧ Ci w [] v9_0 r9.1) ?_ ?_
  · refine W_block ?_; refine W_seq ?_; refine W_reg (by kernel_rfl) ?_; refine wla rfl rfl (q_move (v := p1) rfl rfl) ?_; refine wla rfl rfl (q_len rfl T22.sl rfl (hp1.lift (Lift.ext e12 _))) ?_; refine wla rfl rfl (q_neI rfl rfl rfl) ?_; refine wla rfl rfl (q_assign (v := (.bool ((!decide ((a1n.length : Int) = 8))))) rfl rfl) ?_; refine wl_nil ?_; refine W_th ?_; refine W_cond _ rfl rfl (fun hb14 => ?_) (fun hb14 => ?_)
    · replace H13 := (if_neg (ndec_t hb14)).symm.trans H13; refine W_reg (by kernel_rfl) ?_; refine wla rfl rfl (q_assign (v := (i64 3)) rfl rfl) ?_; refine wl_nil ?_; refine bk_n ?_; obtain rfl := osi H13; exact ⟨rfl, rfl, rfl, rfl, rfl, rfl, e12, i9_0⟩
    replace H13 := (if_pos (ndec_f hb14)).symm.trans H13; refine W_seq ?_; refine W_reg (by kernel_rfl) ?_; refine wla rfl rfl (q_move (v := (i64 a2at)) rfl rfl) ?_; refine wla rfl rfl (q_ltI rfl rfl rfl) ?_; refine wlb rfl rfl (q_move (v := (.bool ((decide (a2at < 0))))) rfl rfl) (fun hb15 => ?_) (fun hb15 => ?_)
    · replace H13 := (if_pos (of_decide_eq_true hb15)).symm.trans H13; refine wlk rfl rfl ?_; refine wlk rfl rfl ?_; refine wla rfl rfl (q_pick_t (v := (.bool true)) rfl rfl rfl) ?_; refine wla rfl rfl (q_move (v := (.bool true)) rfl rfl) ?_; refine wlk rfl rfl ?_; refine wlk rfl rfl ?_; refine wla rfl rfl (q_pick_t (v := (.bool true)) rfl rfl rfl) ?_; refine wla rfl rfl (q_assign (v := (.bool true)) rfl rfl) ?_; refine wl_nil ?_; refine W_th ?_; refine W_cond true rfl rfl (fun _ => ?_) (fun hb => by cases hb); refine W_reg (by kernel_rfl) ?_; refine wla rfl rfl (q_assign (v := (i64 2)) rfl rfl) ?_; refine wl_nil ?_; refine bk_n ?_; obtain rfl := osi H13; exact ⟨rfl, rfl, rfl, rfl, rfl, rfl, e12, i9_0⟩
    replace H13 := (if_neg (of_decide_eq_false hb15)).symm.trans H13; refine wla rfl rfl (q_move (v := (i64 a3size)) rfl rfl) ?_; refine wla rfl rfl (q_ltI rfl rfl rfl) ?_; refine wla rfl rfl (q_pick_f (v := (.bool ((decide (a3size < 0))))) rfl rfl rfl) ?_; refine wlb rfl rfl (q_move (v := (.bool ((decide (a3size < 0))))) rfl rfl) (fun hb16 => ?_) (fun hb16 => ?_)
    · replace H13 := (if_pos (of_decide_eq_true hb16)).symm.trans H13; refine wlk rfl rfl ?_; refine wlk rfl rfl ?_; refine wla rfl rfl (q_pick_t (v := (.bool true)) rfl rfl rfl) ?_; refine wla rfl rfl (q_assign (v := (.bool true)) rfl rfl) ?_; refine wl_nil ?_; refine W_th ?_; refine W_cond true rfl rfl (fun _ => ?_) (fun hb => by cases hb); refine W_reg (by kernel_rfl) ?_; refine wla rfl rfl (q_assign (v := (i64 2)) rfl rfl) ?_; refine wl_nil ?_; refine bk_n ?_; obtain rfl := osi H13; exact ⟨rfl, rfl, rfl, rfl, rfl, rfl, e12, i9_0⟩
    replace H13 := (if_neg (of_decide_eq_false hb16)).symm.trans H13; refine wla rfl rfl (q_move (v := (i64 a2at)) rfl rfl) ?_; refine wla rfl rfl (q_gtI rfl rfl rfl) ?_; refine wla rfl rfl (q_pick_f (v := (.bool ((decide (1073741824 < a2at))))) rfl rfl rfl) ?_; refine wla rfl rfl (q_assign (v := (.bool ((decide (1073741824 < a2at))))) rfl rfl) ?_; refine wl_nil ?_; refine W_th ?_; refine W_cond _ rfl rfl (fun hb17 => ?_) (fun hb17 => ?_)
    · replace H13 := (if_pos (of_decide_eq_true hb17)).symm.trans H13; refine W_reg (by kernel_rfl) ?_; refine wla rfl rfl (q_assign (v := (i64 2)) rfl rfl) ?_; refine wl_nil ?_; refine bk_n ?_; obtain rfl := osi H13; exact ⟨rfl, rfl, rfl, rfl, rfl, rfl, e12, i9_0⟩
    replace H13 := (if_neg (of_decide_eq_false hb17)).symm.trans H13; refine W_skip ?_; refine bk_n ?_; obtain rfl := osi H13; exact ⟨rfl, rfl, rfl, rfl, rfl, rfl, e12, i9_0⟩
  rintro _ w18 ⟨s1_18, s4_18, s11_18, s14_18, s15_18, s129_18, hE18, i0_18⟩; refine W_th ?_; refine W_seq ?_; refine W_reg (by kernel_rfl) ?_; refine wla rfl rfl (q_move (v := v9_0) rfl s11_18) ?_; refine wla rfl rfl (q_move (v := p1) rfl s1_18) ?_; obtain ⟨r19, hr19, H⟩ := bsi H; refine wls rfl rfl (stp_call (vs := [p1]) Try.func26 rfl rfl rfl (ar1 rfl) (law06_nonce_calls a1n p1 r19 _ (hp1.lift (Lift.ext hE18 _)) hr19) ?_); rintro _ w19 ⟨v19, rfl, x19, n19_0, o19_0⟩; refine ⟨_, rfl, ?_⟩; have i19_0 : By w19 [] v19 r19 := OwK.slk (Sc.stab _) _ (OwK.scal o19_0 (v19 :: [])) (fun k hk => (Old.nil _) k (n19_0 k hk)) (fun _ h => h.2); replace i0_18 := i0_18.lift (Lift.ext x19 _); have e20 := hE18.trans x19; obtain ⟨r21, hr21, H⟩ := bsi H; refine wls rfl rfl (stp_call (vs := [v9_0, v19, (i64 0), (i64 1048577)]) Try.func25 rfl rfl rfl (ar4 rfl rfl rfl rfl) (stream_Bytes_calls r9.1 r19 0 1048577 v9_0 v19 r21 _ (i0_18.lift (Lift.sub (fun _ _ => trivial))) (i19_0.lift (Lift.sub (fun _ _ => trivial))) hr21) ?_); rintro _ w21 ⟨v21_0, rfl, x21, n21_0, o21_0⟩; refine ⟨_, rfl, ?_⟩; have i21_0 : By w21 [] v21_0 r21.1 := SlK.avail o21_0 _ (fun k hk => (Old.nil _) k (n21_0 k hk)); replace i0_18 := i0_18.lift (Lift.ext x21 _); replace i19_0 := i19_0.lift (Lift.ext x21 _); have e22 := e20.trans x21; refine wla rfl rfl (q_move (v := (.tuple #[v21_0, (i64 r21.2)])) rfl rfl) ?_; refine wla rfl rfl (q_extract rfl rfl rfl) ?_; refine wla rfl rfl (q_extract rfl rfl rfl) ?_; refine wla rfl rfl (q_assign (v := v21_0) rfl rfl) ?_; refine wla rfl rfl (q_assign (v := (i64 r21.2)) rfl rfl) ?_; refine wl_nil ?_; refine W_th ?_; refine W_seq ?_; refine W_reg (by kernel_rfl) ?_; refine wla rfl rfl (q_move (v := p1) rfl s1_18) ?_; obtain ⟨r23, hr23, H⟩ := bsi H; refine wls rfl rfl (stp_call (vs := [p1]) Try.func26 rfl rfl rfl (ar1 rfl) (law06_nonce_calls a1n p1 r23 _ (hp1.lift (Lift.ext e22 _)) hr23) ?_); rintro _ w23 ⟨v23, rfl, x23, n23_0, o23_0⟩; refine ⟨_, rfl, ?_⟩; have i23_0 : By w23 [] v23 r23 := OwK.slk (Sc.stab _) _ (OwK.scal o23_0 (v23 :: [])) (fun k hk => (Old.nil _) k (n23_0 k hk)) (fun _ h => h.2); replace i0_18 := i0_18.lift (Lift.ext x23 _); replace i19_0 := i19_0.lift (Lift.ext x23 _); replace i21_0 := i21_0.lift (Lift.ext x23 _); have e24 := e22.trans x23; obtain ⟨r25, hr25, H⟩ := bsi H; refine wls rfl rfl (stp_call (vs := [(.pointer none), v23, (i64 0), (i64 1)]) Try.func25 rfl rfl rfl (ar4 rfl rfl rfl rfl) (stream_Bytes_calls (none : Option Cip) r23 0 1 (.pointer none) v23 r25 _ (Ci.nil _ _) (i23_0.lift (Lift.sub (fun _ _ => trivial))) hr25) ?_); rintro _ w25 ⟨v25_0, rfl, x25, n25_0, o25_0⟩; refine ⟨_, rfl, ?_⟩; have i25_0 : By w25 [] v25_0 r25.1 := SlK.avail o25_0 _ (fun k hk => (Old.nil _) k (n25_0 k hk)); replace i0_18 := i0_18.lift (Lift.ext x25 _); replace i19_0 := i19_0.lift (Lift.ext x25 _); replace i21_0 := i21_0.lift (Lift.ext x25 _); replace i23_0 := i23_0.lift (Lift.ext x25 _)
  have e26 := e24.trans x25; refine wla rfl rfl (q_move (v := (.tuple #[v25_0, (i64 r25.2)])) rfl rfl) ?_; refine wla rfl rfl (q_extract rfl rfl rfl) ?_; refine wla rfl rfl (q_extract rfl rfl rfl) ?_; refine wla rfl rfl (q_assign (v := v25_0) rfl rfl) ?_; refine wla rfl rfl (q_assign (v := (i64 r25.2)) rfl rfl) ?_; refine wl_nil ?_; refine W_th ?_; refine W_seq ?_; refine W_reg (by kernel_rfl) ?_; refine wla rfl rfl (q_move (v := p1) rfl s1_18) ?_; obtain ⟨r27, hr27, H⟩ := bsi H; refine wls rfl rfl (stp_call (vs := [p1]) Try.func26 rfl rfl rfl (ar1 rfl) (law06_nonce_calls a1n p1 r27 _ (hp1.lift (Lift.ext e26 _)) hr27) ?_); rintro _ w27 ⟨v27, rfl, x27, n27_0, o27_0⟩; refine ⟨_, rfl, ?_⟩; have i27_0 : By w27 [] v27 r27 := OwK.slk (Sc.stab _) _ (OwK.scal o27_0 (v27 :: [])) (fun k hk => (Old.nil _) k (n27_0 k hk)) (fun _ h => h.2); replace i0_18 := i0_18.lift (Lift.ext x27 _); replace i19_0 := i19_0.lift (Lift.ext x27 _); replace i21_0 := i21_0.lift (Lift.ext x27 _); replace i23_0 := i23_0.lift (Lift.ext x27 _); replace i25_0 := i25_0.lift (Lift.ext x27 _); have e28 := e26.trans x27; obtain ⟨r29, hr29, H⟩ := bsi H; refine wls rfl rfl (stp_call (vs := [(.pointer none), v27, (.slice none 0 0)]) Try.func28 rfl rfl rfl (ar3 rfl rfl rfl) (stream_Xor_calls (none : Option Cip) r27 ([] : List UInt8) (.pointer none) v27 (.slice none 0 0) r29 _ (Ci.nil _ _) (i27_0.lift (Lift.sub (fun _ _ => trivial))) (SlK.nil _ _ _) hr29) ?_); rintro _ w29 ⟨v29_0, rfl, x29, n29_0, o29_0⟩; refine ⟨_, rfl, ?_⟩; have i29_0 : By w29 [] v29_0 r29.1 := OwK.slk (Sc.stab _) _ (OwK.scal o29_0 (v29_0 :: [])) (fun k hk => (Old.nil _) k (n29_0 k hk)) (fun _ h => h.2); replace i0_18 := i0_18.lift (Lift.ext x29 _); replace i19_0 := i19_0.lift (Lift.ext x29 _); replace i21_0 := i21_0.lift (Lift.ext x29 _); replace i23_0 := i23_0.lift (Lift.ext x29 _); replace i25_0 := i25_0.lift (Lift.ext x29 _); replace i27_0 := i27_0.lift (Lift.ext x29 _); have e30 := e28.trans x29; refine wla rfl rfl (q_move (v := (.tuple #[v29_0, (i64 r29.2)])) rfl rfl) ?_; refine wla rfl rfl (q_extract rfl rfl rfl) ?_; refine wla rfl rfl (q_extract rfl rfl rfl) ?_; refine wla rfl rfl (q_assign (v := v29_0) rfl rfl) ?_; refine wla rfl rfl (q_assign (v := (i64 r29.2)) rfl rfl) ?_; refine wl_nil ?_; refine W_th ?_; refine W_seq ?_; refine W_seq ?_; refine W_reg (by kernel_rfl) ?_; refine wla rfl rfl (q_move (v := (i64 r11.2)) rfl s14_18) ?_; refine wla rfl rfl (q_move (v := (i64 x13)) rfl s15_18) ?_; refine wla rfl rfl (q_neI rfl rfl rfl) ?_; refine wlb rfl rfl (q_move (v := (.bool ((!decide (r11.2 = x13))))) rfl rfl) (fun hb31 => ?_) (fun hb31 => ?_)
  · replace H := (if_neg (ndec_t hb31)).symm.trans H; refine wlk rfl rfl ?_; refine wlk rfl rfl ?_; refine wla rfl rfl (q_pick_t (v := (.bool true)) rfl rfl rfl) ?_; refine wla rfl rfl (q_move (v := (.bool true)) rfl rfl) ?_; refine wlk rfl rfl ?_; refine wlk rfl rfl ?_; refine wla rfl rfl (q_pick_t (v := (.bool true)) rfl rfl rfl) ?_; refine wla rfl rfl (q_move (v := (.bool true)) rfl rfl) ?_; refine wlk rfl rfl ?_; refine wlk rfl rfl ?_; refine wla rfl rfl (q_pick_t (v := (.bool true)) rfl rfl rfl) ?_; refine wl_nil ?_; refine W_th ?_; refine W_cond true rfl rfl (fun _ => ?_) (fun hb => by cases hb); refine W_seq ?_; refine W_reg (by kernel_rfl) ?_; refine wla rfl rfl (q_assign (v := (.bool false)) rfl rfl) ?_; refine wl_nil ?_; refine W_th ?_; refine W_ret ?_; refine th_r ?_; obtain rfl := osi H; refine rt1 (.bool false) rfl rfl rfl s129_18 ?_; exact ⟨rfl, e30⟩
  replace H := (if_pos (ndec_f hb31)).symm.trans H; refine wla rfl rfl (q_move (v := (i64 r21.2)) rfl rfl) ?_; refine wla rfl rfl (q_neI rfl rfl rfl) ?_; refine wla rfl rfl (q_pick_f (v := (.bool ((!decide (r21.2 = 2))))) rfl rfl rfl) ?_; refine wlb rfl rfl (q_move (v := (.bool ((!decide (r21.2 = 2))))) rfl rfl) (fun hb32 => ?_) (fun hb32 => ?_)
  · replace H := (if_neg (ndec_t hb32)).symm.trans H; refine wlk rfl rfl ?_; refine wlk rfl rfl ?_; refine wla rfl rfl (q_pick_t (v := (.bool true)) rfl rfl rfl) ?_; refine wla rfl rfl (q_move (v := (.bool true)) rfl rfl) ?_; refine wlk rfl rfl ?_; refine wlk rfl rfl ?_; refine wla rfl rfl (q_pick_t (v := (.bool true)) rfl rfl rfl) ?_; refine wl_nil ?_; refine W_th ?_; refine W_cond true rfl rfl (fun _ => ?_) (fun hb => by cases hb); refine W_seq ?_; refine W_reg (by kernel_rfl) ?_; refine wla rfl rfl (q_assign (v := (.bool false)) rfl rfl) ?_; refine wl_nil ?_; refine W_th ?_; refine W_ret ?_; refine th_r ?_; obtain rfl := osi H; refine rt1 (.bool false) rfl rfl rfl s129_18 ?_; exact ⟨rfl, e30⟩
  replace H := (if_pos (ndec_f hb32)).symm.trans H; refine wla rfl rfl (q_move (v := (i64 r25.2)) rfl rfl) ?_; refine wla rfl rfl (q_neI rfl rfl rfl) ?_; refine wla rfl rfl (q_pick_f (v := (.bool ((!decide (r25.2 = 1))))) rfl rfl rfl) ?_; refine wlb rfl rfl (q_move (v := (.bool ((!decide (r25.2 = 1))))) rfl rfl) (fun hb33 => ?_) (fun hb33 => ?_)
  · replace H := (if_neg (ndec_t hb33)).symm.trans H; refine wlk rfl rfl ?_; refine wlk rfl rfl ?_; refine wla rfl rfl (q_pick_t (v := (.bool true)) rfl rfl rfl) ?_; refine wl_nil ?_; refine W_th ?_; refine W_cond true rfl rfl (fun _ => ?_) (fun hb => by cases hb); refine W_seq ?_; refine W_reg (by kernel_rfl) ?_; refine wla rfl rfl (q_assign (v := (.bool false)) rfl rfl) ?_; refine wl_nil ?_; refine W_th ?_; refine W_ret ?_; refine th_r ?_; obtain rfl := osi H; refine rt1 (.bool false) rfl rfl rfl s129_18 ?_; exact ⟨rfl, e30⟩
  replace H := (if_pos (ndec_f hb33)).symm.trans H; refine wla rfl rfl (q_move (v := (i64 r29.2)) rfl rfl) ?_; refine wla rfl rfl (q_neI rfl rfl rfl) ?_; refine wla rfl rfl (q_pick_f (v := (.bool ((!decide (r29.2 = 1))))) rfl rfl rfl) ?_; refine wl_nil ?_; refine W_th ?_; refine W_cond _ rfl rfl (fun hb34 => ?_) (fun hb34 => ?_)
  · replace H := (if_neg (ndec_t hb34)).symm.trans H; refine W_seq ?_; refine W_reg (by kernel_rfl) ?_; refine wla rfl rfl (q_assign (v := (.bool false)) rfl rfl) ?_; refine wl_nil ?_; refine W_th ?_; refine W_ret ?_; refine th_r ?_; obtain rfl := osi H; refine rt1 (.bool false) rfl rfl rfl s129_18 ?_; exact ⟨rfl, e30⟩
  replace H := (if_pos (ndec_f hb34)).symm.trans H; refine W_skip ?_; refine W_th ?_; refine W_seq ?_; refine W_reg (by kernel_rfl) ?_; refine wla rfl rfl (q_move (v := v9_0) rfl s11_18) ?_; refine wla rfl rfl (q_move (v := p1) rfl s1_18) ?_; obtain ⟨r35, hr35, H⟩ := bsi H; refine wls rfl rfl (stp_call (vs := [p1]) Try.func26 rfl rfl rfl (ar1 rfl) (law06_nonce_calls a1n p1 r35 _ (hp1.lift (Lift.ext e30 _)) hr35) ?_); rintro _ w35 ⟨v35, rfl, x35, n35_0, o35_0⟩; refine ⟨_, rfl, ?_⟩; have i35_0 : By w35 [] v35 r35 := OwK.slk (Sc.stab _) _ (OwK.scal o35_0 (v35 :: [])) (fun k hk => (Old.nil _) k (n35_0 k hk)) (fun _ h => h.2); replace i0_18 := i0_18.lift (Lift.ext x35 _); replace i19_0 := i19_0.lift (Lift.ext x35 _); replace i21_0 := i21_0.lift (Lift.ext x35 _); replace i23_0 := i23_0.lift (Lift.ext x35 _); replace i25_0 := i25_0.lift (Lift.ext x35 _); replace i27_0 := i27_0.lift (Lift.ext x35 _); replace i29_0 := i29_0.lift (Lift.ext x35 _); have e36 := e30.trans x35; obtain ⟨r37, hr37, H⟩ := bsi H; refine wls rfl rfl (stp_call (vs := [v9_0, v35, (i64 0), (i64 300)]) Try.func25 rfl rfl rfl (ar4 rfl rfl rfl rfl) (stream_Bytes_calls r9.1 r35 0 300 v9_0 v35 r37 _ (i0_18.lift (Lift.sub (fun _ _ => trivial))) (i35_0.lift (Lift.sub (fun _ _ => trivial))) hr37) ?_); rintro _ w37 ⟨v37_0, rfl, x37, n37_0, o37_0⟩; refine ⟨_, rfl, ?_⟩; have i37_0 : By w37 [] v37_0 r37.1 := SlK.avail o37_0 _ (fun k hk => (Old.nil _) k (n37_0 k hk)); replace i0_18 := i0_18.lift (Lift.ext x37 _); replace i19_0 := i19_0.lift (Lift.ext x37 _); replace i21_0 := i21_0.lift (Lift.ext x37 _); replace i23_0 := i23_0.lift (Lift.ext x37 _); replace i25_0 := i25_0.lift (Lift.ext x37 _); replace i27_0 := i27_0.lift (Lift.ext x37 _); replace i29_0 := i29_0.lift (Lift.ext x37 _); replace i35_0 := i35_0.lift (Lift.ext x37 _); have e38 := e36.trans x37; refine wla rfl rfl (q_move (v := (.tuple #[v37_0, (i64 r37.2)])) rfl rfl) ?_; refine wla rfl rfl (q_extract rfl rfl rfl) ?_; refine wla rfl rfl (q_extract rfl rfl rfl) ?_; refine wla rfl rfl (q_assign (v := v37_0) rfl rfl) ?_; refine wla rfl rfl (q_assign (v := (i64 r37.2)) rfl rfl) ?_; refine wl_nil ?_; refine W_th ?_; refine W_seq ?_; refine W_reg (by kernel_rfl) ?_; refine wla rfl rfl (q_move (v := (i64 a4from)) rfl s4_18) ?_; refine wla rfl rfl (q_cvt64I rfl rfl rfl rfl) ?_; refine wla rfl rfl (q_rem64 rfl rfl (cst64 (300 : UInt64) rfl) (by decide)) ?_; refine wla rfl rfl (q_cvtI64 rfl rfl rfl rfl) ?_; refine wla rfl rfl (q_assign (v := (i64 ((wI ((((UInt64.ofInt a4from) % (300 : UInt64))).toNat : Int))))) rfl rfl) ?_; refine wl_nil ?_; refine W_th ?_; refine W_seq ?_; refine W_reg (by kernel_rfl) ?_; refine wla rfl rfl (q_move (v := v9_0) rfl s11_18) ?_; refine wla rfl rfl (q_move (v := p1) rfl s1_18) ?_; obtain ⟨r39, hr39, H⟩ := bsi H; refine wls rfl rfl (stp_call (vs := [p1]) Try.func26 rfl rfl rfl (ar1 rfl) (law06_nonce_calls a1n p1 r39 _ (hp1.lift (Lift.ext e38 _)) hr39) ?_)
  rintro _ w39 ⟨v39, rfl, x39, n39_0, o39_0⟩; refine ⟨_, rfl, ?_⟩; have i39_0 : By w39 [] v39 r39 := OwK.slk (Sc.stab _) _ (OwK.scal o39_0 (v39 :: [])) (fun k hk => (Old.nil _) k (n39_0 k hk)) (fun _ h => h.2); replace i0_18 := i0_18.lift (Lift.ext x39 _); replace i19_0 := i19_0.lift (Lift.ext x39 _); replace i21_0 := i21_0.lift (Lift.ext x39 _); replace i23_0 := i23_0.lift (Lift.ext x39 _); replace i25_0 := i25_0.lift (Lift.ext x39 _); replace i27_0 := i27_0.lift (Lift.ext x39 _); replace i29_0 := i29_0.lift (Lift.ext x39 _); replace i35_0 := i35_0.lift (Lift.ext x39 _); replace i37_0 := i37_0.lift (Lift.ext x39 _); have e40 := e38.trans x39; refine wla rfl rfl (q_move (v := (i64 ((wI ((((UInt64.ofInt a4from) % (300 : UInt64))).toNat : Int))))) rfl rfl) ?_; refine wla rfl rfl (q_move (v := (i64 ((wI ((((UInt64.ofInt a4from) % (300 : UInt64))).toNat : Int))))) rfl rfl) ?_; refine wla rfl rfl (q_subI rfl rfl rfl) ?_; obtain ⟨r41, hr41, H⟩ := bsi H; refine wls rfl rfl (stp_call (vs := [v9_0, v39, (i64 ((wI ((((UInt64.ofInt a4from) % (300 : UInt64))).toNat : Int)))), (i64 ((wI (300 - (wI ((((UInt64.ofInt a4from) % (300 : UInt64))).toNat : Int))))))]) Try.func25 rfl rfl rfl (ar4 rfl rfl rfl rfl) (stream_Bytes_calls r9.1 r39 (wI ((((UInt64.ofInt a4from) % (300 : UInt64))).toNat : Int)) (wI (300 - (wI ((((UInt64.ofInt a4from) % (300 : UInt64))).toNat : Int)))) v9_0 v39 r41 _ (i0_18.lift (Lift.sub (fun _ _ => trivial))) (i39_0.lift (Lift.sub (fun _ _ => trivial))) hr41) ?_); rintro _ w41 ⟨v41_0, rfl, x41, n41_0, o41_0⟩; refine ⟨_, rfl, ?_⟩; have i41_0 : By w41 [] v41_0 r41.1 := SlK.avail o41_0 _ (fun k hk => (Old.nil _) k (n41_0 k hk)); replace i0_18 := i0_18.lift (Lift.ext x41 _); replace i19_0 := i19_0.lift (Lift.ext x41 _); replace i21_0 := i21_0.lift (Lift.ext x41 _); replace i23_0 := i23_0.lift (Lift.ext x41 _); replace i25_0 := i25_0.lift (Lift.ext x41 _); replace i27_0 := i27_0.lift (Lift.ext x41 _); replace i29_0 := i29_0.lift (Lift.ext x41 _); replace i35_0 := i35_0.lift (Lift.ext x41 _); replace i37_0 := i37_0.lift (Lift.ext x41 _); replace i39_0 := i39_0.lift (Lift.ext x41 _); have e42 := e40.trans x41; refine wla rfl rfl (q_move (v := (.tuple #[v41_0, (i64 r41.2)])) rfl rfl) ?_; refine wla rfl rfl (q_extract rfl rfl rfl) ?_; refine wla rfl rfl (q_extract rfl rfl rfl) ?_; refine wla rfl rfl (q_assign (v := v41_0) rfl rfl) ?_; refine wla rfl rfl (q_assign (v := (i64 r41.2)) rfl rfl) ?_; refine wl_nil ?_; refine W_th ?_; refine W_seq ?_; refine W_draw [4, 8] [(0, 0), (1, 0), (2, 0), (3, 0), (4, 1), (5, 0), (6, 0), (7, 0), (8, 1), (9, 0), (10, 0), (11, 0)] mixed (by kernel_rfl) (by kernel_rfl) (by kernel_rfl) (by kernel_rfl) ?_; have x43 := Ext.drew w41; replace i0_18 := i0_18.lift (Lift.ext x43 _); replace i19_0 := i19_0.lift (Lift.ext x43 _); replace i21_0 := i21_0.lift (Lift.ext x43 _); replace i23_0 := i23_0.lift (Lift.ext x43 _); replace i25_0 := i25_0.lift (Lift.ext x43 _); replace i27_0 := i27_0.lift (Lift.ext x43 _)
  replace i29_0 := i29_0.lift (Lift.ext x43 _); replace i35_0 := i35_0.lift (Lift.ext x43 _); replace i37_0 := i37_0.lift (Lift.ext x43 _); replace i39_0 := i39_0.lift (Lift.ext x43 _); replace i41_0 := i41_0.lift (Lift.ext x43 _); have e44 := e42.trans x43; refine wsa rfl rfl rfl (q_move (v := (i64 r41.2)) rfl rfl) ?_; refine wsa rfl rfl rfl (q_eqI rfl rfl rfl) ?_; refine wsb rfl rfl rfl (q_move (v := (.bool ((decide (r41.2 = 0))))) rfl rfl) (fun hb45 => ?_) (fun hb45 => ?_)
  · replace H := (if_pos (of_decide_eq_true hb45)).symm.trans H; refine wsa rfl rfl rfl (q_move (v := v41_0) rfl rfl) ?_; refine wsq rfl rfl rfl (q_str rfl T22 rfl rfl rfl i41_0) ?_; refine wsa rfl rfl rfl (q_move (v := v37_0) rfl rfl) ?_; refine wsa rfl rfl rfl (q_move (v := (i64 ((wI ((((UInt64.ofInt a4from) % (300 : UInt64))).toNat : Int))))) rfl rfl) ?_; obtain ⟨c46, hc46, H⟩ := bsi H; refine wsa rfl rfl rfl (q_slice (a := (wI ((((UInt64.ofInt a4from) % (300 : UInt64))).toNat : Int))) (b := (r37.1.length : Int)) rfl T22 rfl i37_0 rfl rfl hc46) ?_; refine wsq rfl rfl rfl (q_str rfl T22 rfl rfl rfl (SlK.cut i37_0 hc46)) ?_; refine wsa rfl rfl rfl (q_eqS rfl rfl rfl) ?_; refine wsa rfl rfl rfl (q_pick_t (v := (.bool ((decide (r41.1 = c46))))) rfl rfl rfl) ?_; refine wsa rfl rfl rfl (q_assign (v := (.bool ((decide (r41.1 = c46))))) rfl rfl) ?_; refine ws_nil ?_; refine W_th ?_; refine W_ret ?_; obtain rfl := osi H; refine rt1 (.bool ((decide (r41.1 = c46)))) rfl rfl rfl s129_18 ?_; exact ⟨rfl, e44⟩
  replace H := (if_neg (of_decide_eq_false hb45)).symm.trans H; refine wsk rfl rfl rfl ?_; refine wsk rfl rfl rfl ?_; refine wsk rfl rfl rfl ?_; refine wsk rfl rfl rfl ?_; refine wsk rfl rfl rfl ?_; refine wsk rfl rfl rfl ?_; refine wsk rfl rfl rfl ?_; refine wsa rfl rfl rfl (q_pick_f (v := (.bool false)) rfl rfl rfl) ?_; refine wsa rfl rfl rfl (q_assign (v := (.bool false)) rfl rfl) ?_; refine ws_nil ?_; refine W_th ?_; refine W_ret ?_; obtain rfl := osi H; refine rt1 (.bool false) rfl rfl rfl s129_18 ?_; exact ⟨rfl, e44⟩
end Gk

/- Chapter 6's statements, in plain Lean. No condition. -/
set_option linter.unusedSimpArgs false
set_option linter.unusedVariables false
namespace Gk
open Gf
theorem made6 (k : List UInt8) : ∃ c k0 ks, law06_made k = some (some c, padK 16 k) ∧ Good c k0 ks ∧ keysF (padK 16 k) = k0 :: ks := by
  have hm : (1000 : Nat) ≤ most := by decide
  obtain ⟨c, k0, ks, hN, G, hK⟩ := New_good (padK 16 k) 4 (.inl rfl) (padK_len _ _)
  refine ⟨c, k0, ks, ?_, G, hK⟩
  unfold law06_made
  rw [show makeL 16 (0 : UInt8) = some (List.replicate 16 0) from makeL_nat 16 _ (by omega), Option.bind_some, show field_New = some true by rfl, Option.bind_some, show copyL (List.replicate 16 (0 : UInt8)) 0 k = padK 16 k by rfl, hN, Option.bind_some]
theorem nonce6 (b : List UInt8) : law06_nonce b = some (padK 8 b) := by
  have hm : (1000 : Nat) ≤ most := by decide
  unfold law06_nonce
  rw [show makeL 8 (0 : UInt8) = some (List.replicate 8 0) from makeL_nat 8 _ (by omega), Option.bind_some]; rfl
theorem rblk {k k0 : List UInt8} {ks : List (List UInt8)} (hk : keysF (padK 16 k) = k0 :: ks) (nonce : List UInt8) (hn : nonce.length = 8) (c : Nat) : ref05_Encrypt (padK 16 k) (nonce ++ b8 (UInt64.ofNat c)) = some (blk5 k0 ks nonce c) :=
  rEncrypt_eq _ _ k0 ks 4 (.inl rfl) (padK_len _ _) (by rw [List.length_append, b8_len, hn]) hk
theorem strL_blk {c : Cip} {k0 : List UInt8} {ks : List (List UInt8)} (G : Good c k0 ks) (nonce : List UInt8) (hn : nonce.length = 8) (i : Nat) : strL k0 ks nonce (16 * i) 16 = blk5 k0 ks nonce i := by
  have hbl := blk5_len G nonce hn i
  refine ext_co (by rw [strL_len, hbl]) fun j hj => ?_
  rw [strL_len] at hj
  rw [co_strL _ _ _ _ _ _ hj, strm, show (16 * i + j) / 16 = i by omega, show (16 * i + j) % 16 = j by omega]
theorem lives6 : law06_lives = some true := by
  have hm : (1000 : Nat) ≤ most := by decide
  obtain ⟨c, k0, ks, hM, G, hK⟩ := made6 []
  unfold law06_lives
  have hB := Bytes_eq G (List.replicate 8 0) (by simp) 16 16 (by omega) (by omega)
  have hs := strL_blk G (List.replicate 8 0) (by simp) 1
  have hr := rblk hK (List.replicate 8 0) (by simp) 1
  rw [hM, Option.bind_some, show makeL 8 (0 : UInt8) = some (List.replicate 8 0) from makeL_nat 8 _ (by omega), Option.bind_some, show (16 : Int) = ((16 : Nat) : Int) by rfl, hB, Option.bind_some]
  dsimp only
  rw [if_pos rfl, rPut_eq, Option.bind_some]
  unfold appL
  rw [if_pos (by rw [b8_len]; simp; omega), Option.bind_some]
  rw [show (UInt64.ofNat 1) = (1 : UInt64) by rfl] at hr
  rw [hr, Option.bind_some, ← hs, decide_eq_true rfl]
theorem mod_nat (a : Int) (m : UInt64) (h0 : 0 < m.toNat) (h : m.toNat ≤ 2000000000) : ∃ n : Nat, n < m.toNat ∧ wI ((((UInt64.ofInt a) % m).toNat : Int)) = (n : Int) := by
  have h1 : ((UInt64.ofInt a) % m).toNat < m.toNat := by rw [UInt64.toNat_mod]; exact Nat.mod_lt _ h0
  exact ⟨_, h1, wI_nat (by omega)⟩
theorem Bytes_form (c : Cip) (nonce : List UInt8) (a n : Int) (h : nonce.length ≠ 8) : stream_Bytes (some c) nonce a n = some ([], 3) := by
  unfold stream_Bytes; rw [if_neg (by simp), if_neg (by omega)]
theorem Bytes_range (c : Cip) (nonce : List UInt8) (a n : Int) (h : nonce.length = 8) (h2 : a < 0 ∨ n < 0 ∨ 1073741824 < a ∨ 1048576 < n) : stream_Bytes (some c) nonce a n = some ([], 2) := by
  unfold stream_Bytes
  rw [if_neg (by simp), if_pos (by omega)]
  by_cases h3 : a < 0
  · rw [if_pos h3]
  rw [if_neg h3]
  by_cases h4 : n < 0
  · rw [if_pos h4]
  rw [if_neg h4]
  by_cases h5 : 1073741824 < a
  · rw [if_pos h5]
  rw [if_neg h5, if_pos (by omega)]
theorem law06_StreamParts_true (k n : List UInt8) (at_ size from_ : Int) (la : -9223372036854775808 ≤ at_) (ha : at_ ≤ 9223372036854775807) (ls : -9223372036854775808 ≤ size) (hs : size ≤ 9223372036854775807) (lf : -9223372036854775808 ≤ from_) (hf : from_ ≤ 9223372036854775807) : law06_StreamParts k n at_ size from_ = some true := by
  have hm : (1000 : Nat) ≤ most := by decide
  obtain ⟨c, k0, ks, hM, G, hK⟩ := made6 k
  have hn : (padK 8 n).length = 8 := padK_len _ _
  obtain ⟨a, ha1, ha2⟩ := mod_nat from_ 300 (by decide) (by decide)
  have ha3 : a < 300 := ha1
  unfold law06_StreamParts
  rw [ha2, lives6, Option.bind_some, if_neg (by simp)]
  by_cases h1 : 100 < (n.length : Int)
  · rw [if_pos h1]; rfl
  rw [if_neg h1, hM, Option.bind_some]
  simp only [nonce6, Option.bind_some]
  generalize padK 8 n = nn at *
  -- the first one
  have hfirst : ∃ x : List UInt8, stream_Bytes (some c) n at_ (if 300 < size then 300 else size) = some (x, if n.length = 8 then (if at_ < 0 ∨ size < 0 ∨ 1073741824 < at_ then 2 else 0) else 3) := by
    by_cases h8 : n.length = 8
    · rw [if_pos h8]
      by_cases hr : at_ < 0 ∨ size < 0 ∨ 1073741824 < at_
      · rw [if_pos hr]
        refine ⟨[], Bytes_range c n _ _ h8 ?_⟩
        rcases hr with h | h | h
        · exact .inl h
        · exact .inr (.inl (by rw [if_neg (by omega)]; exact h))
        · exact .inr (.inr (.inl h))
      · rw [if_neg hr]
        obtain ⟨a', rfl⟩ : ∃ a' : Nat, at_ = (a' : Int) := ⟨at_.toNat, by omega⟩
        obtain ⟨z, hz⟩ : ∃ z : Nat, (if 300 < size then 300 else size) = (z : Int) := ⟨(if 300 < size then 300 else size).toNat, by split <;> omega⟩
        rw [hz]
        exact ⟨_, Bytes_eq G n h8 a' z (by omega) (by split at hz <;> omega)⟩
    · rw [if_neg h8]; exact ⟨[], Bytes_form c n _ _ h8⟩
  obtain ⟨x, hx⟩ := hfirst
  have hwant : (if (n.length : Int) = 8 then (if at_ < 0 then some 2 else (if size < 0 then some 2 else (if 1073741824 < at_ then some 2 else some 0))) else some 3) = some (if n.length = 8 then (if at_ < 0 ∨ size < 0 ∨ 1073741824 < at_ then (2 : Int) else 0) else 3) := by
    by_cases h8 : n.length = 8
    · rw [if_pos (by omega), if_pos h8]
      by_cases h2 : at_ < 0
      · rw [if_pos h2, if_pos (.inl h2)]
      rw [if_neg h2]
      by_cases h3 : size < 0
      · rw [if_pos h3, if_pos (.inr (.inl h3))]
      rw [if_neg h3]
      by_cases h4 : 1073741824 < at_
      · rw [if_pos h4, if_pos (.inr (.inr h4))]
      rw [if_neg h4, if_neg (by omega)]
    · rw [if_neg (by omega), if_neg h8]
  have hlong : stream_Bytes (some c) nn 0 1048577 = some ([], 2) := Bytes_range c nn _ _ hn (by omega)
  rw [hx, Option.bind_some, hwant, Option.bind_some, hlong, Option.bind_some, Bytes_none, Option.bind_some, SXor_none, Option.bind_some]
  dsimp only
  rw [if_pos rfl, if_pos rfl, if_pos rfl, if_pos rfl]
  have h300 := Bytes_eq G nn hn 0 300 (by omega) (by omega)
  have hpart := Bytes_eq G nn hn a (300 - a) (by omega) (by omega)
  have hw : wI (300 - (a : Int)) = ((300 - a : Nat) : Int) := by rw [wI_of (by omega) (by omega)]; omega
  rw [show ((0 : Nat) : Int) = 0 by rfl, show ((300 : Nat) : Int) = 300 by rfl] at h300
  rw [h300, Option.bind_some, hw, hpart, Option.bind_some]
  dsimp only
  rw [if_pos rfl, subL_nat _ _ _ (by rw [strL_len]; omega) (Nat.le_refl _), Option.bind_some]
  have he : strL k0 ks nn a (300 - a) = ((strL k0 ks nn 0 300).take (strL k0 ks nn 0 300).length).drop a := by
    refine ext_co (by simp only [List.length_drop, List.length_take, strL_len]; omega) fun i hi => ?_
    rw [strL_len] at hi
    rw [co_strL _ _ _ _ _ _ hi, co_drop, co_take, if_pos (by rw [strL_len]; omega), co_strL _ _ _ _ _ _ (by omega)]
    congr 1; omega
  rw [← he, decide_eq_true rfl]
end Gk

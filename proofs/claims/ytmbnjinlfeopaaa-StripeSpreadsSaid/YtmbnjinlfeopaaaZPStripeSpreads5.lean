/- Parts F7c, Pk, Pl, R7, Pm, Pn, Po, F11, L11, Qi, F4, L8a, F9, L9a, L9d, Mq, Mr0, one behind the other. What is proved: said at the head of each part. No condition beside those said there. -/
import Derived.Test.YtmbnjinlfeopaaaRows
import Derived.Orders
import Derived.Deep.Draws
import Derived.Laws.World
import Derived.KernelRfl
import Derived.OrdersIn
import Derived.TacticsIn
import Derived.RangeFuncCalls
import Derived.Deep.LoopGhost
import Derived.Tactics
import Derived.Sort.LoopGhostIn
import Derived.RangeFuncLeaves
import Derived.RangeFuncNested
import Derived.RangeFuncRecord
import Derived.Laws.Sem
import Derived.OwnWalk
import Derived.RangeFuncWrites
import Derived.Laws.IdiomCopy
import Derived.WalkKit
import Derived.ProofKit
import Derived.OpenShut
import Derived.ChangeOld
import Derived.Below
import Derived.Test.YtmbnjinlfeopaaaProg
import Derived.MapKept
import Derived.Lib.AppendZerosOnto
import Derived.Laws.CopyRow
import Derived.Laws.Cells
import Derived.Lib.SlBytesConst
import Derived.Test.YtmbnjinlfeopaaaZPStripeSpreads1
import Derived.Test.YtmbnjinlfeopaaaZPStripeSpreads2
import Derived.Test.YtmbnjinlfeopaaaZPStripeSpreads3
import Derived.Test.YtmbnjinlfeopaaaZPStripeSpreads4
set_option maxRecDepth 100000
set_option maxHeartbeats 8000000
set_option linter.unusedVariables false
set_option linter.unusedSimpArgs false
/- Printed by gen.py: for each Go function a pure function, and that the Go code comes to it. No condition beside the equation that says what the pure function gives. -/
namespace Gk
open Go Go.Proofs
noncomputable def hash_Sum (a0parts : List (List UInt8)) : Option (List UInt8) :=
((slices_Concat_sbytebyte a0parts).bind fun r1 =>
((appL r1 (([(128 : UInt8)] : List UInt8))).bind fun c6 =>
((remI ((c6.length : Int)) 64).bind fun c9 =>
((remI ((wI (120 - c9))) 64).bind fun c10 =>
((makeL c10 (0 : UInt8)).bind fun c12 =>
((appL c6 c12).bind fun c13 =>
((word_Put_uint64 c13 (shl64 ((UInt64.ofInt ((r1.length : Int)))) 3)).bind fun r16 =>
((hash_first ).bind fun r20 =>
((lenA 8 ((List.replicate 8 (0 : UInt32)))).bind fun c28 =>
((lenA 8 r20).bind fun c29 =>
((lim (r16.length + 64)).bind fun lim41 =>
((rangeL (fun (s41 : List UInt32) (y41 : Int × List UInt8) =>
((hash_block s41 y41.2).bind fun r45 => some r45)) (chunksI r16 64) r20).bind fun x41 =>
((lenA 8 x41).bind fun c49 =>
((iterC (fun s50 : List UInt8 × Int =>
(if s50.2 < 8 then
((lenA 8 x41).bind fun c53 =>
((idx x41 s50.2).bind fun c54 =>
((word_Put_uint32 s50.1 c54).bind fun r55 => some (.inl (r55, (wI (s50.2 + 1)))))))
else some (.inr s50.1))) (([] : List UInt8), 0)).bind fun x50 => some x50))))))))))))))
theorem hash_Sum_calls (a0parts : List (List UInt8)) (p0 : Value) (r : List UInt8) (w0 : World) (hp0 : Rw w0 [] p0 a0parts) (H : hash_Sum a0parts = some r) :
    Calls Try.prog 33 [p0].toArray w0 (fun e w' => ∃ u0 : Value, e = .returned u0 ∧ Ext w0 w' ∧ Nw w0 u0 ∧ OwK (Sc u8) w' [] 5 u0 r) := by
  have hE : Ext w0 w0 := Ext.refl w0; unfold hash_Sum at H; refine calls_W (n := 44) Try.func33 rfl rfl rfl ?_; refine W_seq <| W_rg <| av (.slice none 0 0) rfl rfl <| wnt <| W_seq <| W_rg <| mv p0 rfl rfl <| ?_; obtain ⟨r1, hr1, H⟩ := bsi H; refine wls rfl rfl (stp_call (vs := [p0]) Try.func19 rfl rfl rfl (ar1 rfl) (slices_Concat_sbytebyte_calls a0parts p0 r1 _ (hp0.lift (Lift.ext hE _)) hr1) ?_); rintro _ w1 ⟨v1, rfl, x1, n1_0, o1_0⟩; refine ⟨_, rfl, ?_⟩; have o1 : OwK (Sc u8) w1 (v1 :: []) 5 v1 r1 := OwK.scal o1_0 _; have n3 := Nw.ext hE n1_0; have e2 := hE.trans x1; refine av v1 rfl rfl <| wnt <| W_seq <| W_rg <| mv v1 rfl rfl <| wa rfl (q_len rfl T22.sl rfl (o1.rd (Sc.stab _))) <| av (i64 ((r1.length : Int))) rfl rfl <| wnt <| ?_; refine W_seq <| W_rg <| mv v1 rfl rfl <| ?_; refine wls rfl rfl (stp_lit (L := [v1]) (R := (Sc u8)) [(u8 128)] ([(128 : UInt8)] : List UInt8) rfl T22 rfl (by exact ⟨rfl, (cst8 (128 : UInt8) rfl), trivial⟩) rfl (litC u8 (oneC_u8) (us := [(u8 128)]) (l := ([(128 : UInt8)] : List UInt8)) rfl) rfl (litS u8 (us := [(u8 128)]) (l := ([(128 : UInt8)] : List UInt8)) rfl) ?_); intro v4 w4 o4 n4 g4 l4; have x4 := grown_ext g4; have i4 : By w4 [v1] v4 (([(128 : UInt8)] : List UInt8)) := OwK.slk (Sc.stab _) _ o4 (fun k hk => (Old.cons (Old.nil _) o1.lt) k (n4 k hk)) (fun _ h => h.2); replace o1 := o1.extL (Sc.stab _) x4 (Lift.ext x4 _); have e5 := e2.trans x4; obtain ⟨c6, hc6, H⟩ := bsi H; refine wls rfl rfl (stp_append (R := (Sc u8)) (v := v1) (u := v4) (Sc.stab _) [] [] rfl T22 rfl rfl o1 i4 (fun _ _ h => h) hc6 oc_u8 ?_); intro v6 w6 o6 g6 nx6 l6; replace i4 := i4.lift l6; have e7 := e5.grown g6 n3; have n8 := Nw.nxt e5 n3 nx6; refine av v6 rfl rfl <| wnt <| W_seq <| W_rg <| mv v6 rfl rfl <| mv v6 rfl rfl <| wa rfl (q_len rfl T22.sl rfl (o6.rd (Sc.stab _))) <| ?_; obtain ⟨c9, hc9, H⟩ := bsi H; refine wa rfl (q_remI rfl rfl rfl hc9) <| wa rfl (q_subI rfl rfl rfl) <| ?_; obtain ⟨c10, hc10, H⟩ := bsi H; refine wa rfl (q_remI rfl rfl rfl hc10) ?_; obtain ⟨c12, hc12, H⟩ := bsi H; obtain ⟨c13, hc13, H⟩ := bsi H; refine wls rfl rfl (stp_appz (R := (Sc u8)) (v := v6) (Sc.stab _) [] [] rfl T22 Try.underlying3 rfl rfl rfl o6 hc12 (fun _ _ => rfl) hc13 ?_); intro v12 w12 o12 g12 nx12 l12; replace i4 := i4.lift l12; have e14 := e7.grown g12 n8
  have n15 := Nw.nxt e7 n8 nx12; refine av v12 rfl rfl <| wnt <| W_seq <| W_rg <| mv v12 rfl rfl <| mv (i64 ((r1.length : Int))) rfl rfl <| wa rfl (q_cvt64I rfl rfl rfl rfl) <| wa rfl (q_shl64 3 rfl rfl rfl rfl) <| ?_; obtain ⟨r16, hr16, H⟩ := bsi H; refine wls rfl rfl (stp_call (vs := [v12, (u64 ((shl64 ((UInt64.ofInt ((r1.length : Int)))) 3)))]) Try.func51 rfl rfl rfl (ar2 rfl rfl) (word_Put_uint64_calls c13 (shl64 ((UInt64.ofInt ((r1.length : Int)))) 3) v12 r16 _ (o12.rd (Sc.stab _)) hr16) ?_); rintro _ w16 ⟨v16, rfl, x16, n16_0, o16_0⟩; refine ⟨_, rfl, ?_⟩; have o16 : OwK (Sc u8) w16 (v16 :: [v12]) 5 v16 r16 := OwK.scal o16_0 _; have q17 : Nq v12 v16 := o12.nq n16_0; replace i4 := i4.lift (Lift.call _ x16 n16_0); replace o12 := o12.extL (Sc.stab _) x16 (Lift.call _ x16 n16_0); have n19 := Nw.ext e14 n16_0; have e18 := e14.trans x16; refine av v16 rfl rfl <| wnt <| W_seq <| W_rg <| ?_; obtain ⟨r20, hr20, H⟩ := bsi H; refine wls rfl rfl (stp_call (vs := []) Try.func52 rfl rfl rfl (ar0 ) (hash_first_calls   r20 _  hr20) ?_); rintro _ w20 ⟨rfl, x20⟩; refine ⟨_, rfl, ?_⟩; replace i4 := i4.lift (Lift.ext x20 _); replace o16 := o16.extL (Sc.stab _) x20 (Lift.ext x20 _); replace o12 := o12.extL (Sc.stab _) x20 (Lift.ext x20 _); have e21 := e18.trans x20; refine wls rfl rfl (sal u32 (List.replicate 8 (0 : UInt32)) [v16, v12] rfl Z79 ?_); intro g22 w22 o22 n22 g22r l22; have x22 := grown_ext g22r; have q23 : Nq v16 (bp g22) := o16.nq n22; have q24 : Nq v12 (bp g22) := o12.nq n22; replace i4 := i4.lift (Lift.call _ x22 n22); replace o16 := o16.extL (Sc.stab _) x22 (Lift.call _ x22 n22); replace o12 := o12.extL (Sc.stab _) x22 (Lift.call _ x22 n22); have n26 := Nw.ext e21 n22; have e25 := e21.trans x22; obtain ⟨c28, hc28, H⟩ := bsi H; obtain ⟨c29, hc29, H⟩ := bsi H; refine wln rfl rfl (stp_storeA [] [v16, v12] rfl A79 rfl rfl (lenA_eq hc28) (lenA_eq hc29) o22 one_u32 ?_); intro w27 o27 g27 l27; replace i4 := i4.lift l27; replace o16 := o16.other (Sc.stab _) g27 q23 l27; replace o12 := o12.other (Sc.stab _) g27 q24 l27; have e30 := e25.grown g27 n26; refine wnt <| W_seq <| W_seq <| W_rg <| mv v16 rfl rfl <| ?_; refine wls rfl rfl (stp_call (vs := [v16, i64 64]) Try.func53 rfl rfl rfl (ar2 rfl rfl) (Chunk_bytes_calls v16 (cells_own o16) 64 (by decide) _) ?_); rintro _ w31 ⟨g31a, g31b, rfl, nA31, nB31, qAB31, hA31, hB31, x31⟩; refine ⟨_, rfl, ?_⟩; have q32 : Nq (bp g22) (bp g31a) := o27.nq nA31; have q33 : Nq (bp g22) (bp g31b) := o27.nq nB31; have q34 : Nq v16 (bp g31a) := o16.nq nA31
  have q35 : Nq v16 (bp g31b) := o16.nq nB31; have q36 : Nq v12 (bp g31a) := o12.nq nA31; have q37 : Nq v12 (bp g31b) := o12.nq nB31; replace i4 := i4.lift (Lift.call2 _ x31 nA31 nB31); replace o27 := o27.ext x31; replace o16 := o16.extL (Sc.stab _) x31 (Lift.call2 _ x31 nA31 nB31); replace o12 := o12.extL (Sc.stab _) x31 (Lift.call2 _ x31 nA31 nB31); have n38 := Nw.ext e30 nA31; have n39 := Nw.ext e30 nB31; have e40 := e30.trans x31; refine wnt <| W_block <| ?_; obtain ⟨lim41, hl41, H⟩ := bsi H; obtain ⟨x41, G41, H⟩ := bsi H; refine W_rangeDS (π := fun x : ChEl r16 64 => x.1) (xs := chunksI r16 64) (ea := fun x => subW v16 x.1.1.toNat (x.1.1 + (x.1.2.length : Int)).toNat (x.1.1 + (x.1.2.length : Int)).toNat) (Rd := RdC_bytes r16 64 g31a g31b v16) (gf := 74) (lb := #[(bp g31a), (bp g31b)]) G41 rfl rfl rfl (enters Try.func74 rfl rfl) rfl (chunk_bytes r16 64 (by decide) v16 g31a g31b _ ⟨hA31, hB31, (o16.rd (Sc.stab _))⟩ (lim_lt hl41)) (fun ys h => h) (fun x => x.2.2) (fun _ _ t h => RdC_bytes.tn t h) rfl (fun s41 w => Ext w0 w ∧ OwK (Sc u8) w [v16, (bp g22), (bp g31a), (bp g31b)] 5 v16 r16 ∧ Nw w0 v16 ∧ Blk w g22 79 (ac u32 s41) ∧ Nw w0 (bp g22) ∧ Blk w g31a 22 #[v16] ∧ Nw w0 (bp g31a) ∧ Blk w g31b 3 #[(i64 64)] ∧ Nw w0 (bp g31b) ∧ Nq v16 (bp g22) ∧ Nq v16 (bp g31a) ∧ Nq v16 (bp g31b) ∧ Nq (bp g22) (bp g31a) ∧ Nq (bp g22) (bp g31b) ∧ Nq (bp g31a) (bp g31b)) ?_ ?_ ⟨e40, (o16.weak (Sc.stab _) (fun _ h => ⟨h.2.2.2.1, h.2.2.1, h.1, h.2.1, trivial⟩)), n19, o27, n26, hA31, n38, hB31, n39, q23, q34, q35, q32, q33, qAB31⟩ (fun x f => upd (f) 6 (subW v16 x.1.1.toNat (x.1.1 + (x.1.2.length : Int)).toNat (x.1.1 + (x.1.2.length : Int)).toNat)) ?_ ?_ ?_
  · rintro s41 W W' t ⟨hE42, o0_42, n0_42, o1_42, n1_42, o2_42, n2_42, o3_42, n3_42, q0_1_42, q0_2_42, q0_3_42, q1_2_42, q1_3_42, q2_3_42⟩; exact ⟨(hE42.tn t e40.size), (o0_42.tn (Sc.stab _) t), n0_42, (o1_42.tn t), n1_42, (o2_42.tn t), n2_42, (o3_42.tn t), n3_42, q0_1_42, q0_2_42, q0_3_42, q1_2_42, q1_3_42, q2_3_42⟩
  · rintro s41 W ⟨hE43, o0_43, n0_43, o1_43, n1_43, o2_43, n2_43, o3_43, n3_43, q0_1_43, q0_2_43, q0_3_43, q1_2_43, q1_3_43, q2_3_43⟩; have t := Ext.drew W; exact ⟨(hE43.trans t), (o0_43.extL (Sc.stab _) t (Lift.ext t _)), n0_43, (o1_43.ext t), n1_43, (o2_43.ext t), n2_43, (o3_43.ext t), n3_43, q0_1_43, q0_2_43, q0_3_43, q1_2_43, q1_3_43, q2_3_43⟩
  · intro l x W1 K hK; refine W_rg <| av (subW v16 x.1.1.toNat (x.1.1 + (x.1.2.length : Int)).toNat (x.1.1 + (x.1.2.length : Int)).toNat) rfl rfl <| wl_nil <| ?_; exact hK
  · rintro l ⟨y41, hy41⟩ s41 sp41 w44 ⟨hE44, o0_44, n0_44, o1_44, n1_44, o2_44, n2_44, o3_44, n3_44, q0_1_44, q0_2_44, q0_3_44, q1_2_44, q1_3_44, q2_3_44⟩ H41; have kf41 := KeepsFrom.refl w31.heap.size w44; refine W_block <| W_rg <| mv (subW v16 y41.1.toNat (y41.1 + (y41.2.length : Int)).toNat (y41.1 + (y41.2.length : Int)).toNat) rfl rfl <| ?_; obtain ⟨r45, hr45, H41⟩ := bsi H41; refine wls rfl rfl (stp_call (vs := [(bp g22), (subW v16 y41.1.toNat (y41.1 + (y41.2.length : Int)).toNat (y41.1 + (y41.2.length : Int)).toNat)]) Try.func54 rfl rfl rfl (ar2 rfl rfl) (hash_block_calls s41 y41.2 g22 (subW v16 y41.1.toNat (y41.1 + (y41.2.length : Int)).toNat (y41.1 + (y41.2.length : Int)).toNat) r45 _ o1_44 (SlK.cut3 (L := [(bp g22)]) (OwK.slk (Sc.stab _) [(bp g22)] o0_44 (fun k hk => ⟨q0_1_44 k hk, trivial⟩) (fun _ h => ⟨h.2.1, trivial⟩)) hy41.1) hr45) ?_); rintro _ w45 ⟨rfl, x45, hb45_0⟩; refine ⟨_, rfl, ?_⟩; have lx45 := Lift.ownX [v16] [(bp g31a), (bp g31b)] x45; have k46 := kf41.ownX x45 o1_44.cl; replace o0_44 := o0_44.otherX (Sc.stab _) x45 q0_1_44 lx45; replace o2_44 := o2_44.otherX x45 q1_2_44.symm; replace o3_44 := o3_44.otherX x45 q1_3_44.symm; have e47 := hE44.grownX x45 n1_44; refine wl_nil <| bk_n <| ?_; obtain rfl := osi H41; exact ⟨k46, ⟨o2_44, o3_44, (o0_44.rd (Sc.stab _))⟩, e47, o0_44, n0_44, hb45_0, n1_44, o2_44, n2_44, o3_44, n3_44, q0_1_44, q0_2_44, q0_3_44, q1_2_44, q1_3_44, q2_3_44⟩
  intro D41 w48 hD41 ⟨hE48, o0_48, n0_48, o1_48, n1_48, o2_48, n2_48, o3_48, n3_48, q0_1_48, q0_2_48, q0_3_48, q1_2_48, q1_3_48, q2_3_48⟩ hK41; have hd41 := Nat.le_trans e40.size hD41; have kd41 := KeepsFrom.refl 0 w48; refine bk_n <| W_th <| W_seq <| W_rg <| av (.slice none 0 0) rfl rfl <| wnt <| W_seq <| W_seq <| ?_; refine W_rg ?_; obtain ⟨c49, hc49, H⟩ := bsi H; refine wq rfl (q_loadA (m := 0) rfl A79 rfl o1_48 (seg_self _ _) (lenA_eq hc49)) <| mv (i64 0) rfl rfl <| wnt <| ?_; obtain ⟨x50, G50, H⟩ := bsi H; refine W_mid (fun f w => ∃ v7_63 : Value, f 7 = v7_63 ∧ f 44 = (bp D41) ∧ Ext w0 w ∧ KeepsFrom 0 w48 w ∧ OwK (Sc u8) w [v7_63] 5 v7_63 x50 ∧ Nw w0 v7_63) ?_ ?_
  · refine W_block ?_; refine W_loop (fun s50 f w => ∃ v7_60 : Value, f 7 = v7_60 ∧ f 35 = (ag u32 x41) ∧ f 36 = (i64 s50.2) ∧ f 44 = (bp D41) ∧ Ext w0 w ∧ KeepsFrom 0 w48 w ∧ OwK (Sc u8) w [v7_60] 5 v7_60 s50.1 ∧ Nw w0 v7_60) G50 ?_ ?_
    · exact ⟨(.slice none 0 0), rfl, rfl, rfl, rfl, hE48, kd41, (OwK.nil _ _ _ _), (Nw.nil _)⟩
    rintro s50 _ _ w51 ⟨v7_51, s7_51, s35_51, s36_51, s44_51, hE51, k0_51, o0_51, n0_51⟩ H50 hr50; refine W_seq <| W_rg <| wa rfl (q_ltI rfl s36_51 rfl) <| wnt <| W_seq <| ?_; refine W_cond _ rfl rfl (fun hb52 => ?_) (fun hb52 => ?_)
    · replace H50 := ifp hb52 H50; refine W_skip <| W_th <| W_seq <| W_block <| W_seq <| W_rg <| ?_; obtain ⟨c53, hc53, H50⟩ := bsi H50; obtain ⟨c54, hc54, H50⟩ := bsi H50; refine wa rfl (q_index rfl A79 (by exact s35_51) (by exact s36_51) (lenA_eq hc53) hc54) <| av (u32 c54) rfl rfl <| wnt <| W_rg <| mv v7_51 rfl s7_51 <| mv (u32 c54) rfl rfl <| ?_; obtain ⟨r55, hr55, H50⟩ := bsi H50; refine wls rfl rfl (stp_call (vs := [v7_51, (u32 c54)]) Try.func55 rfl rfl rfl (ar2 rfl rfl) (word_Put_uint32_calls s50.1 c54 v7_51 r55 _ (o0_51.rd (Sc.stab _)) hr55) ?_); rintro _ w55 ⟨v55, rfl, x55, n55_0, o55_0⟩; refine ⟨_, rfl, ?_⟩; have o55 : OwK (Sc u8) w55 (v55 :: [v7_51]) 5 v55 r55 := OwK.scal o55_0 _; have q56 : Nq v7_51 v55 := o0_51.nq n55_0; replace o0_51 := o0_51.extL (Sc.stab _) x55 (Lift.call _ x55 n55_0); have k57 := k0_51.ext x55; have n59 := Nw.ext hE51 n55_0; have e58 := hE51.trans x55; refine av v55 rfl rfl <| wl_nil <| bk_n <| W_th <| W_rg <| wa rfl (q_addI rfl s36_51 rfl) <| mv (i64 ((wI (s50.2 + 1)))) rfl rfl <| wl_nil <| ?_; obtain rfl := osi H50; exact ⟨_, rfl, v55, rfl, s35_51, rfl, s44_51, e58, k57, (o55.weak (Sc.stab _) (fun _ h => ⟨h.1, trivial⟩)), n59⟩
    replace H50 := ifn hb52 H50; refine W_exit <| th_x <| ?_; obtain rfl := osi H50; obtain rfl := hr50 _ rfl; refine th_x <| bk_x <| ?_; exact ⟨v7_51, s7_51, s44_51, hE51, k0_51, o0_51, n0_51⟩
  rintro _ w61 ⟨v7_61, s7_61, s44_61, hE61, k0_61, o0_61, n0_61⟩; refine W_th <| W_seq <| W_rg <| mv v7_61 rfl s7_61 <| av v7_61 rfl rfl <| wnt <| W_ret <| ?_; obtain rfl := osi H; have hk62 := k0_61.same D41 _ (Nat.zero_le _) hK41 rfl; have t62 := Tn.put hk62 hd41 (.deferred none); refine rtm1 v7_61 rfl rfl rfl s44_61 hk62 ?_; exact ⟨v7_61, rfl, (hE61.tn t62 (Nat.le_refl _)), n0_61, ((o0_61.tn (Sc.stab _) t62).weak (Sc.stab _) (fun _ _ => trivial))⟩
end Gk

/- Words and the sum of bytes (chapters 1 and 7), in plain Lean. No condition but lengths. -/
namespace Gk
open Gf
theorem Bits32_eq : word_Bits_uint32 = some 32 := by
  unfold word_Bits_uint32
  rw [iterC_some.2 ⟨33, by kernel_rfl⟩]; rfl
theorem Bits64_eq : word_Bits_uint64 = some 64 := by
  unfold word_Bits_uint64
  rw [iterC_some.2 ⟨65, by kernel_rfl⟩]; rfl
def rot (x : UInt32) (k : Nat) : UInt32 := shr32 x k ||| shl32 x (32 - k)
theorem Turn_neg (x : UInt32) (k : Nat) (h0 : 0 < k) (h1 : k < 32) : word_Turn_uint32 x (-(k : Int)) = some (rot x k) := by
  unfold word_Turn_uint32
  rw [Bits32_eq, obs]
  have e1 : remI (-(k : Int)) 32 = some (-(k : Int)) := by
    unfold remI; rw [if_neg (by decide), Int.neg_tmod, Int.tmod_eq_emod_of_nonneg (by omega), Int.emod_eq_of_lt (by omega) (by omega)]
  rw [e1, obs, wI_of (by omega) (by omega)]
  rw [show -(k : Int) + 32 = ((32 - k : Nat) : Int) by omega, show (32 : Int) = ((32 : Nat) : Int) by rfl, remI_nat _ _ (by omega), Nat.mod_eq_of_lt (by omega), obs, if_neg (by omega), cnt_nat, obs,
    wI_of (by omega) (by omega), show ((32 : Nat) : Int) - ((32 - k : Nat) : Int) = (k : Int) by omega, cnt_nat, obs, UInt32.or_comm]; rfl
theorem turned_eq (x : UInt32) (a b c : Nat) (ha : 0 < a ∧ a < 32) (hb : 0 < b ∧ b < 32) (hc : 0 < c ∧ c < 32) : hash_turned x a b c = some ((rot x a ^^^ rot x b) ^^^ rot x c) := by
  unfold hash_turned
  rw [wI_of (by omega) (by omega), wI_of (by omega) (by omega), wI_of (by omega) (by omega), Int.zero_sub, Int.zero_sub, Int.zero_sub, Turn_neg _ _ ha.1 ha.2, Turn_neg _ _ hb.1 hb.2, Turn_neg _ _ hc.1 hc.2]; rfl
def be4 (a b c d : UInt8) : UInt32 := ((shl32 a.toUInt32 24 ||| shl32 b.toUInt32 16) ||| shl32 c.toUInt32 8) ||| d.toUInt32
def be (p : List UInt8) (i : Nat) : UInt32 := be4 (co p i) (co p (i + 1)) (co p (i + 2)) (co p (i + 3))
theorem or_add (a b k : Nat) (h : b < 2 ^ k) : (a * 2 ^ k) ||| b = a * 2 ^ k + b := by
  rw [← Nat.shiftLeft_eq, Nat.shiftLeft_add_eq_or_of_lt h]
theorem be4_nat (a b c d : UInt8) : (be4 a b c d).toNat = ((a.toNat * 256 + b.toNat) * 256 + c.toNat) * 256 + d.toNat := by
  have ha := a.toNat_lt; have hb := b.toNat_lt; have hc := c.toNat_lt; have hd := d.toNat_lt
  simp only [be4, shl32, UInt32.toNat_or, UInt32.toNat_ofNat', UInt8.toNat_toUInt32]
  rw [Nat.mod_eq_of_lt (by simp; omega), Nat.mod_eq_of_lt (by simp; omega), Nat.mod_eq_of_lt (by simp; omega)]
  simp only [show min 24 32 = 24 by rfl, show min 16 32 = 16 by rfl, show min 8 32 = 8 by rfl]
  rw [or_add a.toNat (b.toNat * 2 ^ 16) 24 (by omega), show a.toNat * 2 ^ 24 + b.toNat * 2 ^ 16 = (a.toNat * 256 + b.toNat) * 2 ^ 16 by omega, or_add _ (c.toNat * 2 ^ 8) 16 (by omega),
    show (a.toNat * 256 + b.toNat) * 2 ^ 16 + c.toNat * 2 ^ 8 = ((a.toNat * 256 + b.toNat) * 256 + c.toNat) * 2 ^ 8 by omega, or_add _ d.toNat 8 (by omega)]
theorem or64 (x : UInt64) (y : UInt8) (h : x.toNat < 2 ^ 48) : (shl64 x 8 ||| y.toUInt64).toNat = x.toNat * 256 + y.toNat := by
  have hy := y.toNat_lt
  simp only [shl64, UInt64.toNat_or, UInt64.toNat_ofNat', UInt8.toNat_toUInt64, show min 8 64 = 8 by rfl]
  rw [Nat.mod_eq_of_lt (by omega), or_add _ _ 8 (by omega)]
theorem Get_eq (b : List UInt8) (h : 4 ≤ b.length) (hm : b.length ≤ most) : word_Get_uint32 b = some (be b 0, true) := by
  obtain ⟨b0, b1, b2, b3, t, rfl⟩ : ∃ b0 b1 b2 b3 t, b = b0 :: b1 :: b2 :: b3 :: t := by
    match b, h with
    | b0 :: b1 :: b2 :: b3 :: t, _ => exact ⟨b0, b1, b2, b3, t, rfl⟩
  unfold word_Get_uint32
  rw [Bits32_eq, obs, show divI 32 8 = some 4 by decide, obs, if_neg (by simp only [List.length_cons] at h ⊢; omega)]
  have e : subL (b0 :: b1 :: b2 :: b3 :: t) 0 4 = some [b0, b1, b2, b3] := by
    have := subL_nat (b0 :: b1 :: b2 :: b3 :: t) 0 4 (by omega) (by simp)
    simpa using this
  rw [e, obs]
  let z : UInt64 := ((shl64 (shl64 (shl64 (shl64 0 8 ||| b0.toUInt64) 8 ||| b1.toUInt64) 8 ||| b2.toUInt64) 8) ||| b3.toUInt64)
  rw [iterC_some.2 ⟨5, show _ = some z by kernel_rfl⟩, obs]
  have ha := b0.toNat_lt; have hb := b1.toNat_lt; have hc := b2.toNat_lt; have hd := b3.toNat_lt
  have h1 := or64 0 b0 (by decide)
  have h2 := or64 (shl64 0 8 ||| b0.toUInt64) b1 (by rw [h1]; simp; omega)
  have h3 := or64 (shl64 (shl64 0 8 ||| b0.toUInt64) 8 ||| b1.toUInt64) b2 (by rw [h2, h1]; simp; omega)
  have h4 := or64 (shl64 (shl64 (shl64 0 8 ||| b0.toUInt64) 8 ||| b1.toUInt64) 8 ||| b2.toUInt64) b3 (by rw [h3, h2, h1]; simp; omega)
  have : z.toUInt32 = be (b0 :: b1 :: b2 :: b3 :: t) 0 := by
    apply UInt32.toNat_inj.1
    show z.toUInt32.toNat = (be4 b0 b1 b2 b3).toNat
    rw [be4_nat, UInt64.toNat_toUInt32, show z.toNat = _ from h4, h3, h2, h1]
    simp only [UInt64.toNat_zero, Nat.zero_mul, Nat.zero_add]
    omega
  rw [this]
theorem put_loop {X : Type} {body : List UInt8 × Int → Option ((List UInt8 × Int) ⊕ List UInt8)} (F : Nat → UInt8) (n : Nat) (b : List UInt8) (hb : b.length + n ≤ most)
    (h1 : ∀ (l : List UInt8) (j : Nat), j < n → l.length + 1 ≤ most → body (l, 8 * (j : Int)) = some (.inl (l ++ [F j], 8 * (j : Int) - 8))) (h2 : ∀ l, body (l, -8) = some (.inr l)) :
    iterC body (b, 8 * (n : Int) - 8) = some (b ++ ((List.range n).map F).reverse) := by
  induction n generalizing b with
  | zero => rw [iterC_step]; simp [h2]
  | succ n ih =>
    rw [iterC_step, show 8 * ((n + 1 : Nat) : Int) - 8 = 8 * (n : Int) by omega, h1 b n (by omega) (by omega), obs]
    simp only []
    rw [ih (b ++ [F n]) (by simp only [List.length_append, List.length_singleton]; omega) (fun l j hj hl => h1 l j (by omega) hl)]
    simp [List.range_succ]
def by4 (x : UInt32) : List UInt8 := [(shr32 x 24).toUInt8, (shr32 x 16).toUInt8, (shr32 x 8).toUInt8, x.toUInt8]
def by8 (x : UInt64) : List UInt8 := ((List.range 8).map fun j => (shr64 x (8 * j)).toUInt8).reverse
theorem by8_len (x : UInt64) : (by8 x).length = 8 := by simp [by8]
theorem Clone_eq (b : List UInt8) (h : b.length ≤ most) : slices_Clone_sbytebyte b = some b := by
  unfold slices_Clone_sbytebyte; exact appL_nil b h
theorem appL_one (l : List UInt8) (x : UInt8) (h : l.length + 1 ≤ most) : appL l [x] = some (l ++ [x]) := by
  unfold appL; rw [if_pos (by simpa using h)]
theorem shr32_zero (x : UInt32) : shr32 x 0 = x := by simp [shr32]
theorem Put32_eq (b : List UInt8) (x : UInt32) (h : b.length + 4 ≤ most) : word_Put_uint32 b x = some (b ++ by4 x) := by
  unfold word_Put_uint32
  rw [Clone_eq b (by omega), obs, Bits32_eq, obs, show wI (32 - 8) = 8 * ((4 : Nat) : Int) - 8 by decide]
  rw [put_loop (X := UInt8) (fun j => (shr32 x (8 * j)).toUInt8) 4 b h]
  · simp [List.range, List.range.loop, by4, shr32_zero]
  · intro l j hj hl
    rw [if_pos (by simp only []; omega)]
    simp only []
    rw [show 8 * (j : Int) = ((8 * j : Nat) : Int) by omega, cnt_nat, obs, appL_one l _ hl, obs, wI_of (by omega) (by omega)]
  · intro l; rw [if_neg (by simp only []; omega)]
theorem Put64_eq (b : List UInt8) (x : UInt64) (h : b.length + 8 ≤ most) : word_Put_uint64 b x = some (b ++ by8 x) := by
  unfold word_Put_uint64
  rw [Clone_eq b (by omega), obs, Bits64_eq, obs, show wI (64 - 8) = 8 * ((8 : Nat) : Int) - 8 by decide]
  rw [put_loop (X := UInt8) (fun j => (shr64 x (8 * j)).toUInt8) 8 b h]
  · rfl
  · intro l j hj hl
    rw [if_pos (by simp only []; omega)]
    simp only []
    rw [show 8 * (j : Int) = ((8 * j : Nat) : Int) by omega, cnt_nat, obs, appL_one l _ hl, obs, wI_of (by omega) (by omega)]
  · intro l; rw [if_neg (by simp only []; omega)]
def kL : List UInt32 := [0x428a2f98, 0x71374491, 0xb5c0fbcf, 0xe9b5dba5, 0x3956c25b, 0x59f111f1, 0x923f82a4, 0xab1c5ed5,
  0xd807aa98, 0x12835b01, 0x243185be, 0x550c7dc3, 0x72be5d74, 0x80deb1fe, 0x9bdc06a7, 0xc19bf174,
  0xe49b69c1, 0xefbe4786, 0x0fc19dc6, 0x240ca1cc, 0x2de92c6f, 0x4a7484aa, 0x5cb0a9dc, 0x76f988da,
  0x983e5152, 0xa831c66d, 0xb00327c8, 0xbf597fc7, 0xc6e00bf3, 0xd5a79147, 0x06ca6351, 0x14292967,
  0x27b70a85, 0x2e1b2138, 0x4d2c6dfc, 0x53380d13, 0x650a7354, 0x766a0abb, 0x81c2c92e, 0x92722c85,
  0xa2bfe8a1, 0xa81a664b, 0xc24b8b70, 0xc76c51a3, 0xd192e819, 0xd6990624, 0xf40e3585, 0x106aa070,
  0x19a4c116, 0x1e376c08, 0x2748774c, 0x34b0bcb5, 0x391c0cb3, 0x4ed8aa4a, 0x5b9cca4f, 0x682e6ff3,
  0x748f82ee, 0x78a5636f, 0x84c87814, 0x8cc70208, 0x90befffa, 0xa4506ceb, 0xbef9a3f7, 0xc67178f2]
def hL : List UInt32 := [0x6a09e667, 0xbb67ae85, 0x3c6ef372, 0xa54ff53a, 0x510e527f, 0x9b05688c, 0x1f83d9ab, 0x5be0cd19]
theorem constants_eq : hash_constants = some kL := by unfold hash_constants; kernel_rfl
theorem first_eq : hash_first = some hL := by unfold hash_first; kernel_rfl
def w0 (l : List UInt32) (i : Nat) : UInt32 := l.getD i 0
theorem idx_w0 {l : List UInt32} {i : Nat} (h : i < l.length) : idx l (i : Int) = some (w0 l i) := by
  rw [idx_nat, w0, List.getD_eq_getElem?_getD, List.getElem?_eq_getElem h]; rfl
theorem lenA_of {α : Type} {n : Nat} {l : List α} (h : l.length = n) : lenA n l = some () := by unfold lenA; rw [if_pos h]
def nxt (p : List UInt8) (w : List UInt32) : UInt32 :=
  if w.length < 16 then be p (4 * w.length) else
    ((w0 w (w.length - 16) + w0 w (w.length - 7)) + ((rot (w0 w (w.length - 15)) 7 ^^^ rot (w0 w (w.length - 15)) 18) ^^^ shr32 (w0 w (w.length - 15)) 3)) + ((rot (w0 w (w.length - 2)) 17 ^^^ rot (w0 w (w.length - 2)) 19) ^^^ shr32 (w0 w (w.length - 2)) 10)
def sched (p : List UInt8) : Nat → List UInt32
  | 0 => []
  | n + 1 => sched p n ++ [nxt p (sched p n)]
theorem sched_len (p : List UInt8) : ∀ n, (sched p n).length = n
  | 0 => rfl
  | n + 1 => by simp [sched, sched_len p n]
def wTo (p : List UInt8) (i : Nat) : List UInt32 := sched p i ++ List.replicate (64 - i) 0
theorem wTo_len (p : List UInt8) (i : Nat) (h : i ≤ 64) : (wTo p i).length = 64 := by simp [wTo, sched_len]; omega
theorem wTo_get (p : List UInt8) (i j : Nat) (h : j < i) : w0 (wTo p i) j = w0 (sched p i) j := by
  simp only [w0, wTo, List.getD_eq_getElem?_getD]; rw [List.getElem?_append_left (by rw [sched_len]; exact h)]
theorem wTo_set (p : List UInt8) (i : Nat) (h : i < 64) : (wTo p i).set i (nxt p (sched p i)) = wTo p (i + 1) := by
  unfold wTo
  obtain ⟨m, hm⟩ : ∃ m, 64 - i = m + 1 := ⟨63 - i, by omega⟩
  rw [List.set_append_right _ _ (by rw [sched_len]; exact Nat.le_refl _), sched_len, Nat.sub_self, hm, List.replicate_succ, List.set_cons_zero, show 64 - (i + 1) = m by omega]
  simp [sched]
theorem drop_co (p : List UInt8) (i : Nat) : be (p.drop i) 0 = be p i := by
  simp only [be, co_drop]; rfl
theorem plan_eq (p : List UInt8) (h : p.length = 64) : hash_plan p = some (sched p 64) := by
  unfold hash_plan
  refine bind_of (iterC_count (fun i => (wTo p i, (i : Int))) 64 (wTo p 64) rfl ?_ ?_) ?_
  rotate_left 2
  · rw [lenA_of (wTo_len p 64 (by omega)), obs, lenA_of (by simp), obs]
    simp [wTo, lenA_of (sched_len p 64)]
  · intro i hi
    have hl := wTo_len p i (by omega)
    simp only []
    rw [if_pos (by omega)]
    by_cases h16 : i < 16
    · rw [if_pos (by omega), wI_of (by omega) (by omega), show 4 * (i : Int) = ((4 * i : Nat) : Int) by omega, subL_nat _ _ _ (by omega) (by omega), obs, List.take_length,
        Get_eq _ (by simp; omega) (by have := h257; simp; omega), obs, lenA_of hl, obs, idx_w0 (by omega), obs, drop_co, wI_succ _ (by omega), Int.toNat_natCast]
      have : be p (4 * i) = nxt p (sched p i) := by unfold nxt; rw [sched_len, if_pos h16]
      rw [this, wTo_set p i hi]
    · rw [if_neg (by omega), lenA_of hl, obs, wI_of (by omega) (by omega), wI_of (by omega) (by omega), wI_of (by omega) (by omega), wI_of (by omega) (by omega),
        show (i : Int) - 15 = ((i - 15 : Nat) : Int) by omega, show (i : Int) - 2 = ((i - 2 : Nat) : Int) by omega, show (i : Int) - 16 = ((i - 16 : Nat) : Int) by omega, show (i : Int) - 7 = ((i - 7 : Nat) : Int) by omega,
        idx_w0 (by omega), obs, idx_w0 (by omega), obs, obs, idx_w0 (by omega), obs, idx_w0 (by omega), obs,
        show (-7 : Int) = -((7 : Nat) : Int) by rfl, Turn_neg _ 7 (by omega) (by omega), obs, show (-18 : Int) = -((18 : Nat) : Int) by rfl, Turn_neg _ 18 (by omega) (by omega), obs,
        show (-17 : Int) = -((17 : Nat) : Int) by rfl, Turn_neg _ 17 (by omega) (by omega), obs, show (-19 : Int) = -((19 : Nat) : Int) by rfl, Turn_neg _ 19 (by omega) (by omega), obs,
        idx_w0 (by omega), obs, wI_succ _ (by omega), Int.toNat_natCast, wTo_get _ _ _ (by omega), wTo_get _ _ _ (by omega), wTo_get _ _ _ (by omega), wTo_get _ _ _ (by omega)]
      rw [← wTo_set p i hi]
      unfold nxt; rw [sched_len, if_neg h16]
  · simp only []; rw [if_neg (by omega)]
def rnd (k w : UInt32) (t : List UInt32) : List UInt32 :=
  let a := (((w0 t 7 + ((rot (w0 t 4) 6 ^^^ rot (w0 t 4) 11) ^^^ rot (w0 t 4) 25)) + ((w0 t 4 &&& w0 t 5) ^^^ (((4294967295 : UInt32) ^^^ w0 t 4) &&& w0 t 6))) + k) + w
  [a + (((rot (w0 t 0) 2 ^^^ rot (w0 t 0) 13) ^^^ rot (w0 t 0) 22) + (((w0 t 0 &&& w0 t 1) ^^^ (w0 t 0 &&& w0 t 2)) ^^^ (w0 t 1 &&& w0 t 2))), w0 t 0, w0 t 1, w0 t 2, w0 t 3 + a, w0 t 4, w0 t 5, w0 t 6]
def rnds (w : List UInt32) (s : List UInt32) : Nat → List UInt32
  | 0 => s
  | n + 1 => rnd (w0 kL n) (w0 w n) (rnds w s n)
theorem rnds_len (w s : List UInt32) (h : s.length = 8) : ∀ n, (rnds w s n).length = 8
  | 0 => h
  | n + 1 => rfl
def addW (s t : List UInt32) : List UInt32 := [w0 s 0 + w0 t 0, w0 s 1 + w0 t 1, w0 s 2 + w0 t 2, w0 s 3 + w0 t 3, w0 s 4 + w0 t 4, w0 s 5 + w0 t 5, w0 s 6 + w0 t 6, w0 s 7 + w0 t 7]
def blk (s : List UInt32) (p : List UInt8) : List UInt32 := addW s (rnds (sched p 64) s 64)
theorem eight {s : List UInt32} (h : s.length = 8) : ∃ a b c d e f g i, s = [a, b, c, d, e, f, g, i] := by
  match s, h with
  | [a, b, c, d, e, f, g, i], _ => exact ⟨a, b, c, d, e, f, g, i, rfl⟩
theorem idx_at {l : List UInt32} (i : Nat) (h : i < l.length) (k : Int) (e : k = (i : Int)) : idx l k = some (w0 l i) := by rw [e, idx_w0 h]
theorem add_loop (s t : List UInt32) (hs : s.length = 8) (ht : t.length = 8) : iterC (fun s82 : List UInt32 × Int =>
    (if s82.2 < 8 then
    ((lenA 8 s82.1).bind fun c87 =>
    ((idx s82.1 s82.2).bind fun c88 =>
    ((lenA 8 t).bind fun c89 =>
    ((idx t s82.2).bind fun c90 =>
    some (.inl ((s82.1.set (s82.2 : Int).toNat ((c88 + c90))), (wI (s82.2 + 1))))))))
    else
    some (.inr s82.1))) (s, 0) = some (addW s t) := by
  obtain ⟨a, b, c, d, e, f, g, i, rfl⟩ := eight hs
  obtain ⟨a', b', c', d', e', f', g', i', rfl⟩ := eight ht
  exact iterC_some.2 ⟨9, by kernel_rfl⟩
theorem block_eq (s : List UInt32) (p : List UInt8) (hs : s.length = 8) (hp : p.length = 64) : hash_block s p = some (blk s p) := by
  unfold hash_block
  simp only [lenA_of hs, plan_eq p hp, constants_eq, lenA_of (sched_len p 64), lenA_of (show kL.length = 64 from rfl), lenA_of (List.length_replicate), obs]
  refine bind_of (iterC_count (fun i => (rnds (sched p 64) s i, (i : Int))) 64 (rnds (sched p 64) s 64) rfl ?_ ?_) ?_
  rotate_left 2
  · rw [add_loop s _ hs (rnds_len _ _ hs _)]; rfl
  · intro i hi
    have hl := rnds_len (sched p 64) s hs i
    simp only []
    rw [if_pos (by omega)]
    have e0 := idx_at (l := rnds (sched p 64) s i) 0 (by omega) 0 rfl
    have e1 := idx_at (l := rnds (sched p 64) s i) 1 (by omega) 1 rfl
    have e2 := idx_at (l := rnds (sched p 64) s i) 2 (by omega) 2 rfl
    have e3 := idx_at (l := rnds (sched p 64) s i) 3 (by omega) 3 rfl
    have e4 := idx_at (l := rnds (sched p 64) s i) 4 (by omega) 4 rfl
    have e5 := idx_at (l := rnds (sched p 64) s i) 5 (by omega) 5 rfl
    have e6 := idx_at (l := rnds (sched p 64) s i) 6 (by omega) 6 rfl
    have e7 := idx_at (l := rnds (sched p 64) s i) 7 (by omega) 7 rfl
    simp only [lenA_of hl, e0, e1, e2, e3, e4, e5, e6, e7, obs, lenA_of (sched_len p 64), lenA_of (show kL.length = 64 from rfl), idx_w0 (show i < (sched p 64).length by rw [sched_len]; exact hi), idx_w0 (show i < kL.length from hi),
      show ∀ x, hash_turned x 6 11 25 = some ((rot x 6 ^^^ rot x 11) ^^^ rot x 25) from fun x => turned_eq x 6 11 25 (by decide) (by decide) (by decide),
      show ∀ x, hash_turned x 2 13 22 = some ((rot x 2 ^^^ rot x 13) ^^^ rot x 22) from fun x => turned_eq x 2 13 22 (by decide) (by decide) (by decide), wI_succ i (by omega),
      lenA_of (List.length_cons.trans (congrArg (· + 1) (show [_, _, _, _, _, _, _].length = 7 from rfl)))]
    rfl
  · simp only []; rw [if_neg (by omega)]
end Gk

/- The sum of bytes, whole, in plain Lean. No condition but lengths. -/
namespace Gk
open Gf
def padN (n : Nat) : Nat := (120 - (n + 1) % 64) % 64
def padL (b : List UInt8) : List UInt8 := (b ++ [128]) ++ List.replicate (padN b.length) 0
def padded (b : List UInt8) : List UInt8 := padL b ++ by8 (UInt64.ofInt (b.length : Int) * 8)
def nbl (n : Nat) : Nat := (n + 9 + padN n) / 64
theorem nbl_eq (n : Nat) : n + 9 + padN n = 64 * nbl n := by unfold nbl padN; omega
theorem padL_len (b : List UInt8) : (padL b).length = b.length + 1 + padN b.length := by simp only [padL, List.length_append, List.length_singleton, List.length_replicate]
theorem padded_len (b : List UInt8) : (padded b).length = 64 * nbl b.length := by
  rw [← nbl_eq]; simp only [padded, List.length_append, padL_len, by8_len]; omega
def pcS (m : List UInt8) (j : Nat) : List UInt8 := (m.drop (64 * j)).take 64
def shaS (m : List UInt8) : Nat → List UInt32
  | 0 => hL
  | j + 1 => blk (shaS m j) (pcS m j)
theorem shaS_len (m : List UInt8) : ∀ j, (shaS m j).length = 8
  | 0 => rfl
  | j + 1 => rfl
def sha (b : List UInt8) : List UInt8 := (shaS (padded b) (nbl b.length)).flatMap by4
theorem flat4_len (x : List UInt32) : (x.flatMap by4).length = 4 * x.length := by
  induction x with
  | nil => rfl
  | cons a x ih => rw [List.flatMap_cons, List.length_append, ih, List.length_cons]; simp only [by4, List.length_cons, List.length_nil]; omega
theorem sha_len (b : List UInt8) : (sha b).length = 32 := by rw [sha, flat4_len, shaS_len]
theorem w0_take {x : List UInt32} {i : Nat} (h : i < x.length) : x.take (i + 1) = x.take i ++ [w0 x i] := by
  rw [List.take_add_one, List.getElem?_eq_getElem h, w0, List.getD_eq_getElem?_getD, List.getElem?_eq_getElem h]; rfl
theorem out_loop (x : List UInt32) (hx : x.length = 8) {body : List UInt8 × Int → Option ((List UInt8 × Int) ⊕ List UInt8)}
    (h1 : ∀ (l : List UInt8) (i : Nat), i < 8 → l.length ≤ 32 → body (l, (i : Int)) = some (.inl (l ++ by4 (w0 x i), ((i + 1 : Nat) : Int)))) (h2 : ∀ l, body (l, 8) = some (.inr l)) :
    iterC body ([], 0) = some (x.flatMap by4) := by
  refine iterC_count (fun i => ((x.take i).flatMap by4, (i : Int))) 8 _ (by simp) ?_ ?_
  · intro i hi
    rw [h1 _ i hi (by rw [flat4_len, List.length_take]; omega), w0_take (by omega)]
    simp
  · rw [show ((8 : Nat) : Int) = 8 by rfl, h2, List.take_of_length_le (by omega)]
theorem shl3 (x : UInt64) : shl64 x 3 = x * 8 := by
  apply UInt64.toNat_inj.1
  simp [shl64, UInt64.toNat_mul]
theorem hash_Sum_eq (parts : List (List UInt8)) (h : parts.flatten.length ≤ 1000000) (hl : parts.length ≤ 1000000) : hash_Sum parts = some (sha parts.flatten) := by
  have hm : (1000000 : Nat) + 200 ≤ most := by decide
  unfold hash_Sum
  rw [Concat_eq parts (by omega) (by omega), obs]
  generalize hb : parts.flatten = b at *
  have hp : padN b.length < 64 := Nat.mod_lt _ (by decide)
  rw [appL_one b 128 (by omega), obs, List.length_append, List.length_singleton, show (64 : Int) = ((64 : Nat) : Int) by rfl, remI_nat _ _ (by omega), obs,
    wI_of (by omega) (by omega), show (120 : Int) - ((((b.length + 1) % 64 : Nat)) : Int) = ((120 - (b.length + 1) % 64 : Nat) : Int) by omega, remI_nat _ _ (by omega), obs,
    makeL_nat _ _ (by omega), obs]
  have e1 : appL (b ++ [128]) (List.replicate ((120 - (b.length + 1) % 64) % 64) 0) = some (padL b) := by
    unfold appL; rw [if_pos (by simp only [List.length_append, List.length_singleton, List.length_replicate]; omega)]; rfl
  rw [e1, obs, shl3, Put64_eq _ _ (by rw [padL_len]; omega), obs, first_eq, obs, lenA_of (by simp), obs, lenA_of (show hL.length = 8 from rfl), obs]
  rw [show padL b ++ by8 (UInt64.ofInt (b.length : Int) * 8) = padded b from rfl]
  have hn := nbl_eq b.length
  rw [lim_of (by rw [padded_len]; omega), obs]
  have hcm : ∀ x ∈ chunksI (padded b) 64, x.2.length = 64 := by
    intro x hx
    simp only [chunksI, List.mem_map, List.mem_range] at hx
    obtain ⟨j, hj, rfl⟩ := hx
    simp only [List.length_take, List.length_drop]
    rw [padded_len] at *
    omega
  have hr := rangeL_inv (f := fun (s41 : List UInt32) (y41 : Int × List UInt8) => (hash_block s41 y41.2).bind fun r45 => some r45) (fun s y => blk s y.2) (xs := chunksI (padded b) 64) (s0 := hL) (fun _ s => s.length = 8) rfl
    (fun k s x hk hx hs => ⟨by rw [block_eq s x.2 hs (hcm x hx)]; rfl, rfl⟩)
  rw [hr.1, obs, lenA_of hr.2, obs]
  have hf : (chunksI (padded b) 64).foldl (fun s y => blk s y.2) hL = shaS (padded b) (nbl b.length) := by
    unfold chunksI
    rw [show ((padded b).length + 64 - 1) / 64 = nbl b.length by rw [padded_len]; omega]
    generalize nbl b.length = n
    rw [List.foldl_map]
    induction n with
    | zero => rfl
    | succ n ih => rw [List.range_succ, List.foldl_append, ih]; simp only [List.foldl_cons, List.foldl_nil, shaS, pcS, Nat.mul_comm]
  have hlen := hr.2
  rw [hf] at hlen ⊢
  rw [out_loop _ hlen]
  · rfl
  · intro l i hi hl
    simp only []
    rw [if_pos (by omega), obs, idx_w0 (by omega), obs, Put32_eq _ _ (by omega), obs, wI_succ _ (by omega)]
  · intro l; rfl
end Gk

/- Printed by gen.py: for each Go function a pure function, and that the Go code comes to it. No condition beside the equation that says what the pure function gives. -/
namespace Gk
open Go Go.Proofs
noncomputable def ref07_turn (a0x : UInt32) (a1n : Int) : Option UInt32 :=
((cnt a1n).bind fun c3 =>
((cnt ((wI (32 - a1n)))).bind fun c4 => some ((shr32 a0x c3) ||| (shl32 a0x c4))))
theorem ref07_turn_calls (a0x : UInt32) (a1n : Int) (r : UInt32) (w0 : World) (H : ref07_turn a0x a1n = some r) :
    Calls Try.prog 65 [(u32 a0x), (i64 a1n)].toArray w0 (fun e w' => e = .returned (u32 r) ∧ Ext w0 w') := by
  have hE : Ext w0 w0 := Ext.refl w0; unfold ref07_turn at H; refine calls_W (n := 13) Try.func65 rfl rfl rfl ?_; refine W_seq <| W_rg <| av (u32 0) rfl (cst32 (0 : UInt32) rfl) <| wnt <| W_seq <| ?_; refine W_draw [] [(0, 0), (1, 0), (2, 0), (3, 0), (4, 0), (5, 0), (6, 0), (7, 0), (8, 0)] mixed (by kernel_rfl) (by kernel_rfl) (by kernel_rfl) (by kernel_rfl) ?_; have x1 := Ext.drew w0; have e2 := hE.trans x1; refine sv (u32 a0x) rfl rfl rfl <| sv (i64 a1n) rfl rfl rfl <| ?_; obtain ⟨c3, hc3, H⟩ := bsi H; refine sa rfl rfl (q_shr32 c3 rfl rfl rfl (cnt_eq hc3)) <| sv (u32 a0x) rfl rfl rfl <| sv (i64 a1n) rfl rfl rfl <| sa rfl rfl (q_subI rfl rfl rfl) <| ?_; obtain ⟨c4, hc4, H⟩ := bsi H; refine sa rfl rfl (q_shl32 c4 rfl rfl rfl (cnt_eq hc4)) <| sa rfl rfl (q_or32 rfl rfl rfl) <| sa rfl rfl (q_assign (v := (u32 (((shr32 a0x c3) ||| (shl32 a0x c4))))) rfl rfl) <| ?_; refine ws_nil ?_; refine W_th <| W_ret <| ?_; obtain rfl := osi H; refine rt1 (u32 (((shr32 a0x c3) ||| (shl32 a0x c4)))) rfl rfl rfl rfl ?_; exact ⟨rfl, e2⟩
noncomputable def ref07_power (a0x : UInt64) (a1n : Int) : Option (List UInt64) :=
((iterC (fun s4 : Int × List UInt64 =>
(if 0 < s4.1 then
((iterC (fun s11 : List UInt64 × List UInt64 × UInt64 × Int =>
(if s11.2.2.2 < (s11.1.length : Int) then
(((if s11.2.2.2 < (s11.1.length : Int) then
((idx s11.1 s11.2.2.2).bind fun c16 => some (s11.2.2.1 + (c16 * a0x)))
else some s11.2.2.1)).bind fun x14 =>
((appL s11.2.1 (([(x14 % (65536 : UInt64))] : List UInt64))).bind fun c20 => some (.inl (s11.1, c20, (x14 / (65536 : UInt64)), (wI (s11.2.2.2 + 1))))))
else
(if (0 : UInt64) < s11.2.2.1 then
(((if s11.2.2.2 < (s11.1.length : Int) then
((idx s11.1 s11.2.2.2).bind fun c28 => some (s11.2.2.1 + (c28 * a0x)))
else some s11.2.2.1)).bind fun x26 =>
((appL s11.2.1 (([(x26 % (65536 : UInt64))] : List UInt64))).bind fun c32 => some (.inl (s11.1, c32, (x26 / (65536 : UInt64)), (wI (s11.2.2.2 + 1))))))
else some (.inr s11.2.1)))) (s4.2, ([] : List UInt64), (0 : UInt64), 0)).bind fun x11 => some (.inl ((wI (s4.1 - 1)), x11)))
else some (.inr s4.2))) (a1n, ([(1 : UInt64)] : List UInt64))).bind fun x4 => some x4)
theorem ref07_power_calls (a0x : UInt64) (a1n : Int) (r : List UInt64) (w0 : World) (H : ref07_power a0x a1n = some r) :
    Calls Try.prog 94 [(u64 a0x), (i64 a1n)].toArray w0 (fun e w' => ∃ u0 : Value, e = .returned u0 ∧ Ext w0 w' ∧ Nw w0 u0 ∧ OwK (Sc u64) w' [] 66 u0 r) := by
  have hE : Ext w0 w0 := Ext.refl w0; unfold ref07_power at H; refine calls_W (n := 46) Try.func94 rfl rfl rfl ?_; refine W_seq <| W_rg <| av (.slice none 0 0) rfl rfl <| wnt <| W_seq <| W_rg <| ?_; refine wls rfl rfl (stp_lit (L := []) (R := (Sc u64)) [(u64 1)] ([(1 : UInt64)] : List UInt64) rfl T91 rfl (by exact ⟨rfl, (cst64 (1 : UInt64) rfl), trivial⟩) rfl (litC u64 (oneC_u64) (us := [(u64 1)]) (l := ([(1 : UInt64)] : List UInt64)) rfl) rfl (litS u64 (us := [(u64 1)]) (l := ([(1 : UInt64)] : List UInt64)) rfl) ?_); intro v1 w1 o1 n1 g1 l1; have x1 := grown_ext g1; have n3 := Nw.ext hE n1; have e2 := hE.trans x1; refine av v1 rfl rfl <| wnt <| W_seq <| ?_; obtain ⟨x4, G4, H⟩ := bsi H; refine W_mid (fun f w => ∃ v5_42 : Value, f 5 = v5_42 ∧ f 46 = undef ∧ Ext w0 w ∧ OwK (Sc u64) w [v5_42] 66 v5_42 x4 ∧ Nw w0 v5_42) ?_ ?_
  · refine W_block ?_; refine W_loop (fun s4 f w => ∃ v5_40 : Value, f 0 = (u64 a0x) ∧ f 1 = (i64 s4.1) ∧ f 5 = v5_40 ∧ f 46 = undef ∧ Ext w0 w ∧ OwK (Sc u64) w [v5_40] 66 v5_40 s4.2 ∧ Nw w0 v5_40) G4 ?_ ?_
    · exact ⟨v1, rfl, rfl, rfl, rfl, e2, o1, n3⟩
    rintro s4 _ _ w5 ⟨v5_5, s0_5, s1_5, s5_5, s46_5, hE5, o0_5, n0_5⟩ H4 hr4; refine W_seq <| W_seq <| W_rg <| mv (i64 s4.1) rfl s1_5 <| wa rfl (q_gtI rfl rfl rfl) <| wnt <| ?_; refine W_cond _ rfl rfl (fun hb6 => ?_) (fun hb6 => ?_)
    · replace H4 := ifp hb6 H4; refine W_skip <| W_th <| W_seq <| W_block <| W_seq <| W_rg <| ?_; refine wls rfl rfl (stp_lit (L := [v5_5]) (R := (Sc u64)) [] ([] : List UInt64) rfl T91 rfl (by exact trivial) rfl (litC u64 (oneC_u64) (us := []) (l := ([] : List UInt64)) rfl) rfl (litS u64 (us := []) (l := ([] : List UInt64)) rfl) ?_); intro v7 w7 o7 n7 g7 l7; have x7 := grown_ext g7; have q8 : Nq v5_5 v7 := o0_5.nq n7; replace o0_5 := o0_5.extL (Sc.stab _) x7 (Lift.call _ x7 n7); have n10 := Nw.ext hE5 n7; have e9 := hE5.trans x7; refine av v7 rfl rfl <| wnt <| W_seq <| W_rg <| av (u64 0) rfl (cst64 (0 : UInt64) rfl) <| wnt <| W_seq <| W_seq <| ?_; refine W_rg <| av (i64 0) rfl rfl <| wnt <| ?_; obtain ⟨x11, G11, H4⟩ := bsi H4; refine W_mid (fun f w => ∃ v6_39 : Value, f 0 = (u64 a0x) ∧ f 1 = (i64 s4.1) ∧ f 6 = v6_39 ∧ f 46 = undef ∧ Ext w0 w ∧ OwK (Sc u64) w [v6_39] 66 v6_39 x11 ∧ Nw w0 v6_39) ?_ ?_
      · refine W_block ?_; refine W_loop (fun s11 f w => ∃ v6_37 : Value, f 0 = (u64 a0x) ∧ f 1 = (i64 s4.1) ∧ f 5 = v5_5 ∧ f 6 = v6_37 ∧ f 7 = (u64 s11.2.2.1) ∧ f 8 = (i64 s11.2.2.2) ∧ f 46 = undef ∧ Ext w0 w ∧ OwK (Sc u64) w [v5_5, v6_37] 66 v5_5 s11.1 ∧ Nw w0 v5_5 ∧ OwK (Sc u64) w [v5_5, v6_37] 66 v6_37 s11.2.1 ∧ Nw w0 v6_37 ∧ Nq v5_5 v6_37) G11 ?_ ?_
        · exact ⟨v7, s0_5, s1_5, s5_5, rfl, rfl, rfl, s46_5, e9, (o0_5.weak (Sc.stab _) (fun _ h => ⟨h.2.1, h.1, trivial⟩)), n0_5, (o7.weak (Sc.stab _) (fun _ h => ⟨h.2.1, h.1, trivial⟩)), n10, q8⟩
        rintro s11 _ _ w12 ⟨v6_12, s0_12, s1_12, s5_12, s6_12, s7_12, s8_12, s46_12, hE12, o0_12, n0_12, o1_12, n1_12, q0_1_12⟩ H11 hr11; refine W_seq <| W_seq <| W_rg <| mv (i64 s11.2.2.2) rfl s8_12 <| mv v5_5 rfl s5_12 <| wa rfl (q_len rfl T91.sl rfl (o0_12.rd (Sc.stab _))) <| wa rfl (q_ltI rfl rfl rfl) <| ?_; refine wlb rfl rfl (q_move (v := (.bool ((decide (s11.2.2.2 < (s11.1.length : Int)))))) rfl rfl) (fun hb13 => ?_) (fun hb13 => ?_)
        · replace H11 := ifp hb13 H11; refine wlk rfl rfl <| wlk rfl rfl <| wa rfl (q_pick_t (v := (.bool true)) rfl rfl rfl) <| wnt <| ?_; refine W_cond true rfl rfl (fun _ => ?_) (fun hb => by cases hb); refine W_skip <| W_th <| W_seq <| W_block <| W_seq <| ?_; obtain ⟨x14, H14, H11⟩ := bsi H11; refine W_mid (fun f w => f 0 = (u64 a0x) ∧ f 1 = (i64 s4.1) ∧ f 5 = v5_5 ∧ f 6 = v6_12 ∧ f 7 = (u64 x14) ∧ f 8 = (i64 s11.2.2.2) ∧ f 46 = undef ∧ Ext w0 w ∧ OwK (Sc u64) w [v5_5, v6_12] 66 v5_5 s11.1 ∧ Nw w0 v5_5 ∧ OwK (Sc u64) w [v5_5, v6_12] 66 v6_12 s11.2.1 ∧ Nw w0 v6_12 ∧ Nq v5_5 v6_12) ?_ ?_
          · refine W_seq <| W_rg <| mv (i64 s11.2.2.2) rfl s8_12 <| mv v5_5 rfl s5_12 <| wa rfl (q_len rfl T91.sl rfl (o0_12.rd (Sc.stab _))) <| wa rfl (q_ltI rfl rfl rfl) <| wnt <| ?_; refine W_cond _ rfl rfl (fun hb15 => ?_) (fun hb15 => ?_)
            · replace H14 := ifp hb15 H14; refine W_rg <| mv (u64 s11.2.2.1) rfl s7_12 <| mv v5_5 rfl s5_12 <| mv (i64 s11.2.2.2) rfl s8_12 <| ?_; obtain ⟨c16, hc16, H14⟩ := bsi H14; refine wa rfl (q_adr rfl T91 rfl rfl (o0_12.rd (Sc.stab _)) hc16) <| wq rfl (q_loadS rfl T91 rfl (o0_12.rd (Sc.stab _)) hc16) <| mv (u64 a0x) rfl s0_12 <| wa rfl (q_mul64 rfl rfl rfl) <| wa rfl (q_add64 rfl rfl rfl) <| av (u64 ((s11.2.2.1 + (c16 * a0x)))) rfl rfl <| wl_nil <| ?_; obtain rfl := osi H14; exact ⟨s0_12, s1_12, s5_12, s6_12, rfl, s8_12, s46_12, hE12, o0_12, n0_12, o1_12, n1_12, q0_1_12⟩
            replace H14 := ifn hb15 H14; refine W_skip ?_; obtain rfl := osi H14; exact ⟨s0_12, s1_12, s5_12, s6_12, s7_12, s8_12, s46_12, hE12, o0_12, n0_12, o1_12, n1_12, q0_1_12⟩
          rintro _ w17 ⟨s0_17, s1_17, s5_17, s6_17, s7_17, s8_17, s46_17, hE17, o0_17, n0_17, o1_17, n1_17, q0_1_17⟩; refine W_th <| W_seq <| W_rg <| mv v6_12 rfl s6_17 <| mv (u64 x14) rfl s7_17 <| wa rfl (q_rem64 rfl rfl (cst64 (65536 : UInt64) rfl) (by decide)) <| ?_; refine wls rfl rfl (stp_lit (L := [v5_5, v6_12]) (R := (Sc u64)) [(u64 ((x14 % (65536 : UInt64))))] ([(x14 % (65536 : UInt64))] : List UInt64) rfl T91 rfl (by exact ⟨rfl, rfl, trivial⟩) rfl (litC u64 (oneC_u64) (us := [(u64 ((x14 % (65536 : UInt64))))]) (l := ([(x14 % (65536 : UInt64))] : List UInt64)) rfl) rfl (litS u64 (us := [(u64 ((x14 % (65536 : UInt64))))]) (l := ([(x14 % (65536 : UInt64))] : List UInt64)) rfl) ?_); intro v18 w18 o18 n18 g18 l18; have x18 := grown_ext g18; have i18 : W64 w18 [v5_5, v6_12] v18 (([(x14 % (65536 : UInt64))] : List UInt64)) := OwK.slk (Sc.stab _) _ o18 (fun k hk => (Old.cons (Old.cons (Old.nil _) o1_17.lt) o0_17.lt) k (n18 k hk)) (fun _ h => h.2); replace o0_17 := o0_17.extL (Sc.stab _) x18 (Lift.ext x18 _); replace o1_17 := o1_17.extL (Sc.stab _) x18 (Lift.ext x18 _); have e19 := hE17.trans x18; obtain ⟨c20, hc20, H11⟩ := bsi H11; refine wls rfl rfl (stp_append (R := (Sc u64)) (v := v6_12) (u := v18) (Sc.stab _) [v5_5] [] rfl T91 rfl rfl o1_17 i18 (fun _ _ h => h) hc20 oc_u64 ?_); intro v20 w20 o20 g20 nx20 l20; replace i18 := i18.lift l20; have q21 : Nq v5_5 v20 := o0_17.nxt q0_1_17 nx20; replace o0_17 := o0_17.other (Sc.stab _) g20 q0_1_17 l20; have e22 := e19.grown g20 n1_17; have n23 := Nw.nxt e19 n1_17 nx20; refine av v20 rfl rfl <| wnt <| W_rg <| mv (u64 x14) rfl s7_17 <| wa rfl (q_quo64 rfl rfl (cst64 (65536 : UInt64) rfl) (by decide)) <| av (u64 ((x14 / (65536 : UInt64)))) rfl rfl <| wl_nil <| bk_n <| ?_; refine W_th <| W_rg <| mv (i64 s11.2.2.2) rfl s8_17 <| wa rfl (q_addI rfl rfl rfl) <| av (i64 ((wI (s11.2.2.2 + 1)))) rfl rfl <| wl_nil <| ?_; obtain rfl := osi H11; exact ⟨_, rfl, v20, s0_17, s1_17, s5_17, rfl, rfl, rfl, s46_17, e22, o0_17, n0_17, o20, n23, q21⟩
        replace H11 := ifn hb13 H11; refine mv (u64 s11.2.2.1) rfl s7_12 <| wa rfl (q_gt64 rfl rfl (cst64 (0 : UInt64) rfl)) <| wa rfl (q_pick_f (v := (.bool ((decide ((0 : UInt64) < s11.2.2.1))))) rfl rfl rfl) <| wnt <| ?_; refine W_cond _ rfl rfl (fun hb25 => ?_) (fun hb25 => ?_)
        · replace H11 := ifp hb25 H11; refine W_skip <| W_th <| W_seq <| W_block <| W_seq <| ?_; obtain ⟨x26, H26, H11⟩ := bsi H11; refine W_mid (fun f w => f 0 = (u64 a0x) ∧ f 1 = (i64 s4.1) ∧ f 5 = v5_5 ∧ f 6 = v6_12 ∧ f 7 = (u64 x26) ∧ f 8 = (i64 s11.2.2.2) ∧ f 46 = undef ∧ Ext w0 w ∧ OwK (Sc u64) w [v5_5, v6_12] 66 v5_5 s11.1 ∧ Nw w0 v5_5 ∧ OwK (Sc u64) w [v5_5, v6_12] 66 v6_12 s11.2.1 ∧ Nw w0 v6_12 ∧ Nq v5_5 v6_12) ?_ ?_
          · refine W_seq <| W_rg <| mv (i64 s11.2.2.2) rfl s8_12 <| mv v5_5 rfl s5_12 <| wa rfl (q_len rfl T91.sl rfl (o0_12.rd (Sc.stab _))) <| wa rfl (q_ltI rfl rfl rfl) <| wnt <| ?_; refine W_cond _ rfl rfl (fun hb27 => ?_) (fun hb27 => ?_)
            · replace H26 := ifp hb27 H26; refine W_rg <| mv (u64 s11.2.2.1) rfl s7_12 <| mv v5_5 rfl s5_12 <| mv (i64 s11.2.2.2) rfl s8_12 <| ?_; obtain ⟨c28, hc28, H26⟩ := bsi H26; refine wa rfl (q_adr rfl T91 rfl rfl (o0_12.rd (Sc.stab _)) hc28) <| wq rfl (q_loadS rfl T91 rfl (o0_12.rd (Sc.stab _)) hc28) <| mv (u64 a0x) rfl s0_12 <| wa rfl (q_mul64 rfl rfl rfl) <| wa rfl (q_add64 rfl rfl rfl) <| av (u64 ((s11.2.2.1 + (c28 * a0x)))) rfl rfl <| wl_nil <| ?_; obtain rfl := osi H26; exact ⟨s0_12, s1_12, s5_12, s6_12, rfl, s8_12, s46_12, hE12, o0_12, n0_12, o1_12, n1_12, q0_1_12⟩
            replace H26 := ifn hb27 H26; refine W_skip ?_; obtain rfl := osi H26; exact ⟨s0_12, s1_12, s5_12, s6_12, s7_12, s8_12, s46_12, hE12, o0_12, n0_12, o1_12, n1_12, q0_1_12⟩
          rintro _ w29 ⟨s0_29, s1_29, s5_29, s6_29, s7_29, s8_29, s46_29, hE29, o0_29, n0_29, o1_29, n1_29, q0_1_29⟩; refine W_th <| W_seq <| W_rg <| mv v6_12 rfl s6_29 <| mv (u64 x26) rfl s7_29 <| wa rfl (q_rem64 rfl rfl (cst64 (65536 : UInt64) rfl) (by decide)) <| ?_; refine wls rfl rfl (stp_lit (L := [v5_5, v6_12]) (R := (Sc u64)) [(u64 ((x26 % (65536 : UInt64))))] ([(x26 % (65536 : UInt64))] : List UInt64) rfl T91 rfl (by exact ⟨rfl, rfl, trivial⟩) rfl (litC u64 (oneC_u64) (us := [(u64 ((x26 % (65536 : UInt64))))]) (l := ([(x26 % (65536 : UInt64))] : List UInt64)) rfl) rfl (litS u64 (us := [(u64 ((x26 % (65536 : UInt64))))]) (l := ([(x26 % (65536 : UInt64))] : List UInt64)) rfl) ?_); intro v30 w30 o30 n30 g30 l30; have x30 := grown_ext g30; have i30 : W64 w30 [v5_5, v6_12] v30 (([(x26 % (65536 : UInt64))] : List UInt64)) := OwK.slk (Sc.stab _) _ o30 (fun k hk => (Old.cons (Old.cons (Old.nil _) o1_29.lt) o0_29.lt) k (n30 k hk)) (fun _ h => h.2); replace o0_29 := o0_29.extL (Sc.stab _) x30 (Lift.ext x30 _); replace o1_29 := o1_29.extL (Sc.stab _) x30 (Lift.ext x30 _); have e31 := hE29.trans x30; obtain ⟨c32, hc32, H11⟩ := bsi H11; refine wls rfl rfl (stp_append (R := (Sc u64)) (v := v6_12) (u := v30) (Sc.stab _) [v5_5] [] rfl T91 rfl rfl o1_29 i30 (fun _ _ h => h) hc32 oc_u64 ?_); intro v32 w32 o32 g32 nx32 l32; replace i30 := i30.lift l32; have q33 : Nq v5_5 v32 := o0_29.nxt q0_1_29 nx32; replace o0_29 := o0_29.other (Sc.stab _) g32 q0_1_29 l32; have e34 := e31.grown g32 n1_29; have n35 := Nw.nxt e31 n1_29 nx32; refine av v32 rfl rfl <| wnt <| W_rg <| mv (u64 x26) rfl s7_29 <| wa rfl (q_quo64 rfl rfl (cst64 (65536 : UInt64) rfl) (by decide)) <| av (u64 ((x26 / (65536 : UInt64)))) rfl rfl <| wl_nil <| bk_n <| ?_; refine W_th <| W_rg <| mv (i64 s11.2.2.2) rfl s8_29 <| wa rfl (q_addI rfl rfl rfl) <| av (i64 ((wI (s11.2.2.2 + 1)))) rfl rfl <| wl_nil <| ?_; obtain rfl := osi H11; exact ⟨_, rfl, v32, s0_29, s1_29, s5_29, rfl, rfl, rfl, s46_29, e34, o0_29, n0_29, o32, n35, q33⟩
        replace H11 := ifn hb25 H11; refine W_exit <| th_x <| ?_; obtain rfl := osi H11; obtain rfl := hr11 _ rfl; refine th_x <| bk_x <| ?_; exact ⟨v6_12, s0_12, s1_12, s6_12, s46_12, hE12, (o1_12.weak (Sc.stab _) (fun _ h => ⟨h.2.1, trivial⟩)), n1_12⟩
      rintro _ w38 ⟨v6_38, s0_38, s1_38, s6_38, s46_38, hE38, o0_38, n0_38⟩; refine W_th <| W_rg <| mv v6_38 rfl s6_38 <| av v6_38 rfl rfl <| wl_nil <| bk_n <| W_th <| W_rg <| ?_; refine mv (i64 s4.1) rfl s1_38 <| wa rfl (q_subI rfl rfl rfl) <| av (i64 ((wI (s4.1 - 1)))) rfl rfl <| wl_nil <| ?_; obtain rfl := osi H4; exact ⟨_, rfl, v6_38, s0_38, rfl, rfl, s46_38, hE38, o0_38, n0_38⟩
    replace H4 := ifn hb6 H4; refine W_exit <| th_x <| ?_; obtain rfl := osi H4; obtain rfl := hr4 _ rfl; refine th_x <| bk_x <| ?_; exact ⟨v5_5, s5_5, s46_5, hE5, o0_5, n0_5⟩
  rintro _ w41 ⟨v5_41, s5_41, s46_41, hE41, o0_41, n0_41⟩; refine W_th <| W_seq <| W_rg <| mv v5_41 rfl s5_41 <| av v5_41 rfl rfl <| wnt <| W_ret <| ?_; obtain rfl := osi H; refine rt1 v5_41 rfl rfl rfl s46_41 ?_; exact ⟨v5_41, rfl, hE41, n0_41, (o0_41.weak (Sc.stab _) (fun _ _ => trivial))⟩
noncomputable def ref07_above (a0x : UInt64) (a1p : UInt64) (a2n : Int) : Option Bool :=
((ref07_power a0x a2n).bind fun r1 =>
((makeL ((wI (2 * a2n))) (0 : UInt64)).bind fun c3 =>
((appL c3 (([a1p] : List UInt64))).bind fun c8 =>
((iterC (fun s11 : Int =>
(if 0 ≤ s11 then
(((if s11 < (r1.length : Int) then
((idx r1 s11).bind fun c16 => some c16)
else some (0 : UInt64))).bind fun x14 =>
(if s11 < (c8.length : Int) then
((idx c8 s11).bind fun c19 =>
(if x14 = c19 then some (.inl (wI (s11 - 1)))
else some (.inr (.inr (decide (c19 < x14))))))
else
(if x14 = (0 : UInt64) then some (.inl (wI (s11 - 1)))
else some (.inr (.inr (decide ((0 : UInt64) < x14)))))))
else some (.inr (.inl ())))) 15).bind (Sum.elim (fun y11 => some false) (fun q11 => some q11))))))
theorem ref07_above_calls (a0x : UInt64) (a1p : UInt64) (a2n : Int) (r : Bool) (w0 : World) (H : ref07_above a0x a1p a2n = some r) :
    Calls Try.prog 83 [(u64 a0x), (u64 a1p), (i64 a2n)].toArray w0 (fun e w' => e = .returned (.bool r) ∧ Ext w0 w') := by
  have hE : Ext w0 w0 := Ext.refl w0; unfold ref07_above at H; refine calls_W (n := 48) Try.func83 rfl rfl rfl ?_; refine W_seq <| W_rg <| av (.bool false) rfl rfl <| wnt <| W_seq <| W_rg <| mv (u64 a0x) rfl rfl <| mv (i64 a2n) rfl rfl <| ?_; obtain ⟨r1, hr1, H⟩ := bsi H; refine wls rfl rfl (stp_call (vs := [(u64 a0x), (i64 a2n)]) Try.func94 rfl rfl rfl (ar2 rfl rfl) (ref07_power_calls a0x a2n  r1 _  hr1) ?_); rintro _ w1 ⟨v1, rfl, x1, n1_0, o1_0⟩; refine ⟨_, rfl, ?_⟩; have i1_0 : W64 w1 [] v1 r1 := OwK.slk (Sc.stab _) _ (OwK.scal o1_0 (v1 :: [])) (fun k hk => (Old.nil _) k (n1_0 k hk)) (fun _ h => h.2); have e2 := hE.trans x1; refine av v1 rfl rfl <| wnt <| W_seq <| W_rg <| mv (i64 a2n) rfl rfl <| wa rfl (q_mulI rfl rfl rfl) <| ?_; obtain ⟨c3, hc3, H⟩ := bsi H; refine wls rfl rfl (stp_make (L := []) (R := (Sc u64)) rfl T91 rfl rfl hc3 (fun _ _ => rfl) ?_); intro v3 w3 o3 n3 g3 l3; have x3 := grown_ext g3; replace i1_0 := i1_0.lift (Lift.call _ x3 n3); have n5 := Nw.ext e2 n3; have e4 := e2.trans x3; refine av v3 rfl rfl <| wnt <| W_seq <| W_rg <| mv v3 rfl rfl <| mv (u64 a1p) rfl rfl <| ?_; refine wls rfl rfl (stp_lit (L := [v3]) (R := (Sc u64)) [(u64 a1p)] ([a1p] : List UInt64) rfl T91 rfl (by exact ⟨rfl, rfl, trivial⟩) rfl (litC u64 (oneC_u64) (us := [(u64 a1p)]) (l := ([a1p] : List UInt64)) rfl) rfl (litS u64 (us := [(u64 a1p)]) (l := ([a1p] : List UInt64)) rfl) ?_); intro v6 w6 o6 n6 g6 l6; have x6 := grown_ext g6; have i6 : W64 w6 [v3] v6 (([a1p] : List UInt64)) := OwK.slk (Sc.stab _) _ o6 (fun k hk => (Old.cons (Old.nil _) o3.lt) k (n6 k hk)) (fun _ h => h.2); replace i1_0 := i1_0.lift (Lift.ext x6 _); replace o3 := o3.extL (Sc.stab _) x6 (Lift.ext x6 _); have e7 := e4.trans x6; obtain ⟨c8, hc8, H⟩ := bsi H; refine wls rfl rfl (stp_append (R := (Sc u64)) (v := v3) (u := v6) (Sc.stab _) [] [] rfl T91 rfl rfl o3 i6 (fun _ _ h => h) hc8 oc_u64 ?_); intro v8 w8 o8 g8 nx8 l8; replace i1_0 := i1_0.lift l8; replace i6 := i6.lift l8; have e9 := e7.grown g8 n5; have n10 := Nw.nxt e7 n5 nx8; refine av v8 rfl rfl <| wnt <| W_seq <| W_seq <| W_rg <| av (i64 15) rfl rfl <| wnt <| ?_; obtain ⟨x11, G11, H⟩ := bsi H; refine W_mid (fun f w => ∃ y11, x11 = .inl y11 ∧ f 48 = undef ∧ Ext w0 w) ?_ ?_
  · refine W_block ?_; refine W_loop (fun s11 f w => f 7 = v1 ∧ f 8 = v8 ∧ f 9 = (i64 s11) ∧ f 48 = undef ∧ Ext w0 w ∧ OwK (Sc u64) w [v8] 66 v8 c8 ∧ Nw w0 v8 ∧ W64 w [v8] v1 r1) G11 ?_ ?_
    · exact ⟨rfl, rfl, rfl, rfl, e9, o8, n10, i1_0⟩
    rintro s11 _ _ w12 ⟨s7_12, s8_12, s9_12, s48_12, hE12, o0_12, n0_12, i0_12⟩ H11 hr11; refine W_seq <| W_seq <| W_rg <| mv (i64 s11) rfl s9_12 <| wa rfl (q_geI rfl rfl rfl) <| wnt <| ?_; refine W_cond _ rfl rfl (fun hb13 => ?_) (fun hb13 => ?_)
    · replace H11 := ifp hb13 H11; refine W_skip <| W_th <| W_seq <| W_block <| W_seq <| W_rg <| av (u64 0) rfl (cst64 (0 : UInt64) rfl) <| av (u64 0) rfl (cst64 (0 : UInt64) rfl) <| ?_; refine wnt <| W_seq <| ?_; obtain ⟨x14, H14, H11⟩ := bsi H11; refine W_mid (fun f w => f 7 = v1 ∧ f 8 = v8 ∧ f 9 = (i64 s11) ∧ f 10 = (u64 x14) ∧ f 11 = (u64 0) ∧ f 48 = undef ∧ Ext w0 w ∧ OwK (Sc u64) w [v8] 66 v8 c8 ∧ Nw w0 v8 ∧ W64 w [v8] v1 r1) ?_ ?_
      · refine W_seq <| W_rg <| mv (i64 s11) rfl s9_12 <| mv v1 rfl s7_12 <| wa rfl (q_len rfl T91.sl rfl i0_12) <| wa rfl (q_ltI rfl rfl rfl) <| wnt <| ?_; refine W_cond _ rfl rfl (fun hb15 => ?_) (fun hb15 => ?_)
        · replace H14 := ifp hb15 H14; refine W_rg <| mv v1 rfl s7_12 <| mv (i64 s11) rfl s9_12 <| ?_; obtain ⟨c16, hc16, H14⟩ := bsi H14; refine wa rfl (q_adr rfl T91 rfl rfl i0_12 hc16) <| wq rfl (q_loadS rfl T91 rfl i0_12 hc16) <| av (u64 c16) rfl rfl <| wl_nil <| ?_; obtain rfl := osi H14; exact ⟨s7_12, s8_12, s9_12, rfl, rfl, s48_12, hE12, o0_12, n0_12, i0_12⟩
        replace H14 := ifn hb15 H14; refine W_skip ?_; obtain rfl := osi H14; exact ⟨s7_12, s8_12, s9_12, rfl, rfl, s48_12, hE12, o0_12, n0_12, i0_12⟩
      rintro _ w17 ⟨s7_17, s8_17, s9_17, s10_17, s11_17, s48_17, hE17, o0_17, n0_17, i0_17⟩; refine W_th <| W_seq <| W_seq <| W_rg <| mv (i64 s11) rfl s9_17 <| mv v8 rfl s8_17 <| wa rfl (q_len rfl T91.sl rfl (o0_17.rd (Sc.stab _))) <| wa rfl (q_ltI rfl rfl rfl) <| ?_; refine wnt ?_; refine W_cond _ rfl rfl (fun hb18 => ?_) (fun hb18 => ?_)
      · replace H11 := ifp hb18 H11; refine W_rg <| mv v8 rfl s8_17 <| mv (i64 s11) rfl s9_17 <| ?_; obtain ⟨c19, hc19, H11⟩ := bsi H11; refine wa rfl (q_adr rfl T91 rfl rfl (o0_17.rd (Sc.stab _)) hc19) <| wq rfl (q_loadS rfl T91 rfl (o0_17.rd (Sc.stab _)) hc19) <| av (u64 c19) rfl rfl <| wnt <| W_seq <| W_rg <| mv (u64 x14) rfl s10_17 <| mv (u64 c19) rfl rfl <| ?_; refine wa rfl (q_ne64 rfl rfl rfl) <| wnt <| ?_; refine W_cond _ rfl rfl (fun hb20 => ?_) (fun hb20 => ?_)
        · replace H11 := (if_neg (ndec_t hb20)).symm.trans H11; refine W_seq <| W_rg <| mv (u64 x14) rfl s10_17 <| mv (u64 c19) rfl rfl <| wa rfl (q_gt64 rfl rfl rfl) <| av (.bool ((decide (c19 < x14)))) rfl rfl <| wnt <| W_ret <| ?_; refine bk_r <| th_r <| ?_; obtain rfl := osi H11; obtain rfl := hr11 _ rfl; simp only [Sum.elim_inr] at H; refine th_r <| bk_r <| th_r <| th_r <| ?_; obtain rfl := osi H; refine rt1 (.bool ((decide (c19 < x14)))) rfl rfl rfl s48_17 ?_; exact ⟨rfl, hE17⟩
        replace H11 := (if_pos (ndec_f hb20)).symm.trans H11; refine W_skip <| bk_n <| W_th <| W_rg <| mv (i64 s11) rfl s9_17 <| wa rfl (q_subI rfl rfl rfl) <| av (i64 ((wI (s11 - 1)))) rfl rfl <| wl_nil <| ?_; obtain rfl := osi H11; exact ⟨_, rfl, s7_17, s8_17, rfl, s48_17, hE17, o0_17, n0_17, i0_17⟩
      replace H11 := ifn hb18 H11; refine W_skip <| W_th <| W_seq <| W_rg <| mv (u64 x14) rfl s10_17 <| mv (u64 0) rfl s11_17 <| wa rfl (q_ne64 rfl rfl rfl) <| wnt <| ?_; refine W_cond _ rfl rfl (fun hb21 => ?_) (fun hb21 => ?_)
      · replace H11 := (if_neg (ndec_t hb21)).symm.trans H11; refine W_seq <| W_rg <| mv (u64 x14) rfl s10_17 <| mv (u64 0) rfl s11_17 <| wa rfl (q_gt64 rfl rfl rfl) <| av (.bool ((decide ((0 : UInt64) < x14)))) rfl rfl <| wnt <| W_ret <| ?_; refine bk_r <| th_r <| ?_; obtain rfl := osi H11; obtain rfl := hr11 _ rfl; simp only [Sum.elim_inr] at H; refine th_r <| bk_r <| th_r <| th_r <| ?_; obtain rfl := osi H; refine rt1 (.bool ((decide ((0 : UInt64) < x14)))) rfl rfl rfl s48_17 ?_; exact ⟨rfl, hE17⟩
      replace H11 := (if_pos (ndec_f hb21)).symm.trans H11; refine W_skip <| bk_n <| W_th <| W_rg <| mv (i64 s11) rfl s9_17 <| wa rfl (q_subI rfl rfl rfl) <| av (i64 ((wI (s11 - 1)))) rfl rfl <| wl_nil <| ?_; obtain rfl := osi H11; exact ⟨_, rfl, s7_17, s8_17, rfl, s48_17, hE17, o0_17, n0_17, i0_17⟩
    replace H11 := ifn hb13 H11; refine W_exit <| th_x <| ?_; obtain rfl := osi H11; obtain rfl := hr11 _ rfl; refine th_x <| bk_x <| ?_; exact ⟨_, rfl, s48_12, hE12⟩
  rintro _ w24 ⟨y11, rfl, s48_24, hE24⟩; simp only [Sum.elim_inl] at H; refine W_th <| W_seq <| W_rg <| av (.bool false) rfl rfl <| wnt <| W_ret <| ?_; obtain rfl := osi H; refine rt1 (.bool false) rfl rfl rfl s48_24 ?_; exact ⟨rfl, hE24⟩
noncomputable def ref07_Fraction (a0p : UInt64) (a1n : Int) : Option UInt32 :=
((iterC (fun s1 : UInt64 × Int =>
(if 0 ≤ s1.2 then
((cnt s1.2).bind fun c4 =>
((ref07_above (s1.1 + (shl64 ((1 : UInt64)) c4)) a0p a1n).bind fun r5 =>
(if (!r5) = true then
((cnt s1.2).bind fun c8 => some (.inl ((s1.1 + (shl64 ((1 : UInt64)) c8)), (wI (s1.2 - 1)))))
else some (.inl (s1.1, (wI (s1.2 - 1)))))))
else some (.inr s1.1))) ((0 : UInt64), 35)).bind fun x1 => some (x1.toUInt32))
theorem ref07_Fraction_calls (a0p : UInt64) (a1n : Int) (r : UInt32) (w0 : World) (H : ref07_Fraction a0p a1n = some r) :
    Calls Try.prog 64 [(u64 a0p), (i64 a1n)].toArray w0 (fun e w' => e = .returned (u32 r) ∧ Ext w0 w') := by
  have hE : Ext w0 w0 := Ext.refl w0; unfold ref07_Fraction at H; refine calls_W (n := 25) Try.func64 rfl rfl rfl ?_; refine W_seq <| W_rg <| av (u32 0) rfl (cst32 (0 : UInt32) rfl) <| wnt <| W_seq <| W_rg <| av (u64 0) rfl (cst64 (0 : UInt64) rfl) <| wnt <| ?_; refine W_seq <| W_seq <| W_rg <| av (i64 35) rfl rfl <| wnt <| ?_; obtain ⟨x1, G1, H⟩ := bsi H; refine W_mid (fun f w => f 5 = (u64 x1) ∧ f 25 = undef ∧ Ext w0 w) ?_ ?_
  · refine W_block ?_; refine W_loop (fun s1 f w => f 0 = (u64 a0p) ∧ f 1 = (i64 a1n) ∧ f 5 = (u64 s1.1) ∧ f 6 = (i64 s1.2) ∧ f 25 = undef ∧ Ext w0 w) G1 ?_ ?_
    · exact ⟨rfl, rfl, rfl, rfl, rfl, hE⟩
    rintro s1 _ _ w2 ⟨s0_2, s1_2, s5_2, s6_2, s25_2, hE2⟩ H1 hr1; refine W_seq <| W_seq <| W_rg <| mv (i64 s1.2) rfl s6_2 <| wa rfl (q_geI rfl rfl rfl) <| wnt <| ?_; refine W_cond _ rfl rfl (fun hb3 => ?_) (fun hb3 => ?_)
    · replace H1 := ifp hb3 H1; refine W_skip <| W_th <| W_seq <| W_block <| W_seq <| W_rg <| mv (u64 s1.1) rfl s5_2 <| mv (i64 s1.2) rfl s6_2 <| ?_; obtain ⟨c4, hc4, H1⟩ := bsi H1; refine wa rfl (q_shl64 c4 rfl (cst64 (1 : UInt64) rfl) rfl (cnt_eq hc4)) <| wa rfl (q_add64 rfl rfl rfl) <| mv (u64 a0p) rfl s0_2 <| mv (i64 a1n) rfl s1_2 <| ?_; obtain ⟨r5, hr5, H1⟩ := bsi H1; refine wls rfl rfl (stp_call (vs := [(u64 ((s1.1 + (shl64 ((1 : UInt64)) c4)))), (u64 a0p), (i64 a1n)]) Try.func83 rfl rfl rfl (ar3 rfl rfl rfl) (ref07_above_calls (s1.1 + (shl64 ((1 : UInt64)) c4)) a0p a1n  r5 _  hr5) ?_); rintro _ w5 ⟨rfl, x5⟩; refine ⟨_, rfl, ?_⟩; have e6 := hE2.trans x5; refine wa rfl (q_not rfl rfl) <| wnt <| ?_; refine W_cond _ rfl rfl (fun hb7 => ?_) (fun hb7 => ?_)
      · replace H1 := (if_pos hb7).symm.trans H1; refine W_rg <| mv (u64 s1.1) rfl s5_2 <| mv (i64 s1.2) rfl s6_2 <| ?_; obtain ⟨c8, hc8, H1⟩ := bsi H1; refine wa rfl (q_shl64 c8 rfl (cst64 (1 : UInt64) rfl) rfl (cnt_eq hc8)) <| wa rfl (q_add64 rfl rfl rfl) <| av (u64 ((s1.1 + (shl64 ((1 : UInt64)) c8)))) rfl rfl <| wl_nil <| bk_n <| W_th <| W_rg <| mv (i64 s1.2) rfl s6_2 <| ?_; refine wa rfl (q_subI rfl rfl rfl) <| av (i64 ((wI (s1.2 - 1)))) rfl rfl <| wl_nil <| ?_; obtain rfl := osi H1; exact ⟨_, rfl, s0_2, s1_2, rfl, rfl, s25_2, e6⟩
      replace H1 := (if_neg (ne_true_of_eq_false hb7)).symm.trans H1; refine W_skip <| bk_n <| W_th <| W_rg <| mv (i64 s1.2) rfl s6_2 <| wa rfl (q_subI rfl rfl rfl) <| av (i64 ((wI (s1.2 - 1)))) rfl rfl <| wl_nil <| ?_; obtain rfl := osi H1; exact ⟨_, rfl, s0_2, s1_2, s5_2, rfl, s25_2, e6⟩
    replace H1 := ifn hb3 H1; refine W_exit <| th_x <| ?_; obtain rfl := osi H1; obtain rfl := hr1 _ rfl; refine th_x <| bk_x <| ?_; exact ⟨s5_2, s25_2, hE2⟩
  rintro _ w10 ⟨s5_10, s25_10, hE10⟩; refine W_th <| W_seq <| W_rg <| mv (u64 x1) rfl s5_10 <| wa rfl (q_cvt3264 rfl rfl rfl rfl) <| av (u32 ((x1.toUInt32))) rfl rfl <| wnt <| W_ret <| ?_; obtain rfl := osi H; refine rt1 (u32 ((x1.toUInt32))) rfl rfl rfl s25_10 ?_; exact ⟨rfl, hE10⟩
noncomputable def ref07_Primes (a0n : Int) : Option (List UInt64) :=
((iterC (fun s4 : List UInt64 × UInt64 =>
(if (s4.1.length : Int) < a0n then
((iterC (fun s7 : Bool × Int =>
(if s7.2 < (s4.1.length : Int) then
((idx s4.1 s7.2).bind fun c10 =>
(if s7.1 = true then
((nz c10).bind fun c12 => some (.inl ((!decide ((s4.2 % c10) = (0 : UInt64))), (wI (s7.2 + 1)))))
else some (.inl (false, (wI (s7.2 + 1))))))
else some (.inr s7.1))) (true, 0)).bind fun x7 =>
(if x7 = true then
((appL s4.1 (([s4.2] : List UInt64))).bind fun c18 => some (.inl (c18, (s4.2 + (1 : UInt64)))))
else some (.inl (s4.1, (s4.2 + (1 : UInt64))))))
else some (.inr s4.1))) (([] : List UInt64), (2 : UInt64))).bind fun x4 => some x4)
theorem ref07_Primes_calls (a0n : Int) (r : List UInt64) (w0 : World) (H : ref07_Primes a0n = some r) :
    Calls Try.prog 63 [(i64 a0n)].toArray w0 (fun e w' => ∃ u0 : Value, e = .returned u0 ∧ Ext w0 w' ∧ Nw w0 u0 ∧ OwK (Sc u64) w' [] 66 u0 r) := by
  have hE : Ext w0 w0 := Ext.refl w0; unfold ref07_Primes at H; refine calls_W (n := 35) Try.func63 rfl rfl rfl ?_; refine W_seq <| W_rg <| av (.slice none 0 0) rfl rfl <| wnt <| W_seq <| W_rg <| ?_; refine wls rfl rfl (stp_lit (L := []) (R := (Sc u64)) [] ([] : List UInt64) rfl T91 rfl (by exact trivial) rfl (litC u64 (oneC_u64) (us := []) (l := ([] : List UInt64)) rfl) rfl (litS u64 (us := []) (l := ([] : List UInt64)) rfl) ?_); intro v1 w1 o1 n1 g1 l1; have x1 := grown_ext g1; have n3 := Nw.ext hE n1; have e2 := hE.trans x1; refine av v1 rfl rfl <| wnt <| W_seq <| W_seq <| W_rg <| av (u64 2) rfl (cst64 (2 : UInt64) rfl) <| wnt <| ?_; obtain ⟨x4, G4, H⟩ := bsi H; refine W_mid (fun f w => ∃ v3_24 : Value, f 3 = v3_24 ∧ f 35 = undef ∧ Ext w0 w ∧ OwK (Sc u64) w [v3_24] 66 v3_24 x4 ∧ Nw w0 v3_24) ?_ ?_
  · refine W_block ?_; refine W_loop (fun s4 f w => ∃ v3_22 : Value, f 0 = (i64 a0n) ∧ f 3 = v3_22 ∧ f 4 = (u64 s4.2) ∧ f 35 = undef ∧ Ext w0 w ∧ OwK (Sc u64) w [v3_22] 66 v3_22 s4.1 ∧ Nw w0 v3_22) G4 ?_ ?_
    · exact ⟨v1, rfl, rfl, rfl, rfl, e2, o1, n3⟩
    rintro s4 _ _ w5 ⟨v3_5, s0_5, s3_5, s4_5, s35_5, hE5, o0_5, n0_5⟩ H4 hr4; refine W_seq <| W_seq <| W_rg <| mv v3_5 rfl s3_5 <| wa rfl (q_len rfl T91.sl rfl (o0_5.rd (Sc.stab _))) <| mv (i64 a0n) rfl s0_5 <| wa rfl (q_ltI rfl rfl rfl) <| wnt <| ?_; refine W_cond _ rfl rfl (fun hb6 => ?_) (fun hb6 => ?_)
    · replace H4 := ifp hb6 H4; refine W_skip <| W_th <| W_seq <| W_block <| W_seq <| W_rg <| av (.bool true) rfl rfl <| wnt <| ?_; refine W_seq <| W_seq <| W_rg <| mv v3_5 rfl s3_5 <| wa rfl (q_len rfl T91.sl rfl (o0_5.rd (Sc.stab _))) <| mv (i64 0) rfl rfl <| wnt <| ?_; obtain ⟨x7, G7, H4⟩ := bsi H4; refine W_mid (fun f w => f 0 = (i64 a0n) ∧ f 3 = v3_5 ∧ f 4 = (u64 s4.2) ∧ f 5 = (.bool x7) ∧ f 35 = undef ∧ Ext w0 w ∧ OwK (Sc u64) w [v3_5] 66 v3_5 s4.1 ∧ Nw w0 v3_5) ?_ ?_
      · refine W_block ?_; refine W_loop (fun s7 f w => f 0 = (i64 a0n) ∧ f 3 = v3_5 ∧ f 4 = (u64 s4.2) ∧ f 5 = (.bool s7.1) ∧ f 15 = v3_5 ∧ f 16 = (i64 ((s4.1.length : Int))) ∧ f 17 = (i64 s7.2) ∧ f 35 = undef ∧ Ext w0 w ∧ OwK (Sc u64) w [v3_5] 66 v3_5 s4.1 ∧ Nw w0 v3_5) G7 ?_ ?_
        · exact ⟨s0_5, s3_5, s4_5, rfl, rfl, rfl, rfl, s35_5, hE5, o0_5, n0_5⟩
        rintro s7 _ _ w8 ⟨s0_8, s3_8, s4_8, s5_8, s15_8, s16_8, s17_8, s35_8, hE8, o0_8, n0_8⟩ H7 hr7; refine W_seq <| W_rg <| wa rfl (q_ltI rfl s17_8 s16_8) <| wnt <| W_seq <| ?_; refine W_cond _ rfl rfl (fun hb9 => ?_) (fun hb9 => ?_)
        · replace H7 := ifp hb9 H7; refine W_skip <| W_th <| W_seq <| W_block <| W_seq <| W_rg <| ?_; obtain ⟨c10, hc10, H7⟩ := bsi H7; refine wa rfl (q_adr rfl T91 s15_8 s17_8 (o0_8.rd (Sc.stab _)) hc10) <| wq rfl (q_loadS rfl T91 rfl (o0_8.rd (Sc.stab _)) hc10) <| av (u64 c10) rfl rfl <| wnt <| W_rg <| mv (.bool s7.1) rfl s5_8 <| ?_; refine wlb rfl rfl (q_move (v := (.bool s7.1)) rfl rfl) (fun hb11 => ?_) (fun hb11 => ?_)
          · replace H7 := (if_pos hb11).symm.trans H7; refine mv (u64 s4.2) rfl s4_8 <| mv (u64 c10) rfl rfl <| ?_; obtain ⟨c12, hc12, H7⟩ := bsi H7; refine wa rfl (q_rem64 rfl rfl rfl (nz_ne hc12)) <| wa rfl (q_ne64 rfl rfl (cst64 (0 : UInt64) rfl)) <| wa rfl (q_pick_t (v := (.bool ((!decide ((s4.2 % c10) = (0 : UInt64)))))) rfl rfl rfl) <| av (.bool ((!decide ((s4.2 % c10) = (0 : UInt64))))) rfl rfl <| wl_nil <| bk_n <| W_th <| W_rg <| ?_; refine wa rfl (q_addI rfl s17_8 rfl) <| mv (i64 ((wI (s7.2 + 1)))) rfl rfl <| wl_nil <| ?_; obtain rfl := osi H7; exact ⟨_, rfl, s0_8, s3_8, s4_8, rfl, s15_8, s16_8, rfl, s35_8, hE8, o0_8, n0_8⟩
          replace H7 := (if_neg (ne_true_of_eq_false hb11)).symm.trans H7; refine wlk rfl rfl <| wlk rfl rfl <| wlk rfl rfl <| wlk rfl rfl <| wa rfl (q_pick_f (v := (.bool false)) rfl rfl rfl) <| av (.bool false) rfl rfl <| wl_nil <| bk_n <| ?_; refine W_th <| W_rg <| wa rfl (q_addI rfl s17_8 rfl) <| mv (i64 ((wI (s7.2 + 1)))) rfl rfl <| wl_nil <| ?_; obtain rfl := osi H7; exact ⟨_, rfl, s0_8, s3_8, s4_8, rfl, s15_8, s16_8, rfl, s35_8, hE8, o0_8, n0_8⟩
        replace H7 := ifn hb9 H7; refine W_exit <| th_x <| ?_; obtain rfl := osi H7; obtain rfl := hr7 _ rfl; refine th_x <| bk_x <| ?_; exact ⟨s0_8, s3_8, s4_8, s5_8, s35_8, hE8, o0_8, n0_8⟩
      rintro _ w14 ⟨s0_14, s3_14, s4_14, s5_14, s35_14, hE14, o0_14, n0_14⟩; refine W_th <| W_seq <| W_rg <| mv (.bool x7) rfl s5_14 <| wnt <| ?_; refine W_cond _ rfl rfl (fun hb15 => ?_) (fun hb15 => ?_)
      · replace H4 := (if_pos hb15).symm.trans H4; refine W_rg <| mv v3_5 rfl s3_14 <| mv (u64 s4.2) rfl s4_14 <| ?_; refine wls rfl rfl (stp_lit (L := [v3_5]) (R := (Sc u64)) [(u64 s4.2)] ([s4.2] : List UInt64) rfl T91 rfl (by exact ⟨rfl, rfl, trivial⟩) rfl (litC u64 (oneC_u64) (us := [(u64 s4.2)]) (l := ([s4.2] : List UInt64)) rfl) rfl (litS u64 (us := [(u64 s4.2)]) (l := ([s4.2] : List UInt64)) rfl) ?_); intro v16 w16 o16 n16 g16 l16; have x16 := grown_ext g16; have i16 : W64 w16 [v3_5] v16 (([s4.2] : List UInt64)) := OwK.slk (Sc.stab _) _ o16 (fun k hk => (Old.cons (Old.nil _) o0_14.lt) k (n16 k hk)) (fun _ h => h.2); replace o0_14 := o0_14.extL (Sc.stab _) x16 (Lift.ext x16 _); have e17 := hE14.trans x16; obtain ⟨c18, hc18, H4⟩ := bsi H4; refine wls rfl rfl (stp_append (R := (Sc u64)) (v := v3_5) (u := v16) (Sc.stab _) [] [] rfl T91 rfl rfl o0_14 i16 (fun _ _ h => h) hc18 oc_u64 ?_); intro v18 w18 o18 g18 nx18 l18; replace i16 := i16.lift l18; have e19 := e17.grown g18 n0_14; have n20 := Nw.nxt e17 n0_14 nx18; refine av v18 rfl rfl <| wl_nil <| bk_n <| W_th <| W_rg <| mv (u64 s4.2) rfl s4_14 <| wa rfl (q_add64 rfl rfl (cst64 (1 : UInt64) rfl)) <| av (u64 ((s4.2 + (1 : UInt64)))) rfl rfl <| ?_; refine wl_nil ?_; obtain rfl := osi H4; exact ⟨_, rfl, v18, s0_14, rfl, rfl, s35_14, e19, o18, n20⟩
      replace H4 := (if_neg (ne_true_of_eq_false hb15)).symm.trans H4; refine W_skip <| bk_n <| W_th <| W_rg <| mv (u64 s4.2) rfl s4_14 <| wa rfl (q_add64 rfl rfl (cst64 (1 : UInt64) rfl)) <| av (u64 ((s4.2 + (1 : UInt64)))) rfl rfl <| wl_nil <| ?_; obtain rfl := osi H4; exact ⟨_, rfl, v3_5, s0_14, s3_14, rfl, s35_14, hE14, o0_14, n0_14⟩
    replace H4 := ifn hb6 H4; refine W_exit <| th_x <| ?_; obtain rfl := osi H4; obtain rfl := hr4 _ rfl; refine th_x <| bk_x <| ?_; exact ⟨v3_5, s3_5, s35_5, hE5, o0_5, n0_5⟩
  rintro _ w23 ⟨v3_23, s3_23, s35_23, hE23, o0_23, n0_23⟩; refine W_th <| W_seq <| W_rg <| mv v3_23 rfl s3_23 <| av v3_23 rfl rfl <| wnt <| W_ret <| ?_; obtain rfl := osi H; refine rt1 v3_23 rfl rfl rfl s35_23 ?_; exact ⟨v3_23, rfl, hE23, n0_23, (o0_23.weak (Sc.stab _) (fun _ _ => trivial))⟩
noncomputable def ref07_Sum (a0b : List UInt8) : Option (List UInt8) :=
((lenA 64 ((List.replicate 64 (0 : UInt32)))).bind fun c9 =>
((lenA 8 ((List.replicate 8 (0 : UInt32)))).bind fun c12 =>
((ref07_Primes 64).bind fun r14 =>
((iterC (fun s16 : List UInt32 × List UInt32 × Int =>
(if s16.2.2 < (r14.length : Int) then
((idx r14 s16.2.2).bind fun c19 =>
((ref07_Fraction c19 3).bind fun r20 =>
((lenA 64 s16.1).bind fun c22 =>
((idx s16.1 s16.2.2).bind fun c23 =>
(if s16.2.2 < 8 then
((ref07_Fraction c19 2).bind fun r27 =>
((lenA 8 s16.2.1).bind fun c29 =>
((idx s16.2.1 s16.2.2).bind fun c30 => some (.inl ((s16.1.set (s16.2.2 : Int).toNat r20), (s16.2.1.set (s16.2.2 : Int).toNat r27), (wI (s16.2.2 + 1)))))))
else some (.inl ((s16.1.set (s16.2.2 : Int).toNat r20), s16.2.1, (wI (s16.2.2 + 1)))))))))
else some (.inr (s16.1, s16.2.1)))) ((List.replicate 64 (0 : UInt32)), (List.replicate 8 (0 : UInt32)), 0)).bind fun x16 =>
((appL (([] : List UInt8)) a0b).bind fun c40 =>
((appL c40 (([(128 : UInt8)] : List UInt8))).bind fun c47 =>
((iterC (fun s52 : List UInt8 =>
((remI ((s52.length : Int)) 64).bind fun c54 =>
(if c54 = 56 then some (.inr s52)
else
((appL s52 (([(0 : UInt8)] : List UInt8))).bind fun c58 => some (.inl c58))))) c47).bind fun x52 =>
((iterC (fun s66 : List UInt8 × Int =>
(if 0 ≤ s66.2 then
((cnt s66.2).bind fun c69 =>
((appL s66.1 (([(((shr64 (((UInt64.ofInt ((a0b.length : Int))) * (8 : UInt64))) c69)).toUInt8)] : List UInt8))).bind fun c72 => some (.inl (c72, (wI (s66.2 - 8))))))
else some (.inr s66.1))) (x52, 56)).bind fun x66 =>
((iterC (fun s79 : List UInt32 × Int =>
(if s79.2 < (x66.length : Int) then
((lenA 64 ((List.replicate 64 (0 : UInt32)))).bind fun c89 =>
((lenA 8 s79.1).bind fun c91 =>
((lenA 8 ((List.replicate 8 (0 : UInt32)))).bind fun c100 =>
((iterC (fun s102 : List UInt32 × List UInt32 × Int =>
(if s102.2.2 < 64 then
(((if s102.2.2 < 16 then
((idx x66 ((wI (s79.2 + (wI (4 * s102.2.2)))))).bind fun c109 =>
((idx x66 ((wI ((wI (s79.2 + (wI (4 * s102.2.2)))) + 1)))).bind fun c110 =>
((idx x66 ((wI ((wI (s79.2 + (wI (4 * s102.2.2)))) + 2)))).bind fun c111 =>
((idx x66 ((wI ((wI (s79.2 + (wI (4 * s102.2.2)))) + 3)))).bind fun c112 =>
((lenA 64 s102.1).bind fun c113 =>
((idx s102.1 s102.2.2).bind fun c114 => some (s102.1.set (s102.2.2 : Int).toNat (((((shl32 ((c109.toUInt32)) 24) ||| (shl32 ((c110.toUInt32)) 16)) ||| (shl32 ((c111.toUInt32)) 8)) ||| (c112.toUInt32))))))))))
else
((lenA 64 s102.1).bind fun c119 =>
((idx s102.1 ((wI (s102.2.2 - 2)))).bind fun c120 =>
((idx s102.1 ((wI (s102.2.2 - 7)))).bind fun c121 =>
((idx s102.1 ((wI (s102.2.2 - 15)))).bind fun c122 =>
((idx s102.1 ((wI (s102.2.2 - 16)))).bind fun c123 =>
((ref07_turn c120 17).bind fun r124 =>
((ref07_turn c120 19).bind fun r126 =>
((ref07_turn c122 7).bind fun r128 =>
((ref07_turn c122 18).bind fun r130 =>
((idx s102.1 s102.2.2).bind fun c132 => some (s102.1.set (s102.2.2 : Int).toNat ((((((r124 ^^^ r126) ^^^ (shr32 c120 10)) + c121) + ((r128 ^^^ r130) ^^^ (shr32 c122 3))) + c123))))))))))))))).bind fun x105 =>
((lenA 8 s102.2.1).bind fun c138 =>
((idx s102.2.1 7).bind fun c139 =>
((idx s102.2.1 4).bind fun c140 =>
((idx s102.2.1 5).bind fun c141 =>
((idx s102.2.1 6).bind fun c142 =>
((lenA 64 x16.1).bind fun c143 =>
((idx x16.1 s102.2.2).bind fun c144 =>
((lenA 64 x105).bind fun c145 =>
((idx x105 s102.2.2).bind fun c146 =>
((ref07_turn c140 6).bind fun r147 =>
((ref07_turn c140 11).bind fun r149 =>
((ref07_turn c140 25).bind fun r151 =>
((lenA 8 s102.2.1).bind fun c155 =>
((idx s102.2.1 0).bind fun c156 =>
((idx s102.2.1 1).bind fun c157 =>
((idx s102.2.1 2).bind fun c158 =>
((ref07_turn c156 2).bind fun r159 =>
((ref07_turn c156 13).bind fun r161 =>
((ref07_turn c156 22).bind fun r163 =>
((lenA 8 s102.2.1).bind fun c165 =>
((idx s102.2.1 0).bind fun c166 =>
((idx s102.2.1 1).bind fun c167 =>
((idx s102.2.1 2).bind fun c168 =>
((idx s102.2.1 3).bind fun c169 =>
((idx s102.2.1 4).bind fun c170 =>
((idx s102.2.1 5).bind fun c171 =>
((idx s102.2.1 6).bind fun c172 =>
((lenA 8 (([(((((c139 + ((r147 ^^^ r149) ^^^ r151)) + ((c140 &&& c141) ^^^ (((4294967295 : UInt32) ^^^ c140) &&& c142))) + c144) + c146) + (((r159 ^^^ r161) ^^^ r163) + (((c156 &&& c157) ^^^ (c156 &&& c158)) ^^^ (c157 &&& c158)))), c166, c167, c168, (c169 + ((((c139 + ((r147 ^^^ r149) ^^^ r151)) + ((c140 &&& c141) ^^^ (((4294967295 : UInt32) ^^^ c140) &&& c142))) + c144) + c146)), c170, c171, c172] : List UInt32))).bind fun c174 => some (.inl (x105, ([(((((c139 + ((r147 ^^^ r149) ^^^ r151)) + ((c140 &&& c141) ^^^ (((4294967295 : UInt32) ^^^ c140) &&& c142))) + c144) + c146) + (((r159 ^^^ r161) ^^^ r163) + (((c156 &&& c157) ^^^ (c156 &&& c158)) ^^^ (c157 &&& c158)))), c166, c167, c168, (c169 + ((((c139 + ((r147 ^^^ r149) ^^^ r151)) + ((c140 &&& c141) ^^^ (((4294967295 : UInt32) ^^^ c140) &&& c142))) + c144) + c146)), c170, c171, c172] : List UInt32), (wI (s102.2.2 + 1)))))))))))))))))))))))))))))))))
else some (.inr s102.2.1))) ((List.replicate 64 (0 : UInt32)), s79.1, 0)).bind fun x102 =>
((iterC (fun s179 : List UInt32 × Int =>
(if s179.2 < 8 then
((lenA 8 s179.1).bind fun c184 =>
((idx s179.1 s179.2).bind fun c185 =>
((lenA 8 x102).bind fun c186 =>
((idx x102 s179.2).bind fun c187 => some (.inl ((s179.1.set (s179.2 : Int).toNat ((c185 + c187))), (wI (s179.2 + 1))))))))
else some (.inr s179.1))) (s79.1, 0)).bind fun x179 => some (.inl (x179, (wI (s79.2 + 64)))))))))
else some (.inr s79.1))) (x16.2, 0)).bind fun x79 =>
((lenA 8 x79).bind fun c200 =>
((iterC (fun s201 : List UInt8 × Int =>
(if s201.2 < 8 then
((lenA 8 x79).bind fun c204 =>
((idx x79 s201.2).bind fun c205 =>
((appL s201.1 (([(((shr32 c205 24)).toUInt8), (((shr32 c205 16)).toUInt8), (((shr32 c205 8)).toUInt8), (c205.toUInt8)] : List UInt8))).bind fun c208 => some (.inl (c208, (wI (s201.2 + 1)))))))
else some (.inr s201.1))) (([] : List UInt8), 0)).bind fun x201 => some x201)))))))))))
theorem ref07_Sum_calls (a0b : List UInt8) (p0 : Value) (r : List UInt8) (w0 : World) (hp0 : By w0 [] p0 a0b) (H : ref07_Sum a0b = some r) :
    Calls Try.prog 42 [p0].toArray w0 (fun e w' => ∃ u0 : Value, e = .returned u0 ∧ Ext w0 w' ∧ Nw w0 u0 ∧ OwK (Sc u8) w' [] 5 u0 r) := by
  have hE : Ext w0 w0 := Ext.refl w0; unfold ref07_Sum at H; refine calls_W (n := 288) Try.func42 rfl rfl rfl ?_; refine W_seq <| W_rg <| av (.slice none 0 0) rfl rfl <| wnt <| W_seq <| W_rg <| wa rfl (q_buildA0 (l := ([] : List UInt32)) (us := []) (z := (0 : UInt32)) rfl A90 Z90 (by exact trivial) rfl rfl cel_u32) <| wa rfl (q_buildA0 (l := ([] : List UInt32)) (us := []) (z := (0 : UInt32)) rfl A78 Z78 (by exact trivial) rfl rfl cel_u32) <| ?_; refine wls rfl rfl (sal u32 (List.replicate 64 (0 : UInt32)) [] rfl Z90 ?_); intro g1 w1 o1 n1 g1r l1; have x1 := grown_ext g1r; have n3 := Nw.ext hE n1; have e2 := hE.trans x1; refine wls rfl rfl (sal u32 (List.replicate 8 (0 : UInt32)) [(bp g1)] rfl Z78 ?_); intro g4 w4 o4 n4 g4r l4; have x4 := grown_ext g4r; have q5 : Nq (bp g1) (bp g4) := o1.nq n4; replace o1 := o1.ext x4; have n7 := Nw.ext e2 n4; have e6 := e2.trans x4; obtain ⟨c9, hc9, H⟩ := bsi H; refine wln rfl rfl (stp_storeA [(bp g4)] [] rfl A90 rfl rfl (lenA_eq hc9) (lenA_eq hc9) o1 one_u32 ?_); intro w8 o8 g8 l8; replace o4 := o4.other g8 q5.symm; have e10 := e6.grown g8 n3; obtain ⟨c12, hc12, H⟩ := bsi H; refine wln rfl rfl (stp_storeA [] [(bp g1)] rfl A78 rfl rfl (lenA_eq hc12) (lenA_eq hc12) o4 one_u32 ?_); intro w11 o11 g11 l11; replace o8 := o8.other g11 q5; have e13 := e10.grown g11 n7; refine wnt <| W_seq <| W_seq <| W_rg <| ?_; obtain ⟨r14, hr14, H⟩ := bsi H; refine wls rfl rfl (stp_call (vs := [(i64 64)]) Try.func63 rfl rfl rfl (ar1 rfl) (ref07_Primes_calls 64  r14 _  hr14) ?_); rintro _ w14 ⟨v14, rfl, x14, n14_0, o14_0⟩; refine ⟨_, rfl, ?_⟩; have i14_0 : W64 w14 [(bp g4), (bp g1)] v14 r14 := OwK.slk (Sc.stab _) _ (OwK.scal o14_0 (v14 :: [(bp g4), (bp g1)])) (fun k hk => (Old.cons (Old.cons (Old.nil _) o8.ltB) o11.ltB) k (n14_0 k hk)) (fun _ h => h.2); replace o11 := o11.ext x14; replace o8 := o8.ext x14; have e15 := e13.trans x14; refine wa rfl (q_len rfl T91.sl rfl i14_0) <| mv (i64 0) rfl rfl <| wnt <| ?_; obtain ⟨x16, G16, H⟩ := bsi H; refine W_mid (fun f w => f 0 = p0 ∧ f 3 = (bp g1) ∧ f 4 = (bp g4) ∧ f 288 = undef ∧ Ext w0 w ∧ Blk w g1 90 (ac u32 x16.1) ∧ Nw w0 (bp g1) ∧ Blk w g4 78 (ac u32 x16.2) ∧ Nw w0 (bp g4) ∧ Nq (bp g1) (bp g4)) ?_ ?_
  · refine W_block ?_; refine W_loop (fun s16 f w => f 0 = p0 ∧ f 3 = (bp g1) ∧ f 4 = (bp g4) ∧ f 21 = v14 ∧ f 22 = (i64 ((r14.length : Int))) ∧ f 23 = (i64 s16.2.2) ∧ f 288 = undef ∧ Ext w0 w ∧ Blk w g1 90 (ac u32 s16.1) ∧ Nw w0 (bp g1) ∧ Blk w g4 78 (ac u32 s16.2.1) ∧ Nw w0 (bp g4) ∧ Nq (bp g1) (bp g4) ∧ W64 w [(bp g1), (bp g4)] v14 r14) G16 ?_ ?_
    · exact ⟨rfl, rfl, rfl, rfl, rfl, rfl, rfl, e15, o8, n3, o11, n7, q5, (i14_0.lift (Lift.sub (fun _ h => ⟨h.2.1, h.1, trivial⟩)))⟩
    rintro s16 _ _ w17 ⟨s0_17, s3_17, s4_17, s21_17, s22_17, s23_17, s288_17, hE17, o0_17, n0_17, o1_17, n1_17, q0_1_17, i0_17⟩ H16 hr16; refine W_seq <| W_rg <| wa rfl (q_ltI rfl s23_17 s22_17) <| wnt <| W_seq <| ?_; refine W_cond _ rfl rfl (fun hb18 => ?_) (fun hb18 => ?_)
    · replace H16 := ifp hb18 H16; refine W_skip <| W_th <| W_seq <| W_block <| W_seq <| W_rg <| mv (i64 s16.2.2) rfl s23_17 <| ?_; obtain ⟨c19, hc19, H16⟩ := bsi H16; refine wa rfl (q_adr rfl T91 s21_17 s23_17 i0_17 hc19) <| wq rfl (q_loadS rfl T91 rfl i0_17 hc19) <| av (i64 s16.2.2) rfl rfl <| av (u64 c19) rfl rfl <| wnt <| W_seq <| W_rg <| mv (i64 s16.2.2) rfl rfl <| ?_; refine mv (u64 c19) rfl rfl ?_; obtain ⟨r20, hr20, H16⟩ := bsi H16; refine wls rfl rfl (stp_call (vs := [(u64 c19), (i64 3)]) Try.func64 rfl rfl rfl (ar2 rfl rfl) (ref07_Fraction_calls c19 3  r20 _  hr20) ?_); rintro _ w20 ⟨rfl, x20⟩; refine ⟨_, rfl, ?_⟩; replace i0_17 := i0_17.lift (Lift.ext x20 _); replace o0_17 := o0_17.ext x20; replace o1_17 := o1_17.ext x20; have e21 := hE17.trans x20; obtain ⟨c22, hc22, H16⟩ := bsi H16; obtain ⟨c23, hc23, H16⟩ := bsi H16; refine wa rfl (q_ixA (m := 0) rfl A90 (by exact s3_17) rfl (lenA_eq hc22) hc23) ?_; refine wln rfl rfl (stp_storeX (b := r20) [] [(bp g4)] rfl A90 rfl rfl o0_17 hc23 (one_u32 _) ?_); intro w24 o24 g24 l24; replace i0_17 := i0_17.lift l24; replace o1_17 := o1_17.other g24 q0_1_17.symm; have e25 := e21.grown g24 n0_17; refine wnt <| W_seq <| W_rg <| mv (i64 s16.2.2) rfl rfl <| wa rfl (q_ltI rfl rfl rfl) <| wnt <| ?_; refine W_cond _ rfl rfl (fun hb26 => ?_) (fun hb26 => ?_)
      · replace H16 := ifp hb26 H16; refine W_rg <| mv (i64 s16.2.2) rfl rfl <| mv (u64 c19) rfl rfl <| ?_; obtain ⟨r27, hr27, H16⟩ := bsi H16; refine wls rfl rfl (stp_call (vs := [(u64 c19), (i64 2)]) Try.func64 rfl rfl rfl (ar2 rfl rfl) (ref07_Fraction_calls c19 2  r27 _  hr27) ?_); rintro _ w27 ⟨rfl, x27⟩; refine ⟨_, rfl, ?_⟩; replace i0_17 := i0_17.lift (Lift.ext x27 _); replace o24 := o24.ext x27; replace o1_17 := o1_17.ext x27; have e28 := e25.trans x27; obtain ⟨c29, hc29, H16⟩ := bsi H16; obtain ⟨c30, hc30, H16⟩ := bsi H16; refine wa rfl (q_ixA (m := 0) rfl A78 (by exact s4_17) rfl (lenA_eq hc29) hc30) ?_; refine wln rfl rfl (stp_storeX (b := r27) [(bp g1)] [] rfl A78 rfl rfl o1_17 hc30 (one_u32 _) ?_); intro w31 o31 g31 l31; replace i0_17 := i0_17.lift l31; replace o24 := o24.other g31 q0_1_17; have e32 := e28.grown g31 n1_17; refine wl_nil <| bk_n <| W_th <| W_rg <| wa rfl (q_addI rfl s23_17 rfl) <| mv (i64 ((wI (s16.2.2 + 1)))) rfl rfl <| wl_nil <| ?_; obtain rfl := osi H16; exact ⟨_, rfl, s0_17, s3_17, s4_17, s21_17, s22_17, rfl, s288_17, e32, o24, n0_17, o31, n1_17, q0_1_17, i0_17⟩
      replace H16 := ifn hb26 H16; refine W_skip <| bk_n <| W_th <| W_rg <| wa rfl (q_addI rfl s23_17 rfl) <| mv (i64 ((wI (s16.2.2 + 1)))) rfl rfl <| wl_nil <| ?_; obtain rfl := osi H16; exact ⟨_, rfl, s0_17, s3_17, s4_17, s21_17, s22_17, rfl, s288_17, e25, o24, n0_17, o1_17, n1_17, q0_1_17, i0_17⟩
    replace H16 := ifn hb18 H16; refine W_exit <| th_x <| ?_; obtain rfl := osi H16; obtain rfl := hr16 _ rfl; refine th_x <| bk_x <| ?_; exact ⟨s0_17, s3_17, s4_17, s288_17, hE17, o0_17, n0_17, o1_17, n1_17, q0_1_17⟩
  rintro _ w34 ⟨s0_34, s3_34, s4_34, s288_34, hE34, o0_34, n0_34, o1_34, n1_34, q0_1_34⟩; refine W_th <| W_seq <| W_rg <| ?_; refine wls rfl rfl (stp_lit (L := [(bp g1), (bp g4)]) (R := (Sc u8)) [] ([] : List UInt8) rfl T22 rfl (by exact trivial) rfl (litC u8 (oneC_u8) (us := []) (l := ([] : List UInt8)) rfl) rfl (litS u8 (us := []) (l := ([] : List UInt8)) rfl) ?_); intro v35 w35 o35 n35 g35 l35; have x35 := grown_ext g35; have q36 : Nq (bp g1) v35 := o0_34.nq n35; have q37 : Nq (bp g4) v35 := o1_34.nq n35; replace o0_34 := o0_34.ext x35; replace o1_34 := o1_34.ext x35; have n39 := Nw.ext hE34 n35; have e38 := hE34.trans x35; refine mv p0 rfl s0_34 ?_; obtain ⟨c40, hc40, H⟩ := bsi H; refine wls rfl rfl (stp_append (R := (Sc u8)) (v := v35) (u := p0) (Sc.stab _) [] [(bp g1), (bp g4)] rfl T22 rfl rfl o35 (hp0.lift (Lift.ext e38 _)) (fun _ _ h => h) hc40 oc_u8 ?_); intro v40 w40 o40 g40 nx40 l40; have q41 : Nq (bp g1) v40 := o0_34.nxt q36 nx40; have q42 : Nq (bp g4) v40 := o1_34.nxt q37 nx40; replace o0_34 := o0_34.other g40 q36; replace o1_34 := o1_34.other g40 q37; have e43 := e38.grown g40 n39; have n44 := Nw.nxt e38 n39 nx40; refine av v40 rfl rfl <| wnt <| W_seq <| W_rg <| mv v40 rfl rfl <| ?_; refine wls rfl rfl (stp_lit (L := [v40, (bp g1), (bp g4)]) (R := (Sc u8)) [(u8 128)] ([(128 : UInt8)] : List UInt8) rfl T22 rfl (by exact ⟨rfl, (cst8 (128 : UInt8) rfl), trivial⟩) rfl (litC u8 (oneC_u8) (us := [(u8 128)]) (l := ([(128 : UInt8)] : List UInt8)) rfl) rfl (litS u8 (us := [(u8 128)]) (l := ([(128 : UInt8)] : List UInt8)) rfl) ?_); intro v45 w45 o45 n45 g45 l45; have x45 := grown_ext g45; have i45 : By w45 [v40, (bp g1), (bp g4)] v45 (([(128 : UInt8)] : List UInt8)) := OwK.slk (Sc.stab _) _ o45 (fun k hk => (Old.cons (Old.cons (Old.cons (Old.nil _) o1_34.ltB) o0_34.ltB) o40.lt) k (n45 k hk)) (fun _ h => h.2); replace o40 := o40.extL (Sc.stab _) x45 (Lift.ext x45 _); replace o0_34 := o0_34.ext x45; replace o1_34 := o1_34.ext x45; have e46 := e43.trans x45; obtain ⟨c47, hc47, H⟩ := bsi H; refine wls rfl rfl (stp_append (R := (Sc u8)) (v := v40) (u := v45) (Sc.stab _) [] [(bp g1), (bp g4)] rfl T22 rfl rfl o40 i45 (fun _ _ h => h) hc47 oc_u8 ?_); intro v47 w47 o47 g47 nx47 l47; replace i45 := i45.lift l47; have q48 : Nq (bp g1) v47 := o0_34.nxt q41 nx47; have q49 : Nq (bp g4) v47 := o1_34.nxt q42 nx47; replace o0_34 := o0_34.other g47 q41; replace o1_34 := o1_34.other g47 q42; have e50 := e46.grown g47 n44; have n51 := Nw.nxt e46 n44 nx47; refine av v47 rfl rfl <| wnt <| W_seq <| ?_; obtain ⟨x52, G52, H⟩ := bsi H; refine W_mid (fun f w => ∃ v7_216 : Value, f 0 = p0 ∧ f 3 = (bp g1) ∧ f 4 = (bp g4) ∧ f 7 = v7_216 ∧ f 288 = undef ∧ Ext w0 w ∧ OwK (Sc u8) w [v7_216, (bp g1), (bp g4)] 5 v7_216 x52 ∧ Nw w0 v7_216 ∧ Blk w g1 90 (ac u32 x16.1) ∧ Nw w0 (bp g1) ∧ Blk w g4 78 (ac u32 x16.2) ∧ Nw w0 (bp g4) ∧ Nq v7_216 (bp g1) ∧ Nq v7_216 (bp g4) ∧ Nq (bp g1) (bp g4)) ?_ ?_
  · refine W_block ?_; refine W_loop (fun s52 f w => ∃ v7_63 : Value, f 0 = p0 ∧ f 3 = (bp g1) ∧ f 4 = (bp g4) ∧ f 7 = v7_63 ∧ f 288 = undef ∧ Ext w0 w ∧ OwK (Sc u8) w [v7_63, (bp g1), (bp g4)] 5 v7_63 s52 ∧ Nw w0 v7_63 ∧ Blk w g1 90 (ac u32 x16.1) ∧ Nw w0 (bp g1) ∧ Blk w g4 78 (ac u32 x16.2) ∧ Nw w0 (bp g4) ∧ Nq v7_63 (bp g1) ∧ Nq v7_63 (bp g4) ∧ Nq (bp g1) (bp g4)) G52 ?_ ?_
    · exact ⟨v47, s0_34, s3_34, s4_34, rfl, s288_34, e50, o47, n51, o0_34, n0_34, o1_34, n1_34, q48.symm, q49.symm, q0_1_34⟩
    rintro s52 _ _ w53 ⟨v7_53, s0_53, s3_53, s4_53, s7_53, s288_53, hE53, o0_53, n0_53, o1_53, n1_53, o2_53, n2_53, q0_1_53, q0_2_53, q1_2_53⟩ H52 hr52; refine W_seq <| W_seq <| W_rg <| mv v7_53 rfl s7_53 <| wa rfl (q_len rfl T22.sl rfl (o0_53.rd (Sc.stab _))) <| ?_; obtain ⟨c54, hc54, H52⟩ := bsi H52; refine wa rfl (q_remI rfl rfl rfl hc54) <| wa rfl (q_neI rfl rfl rfl) <| wnt <| ?_; refine W_cond _ rfl rfl (fun hb55 => ?_) (fun hb55 => ?_)
    · replace H52 := (if_neg (ndec_t hb55)).symm.trans H52; refine W_skip <| W_th <| W_block <| W_rg <| mv v7_53 rfl s7_53 <| ?_; refine wls rfl rfl (stp_lit (L := [v7_53, (bp g1), (bp g4)]) (R := (Sc u8)) [(u8 0)] ([(0 : UInt8)] : List UInt8) rfl T22 rfl (by exact ⟨rfl, (cst8 (0 : UInt8) rfl), trivial⟩) rfl (litC u8 (oneC_u8) (us := [(u8 0)]) (l := ([(0 : UInt8)] : List UInt8)) rfl) rfl (litS u8 (us := [(u8 0)]) (l := ([(0 : UInt8)] : List UInt8)) rfl) ?_); intro v56 w56 o56 n56 g56 l56; have x56 := grown_ext g56; have i56 : By w56 [v7_53, (bp g1), (bp g4)] v56 (([(0 : UInt8)] : List UInt8)) := OwK.slk (Sc.stab _) _ o56 (fun k hk => (Old.cons (Old.cons (Old.cons (Old.nil _) o2_53.ltB) o1_53.ltB) o0_53.lt) k (n56 k hk)) (fun _ h => h.2); replace o0_53 := o0_53.extL (Sc.stab _) x56 (Lift.ext x56 _); replace o1_53 := o1_53.ext x56; replace o2_53 := o2_53.ext x56; have e57 := hE53.trans x56; obtain ⟨c58, hc58, H52⟩ := bsi H52; refine wls rfl rfl (stp_append (R := (Sc u8)) (v := v7_53) (u := v56) (Sc.stab _) [] [(bp g1), (bp g4)] rfl T22 rfl rfl o0_53 i56 (fun _ _ h => h) hc58 oc_u8 ?_); intro v58 w58 o58 g58 nx58 l58; replace i56 := i56.lift l58; have q59 : Nq (bp g1) v58 := o1_53.nxt q0_1_53.symm nx58; have q60 : Nq (bp g4) v58 := o2_53.nxt q0_2_53.symm nx58; replace o1_53 := o1_53.other g58 q0_1_53.symm; replace o2_53 := o2_53.other g58 q0_2_53.symm; have e61 := e57.grown g58 n0_53; have n62 := Nw.nxt e57 n0_53 nx58; refine av v58 rfl rfl <| wl_nil <| bk_n <| ?_; obtain rfl := osi H52; exact ⟨_, rfl, v58, s0_53, s3_53, s4_53, rfl, s288_53, e61, o58, n62, o1_53, n1_53, o2_53, n2_53, q59.symm, q60.symm, q1_2_53⟩
    replace H52 := (if_pos (ndec_f hb55)).symm.trans H52; refine W_exit <| th_x <| ?_; obtain rfl := osi H52; obtain rfl := hr52 _ rfl; refine th_x <| bk_x <| ?_; exact ⟨v7_53, s0_53, s3_53, s4_53, s7_53, s288_53, hE53, o0_53, n0_53, o1_53, n1_53, o2_53, n2_53, q0_1_53, q0_2_53, q1_2_53⟩
  rintro _ w65 ⟨v7_65, s0_65, s3_65, s4_65, s7_65, s288_65, hE65, o0_65, n0_65, o1_65, n1_65, o2_65, n2_65, q0_1_65, q0_2_65, q1_2_65⟩; refine W_th <| W_seq <| W_seq <| W_rg <| av (i64 56) rfl rfl <| wnt <| ?_; obtain ⟨x66, G66, H⟩ := bsi H; refine W_mid (fun f w => ∃ v7_215 : Value, f 3 = (bp g1) ∧ f 4 = (bp g4) ∧ f 7 = v7_215 ∧ f 288 = undef ∧ Ext w0 w ∧ OwK (Sc u8) w [v7_215, (bp g1), (bp g4)] 5 v7_215 x66 ∧ Nw w0 v7_215 ∧ Blk w g1 90 (ac u32 x16.1) ∧ Nw w0 (bp g1) ∧ Blk w g4 78 (ac u32 x16.2) ∧ Nw w0 (bp g4) ∧ Nq v7_215 (bp g1) ∧ Nq v7_215 (bp g4) ∧ Nq (bp g1) (bp g4)) ?_ ?_
  · refine W_block ?_; refine W_loop (fun s66 f w => ∃ v7_77 : Value, f 0 = p0 ∧ f 3 = (bp g1) ∧ f 4 = (bp g4) ∧ f 7 = v7_77 ∧ f 8 = (i64 s66.2) ∧ f 288 = undef ∧ Ext w0 w ∧ OwK (Sc u8) w [v7_77, (bp g1), (bp g4)] 5 v7_77 s66.1 ∧ Nw w0 v7_77 ∧ Blk w g1 90 (ac u32 x16.1) ∧ Nw w0 (bp g1) ∧ Blk w g4 78 (ac u32 x16.2) ∧ Nw w0 (bp g4) ∧ Nq v7_77 (bp g1) ∧ Nq v7_77 (bp g4) ∧ Nq (bp g1) (bp g4)) G66 ?_ ?_
    · exact ⟨v7_65, s0_65, s3_65, s4_65, s7_65, rfl, s288_65, hE65, o0_65, n0_65, o1_65, n1_65, o2_65, n2_65, q0_1_65, q0_2_65, q1_2_65⟩
    rintro s66 _ _ w67 ⟨v7_67, s0_67, s3_67, s4_67, s7_67, s8_67, s288_67, hE67, o0_67, n0_67, o1_67, n1_67, o2_67, n2_67, q0_1_67, q0_2_67, q1_2_67⟩ H66 hr66; refine W_seq <| W_seq <| W_rg <| mv (i64 s66.2) rfl s8_67 <| wa rfl (q_geI rfl rfl rfl) <| wnt <| ?_; refine W_cond _ rfl rfl (fun hb68 => ?_) (fun hb68 => ?_)
    · replace H66 := ifp hb68 H66; refine W_skip <| W_th <| W_seq <| W_block <| W_rg <| mv v7_67 rfl s7_67 <| mv p0 rfl s0_67 <| wa rfl (q_len rfl T22.sl rfl (hp0.lift (Lift.ext hE67 _))) <| ?_; refine wa rfl (q_cvt64I rfl rfl rfl rfl) <| wa rfl (q_mul64 rfl rfl (cst64 (8 : UInt64) rfl)) <| mv (i64 s66.2) rfl s8_67 <| ?_; obtain ⟨c69, hc69, H66⟩ := bsi H66; refine wa rfl (q_shr64 c69 rfl rfl rfl (cnt_eq hc69)) <| wa rfl (q_cvt864 rfl rfl rfl rfl) <| ?_; refine wls rfl rfl (stp_lit (L := [v7_67, (bp g1), (bp g4)]) (R := (Sc u8)) [(u8 ((((shr64 (((UInt64.ofInt ((a0b.length : Int))) * (8 : UInt64))) c69)).toUInt8)))] ([(((shr64 (((UInt64.ofInt ((a0b.length : Int))) * (8 : UInt64))) c69)).toUInt8)] : List UInt8) rfl T22 rfl (by exact ⟨rfl, rfl, trivial⟩) rfl (litC u8 (oneC_u8) (us := [(u8 ((((shr64 (((UInt64.ofInt ((a0b.length : Int))) * (8 : UInt64))) c69)).toUInt8)))]) (l := ([(((shr64 (((UInt64.ofInt ((a0b.length : Int))) * (8 : UInt64))) c69)).toUInt8)] : List UInt8)) rfl) rfl (litS u8 (us := [(u8 ((((shr64 (((UInt64.ofInt ((a0b.length : Int))) * (8 : UInt64))) c69)).toUInt8)))]) (l := ([(((shr64 (((UInt64.ofInt ((a0b.length : Int))) * (8 : UInt64))) c69)).toUInt8)] : List UInt8)) rfl) ?_); intro v70 w70 o70 n70 g70 l70; have x70 := grown_ext g70; have i70 : By w70 [v7_67, (bp g1), (bp g4)] v70 (([(((shr64 (((UInt64.ofInt ((a0b.length : Int))) * (8 : UInt64))) c69)).toUInt8)] : List UInt8)) := OwK.slk (Sc.stab _) _ o70 (fun k hk => (Old.cons (Old.cons (Old.cons (Old.nil _) o2_67.ltB) o1_67.ltB) o0_67.lt) k (n70 k hk)) (fun _ h => h.2); replace o0_67 := o0_67.extL (Sc.stab _) x70 (Lift.ext x70 _); replace o1_67 := o1_67.ext x70; replace o2_67 := o2_67.ext x70; have e71 := hE67.trans x70; obtain ⟨c72, hc72, H66⟩ := bsi H66; refine wls rfl rfl (stp_append (R := (Sc u8)) (v := v7_67) (u := v70) (Sc.stab _) [] [(bp g1), (bp g4)] rfl T22 rfl rfl o0_67 i70 (fun _ _ h => h) hc72 oc_u8 ?_); intro v72 w72 o72 g72 nx72 l72; replace i70 := i70.lift l72; have q73 : Nq (bp g1) v72 := o1_67.nxt q0_1_67.symm nx72; have q74 : Nq (bp g4) v72 := o2_67.nxt q0_2_67.symm nx72; replace o1_67 := o1_67.other g72 q0_1_67.symm; replace o2_67 := o2_67.other g72 q0_2_67.symm; have e75 := e71.grown g72 n0_67; have n76 := Nw.nxt e71 n0_67 nx72; refine av v72 rfl rfl <| wl_nil <| bk_n <| W_th <| W_rg <| mv (i64 s66.2) rfl s8_67 <| wa rfl (q_subI rfl rfl rfl) <| av (i64 ((wI (s66.2 - 8)))) rfl rfl <| ?_; refine wl_nil ?_; obtain rfl := osi H66; exact ⟨_, rfl, v72, s0_67, s3_67, s4_67, rfl, rfl, s288_67, e75, o72, n76, o1_67, n1_67, o2_67, n2_67, q73.symm, q74.symm, q1_2_67⟩
    replace H66 := ifn hb68 H66; refine W_exit <| th_x <| ?_; obtain rfl := osi H66; obtain rfl := hr66 _ rfl; refine th_x <| bk_x <| ?_; exact ⟨v7_67, s3_67, s4_67, s7_67, s288_67, hE67, o0_67, n0_67, o1_67, n1_67, o2_67, n2_67, q0_1_67, q0_2_67, q1_2_67⟩
  rintro _ w78 ⟨v7_78, s3_78, s4_78, s7_78, s288_78, hE78, o0_78, n0_78, o1_78, n1_78, o2_78, n2_78, q0_1_78, q0_2_78, q1_2_78⟩; refine W_th <| W_seq <| W_seq <| W_rg <| av (i64 0) rfl rfl <| wnt <| ?_; obtain ⟨x79, G79, H⟩ := bsi H; refine W_mid (fun f w => f 4 = (bp g4) ∧ f 288 = undef ∧ Ext w0 w ∧ Blk w g4 78 (ac u32 x79) ∧ Nw w0 (bp g4)) ?_ ?_
  · refine W_block ?_; refine W_loop (fun s79 f w => f 3 = (bp g1) ∧ f 4 = (bp g4) ∧ f 7 = v7_78 ∧ f 9 = (i64 s79.2) ∧ f 288 = undef ∧ Ext w0 w ∧ OwK (Sc u8) w [v7_78, (bp g1), (bp g4)] 5 v7_78 x66 ∧ Nw w0 v7_78 ∧ Blk w g1 90 (ac u32 x16.1) ∧ Nw w0 (bp g1) ∧ Blk w g4 78 (ac u32 s79.1) ∧ Nw w0 (bp g4) ∧ Nq v7_78 (bp g1) ∧ Nq v7_78 (bp g4) ∧ Nq (bp g1) (bp g4)) G79 ?_ ?_
    · exact ⟨s3_78, s4_78, s7_78, rfl, s288_78, hE78, o0_78, n0_78, o1_78, n1_78, o2_78, n2_78, q0_1_78, q0_2_78, q1_2_78⟩
    rintro s79 _ _ w80 ⟨s3_80, s4_80, s7_80, s9_80, s288_80, hE80, o0_80, n0_80, o1_80, n1_80, o2_80, n2_80, q0_1_80, q0_2_80, q1_2_80⟩ H79 hr79; refine W_seq <| W_seq <| W_rg <| mv (i64 s79.2) rfl s9_80 <| mv v7_78 rfl s7_80 <| wa rfl (q_len rfl T22.sl rfl (o0_80.rd (Sc.stab _))) <| wa rfl (q_ltI rfl rfl rfl) <| wnt <| ?_; refine W_cond _ rfl rfl (fun hb81 => ?_) (fun hb81 => ?_)
    · replace H79 := ifp hb81 H79; refine W_skip <| W_th <| W_seq <| W_block <| W_seq <| W_rg <| wa rfl (q_buildA0 (l := ([] : List UInt32)) (us := []) (z := (0 : UInt32)) rfl A90 Z90 (by exact trivial) rfl rfl cel_u32) <| ?_; refine wls rfl rfl (sal u32 (List.replicate 64 (0 : UInt32)) [v7_78, (bp g1), (bp g4)] rfl Z90 ?_); intro g82 w82 o82 n82 g82r l82; have x82 := grown_ext g82r; have q83 : Nq v7_78 (bp g82) := o0_80.nq n82; have q84 : Nq (bp g1) (bp g82) := o1_80.nq n82; have q85 : Nq (bp g4) (bp g82) := o2_80.nq n82; replace o0_80 := o0_80.extL (Sc.stab _) x82 (Lift.call _ x82 n82); replace o1_80 := o1_80.ext x82; replace o2_80 := o2_80.ext x82; have n87 := Nw.ext hE80 n82; have e86 := hE80.trans x82; obtain ⟨c89, hc89, H79⟩ := bsi H79; refine wln rfl rfl (stp_storeA [] [v7_78, (bp g1), (bp g4)] rfl A90 rfl rfl (lenA_eq hc89) (lenA_eq hc89) o82 one_u32 ?_); intro w88 o88 g88 l88; replace o0_80 := o0_80.other (Sc.stab _) g88 q83 l88; replace o1_80 := o1_80.other g88 q84; replace o2_80 := o2_80.other g88 q85; have e90 := e86.grown g88 n87; refine wnt <| W_seq <| W_rg <| ?_; obtain ⟨c91, hc91, H79⟩ := bsi H79; refine wq rfl (q_loadA (m := 0) rfl A78 (by exact s4_80) o2_80 (seg_self _ _) (lenA_eq hc91)) ?_; refine wls rfl rfl (sal u32 (List.replicate 8 (0 : UInt32)) [(bp g82), v7_78, (bp g1), (bp g4)] rfl Z78 ?_); intro g92 w92 o92 n92 g92r l92; have x92 := grown_ext g92r; have q93 : Nq (bp g82) (bp g92) := o88.nq n92; have q94 : Nq v7_78 (bp g92) := o0_80.nq n92; have q95 : Nq (bp g1) (bp g92) := o1_80.nq n92; have q96 : Nq (bp g4) (bp g92) := o2_80.nq n92; replace o88 := o88.ext x92; replace o0_80 := o0_80.extL (Sc.stab _) x92 (Lift.call _ x92 n92); replace o1_80 := o1_80.ext x92; replace o2_80 := o2_80.ext x92; have n98 := Nw.ext e90 n92; have e97 := e90.trans x92; obtain ⟨c100, hc100, H79⟩ := bsi H79; refine wln rfl rfl (stp_storeA [] [(bp g82), v7_78, (bp g1), (bp g4)] rfl A78 rfl rfl (lenA_eq hc100) (lenA_eq hc91) o92 one_u32 ?_); intro w99 o99 g99 l99; replace o88 := o88.other g99 q93; replace o0_80 := o0_80.other (Sc.stab _) g99 q94 l99; replace o1_80 := o1_80.other g99 q95; replace o2_80 := o2_80.other g99 q96; have e101 := e97.grown g99 n98; refine wnt <| W_seq <| W_seq <| W_rg <| av (i64 0) rfl rfl <| wnt <| ?_; obtain ⟨x102, G102, H79⟩ := bsi H79; refine W_mid (fun f w => f 3 = (bp g1) ∧ f 4 = (bp g4) ∧ f 7 = v7_78 ∧ f 9 = (i64 s79.2) ∧ f 11 = (bp g92) ∧ f 288 = undef ∧ Ext w0 w ∧ OwK (Sc u8) w [v7_78, (bp g1), (bp g4), (bp g92)] 5 v7_78 x66 ∧ Nw w0 v7_78 ∧ Blk w g1 90 (ac u32 x16.1) ∧ Nw w0 (bp g1) ∧ Blk w g4 78 (ac u32 s79.1) ∧ Nw w0 (bp g4) ∧ Blk w g92 78 (ac u32 x102) ∧ Nw w0 (bp g92) ∧ Nq v7_78 (bp g1) ∧ Nq v7_78 (bp g4) ∧ Nq v7_78 (bp g92) ∧ Nq (bp g1) (bp g4) ∧ Nq (bp g1) (bp g92) ∧ Nq (bp g4) (bp g92)) ?_ ?_
      · refine W_block ?_; refine W_loop (fun s102 f w => f 3 = (bp g1) ∧ f 4 = (bp g4) ∧ f 7 = v7_78 ∧ f 9 = (i64 s79.2) ∧ f 10 = (bp g82) ∧ f 11 = (bp g92) ∧ f 12 = (i64 s102.2.2) ∧ f 288 = undef ∧ Ext w0 w ∧ OwK (Sc u8) w [v7_78, (bp g1), (bp g4), (bp g82), (bp g92)] 5 v7_78 x66 ∧ Nw w0 v7_78 ∧ Blk w g1 90 (ac u32 x16.1) ∧ Nw w0 (bp g1) ∧ Blk w g4 78 (ac u32 s79.1) ∧ Nw w0 (bp g4) ∧ Blk w g82 90 (ac u32 s102.1) ∧ Nw w0 (bp g82) ∧ Blk w g92 78 (ac u32 s102.2.1) ∧ Nw w0 (bp g92) ∧ Nq v7_78 (bp g1) ∧ Nq v7_78 (bp g4) ∧ Nq v7_78 (bp g82) ∧ Nq v7_78 (bp g92) ∧ Nq (bp g1) (bp g4) ∧ Nq (bp g1) (bp g82) ∧ Nq (bp g1) (bp g92) ∧ Nq (bp g4) (bp g82) ∧ Nq (bp g4) (bp g92) ∧ Nq (bp g82) (bp g92)) G102 ?_ ?_
        · exact ⟨s3_80, s4_80, s7_80, s9_80, rfl, rfl, rfl, s288_80, e101, (o0_80.weak (Sc.stab _) (fun _ h => ⟨h.2.2.1, h.2.2.2.1, h.2.2.2.2.1, h.2.1, h.1, trivial⟩)), n0_80, o1_80, n1_80, o2_80, n2_80, o88, n87, o99, n98, q0_1_80, q0_2_80, q83, q94, q1_2_80, q84, q95, q85, q96, q93⟩
        rintro s102 _ _ w103 ⟨s3_103, s4_103, s7_103, s9_103, s10_103, s11_103, s12_103, s288_103, hE103, o0_103, n0_103, o1_103, n1_103, o2_103, n2_103, o3_103, n3_103, o4_103, n4_103, q0_1_103, q0_2_103, q0_3_103, q0_4_103, q1_2_103, q1_3_103, q1_4_103, q2_3_103, q2_4_103, q3_4_103⟩ H102 hr102; refine W_seq <| W_seq <| W_rg <| mv (i64 s102.2.2) rfl s12_103 <| wa rfl (q_ltI rfl rfl rfl) <| wnt <| ?_; refine W_cond _ rfl rfl (fun hb104 => ?_) (fun hb104 => ?_)
        · replace H102 := ifp hb104 H102; refine W_skip <| W_th <| W_seq <| W_block <| W_seq <| ?_; obtain ⟨x105, H105, H102⟩ := bsi H102; refine W_mid (fun f w => f 3 = (bp g1) ∧ f 4 = (bp g4) ∧ f 7 = v7_78 ∧ f 9 = (i64 s79.2) ∧ f 10 = (bp g82) ∧ f 11 = (bp g92) ∧ f 12 = (i64 s102.2.2) ∧ f 288 = undef ∧ Ext w0 w ∧ OwK (Sc u8) w [v7_78, (bp g1), (bp g4), (bp g82), (bp g92)] 5 v7_78 x66 ∧ Nw w0 v7_78 ∧ Blk w g1 90 (ac u32 x16.1) ∧ Nw w0 (bp g1) ∧ Blk w g4 78 (ac u32 s79.1) ∧ Nw w0 (bp g4) ∧ Blk w g82 90 (ac u32 x105) ∧ Nw w0 (bp g82) ∧ Blk w g92 78 (ac u32 s102.2.1) ∧ Nw w0 (bp g92) ∧ Nq v7_78 (bp g1) ∧ Nq v7_78 (bp g4) ∧ Nq v7_78 (bp g82) ∧ Nq v7_78 (bp g92) ∧ Nq (bp g1) (bp g4) ∧ Nq (bp g1) (bp g82) ∧ Nq (bp g1) (bp g92) ∧ Nq (bp g4) (bp g82) ∧ Nq (bp g4) (bp g92) ∧ Nq (bp g82) (bp g92)) ?_ ?_
          · refine W_seq <| W_rg <| mv (i64 s102.2.2) rfl s12_103 <| wa rfl (q_ltI rfl rfl rfl) <| wnt <| ?_; refine W_cond _ rfl rfl (fun hb106 => ?_) (fun hb106 => ?_)
            · replace H105 := ifp hb106 H105; refine W_draw [7, 17, 28, 39] [(0, 0), (1, 0), (2, 0), (3, 0), (4, 0), (5, 0), (6, 0), (7, 1), (8, 0), (9, 0), (10, 0), (11, 0), (12, 0), (13, 0), (14, 0), (15, 0), (16, 0), (17, 1), (18, 0), (19, 0), (20, 0), (21, 0), (22, 0), (23, 0), (24, 0), (25, 0), (26, 0), (27, 0), (28, 1), (29, 0), (30, 0), (31, 0), (32, 0), (33, 0), (34, 0), (35, 0), (36, 0), (37, 0), (38, 0), (39, 1), (40, 0), (41, 0), (42, 0), (43, 2)] mixed (by kernel_rfl) (by kernel_rfl) (by kernel_rfl) (by kernel_rfl) ?_; have x107 := Ext.drew w103; replace o0_103 := o0_103.extL (Sc.stab _) x107 (Lift.ext x107 _); replace o1_103 := o1_103.ext x107; replace o2_103 := o2_103.ext x107; replace o3_103 := o3_103.ext x107; replace o4_103 := o4_103.ext x107; have e108 := hE103.trans x107; refine sv (i64 s102.2.2) rfl rfl s12_103 <| sv v7_78 rfl rfl s7_103 <| sv (i64 s79.2) rfl rfl s9_103 <| sv (i64 s102.2.2) rfl rfl s12_103 <| sa rfl rfl (q_mulI rfl rfl rfl) <| sa rfl rfl (q_addI rfl rfl rfl) <| ?_; obtain ⟨c109, hc109, H105⟩ := bsi H105; refine sa rfl rfl (q_adr rfl T22 rfl rfl (o0_103.rd (Sc.stab _)) hc109) <| sq rfl rfl (q_loadS rfl T22 rfl (o0_103.rd (Sc.stab _)) hc109) <| sa rfl rfl (q_cvt328 rfl rfl rfl rfl) <| sa rfl rfl (q_shl32 24 rfl rfl rfl rfl) <| sv v7_78 rfl rfl s7_103 <| sv (i64 s79.2) rfl rfl s9_103 <| sv (i64 s102.2.2) rfl rfl s12_103 <| sa rfl rfl (q_mulI rfl rfl rfl) <| ?_; refine sa rfl rfl (q_addI rfl rfl rfl) <| sa rfl rfl (q_addI rfl rfl rfl) <| ?_; obtain ⟨c110, hc110, H105⟩ := bsi H105; refine sa rfl rfl (q_adr rfl T22 rfl rfl (o0_103.rd (Sc.stab _)) hc110) <| sq rfl rfl (q_loadS rfl T22 rfl (o0_103.rd (Sc.stab _)) hc110) <| sa rfl rfl (q_cvt328 rfl rfl rfl rfl) <| sa rfl rfl (q_shl32 16 rfl rfl rfl rfl) <| sa rfl rfl (q_or32 rfl rfl rfl) <| sv v7_78 rfl rfl s7_103 <| sv (i64 s79.2) rfl rfl s9_103 <| sv (i64 s102.2.2) rfl rfl s12_103 <| ?_; refine sa rfl rfl (q_mulI rfl rfl rfl) <| sa rfl rfl (q_addI rfl rfl rfl) <| sa rfl rfl (q_addI rfl rfl rfl) <| ?_; obtain ⟨c111, hc111, H105⟩ := bsi H105; refine sa rfl rfl (q_adr rfl T22 rfl rfl (o0_103.rd (Sc.stab _)) hc111) <| sq rfl rfl (q_loadS rfl T22 rfl (o0_103.rd (Sc.stab _)) hc111) <| sa rfl rfl (q_cvt328 rfl rfl rfl rfl) <| sa rfl rfl (q_shl32 8 rfl rfl rfl rfl) <| sa rfl rfl (q_or32 rfl rfl rfl) <| sv v7_78 rfl rfl s7_103 <| ?_
              refine sv (i64 s79.2) rfl rfl s9_103 <| sv (i64 s102.2.2) rfl rfl s12_103 <| sa rfl rfl (q_mulI rfl rfl rfl) <| sa rfl rfl (q_addI rfl rfl rfl) <| sa rfl rfl (q_addI rfl rfl rfl) <| ?_; obtain ⟨c112, hc112, H105⟩ := bsi H105; refine sa rfl rfl (q_adr rfl T22 rfl rfl (o0_103.rd (Sc.stab _)) hc112) <| sq rfl rfl (q_loadS rfl T22 rfl (o0_103.rd (Sc.stab _)) hc112) <| sa rfl rfl (q_cvt328 rfl rfl rfl rfl) <| sa rfl rfl (q_or32 rfl rfl rfl) <| ?_; obtain ⟨c113, hc113, H105⟩ := bsi H105; obtain ⟨c114, hc114, H105⟩ := bsi H105; refine sa rfl rfl (q_ixA (m := 0) rfl A90 (by exact s10_103) rfl (lenA_eq hc113) hc114) ?_; refine wsn rfl (by kernel_rfl) rfl rfl (stp_storeX (b := ((((shl32 ((c109.toUInt32)) 24) ||| (shl32 ((c110.toUInt32)) 16)) ||| (shl32 ((c111.toUInt32)) 8)) ||| (c112.toUInt32))) [v7_78, (bp g1), (bp g4)] [(bp g92)] rfl A90 rfl rfl o3_103 hc114 (one_u32 _) ?_); intro w115 o115 g115 l115; replace o0_103 := o0_103.other (Sc.stab _) g115 q0_3_103 l115; replace o1_103 := o1_103.other g115 q1_3_103; replace o2_103 := o2_103.other g115 q2_3_103; replace o4_103 := o4_103.other g115 q3_4_103.symm; have e116 := e108.grown g115 n3_103; refine ws_nil ?_; obtain rfl := osi H105; exact ⟨s3_103, s4_103, s7_103, s9_103, s10_103, s11_103, s12_103, s288_103, e116, o0_103, n0_103, o1_103, n1_103, o2_103, n2_103, o115, n3_103, o4_103, n4_103, q0_1_103, q0_2_103, q0_3_103, q0_4_103, q1_2_103, q1_3_103, q1_4_103, q2_3_103, q2_4_103, q3_4_103⟩
            replace H105 := ifn hb106 H105; refine W_draw [4, 9, 15, 21, 26, 31, 37, 44] [(0, 0), (1, 0), (2, 0), (3, 0), (4, 1), (6, 0), (7, 0), (8, 0), (9, 1), (12, 0), (13, 0), (14, 0), (15, 1), (16, 0), (18, 0), (19, 0), (20, 0), (21, 1), (23, 0), (24, 0), (25, 0), (26, 1), (28, 0), (29, 0), (30, 0), (31, 1), (34, 0), (35, 0), (36, 0), (37, 1), (38, 0), (41, 0), (42, 0), (43, 0), (44, 1), (5, 2), (10, 2), (11, 0), (17, 0), (22, 0), (27, 2), (32, 2), (33, 0), (39, 0), (40, 0), (45, 0), (46, 0), (47, 2)] mixed (by kernel_rfl) (by kernel_rfl) (by kernel_rfl) (by kernel_rfl) ?_; have x117 := Ext.drew w103; replace o0_103 := o0_103.extL (Sc.stab _) x117 (Lift.ext x117 _); replace o1_103 := o1_103.ext x117; replace o2_103 := o2_103.ext x117; replace o3_103 := o3_103.ext x117; replace o4_103 := o4_103.ext x117; have e118 := hE103.trans x117; refine sv (i64 s102.2.2) rfl rfl s12_103 <| sv (i64 s102.2.2) rfl rfl s12_103 <| sa rfl rfl (q_subI rfl rfl rfl) <| ?_; obtain ⟨c119, hc119, H105⟩ := bsi H105; obtain ⟨c120, hc120, H105⟩ := bsi H105; refine sa rfl rfl (q_ixA (m := 0) rfl A90 (by exact s10_103) rfl (lenA_eq hc119) hc120) <| sq rfl rfl (q_loadE (m := 0) rfl A90 rfl o3_103 (seg_self _ _) hc120) <| sv (i64 s102.2.2) rfl rfl s12_103 <| sa rfl rfl (q_subI rfl rfl rfl) <| sa rfl rfl (q_ixA (m := 0) rfl A90 (by exact s10_103) rfl (lenA_eq hc119) hc120) <| sq rfl rfl (q_loadE (m := 0) rfl A90 rfl o3_103 (seg_self _ _) hc120) <| sv (i64 s102.2.2) rfl rfl s12_103 <| sa rfl rfl (q_subI rfl rfl rfl) <| ?_; refine sa rfl rfl (q_ixA (m := 0) rfl A90 (by exact s10_103) rfl (lenA_eq hc119) hc120) <| sq rfl rfl (q_loadE (m := 0) rfl A90 rfl o3_103 (seg_self _ _) hc120) <| sa rfl rfl (q_shr32 10 rfl rfl rfl rfl) <| sv (i64 s102.2.2) rfl rfl s12_103 <| sa rfl rfl (q_subI rfl rfl rfl) <| ?_; obtain ⟨c121, hc121, H105⟩ := bsi H105; refine sa rfl rfl (q_ixA (m := 0) rfl A90 (by exact s10_103) rfl (lenA_eq hc119) hc121) <| sq rfl rfl (q_loadE (m := 0) rfl A90 rfl o3_103 (seg_self _ _) hc121) <| sv (i64 s102.2.2) rfl rfl s12_103 <| sa rfl rfl (q_subI rfl rfl rfl) <| ?_; obtain ⟨c122, hc122, H105⟩ := bsi H105; refine sa rfl rfl (q_ixA (m := 0) rfl A90 (by exact s10_103) rfl (lenA_eq hc119) hc122) <| sq rfl rfl (q_loadE (m := 0) rfl A90 rfl o3_103 (seg_self _ _) hc122) <| sv (i64 s102.2.2) rfl rfl s12_103 <| sa rfl rfl (q_subI rfl rfl rfl) <| sa rfl rfl (q_ixA (m := 0) rfl A90 (by exact s10_103) rfl (lenA_eq hc119) hc122) <| sq rfl rfl (q_loadE (m := 0) rfl A90 rfl o3_103 (seg_self _ _) hc122) <| ?_
            refine sv (i64 s102.2.2) rfl rfl s12_103 <| sa rfl rfl (q_subI rfl rfl rfl) <| sa rfl rfl (q_ixA (m := 0) rfl A90 (by exact s10_103) rfl (lenA_eq hc119) hc122) <| sq rfl rfl (q_loadE (m := 0) rfl A90 rfl o3_103 (seg_self _ _) hc122) <| sa rfl rfl (q_shr32 3 rfl rfl rfl rfl) <| sv (i64 s102.2.2) rfl rfl s12_103 <| sa rfl rfl (q_subI rfl rfl rfl) <| ?_; obtain ⟨c123, hc123, H105⟩ := bsi H105; refine sa rfl rfl (q_ixA (m := 0) rfl A90 (by exact s10_103) rfl (lenA_eq hc119) hc123) <| sq rfl rfl (q_loadE (m := 0) rfl A90 rfl o3_103 (seg_self _ _) hc123) <| ?_; obtain ⟨r124, hr124, H105⟩ := bsi H105; refine wss rfl rfl rfl (stp_call (vs := [(u32 c120), (i64 17)]) Try.func65 rfl rfl rfl (ar2 rfl rfl) (ref07_turn_calls c120 17  r124 _  hr124) ?_); rintro _ w124 ⟨rfl, x124⟩; refine ⟨_, rfl, x124, ?_⟩; replace o0_103 := o0_103.extL (Sc.stab _) x124 (Lift.ext x124 _); replace o1_103 := o1_103.ext x124; replace o2_103 := o2_103.ext x124; replace o3_103 := o3_103.ext x124; replace o4_103 := o4_103.ext x124; have e125 := e118.trans x124; obtain ⟨r126, hr126, H105⟩ := bsi H105; refine wss rfl rfl rfl (stp_call (vs := [(u32 c120), (i64 19)]) Try.func65 rfl rfl rfl (ar2 rfl rfl) (ref07_turn_calls c120 19  r126 _  hr126) ?_); rintro _ w126 ⟨rfl, x126⟩; refine ⟨_, rfl, x126, ?_⟩; replace o0_103 := o0_103.extL (Sc.stab _) x126 (Lift.ext x126 _); replace o1_103 := o1_103.ext x126; replace o2_103 := o2_103.ext x126; replace o3_103 := o3_103.ext x126; replace o4_103 := o4_103.ext x126; have e127 := e125.trans x126; refine sa rfl rfl (q_xor32 rfl rfl rfl) <| sa rfl rfl (q_xor32 rfl rfl rfl) <| sa rfl rfl (q_add32 rfl rfl rfl) <| ?_; obtain ⟨r128, hr128, H105⟩ := bsi H105; refine wss rfl rfl rfl (stp_call (vs := [(u32 c122), (i64 7)]) Try.func65 rfl rfl rfl (ar2 rfl rfl) (ref07_turn_calls c122 7  r128 _  hr128) ?_); rintro _ w128 ⟨rfl, x128⟩; refine ⟨_, rfl, x128, ?_⟩; replace o0_103 := o0_103.extL (Sc.stab _) x128 (Lift.ext x128 _); replace o1_103 := o1_103.ext x128; replace o2_103 := o2_103.ext x128; replace o3_103 := o3_103.ext x128; replace o4_103 := o4_103.ext x128; have e129 := e127.trans x128; obtain ⟨r130, hr130, H105⟩ := bsi H105; refine wss rfl rfl rfl (stp_call (vs := [(u32 c122), (i64 18)]) Try.func65 rfl rfl rfl (ar2 rfl rfl) (ref07_turn_calls c122 18  r130 _  hr130) ?_); rintro _ w130 ⟨rfl, x130⟩; refine ⟨_, rfl, x130, ?_⟩; replace o0_103 := o0_103.extL (Sc.stab _) x130 (Lift.ext x130 _); replace o1_103 := o1_103.ext x130; replace o2_103 := o2_103.ext x130; replace o3_103 := o3_103.ext x130; replace o4_103 := o4_103.ext x130; have e131 := e129.trans x130; refine sa rfl rfl (q_xor32 rfl rfl rfl) <| sa rfl rfl (q_xor32 rfl rfl rfl) <| sa rfl rfl (q_add32 rfl rfl rfl) <| ?_
            refine sa rfl rfl (q_add32 rfl rfl rfl) ?_; obtain ⟨c132, hc132, H105⟩ := bsi H105; refine sa rfl rfl (q_ixA (m := 0) rfl A90 (by exact s10_103) rfl (lenA_eq hc119) hc132) ?_; refine wsn rfl (by kernel_rfl) rfl rfl (stp_storeX (b := (((((r124 ^^^ r126) ^^^ (shr32 c120 10)) + c121) + ((r128 ^^^ r130) ^^^ (shr32 c122 3))) + c123)) [v7_78, (bp g1), (bp g4)] [(bp g92)] rfl A90 rfl rfl o3_103 hc132 (one_u32 _) ?_); intro w133 o133 g133 l133; replace o0_103 := o0_103.other (Sc.stab _) g133 q0_3_103 l133; replace o1_103 := o1_103.other g133 q1_3_103; replace o2_103 := o2_103.other g133 q2_3_103; replace o4_103 := o4_103.other g133 q3_4_103.symm; have e134 := e131.grown g133 n3_103; refine ws_nil ?_; obtain rfl := osi H105; exact ⟨s3_103, s4_103, s7_103, s9_103, s10_103, s11_103, s12_103, s288_103, e134, o0_103, n0_103, o1_103, n1_103, o2_103, n2_103, o133, n3_103, o4_103, n4_103, q0_1_103, q0_2_103, q0_3_103, q0_4_103, q1_2_103, q1_3_103, q1_4_103, q2_3_103, q2_4_103, q3_4_103⟩
          rintro _ w135 ⟨s3_135, s4_135, s7_135, s9_135, s10_135, s11_135, s12_135, s288_135, hE135, o0_135, n0_135, o1_135, n1_135, o2_135, n2_135, o3_135, n3_135, o4_135, n4_135, q0_1_135, q0_2_135, q0_3_135, q0_4_135, q1_2_135, q1_3_135, q1_4_135, q2_3_135, q2_4_135, q3_4_135⟩; refine W_th <| W_seq <| ?_; refine W_draw [1, 3, 6, 10, 15, 17, 20, 23, 29, 33] [(0, 0), (1, 1), (2, 0), (3, 1), (5, 0), (6, 1), (9, 0), (10, 1), (14, 0), (15, 1), (16, 0), (17, 1), (18, 0), (19, 0), (20, 1), (21, 0), (22, 0), (23, 1), (24, 0), (25, 0), (27, 0), (28, 0), (29, 1), (31, 0), (32, 0), (33, 1), (4, 2), (7, 2), (8, 0), (11, 2), (12, 0), (13, 0), (26, 0), (30, 0), (34, 0), (35, 0)] mixed (by kernel_rfl) (by kernel_rfl) (by kernel_rfl) (by kernel_rfl) ?_; have x136 := Ext.drew w135; replace o0_135 := o0_135.extL (Sc.stab _) x136 (Lift.ext x136 _); replace o1_135 := o1_135.ext x136; replace o2_135 := o2_135.ext x136; replace o3_135 := o3_135.ext x136; replace o4_135 := o4_135.ext x136; have e137 := hE135.trans x136; obtain ⟨c138, hc138, H102⟩ := bsi H102; obtain ⟨c139, hc139, H102⟩ := bsi H102; refine sa rfl rfl (q_ixA (m := 0) rfl A78 (by exact s11_135) rfl (lenA_eq hc138) hc139) <| sq rfl rfl (q_loadE (m := 0) rfl A78 rfl o4_135 (seg_self _ _) hc139) <| ?_; obtain ⟨c140, hc140, H102⟩ := bsi H102; refine sa rfl rfl (q_ixA (m := 0) rfl A78 (by exact s11_135) rfl (lenA_eq hc138) hc140) <| sq rfl rfl (q_loadE (m := 0) rfl A78 rfl o4_135 (seg_self _ _) hc140) <| sa rfl rfl (q_ixA (m := 0) rfl A78 (by exact s11_135) rfl (lenA_eq hc138) hc140) <| sq rfl rfl (q_loadE (m := 0) rfl A78 rfl o4_135 (seg_self _ _) hc140) <| sa rfl rfl (q_ixA (m := 0) rfl A78 (by exact s11_135) rfl (lenA_eq hc138) hc140) <| sq rfl rfl (q_loadE (m := 0) rfl A78 rfl o4_135 (seg_self _ _) hc140) <| sa rfl rfl (q_ixA (m := 0) rfl A78 (by exact s11_135) rfl (lenA_eq hc138) hc140) <| sq rfl rfl (q_loadE (m := 0) rfl A78 rfl o4_135 (seg_self _ _) hc140) <| ?_; obtain ⟨c141, hc141, H102⟩ := bsi H102; refine sa rfl rfl (q_ixA (m := 0) rfl A78 (by exact s11_135) rfl (lenA_eq hc138) hc141) <| sq rfl rfl (q_loadE (m := 0) rfl A78 rfl o4_135 (seg_self _ _) hc141) <| sa rfl rfl (q_and32 rfl rfl rfl) <| sa rfl rfl (q_ixA (m := 0) rfl A78 (by exact s11_135) rfl (lenA_eq hc138) hc140) <| sq rfl rfl (q_loadE (m := 0) rfl A78 rfl o4_135 (seg_self _ _) hc140) <| sa rfl rfl (q_not32 rfl rfl) <| ?_; obtain ⟨c142, hc142, H102⟩ := bsi H102; refine sa rfl rfl (q_ixA (m := 0) rfl A78 (by exact s11_135) rfl (lenA_eq hc138) hc142) <| sq rfl rfl (q_loadE (m := 0) rfl A78 rfl o4_135 (seg_self _ _) hc142) <| sa rfl rfl (q_and32 rfl rfl rfl) <| sa rfl rfl (q_xor32 rfl rfl rfl) <| sv (i64 s102.2.2) rfl rfl s12_135 <| ?_
          obtain ⟨c143, hc143, H102⟩ := bsi H102; obtain ⟨c144, hc144, H102⟩ := bsi H102; refine sa rfl rfl (q_ixA (m := 0) rfl A90 (by exact s3_135) rfl (lenA_eq hc143) hc144) <| sq rfl rfl (q_loadE (m := 0) rfl A90 rfl o1_135 (seg_self _ _) hc144) <| sv (i64 s102.2.2) rfl rfl s12_135 <| ?_; obtain ⟨c145, hc145, H102⟩ := bsi H102; obtain ⟨c146, hc146, H102⟩ := bsi H102; refine sa rfl rfl (q_ixA (m := 0) rfl A90 (by exact s10_135) rfl (lenA_eq hc145) hc146) <| sq rfl rfl (q_loadE (m := 0) rfl A90 rfl o3_135 (seg_self _ _) hc146) <| ?_; obtain ⟨r147, hr147, H102⟩ := bsi H102; refine wss rfl rfl rfl (stp_call (vs := [(u32 c140), (i64 6)]) Try.func65 rfl rfl rfl (ar2 rfl rfl) (ref07_turn_calls c140 6  r147 _  hr147) ?_); rintro _ w147 ⟨rfl, x147⟩; refine ⟨_, rfl, x147, ?_⟩; replace o0_135 := o0_135.extL (Sc.stab _) x147 (Lift.ext x147 _); replace o1_135 := o1_135.ext x147; replace o2_135 := o2_135.ext x147; replace o3_135 := o3_135.ext x147; replace o4_135 := o4_135.ext x147; have e148 := e137.trans x147; obtain ⟨r149, hr149, H102⟩ := bsi H102; refine wss rfl rfl rfl (stp_call (vs := [(u32 c140), (i64 11)]) Try.func65 rfl rfl rfl (ar2 rfl rfl) (ref07_turn_calls c140 11  r149 _  hr149) ?_); rintro _ w149 ⟨rfl, x149⟩; refine ⟨_, rfl, x149, ?_⟩; replace o0_135 := o0_135.extL (Sc.stab _) x149 (Lift.ext x149 _); replace o1_135 := o1_135.ext x149; replace o2_135 := o2_135.ext x149; replace o3_135 := o3_135.ext x149; replace o4_135 := o4_135.ext x149; have e150 := e148.trans x149; refine sa rfl rfl (q_xor32 rfl rfl rfl) ?_; obtain ⟨r151, hr151, H102⟩ := bsi H102; refine wss rfl rfl rfl (stp_call (vs := [(u32 c140), (i64 25)]) Try.func65 rfl rfl rfl (ar2 rfl rfl) (ref07_turn_calls c140 25  r151 _  hr151) ?_); rintro _ w151 ⟨rfl, x151⟩; refine ⟨_, rfl, x151, ?_⟩; replace o0_135 := o0_135.extL (Sc.stab _) x151 (Lift.ext x151 _); replace o1_135 := o1_135.ext x151; replace o2_135 := o2_135.ext x151; replace o3_135 := o3_135.ext x151; replace o4_135 := o4_135.ext x151; have e152 := e150.trans x151; refine sa rfl rfl (q_xor32 rfl rfl rfl) <| sa rfl rfl (q_add32 rfl rfl rfl) <| sa rfl rfl (q_add32 rfl rfl rfl) <| sa rfl rfl (q_add32 rfl rfl rfl) <| sa rfl rfl (q_add32 rfl rfl rfl) <| sa rfl rfl (q_assign (v := (u32 (((((c139 + ((r147 ^^^ r149) ^^^ r151)) + ((c140 &&& c141) ^^^ (((4294967295 : UInt32) ^^^ c140) &&& c142))) + c144) + c146)))) rfl rfl) <| ?_; refine ws_nil ?_; refine W_th <| W_seq <| ?_; refine W_draw [1, 4, 8, 12, 14, 17, 19, 23, 25] [(0, 0), (1, 1), (3, 0), (4, 1), (7, 0), (8, 1), (11, 0), (12, 1), (13, 0), (14, 1), (15, 0), (16, 0), (17, 1), (18, 0), (19, 1), (20, 0), (21, 0), (22, 0), (23, 1), (24, 0), (25, 1), (26, 0), (27, 0), (2, 2), (5, 2), (6, 0), (9, 2), (10, 0), (28, 0), (29, 0)] mixed (by kernel_rfl) (by kernel_rfl) (by kernel_rfl) (by kernel_rfl) ?_
          have x153 := Ext.drew w151; replace o0_135 := o0_135.extL (Sc.stab _) x153 (Lift.ext x153 _); replace o1_135 := o1_135.ext x153; replace o2_135 := o2_135.ext x153; replace o3_135 := o3_135.ext x153; replace o4_135 := o4_135.ext x153; have e154 := e152.trans x153; obtain ⟨c155, hc155, H102⟩ := bsi H102; obtain ⟨c156, hc156, H102⟩ := bsi H102; refine sa rfl rfl (q_ixA (m := 0) rfl A78 (by exact s11_135) rfl (lenA_eq hc155) hc156) <| sq rfl rfl (q_loadE (m := 0) rfl A78 rfl o4_135 (seg_self _ _) hc156) <| sa rfl rfl (q_ixA (m := 0) rfl A78 (by exact s11_135) rfl (lenA_eq hc155) hc156) <| sq rfl rfl (q_loadE (m := 0) rfl A78 rfl o4_135 (seg_self _ _) hc156) <| sa rfl rfl (q_ixA (m := 0) rfl A78 (by exact s11_135) rfl (lenA_eq hc155) hc156) <| sq rfl rfl (q_loadE (m := 0) rfl A78 rfl o4_135 (seg_self _ _) hc156) <| sa rfl rfl (q_ixA (m := 0) rfl A78 (by exact s11_135) rfl (lenA_eq hc155) hc156) <| sq rfl rfl (q_loadE (m := 0) rfl A78 rfl o4_135 (seg_self _ _) hc156) <| ?_; obtain ⟨c157, hc157, H102⟩ := bsi H102; refine sa rfl rfl (q_ixA (m := 0) rfl A78 (by exact s11_135) rfl (lenA_eq hc155) hc157) <| sq rfl rfl (q_loadE (m := 0) rfl A78 rfl o4_135 (seg_self _ _) hc157) <| sa rfl rfl (q_and32 rfl rfl rfl) <| sa rfl rfl (q_ixA (m := 0) rfl A78 (by exact s11_135) rfl (lenA_eq hc155) hc156) <| sq rfl rfl (q_loadE (m := 0) rfl A78 rfl o4_135 (seg_self _ _) hc156) <| ?_; obtain ⟨c158, hc158, H102⟩ := bsi H102; refine sa rfl rfl (q_ixA (m := 0) rfl A78 (by exact s11_135) rfl (lenA_eq hc155) hc158) <| sq rfl rfl (q_loadE (m := 0) rfl A78 rfl o4_135 (seg_self _ _) hc158) <| sa rfl rfl (q_and32 rfl rfl rfl) <| sa rfl rfl (q_xor32 rfl rfl rfl) <| sa rfl rfl (q_ixA (m := 0) rfl A78 (by exact s11_135) rfl (lenA_eq hc155) hc157) <| sq rfl rfl (q_loadE (m := 0) rfl A78 rfl o4_135 (seg_self _ _) hc157) <| sa rfl rfl (q_ixA (m := 0) rfl A78 (by exact s11_135) rfl (lenA_eq hc155) hc158) <| sq rfl rfl (q_loadE (m := 0) rfl A78 rfl o4_135 (seg_self _ _) hc158) <| ?_; refine sa rfl rfl (q_and32 rfl rfl rfl) <| sa rfl rfl (q_xor32 rfl rfl rfl) <| ?_; obtain ⟨r159, hr159, H102⟩ := bsi H102; refine wss rfl rfl rfl (stp_call (vs := [(u32 c156), (i64 2)]) Try.func65 rfl rfl rfl (ar2 rfl rfl) (ref07_turn_calls c156 2  r159 _  hr159) ?_); rintro _ w159 ⟨rfl, x159⟩; refine ⟨_, rfl, x159, ?_⟩; replace o0_135 := o0_135.extL (Sc.stab _) x159 (Lift.ext x159 _); replace o1_135 := o1_135.ext x159; replace o2_135 := o2_135.ext x159; replace o3_135 := o3_135.ext x159; replace o4_135 := o4_135.ext x159; have e160 := e154.trans x159; obtain ⟨r161, hr161, H102⟩ := bsi H102; refine wss rfl rfl rfl (stp_call (vs := [(u32 c156), (i64 13)]) Try.func65 rfl rfl rfl (ar2 rfl rfl) (ref07_turn_calls c156 13  r161 _  hr161) ?_)
          rintro _ w161 ⟨rfl, x161⟩; refine ⟨_, rfl, x161, ?_⟩; replace o0_135 := o0_135.extL (Sc.stab _) x161 (Lift.ext x161 _); replace o1_135 := o1_135.ext x161; replace o2_135 := o2_135.ext x161; replace o3_135 := o3_135.ext x161; replace o4_135 := o4_135.ext x161; have e162 := e160.trans x161; refine sa rfl rfl (q_xor32 rfl rfl rfl) ?_; obtain ⟨r163, hr163, H102⟩ := bsi H102; refine wss rfl rfl rfl (stp_call (vs := [(u32 c156), (i64 22)]) Try.func65 rfl rfl rfl (ar2 rfl rfl) (ref07_turn_calls c156 22  r163 _  hr163) ?_); rintro _ w163 ⟨rfl, x163⟩; refine ⟨_, rfl, x163, ?_⟩; replace o0_135 := o0_135.extL (Sc.stab _) x163 (Lift.ext x163 _); replace o1_135 := o1_135.ext x163; replace o2_135 := o2_135.ext x163; replace o3_135 := o3_135.ext x163; replace o4_135 := o4_135.ext x163; have e164 := e162.trans x163; refine sa rfl rfl (q_xor32 rfl rfl rfl) <| sa rfl rfl (q_add32 rfl rfl rfl) <| sa rfl rfl (q_assign (v := (u32 ((((r159 ^^^ r161) ^^^ r163) + (((c156 &&& c157) ^^^ (c156 &&& c158)) ^^^ (c157 &&& c158)))))) rfl rfl) <| ?_; refine ws_nil ?_; refine W_th <| W_rg <| mv (u32 (((((c139 + ((r147 ^^^ r149) ^^^ r151)) + ((c140 &&& c141) ^^^ (((4294967295 : UInt32) ^^^ c140) &&& c142))) + c144) + c146))) rfl rfl <| mv (u32 ((((r159 ^^^ r161) ^^^ r163) + (((c156 &&& c157) ^^^ (c156 &&& c158)) ^^^ (c157 &&& c158))))) rfl rfl <| wa rfl (q_add32 rfl rfl rfl) <| ?_; obtain ⟨c165, hc165, H102⟩ := bsi H102; obtain ⟨c166, hc166, H102⟩ := bsi H102; refine wa rfl (q_ixA (m := 0) rfl A78 (by exact s11_135) rfl (lenA_eq hc165) hc166) <| wq rfl (q_loadE (m := 0) rfl A78 rfl o4_135 (seg_self _ _) hc166) <| ?_; obtain ⟨c167, hc167, H102⟩ := bsi H102; refine wa rfl (q_ixA (m := 0) rfl A78 (by exact s11_135) rfl (lenA_eq hc165) hc167) <| wq rfl (q_loadE (m := 0) rfl A78 rfl o4_135 (seg_self _ _) hc167) <| ?_; obtain ⟨c168, hc168, H102⟩ := bsi H102; refine wa rfl (q_ixA (m := 0) rfl A78 (by exact s11_135) rfl (lenA_eq hc165) hc168) <| wq rfl (q_loadE (m := 0) rfl A78 rfl o4_135 (seg_self _ _) hc168) <| ?_; obtain ⟨c169, hc169, H102⟩ := bsi H102; refine wa rfl (q_ixA (m := 0) rfl A78 (by exact s11_135) rfl (lenA_eq hc165) hc169) <| wq rfl (q_loadE (m := 0) rfl A78 rfl o4_135 (seg_self _ _) hc169) <| mv (u32 (((((c139 + ((r147 ^^^ r149) ^^^ r151)) + ((c140 &&& c141) ^^^ (((4294967295 : UInt32) ^^^ c140) &&& c142))) + c144) + c146))) rfl rfl <| wa rfl (q_add32 rfl rfl rfl) <| ?_; obtain ⟨c170, hc170, H102⟩ := bsi H102; refine wa rfl (q_ixA (m := 0) rfl A78 (by exact s11_135) rfl (lenA_eq hc165) hc170) <| wq rfl (q_loadE (m := 0) rfl A78 rfl o4_135 (seg_self _ _) hc170) <| ?_
          obtain ⟨c171, hc171, H102⟩ := bsi H102; refine wa rfl (q_ixA (m := 0) rfl A78 (by exact s11_135) rfl (lenA_eq hc165) hc171) <| wq rfl (q_loadE (m := 0) rfl A78 rfl o4_135 (seg_self _ _) hc171) <| ?_; obtain ⟨c172, hc172, H102⟩ := bsi H102; refine wa rfl (q_ixA (m := 0) rfl A78 (by exact s11_135) rfl (lenA_eq hc165) hc172) <| wq rfl (q_loadE (m := 0) rfl A78 rfl o4_135 (seg_self _ _) hc172) <| wa rfl (q_buildAF (l := ([(((((c139 + ((r147 ^^^ r149) ^^^ r151)) + ((c140 &&& c141) ^^^ (((4294967295 : UInt32) ^^^ c140) &&& c142))) + c144) + c146) + (((r159 ^^^ r161) ^^^ r163) + (((c156 &&& c157) ^^^ (c156 &&& c158)) ^^^ (c157 &&& c158)))), c166, c167, c168, (c169 + ((((c139 + ((r147 ^^^ r149) ^^^ r151)) + ((c140 &&& c141) ^^^ (((4294967295 : UInt32) ^^^ c140) &&& c142))) + c144) + c146)), c170, c171, c172] : List UInt32)) (us := [(u32 ((((((c139 + ((r147 ^^^ r149) ^^^ r151)) + ((c140 &&& c141) ^^^ (((4294967295 : UInt32) ^^^ c140) &&& c142))) + c144) + c146) + (((r159 ^^^ r161) ^^^ r163) + (((c156 &&& c157) ^^^ (c156 &&& c158)) ^^^ (c157 &&& c158)))))), (u32 c166), (u32 c167), (u32 c168), (u32 ((c169 + ((((c139 + ((r147 ^^^ r149) ^^^ r151)) + ((c140 &&& c141) ^^^ (((4294967295 : UInt32) ^^^ c140) &&& c142))) + c144) + c146)))), (u32 c170), (u32 c171), (u32 c172)]) (z := (0 : UInt32)) rfl A78 Z78 (by exact ⟨rfl, rfl, rfl, rfl, rfl, rfl, rfl, rfl, rfl, rfl, rfl, rfl, rfl, rfl, rfl, rfl, trivial⟩) rfl rfl cel_u32) <| ?_; obtain ⟨c174, hc174, H102⟩ := bsi H102; refine wln rfl rfl (stp_storeA [v7_78, (bp g1), (bp g4), (bp g82)] [] rfl A78 (by exact s11_135) rfl (lenA_eq hc165) (lenA_eq hc174) o4_135 one_u32 ?_); intro w173 o173 g173 l173; replace o0_135 := o0_135.other (Sc.stab _) g173 q0_4_135 l173; replace o1_135 := o1_135.other g173 q1_4_135; replace o2_135 := o2_135.other g173 q2_4_135; replace o3_135 := o3_135.other g173 q3_4_135; have e175 := e164.grown g173 n4_135; refine wl_nil <| bk_n <| W_th <| W_rg <| mv (i64 s102.2.2) rfl s12_135 <| wa rfl (q_addI rfl rfl rfl) <| av (i64 ((wI (s102.2.2 + 1)))) rfl rfl <| wl_nil <| ?_; obtain rfl := osi H102; exact ⟨_, rfl, s3_135, s4_135, s7_135, s9_135, s10_135, s11_135, rfl, s288_135, e175, o0_135, n0_135, o1_135, n1_135, o2_135, n2_135, o3_135, n3_135, o173, n4_135, q0_1_135, q0_2_135, q0_3_135, q0_4_135, q1_2_135, q1_3_135, q1_4_135, q2_3_135, q2_4_135, q3_4_135⟩
        replace H102 := ifn hb104 H102; refine W_exit <| th_x <| ?_; obtain rfl := osi H102; obtain rfl := hr102 _ rfl; refine th_x <| bk_x <| ?_; exact ⟨s3_103, s4_103, s7_103, s9_103, s11_103, s288_103, hE103, (o0_103.weak (Sc.stab _) (fun _ h => ⟨h.1, h.2.1, h.2.2.1, h.2.2.2.2.1, trivial⟩)), n0_103, o1_103, n1_103, o2_103, n2_103, o4_103, n4_103, q0_1_103, q0_2_103, q0_4_103, q1_2_103, q1_4_103, q2_4_103⟩
      rintro _ w178 ⟨s3_178, s4_178, s7_178, s9_178, s11_178, s288_178, hE178, o0_178, n0_178, o1_178, n1_178, o2_178, n2_178, o3_178, n3_178, q0_1_178, q0_2_178, q0_3_178, q1_2_178, q1_3_178, q2_3_178⟩; refine W_th <| W_seq <| W_rg <| mv (i64 0) rfl rfl <| wnt <| ?_; obtain ⟨x179, G179, H79⟩ := bsi H79; refine W_mid (fun f w => f 3 = (bp g1) ∧ f 4 = (bp g4) ∧ f 7 = v7_78 ∧ f 9 = (i64 s79.2) ∧ f 288 = undef ∧ Ext w0 w ∧ OwK (Sc u8) w [v7_78, (bp g1), (bp g4)] 5 v7_78 x66 ∧ Nw w0 v7_78 ∧ Blk w g1 90 (ac u32 x16.1) ∧ Nw w0 (bp g1) ∧ Blk w g4 78 (ac u32 x179) ∧ Nw w0 (bp g4) ∧ Nq v7_78 (bp g1) ∧ Nq v7_78 (bp g4) ∧ Nq (bp g1) (bp g4)) ?_ ?_
      · refine W_block ?_; refine W_loop (fun s179 f w => f 3 = (bp g1) ∧ f 4 = (bp g4) ∧ f 7 = v7_78 ∧ f 9 = (i64 s79.2) ∧ f 11 = (bp g92) ∧ f 254 = (i64 s179.2) ∧ f 288 = undef ∧ Ext w0 w ∧ OwK (Sc u8) w [v7_78, (bp g1), (bp g4), (bp g92)] 5 v7_78 x66 ∧ Nw w0 v7_78 ∧ Blk w g1 90 (ac u32 x16.1) ∧ Nw w0 (bp g1) ∧ Blk w g4 78 (ac u32 s179.1) ∧ Nw w0 (bp g4) ∧ Blk w g92 78 (ac u32 x102) ∧ Nw w0 (bp g92) ∧ Nq v7_78 (bp g1) ∧ Nq v7_78 (bp g4) ∧ Nq v7_78 (bp g92) ∧ Nq (bp g1) (bp g4) ∧ Nq (bp g1) (bp g92) ∧ Nq (bp g4) (bp g92)) G179 ?_ ?_
        · exact ⟨s3_178, s4_178, s7_178, s9_178, s11_178, rfl, s288_178, hE178, o0_178, n0_178, o1_178, n1_178, o2_178, n2_178, o3_178, n3_178, q0_1_178, q0_2_178, q0_3_178, q1_2_178, q1_3_178, q2_3_178⟩
        rintro s179 _ _ w180 ⟨s3_180, s4_180, s7_180, s9_180, s11_180, s254_180, s288_180, hE180, o0_180, n0_180, o1_180, n1_180, o2_180, n2_180, o3_180, n3_180, q0_1_180, q0_2_180, q0_3_180, q1_2_180, q1_3_180, q2_3_180⟩ H179 hr179; refine W_seq <| W_rg <| wa rfl (q_ltI rfl s254_180 rfl) <| wnt <| W_seq <| ?_; refine W_cond _ rfl rfl (fun hb181 => ?_) (fun hb181 => ?_)
        · replace H179 := ifp hb181 H179; refine W_skip <| W_th <| W_seq <| W_block <| W_seq <| W_rg <| mv (i64 s179.2) rfl s254_180 <| av (i64 s179.2) rfl rfl <| ?_; refine wnt ?_; refine W_draw [3, 6] [(0, 0), (1, 0), (2, 0), (3, 1), (4, 0), (5, 0), (6, 1), (7, 0), (8, 0), (9, 2)] mixed (by kernel_rfl) (by kernel_rfl) (by kernel_rfl) (by kernel_rfl) ?_; have x182 := Ext.drew w180; replace o0_180 := o0_180.extL (Sc.stab _) x182 (Lift.ext x182 _); replace o1_180 := o1_180.ext x182; replace o2_180 := o2_180.ext x182; replace o3_180 := o3_180.ext x182; have e183 := hE180.trans x182; refine sv (i64 s179.2) rfl rfl rfl <| sv (i64 s179.2) rfl rfl rfl <| ?_; obtain ⟨c184, hc184, H179⟩ := bsi H179; obtain ⟨c185, hc185, H179⟩ := bsi H179; refine sa rfl rfl (q_ixA (m := 0) rfl A78 (by exact s4_180) rfl (lenA_eq hc184) hc185) <| sq rfl rfl (q_loadE (m := 0) rfl A78 rfl o2_180 (seg_self _ _) hc185) <| sv (i64 s179.2) rfl rfl rfl <| ?_; obtain ⟨c186, hc186, H179⟩ := bsi H179; obtain ⟨c187, hc187, H179⟩ := bsi H179; refine sa rfl rfl (q_ixA (m := 0) rfl A78 (by exact s11_180) rfl (lenA_eq hc186) hc187) <| sq rfl rfl (q_loadE (m := 0) rfl A78 rfl o3_180 (seg_self _ _) hc187) <| sa rfl rfl (q_add32 rfl rfl rfl) <| sa rfl rfl (q_ixA (m := 0) rfl A78 (by exact s4_180) rfl (lenA_eq hc184) hc185) <| ?_; refine wsn rfl (by kernel_rfl) rfl rfl (stp_storeX (b := (c185 + c187)) [v7_78, (bp g1)] [(bp g92)] rfl A78 rfl rfl o2_180 hc185 (one_u32 _) ?_); intro w188 o188 g188 l188; replace o0_180 := o0_180.other (Sc.stab _) g188 q0_2_180 l188; replace o1_180 := o1_180.other g188 q1_2_180; replace o3_180 := o3_180.other g188 q2_3_180.symm; have e189 := e183.grown g188 n2_180; refine ws_nil ?_; refine bk_n <| W_th <| W_rg <| wa rfl (q_addI rfl s254_180 rfl) <| mv (i64 ((wI (s179.2 + 1)))) rfl rfl <| wl_nil <| ?_; obtain rfl := osi H179; exact ⟨_, rfl, s3_180, s4_180, s7_180, s9_180, s11_180, rfl, s288_180, e189, o0_180, n0_180, o1_180, n1_180, o188, n2_180, o3_180, n3_180, q0_1_180, q0_2_180, q0_3_180, q1_2_180, q1_3_180, q2_3_180⟩
        replace H179 := ifn hb181 H179; refine W_exit <| th_x <| ?_; obtain rfl := osi H179; obtain rfl := hr179 _ rfl; refine th_x <| bk_x <| ?_; exact ⟨s3_180, s4_180, s7_180, s9_180, s288_180, hE180, (o0_180.weak (Sc.stab _) (fun _ h => ⟨h.1, h.2.1, h.2.2.1, trivial⟩)), n0_180, o1_180, n1_180, o2_180, n2_180, q0_1_180, q0_2_180, q1_2_180⟩
      rintro _ w191 ⟨s3_191, s4_191, s7_191, s9_191, s288_191, hE191, o0_191, n0_191, o1_191, n1_191, o2_191, n2_191, q0_1_191, q0_2_191, q1_2_191⟩; refine bk_n <| W_th <| W_rg <| mv (i64 s79.2) rfl s9_191 <| wa rfl (q_addI rfl rfl rfl) <| av (i64 ((wI (s79.2 + 64)))) rfl rfl <| wl_nil <| ?_; obtain rfl := osi H79; exact ⟨_, rfl, s3_191, s4_191, s7_191, rfl, s288_191, hE191, o0_191, n0_191, o1_191, n1_191, o2_191, n2_191, q0_1_191, q0_2_191, q1_2_191⟩
    replace H79 := ifn hb81 H79; refine W_exit <| th_x <| ?_; obtain rfl := osi H79; obtain rfl := hr79 _ rfl; refine th_x <| bk_x <| ?_; exact ⟨s4_80, s288_80, hE80, o2_80, n2_80⟩
  rintro _ w195 ⟨s4_195, s288_195, hE195, o0_195, n0_195⟩; refine W_th <| W_seq <| W_rg <| ?_; refine wls rfl rfl (stp_lit (L := [(bp g4)]) (R := (Sc u8)) [] ([] : List UInt8) rfl T22 rfl (by exact trivial) rfl (litC u8 (oneC_u8) (us := []) (l := ([] : List UInt8)) rfl) rfl (litS u8 (us := []) (l := ([] : List UInt8)) rfl) ?_); intro v196 w196 o196 n196 g196 l196; have x196 := grown_ext g196; have q197 : Nq (bp g4) v196 := o0_195.nq n196; replace o0_195 := o0_195.ext x196; have n199 := Nw.ext hE195 n196; have e198 := hE195.trans x196; refine av v196 rfl rfl <| wnt <| W_seq <| W_seq <| W_rg <| ?_; obtain ⟨c200, hc200, H⟩ := bsi H; refine wq rfl (q_loadA (m := 0) rfl A78 (by exact s4_195) o0_195 (seg_self _ _) (lenA_eq hc200)) <| mv (i64 0) rfl rfl <| wnt <| ?_; obtain ⟨x201, G201, H⟩ := bsi H; refine W_mid (fun f w => ∃ v16_213 : Value, f 16 = v16_213 ∧ f 288 = undef ∧ Ext w0 w ∧ OwK (Sc u8) w [v16_213] 5 v16_213 x201 ∧ Nw w0 v16_213) ?_ ?_
  · refine W_block ?_; refine W_loop (fun s201 f w => ∃ v16_211 : Value, f 16 = v16_211 ∧ f 268 = (ag u32 x79) ∧ f 269 = (i64 s201.2) ∧ f 288 = undef ∧ Ext w0 w ∧ OwK (Sc u8) w [v16_211] 5 v16_211 s201.1 ∧ Nw w0 v16_211) G201 ?_ ?_
    · exact ⟨v196, rfl, rfl, rfl, s288_195, e198, (o196.weak (Sc.stab _) (fun _ h => ⟨h.1, trivial⟩)), n199⟩
    rintro s201 _ _ w202 ⟨v16_202, s16_202, s268_202, s269_202, s288_202, hE202, o0_202, n0_202⟩ H201 hr201; refine W_seq <| W_rg <| wa rfl (q_ltI rfl s269_202 rfl) <| wnt <| W_seq <| ?_; refine W_cond _ rfl rfl (fun hb203 => ?_) (fun hb203 => ?_)
    · replace H201 := ifp hb203 H201; refine W_skip <| W_th <| W_seq <| W_block <| W_seq <| W_rg <| ?_; obtain ⟨c204, hc204, H201⟩ := bsi H201; obtain ⟨c205, hc205, H201⟩ := bsi H201; refine wa rfl (q_index rfl A78 (by exact s268_202) (by exact s269_202) (lenA_eq hc204) hc205) <| av (u32 c205) rfl rfl <| wnt <| W_rg <| mv v16_202 rfl s16_202 <| mv (u32 c205) rfl rfl <| wa rfl (q_shr32 24 rfl rfl rfl rfl) <| wa rfl (q_cvt832 rfl rfl rfl rfl) <| ?_; refine mv (u32 c205) rfl rfl <| wa rfl (q_shr32 16 rfl rfl rfl rfl) <| wa rfl (q_cvt832 rfl rfl rfl rfl) <| mv (u32 c205) rfl rfl <| wa rfl (q_shr32 8 rfl rfl rfl rfl) <| wa rfl (q_cvt832 rfl rfl rfl rfl) <| mv (u32 c205) rfl rfl <| wa rfl (q_cvt832 rfl rfl rfl rfl) <| ?_; refine wls rfl rfl (stp_lit (L := [v16_202]) (R := (Sc u8)) [(u8 ((((shr32 c205 24)).toUInt8))), (u8 ((((shr32 c205 16)).toUInt8))), (u8 ((((shr32 c205 8)).toUInt8))), (u8 ((c205.toUInt8)))] ([(((shr32 c205 24)).toUInt8), (((shr32 c205 16)).toUInt8), (((shr32 c205 8)).toUInt8), (c205.toUInt8)] : List UInt8) rfl T22 rfl (by exact ⟨rfl, rfl, rfl, rfl, rfl, rfl, rfl, rfl, trivial⟩) rfl (litC u8 (oneC_u8) (us := [(u8 ((((shr32 c205 24)).toUInt8))), (u8 ((((shr32 c205 16)).toUInt8))), (u8 ((((shr32 c205 8)).toUInt8))), (u8 ((c205.toUInt8)))]) (l := ([(((shr32 c205 24)).toUInt8), (((shr32 c205 16)).toUInt8), (((shr32 c205 8)).toUInt8), (c205.toUInt8)] : List UInt8)) rfl) rfl (litS u8 (us := [(u8 ((((shr32 c205 24)).toUInt8))), (u8 ((((shr32 c205 16)).toUInt8))), (u8 ((((shr32 c205 8)).toUInt8))), (u8 ((c205.toUInt8)))]) (l := ([(((shr32 c205 24)).toUInt8), (((shr32 c205 16)).toUInt8), (((shr32 c205 8)).toUInt8), (c205.toUInt8)] : List UInt8)) rfl) ?_); intro v206 w206 o206 n206 g206 l206; have x206 := grown_ext g206; have i206 : By w206 [v16_202] v206 (([(((shr32 c205 24)).toUInt8), (((shr32 c205 16)).toUInt8), (((shr32 c205 8)).toUInt8), (c205.toUInt8)] : List UInt8)) := OwK.slk (Sc.stab _) _ o206 (fun k hk => (Old.cons (Old.nil _) o0_202.lt) k (n206 k hk)) (fun _ h => h.2); replace o0_202 := o0_202.extL (Sc.stab _) x206 (Lift.ext x206 _); have e207 := hE202.trans x206; obtain ⟨c208, hc208, H201⟩ := bsi H201; refine wls rfl rfl (stp_append (R := (Sc u8)) (v := v16_202) (u := v206) (Sc.stab _) [] [] rfl T22 rfl rfl o0_202 i206 (fun _ _ h => h) hc208 oc_u8 ?_); intro v208 w208 o208 g208 nx208 l208; replace i206 := i206.lift l208; have e209 := e207.grown g208 n0_202; have n210 := Nw.nxt e207 n0_202 nx208; refine av v208 rfl rfl <| wl_nil <| ?_
      refine bk_n <| W_th <| W_rg <| wa rfl (q_addI rfl s269_202 rfl) <| mv (i64 ((wI (s201.2 + 1)))) rfl rfl <| wl_nil <| ?_; obtain rfl := osi H201; exact ⟨_, rfl, v208, rfl, s268_202, rfl, s288_202, e209, o208, n210⟩
    replace H201 := ifn hb203 H201; refine W_exit <| th_x <| ?_; obtain rfl := osi H201; obtain rfl := hr201 _ rfl; refine th_x <| bk_x <| ?_; exact ⟨v16_202, s16_202, s288_202, hE202, o0_202, n0_202⟩
  rintro _ w212 ⟨v16_212, s16_212, s288_212, hE212, o0_212, n0_212⟩; refine W_th <| W_seq <| W_rg <| mv v16_212 rfl s16_212 <| av v16_212 rfl rfl <| wnt <| W_ret <| ?_; obtain rfl := osi H; refine rt1 v16_212 rfl rfl rfl s288_212 ?_; exact ⟨v16_212, rfl, hE212, n0_212, (o0_212.weak (Sc.stab _) (fun _ _ => trivial))⟩
end Gk

/- The document's answer for sums of bytes, in plain Lean. No condition but lengths. -/
namespace Gk
open Gf
theorem rturn_eq (x : UInt32) (k : Nat) (h : k ≤ 32) : ref07_turn x k = some (rot x k) := by
  unfold ref07_turn
  rw [cnt_nat, obs, wI_of (by omega) (by omega), show (32 : Int) - (k : Int) = ((32 - k : Nat) : Int) by omega, cnt_nat, obs]; rfl
def dv : List UInt64 → Nat
  | [] => 0
  | d :: l => d.toNat + 65536 * dv l
theorem dv_app (l : List UInt64) (d : UInt64) : dv (l ++ [d]) = dv l + 65536 ^ l.length * d.toNat := by
  induction l with
  | nil => simp [dv]
  | cons a l ih => simp only [List.cons_append, dv, ih, List.length_cons, Nat.pow_succ]; rw [Nat.mul_add, Nat.add_assoc, Nat.mul_comm (65536 ^ l.length) 65536, Nat.mul_assoc]
def dig (l : List UInt64) (i : Nat) : Nat := (l.getD i 0).toNat
theorem dv_take (l : List UInt64) (i : Nat) (h : i < l.length) : dv (l.take (i + 1)) = dv (l.take i) + 65536 ^ i * dig l i := by
  have : l.take (i + 1) = l.take i ++ [l.getD i 0] := by
    rw [List.take_add_one, List.getElem?_eq_getElem h, List.getD_eq_getElem?_getD, List.getElem?_eq_getElem h]; rfl
  rw [this, dv_app, List.length_take, Nat.min_eq_left (by omega)]; rfl
def Dig (l : List UInt64) : Prop := ∀ d ∈ l, d.toNat < 65536
theorem idx_dig {l : List UInt64} {i : Nat} (h : i < l.length) : idx l (i : Int) = some (l.getD i 0) := by
  rw [idx_nat, List.getD_eq_getElem?_getD, List.getElem?_eq_getElem h]; rfl
theorem dig_lt {l : List UInt64} (h : Dig l) (i : Nat) : dig l i < 65536 := by
  unfold dig
  by_cases hi : i < l.length
  · rw [List.getD_eq_getElem?_getD, List.getElem?_eq_getElem hi]; exact h _ (List.getElem_mem hi)
  · rw [List.getD_eq_getElem?_getD, List.getElem?_eq_none (by omega)]; decide
def pbody (out : List UInt64) (x : UInt64) (s11 : List UInt64 × List UInt64 × UInt64 × Int) : Option ((List UInt64 × List UInt64 × UInt64 × Int) ⊕ List UInt64) :=
  (if s11.2.2.2 < (s11.1.length : Int) then
  (((if s11.2.2.2 < (s11.1.length : Int) then
  ((idx s11.1 s11.2.2.2).bind fun c16 =>
  some (s11.2.2.1 + (c16 * x)))
  else
  some s11.2.2.1)).bind fun x14 =>
  ((appL s11.2.1 (([(x14 % (65536 : UInt64))] : List UInt64))).bind fun c20 =>
  some (.inl (s11.1, c20, (x14 / (65536 : UInt64)), (wI (s11.2.2.2 + 1))))))
  else
  (if (0 : UInt64) < s11.2.2.1 then
  (((if s11.2.2.2 < (s11.1.length : Int) then
  ((idx s11.1 s11.2.2.2).bind fun c28 =>
  some (s11.2.2.1 + (c28 * x)))
  else
  some s11.2.2.1)).bind fun x26 =>
  ((appL s11.2.1 (([(x26 % (65536 : UInt64))] : List UInt64))).bind fun c32 =>
  some (.inl (s11.1, c32, (x26 / (65536 : UInt64)), (wI (s11.2.2.2 + 1))))))
  else
  some (.inr s11.2.1)))
theorem times_loop (out : List UInt64) (x : UInt64) (hx : x.toNat < 2 ^ 40) (ho : Dig out) (hl : out.length ≤ 100) :
    ∃ r, iterC (pbody out x) (out, [], 0, 0) = some r ∧ dv r = dv out * x.toNat ∧ Dig r ∧ r.length ≤ out.length + 3 := by
  refine iterC_inv (body := pbody out x) (fun s => ∃ i : Nat, s.1 = out ∧ s.2.2.2 = (i : Int) ∧ s.2.1.length = i ∧ Dig s.2.1 ∧ i ≤ out.length + 3 ∧ s.2.2.1.toNat < 2 ^ 41 ∧ (out.length ≤ i → s.2.2.1.toNat < 2 ^ (41 - 16 * (i - out.length)))
      ∧ dv s.2.1 + 65536 ^ i * s.2.2.1.toNat = dv (out.take i) * x.toNat)
    (fun s => 200 - s.2.2.2.toNat) _ ?_ _ ⟨0, rfl, rfl, rfl, fun d hd => absurd hd (List.not_mem_nil), by omega, by simp, by intro h; simp, by simp [dv]⟩
  rintro ⟨out, nx, c, _⟩ ⟨i, rfl, rfl, hn, hd, hi, hc, hc2, hv⟩
  simp only at ho hl hn hd hi hc hc2 hv ⊢
  have hmost : (200 : Nat) ≤ most := by decide
  have key : ∀ y : UInt64, Dig (nx ++ [y % 65536]) ∧ (nx ++ [y % 65536]).length = i + 1 ∧ dv (nx ++ [y % 65536]) + 65536 ^ (i + 1) * (y / 65536).toNat = dv nx + 65536 ^ i * y.toNat := by
    intro y
    refine ⟨?_, by simp [hn], ?_⟩
    · intro d hd'
      rcases List.mem_append.1 hd' with h | h
      · exact hd d h
      · simp only [List.mem_singleton] at h; subst h
        rw [UInt64.toNat_mod]; exact Nat.mod_lt _ (by decide)
    · rw [dv_app, hn, UInt64.toNat_mod, UInt64.toNat_div, show UInt64.toNat 65536 = 65536 from rfl, Nat.pow_succ, Nat.mul_assoc, Nat.add_assoc, ← Nat.mul_add, Nat.mod_add_div]
  by_cases h : i < out.length
  · left
    have hdg := dig_lt ho i
    have hmul : (c + out.getD i 0 * x).toNat = c.toNat + dig out i * x.toNat := by
      have hb : dig out i * x.toNat ≤ 65535 * 2 ^ 40 := Nat.mul_le_mul (by omega) (by omega)
      rw [UInt64.toNat_add, UInt64.toNat_mul]
      unfold dig at *
      rw [Nat.mod_eq_of_lt (a := _ * _) (by omega), Nat.mod_eq_of_lt (by omega)]
    obtain ⟨k1, k2, k3⟩ := key (c + out.getD i 0 * x)
    have hb : dig out i * x.toNat ≤ 65535 * 2 ^ 40 := Nat.mul_le_mul (by omega) (by omega)
    refine ⟨(out, nx ++ [(c + out.getD i 0 * x) % 65536], (c + out.getD i 0 * x) / 65536, ((i + 1 : Nat) : Int)), ?_, ⟨i + 1, rfl, rfl, k2, k1, by omega, ?_, ?_, ?_⟩, ?_⟩
    · unfold pbody
      simp only []
      rw [if_pos (by omega), if_pos (by omega), idx_dig h, obs, obs]
      unfold appL
      rw [if_pos (by simp only [List.length_singleton]; omega), obs, wI_succ _ (by omega)]
    · simp only []; rw [UInt64.toNat_div, hmul, show UInt64.toNat 65536 = 65536 from rfl]; omega
    · intro h'; simp only []; rw [UInt64.toNat_div, hmul, show UInt64.toNat 65536 = 65536 from rfl, show i + 1 - out.length = 0 by omega]; omega
    · simp only []
      rw [k3, hmul, dv_take out i h, Nat.mul_add, ← Nat.add_assoc, hv, Nat.add_mul, Nat.mul_assoc]
    · simp only [Int.toNat_natCast]; omega
  · have h2 := hc2 (by omega)
    by_cases hz : c = 0
    · right
      refine ⟨nx, ?_, ?_, hd, by omega⟩
      · unfold pbody
        simp only []
        rw [if_neg (by omega), if_neg (by rw [hz]; decide)]
      · rw [hz, List.take_of_length_le (by omega)] at hv
        simpa using hv
    · left
      have hcp : 0 < c.toNat := Nat.pos_of_ne_zero fun e => hz (UInt64.toNat_inj.1 e)
      have hi3 : i < out.length + 3 := by
        apply Classical.byContradiction; intro hc3
        rw [show i - out.length = 3 by omega] at h2
        have : (2 : Nat) ^ (41 - 16 * 3) = 1 := by decide
        omega
      obtain ⟨k1, k2, k3⟩ := key c
      refine ⟨(out, nx ++ [c % 65536], c / 65536, ((i + 1 : Nat) : Int)), ?_, ⟨i + 1, rfl, rfl, k2, k1, by omega, ?_, ?_, ?_⟩, ?_⟩
      · unfold pbody
        simp only []
        rw [if_neg (by omega), if_pos (by rw [UInt64.lt_iff_toNat_lt]; exact hcp), if_neg (by omega), obs]
        unfold appL
        rw [if_pos (by simp only [List.length_singleton]; omega), obs, wI_succ _ (by omega)]
      · simp only []; rw [UInt64.toNat_div, show UInt64.toNat 65536 = 65536 from rfl]; omega
      · intro h'; simp only []; rw [UInt64.toNat_div, show UInt64.toNat 65536 = 65536 from rfl]
        rcases (show i - out.length = 0 ∨ i - out.length = 1 ∨ i - out.length = 2 by omega) with e | e | e <;> rw [e] at h2 <;> rw [show i + 1 - out.length = i - out.length + 1 by omega, e] <;> simp only [Nat.reduceMul, Nat.reduceSub, Nat.reduceAdd, Nat.reducePow] at h2 ⊢ <;> omega
      · simp only []
        rw [k3, hv, List.take_of_length_le (by omega), List.take_of_length_le (by omega)]
      · simp only [Int.toNat_natCast]; omega
theorem power_eq (x : UInt64) (hx : x.toNat < 2 ^ 40) (n : Nat) (hn : n ≤ 3) : ∃ r, ref07_power x n = some r ∧ dv r = x.toNat ^ n ∧ Dig r ∧ r.length ≤ 16 := by
  unfold ref07_power
  suffices h : ∃ r, iterC (fun s4 : Int × List UInt64 => (if 0 < s4.1 then ((iterC (pbody s4.2 x) (s4.2, ([] : List UInt64), (0 : UInt64), 0)).bind fun x11 => some (.inl ((wI (s4.1 - 1)), x11))) else some (.inr s4.2))) ((n : Int), ([(1 : UInt64)] : List UInt64)) = some r ∧ dv r = x.toNat ^ n ∧ Dig r ∧ r.length ≤ 16 by
    obtain ⟨r, h1, h2⟩ := h
    exact ⟨r, bind_of h1 rfl, h2⟩
  refine iterC_inv (fun s => ∃ j : Nat, s.1 = (j : Int) ∧ j ≤ n ∧ dv s.2 * x.toNat ^ j = x.toNat ^ n ∧ Dig s.2 ∧ s.2.length + 3 * j ≤ 10) (fun s => s.1.toNat) _ ?_ _ ⟨n, rfl, Nat.le_refl _, by simp [dv], by intro d hd; simp at hd; subst hd; decide, by simp; omega⟩
  rintro ⟨_, l⟩ ⟨j, rfl, hj, hv, hd, hl⟩
  simp only at hv hd hl ⊢
  cases j with
  | zero => right; exact ⟨l, by rw [if_neg (by decide)], by simpa using hv, hd, by omega⟩
  | succ j =>
    left
    obtain ⟨r, h1, h2, h3, h4⟩ := times_loop l x hx hd (by omega)
    refine ⟨((j : Int), r), ?_, ⟨j, rfl, by omega, ?_, h3, by simp only; omega⟩, by simp only [Int.toNat_natCast]; omega⟩
    · rw [if_pos (by omega), h1, obs, wI_of (by omega) (by omega)]
      rw [show ((j + 1 : Nat) : Int) - 1 = (j : Int) by omega]
    · simp only []
      rw [h2, ← hv, Nat.pow_succ, Nat.mul_assoc, Nat.mul_comm x.toNat]
end Gk

/- The document's constants for sums of bytes. No condition. -/
namespace Gk
open Gf
def dvN (l : List UInt64) : Nat → Nat
  | 0 => 0
  | k + 1 => dvN l k + 65536 ^ k * dig l k
theorem dvN_lt {l : List UInt64} (h : Dig l) : ∀ k, dvN l k < 65536 ^ k
  | 0 => by simp [dvN]
  | k + 1 => by
    have h1 := dvN_lt h k
    have h2 := dig_lt h k
    have h3 : 65536 ^ k * dig l k ≤ 65536 ^ k * 65535 := Nat.mul_le_mul_left _ (by omega)
    simp only [dvN, Nat.pow_succ]; omega
theorem dvN_eq (l : List UInt64) (k : Nat) : dvN l k = dv (l.take k) := by
  induction k with
  | zero => simp [dvN, dv]
  | succ k ih =>
    by_cases h : k < l.length
    · rw [dv_take l k h, ← ih]; rfl
    · have : dig l k = 0 := by unfold dig; rw [List.getD_eq_getElem?_getD, List.getElem?_eq_none (by omega)]; rfl
      rw [dvN, this, Nat.mul_zero, Nat.add_zero, ih, List.take_of_length_le (by omega), List.take_of_length_le (by omega)]
theorem dvN_16 {l : List UInt64} (h : l.length ≤ 16) : dvN l 16 = dv l := by rw [dvN_eq, List.take_of_length_le h]
theorem dv_rep (n : Nat) (p : UInt64) : dv (List.replicate n 0 ++ [p]) = 65536 ^ n * p.toNat := by
  rw [dv_app, List.length_replicate]
  have : dv (List.replicate n 0) = 0 := by
    induction n with
    | zero => rfl
    | succ n ih => rw [List.replicate_succ, dv, ih]; rfl
  rw [this, Nat.zero_add]
theorem cmp_loop (a c : List UInt64) (ha : Dig a) (hc : Dig c) {body : Int → Option (Int ⊕ (Unit ⊕ Bool))}
    (h1 : ∀ i : Nat, i < 16 → body (i : Int) = if a.getD i 0 = c.getD i 0 then some (.inl ((i : Int) - 1)) else some (.inr (.inr (decide (c.getD i 0 < a.getD i 0)))))
    (h2 : body (-1) = some (.inr (.inl ()))) : ∀ j : Nat, j ≤ 16 → ∃ o, iterC body ((j : Int) - 1) = some o ∧ Sum.elim (fun _ => some false) (fun q => some q) o = some (decide (dvN c j < dvN a j))
  | 0, _ => ⟨_, by rw [iterC_step, show ((0 : Nat) : Int) - 1 = -1 by rfl, h2]; rfl, by simp [dvN]⟩
  | j + 1, hj => by
    obtain ⟨o, ho, ho2⟩ := cmp_loop a c ha hc h1 h2 j (by omega)
    rw [iterC_step, show ((j + 1 : Nat) : Int) - 1 = (j : Int) by omega, h1 j (by omega)]
    have la := dvN_lt ha j; have lc := dvN_lt hc j
    by_cases e : a.getD j 0 = c.getD j 0
    · rw [if_pos e]
      refine ⟨o, ho, ?_⟩
      rw [ho2]
      simp only [dvN, dig, e]
      congr 1; simp
    · rw [if_neg e]
      refine ⟨_, rfl, ?_⟩
      simp only [Sum.elim_inr]
      congr 1
      rw [decide_eq_decide, UInt64.lt_iff_toNat_lt]
      have e' : (a.getD j 0).toNat ≠ (c.getD j 0).toNat := fun h => e (UInt64.toNat_inj.1 h)
      simp only [dvN, dig]
      generalize (a.getD j 0).toNat = x at *
      generalize (c.getD j 0).toNat = y at *
      constructor
      · intro h
        have : 65536 ^ j * (y + 1) ≤ 65536 ^ j * x := Nat.mul_le_mul_left _ (by omega)
        rw [Nat.mul_add] at this; omega
      · intro h
        apply Classical.byContradiction; intro h'
        have : 65536 ^ j * (x + 1) ≤ 65536 ^ j * y := Nat.mul_le_mul_left _ (by omega)
        rw [Nat.mul_add] at this; omega
theorem above_eq (x p : UInt64) (n : Nat) (hx : x.toNat < 2 ^ 40) (hp : p.toNat < 65536) (hn : n ≤ 3) : ref07_above x p n = some (decide (p.toNat * 2 ^ (32 * n) < x.toNat ^ n)) := by
  obtain ⟨r, h1, h2, h3, h4⟩ := power_eq x hx n hn
  have hmost : (200 : Nat) ≤ most := by decide
  unfold ref07_above
  rw [h1, obs, wI_of (by omega) (by omega), show 2 * (n : Int) = ((2 * n : Nat) : Int) by omega, makeL_nat _ _ (by omega), obs]
  unfold appL
  rw [if_pos (by simp only [List.length_replicate, List.length_singleton]; omega), obs]
  have hc : Dig (List.replicate (2 * n) 0 ++ [p]) := by
    intro d hd
    rcases List.mem_append.1 hd with h | h
    · rw [List.eq_of_mem_replicate h]; decide
    · simp only [List.mem_singleton] at h; subst h; exact hp
  have hcl : (List.replicate (2 * n) (0 : UInt64) ++ [p]).length = 2 * n + 1 := by simp
  have hv := dv_rep (2 * n) p
  generalize List.replicate (2 * n) (0 : UInt64) ++ [p] = c at *
  have gd : ∀ (l : List UInt64) (i : Nat), ¬ i < l.length → l.getD i 0 = 0 := fun l i h => by rw [List.getD_eq_getElem?_getD, List.getElem?_eq_none (by omega)]; rfl
  obtain ⟨o, ho, ho2⟩ := cmp_loop r c h3 hc (body := fun s11 : Int =>
    (if 0 ≤ s11 then
    (((if s11 < (r.length : Int) then
    ((idx r s11).bind fun c16 =>
    some c16)
    else
    some (0 : UInt64))).bind fun x14 =>
    (if s11 < (c.length : Int) then
    ((idx c s11).bind fun c19 =>
    (if x14 = c19 then
    some (.inl (wI (s11 - 1)))
    else
    some (.inr (.inr (decide (c19 < x14))))))
    else
    (if x14 = (0 : UInt64) then
    some (.inl (wI (s11 - 1)))
    else
    some (.inr (.inr (decide ((0 : UInt64) < x14)))))))
    else
    some (.inr (.inl ())))) (fun i hi => by
      rw [if_pos (by omega), wI_of (by omega) (by omega)]
      have e1 : (if (i : Int) < (r.length : Int) then (idx r (i : Int)).bind fun c16 => some c16 else some (0 : UInt64)) = some (r.getD i 0) := by
        by_cases h : i < r.length
        · rw [if_pos (by omega), idx_dig h]; rfl
        · rw [if_neg (by omega), gd r i h]
      rw [e1, obs]
      by_cases h : i < c.length
      · rw [if_pos (by omega), idx_dig h]; rfl
      · rw [if_neg (by omega), gd c i h]) (by rfl) 16 (Nat.le_refl _)
  refine (bind_of (x := o) ho ?_)
  refine Eq.trans ?_ (ho2.trans ?_)
  · rfl
  · rw [dvN_16 h4, dvN_16 (by omega), h2, hv]
    congr 2
    rw [show (65536 : Nat) = 2 ^ 16 by rfl, ← Nat.pow_mul, Nat.mul_comm, show 16 * (2 * n) = 32 * n by omega]
def frN (p n : Nat) : Nat → Nat → Nat
  | 0, x => x
  | b + 1, x => frN p n b (bif Nat.blt (p * 2 ^ (32 * n)) ((x + 2 ^ b) ^ n) then x else x + 2 ^ b)
theorem Fraction_eq (p : UInt64) (n : Nat) (hp : p.toNat < 65536) (hn : n ≤ 3) : ref07_Fraction p n = some (UInt32.ofNat (frN p.toNat n 36 0)) := by
  unfold ref07_Fraction
  suffices h : ∀ (b : Nat) (x : UInt64), x.toNat + 2 ^ b ≤ 2 ^ 36 → b ≤ 36 → ∃ y, iterC (fun s1 : UInt64 × Int =>
      (if 0 ≤ s1.2 then
      ((cnt s1.2).bind fun c4 =>
      ((ref07_above (s1.1 + (shl64 ((1 : UInt64)) c4)) p n).bind fun r5 =>
      (if (!r5) = true then
      ((cnt s1.2).bind fun c8 =>
      some (.inl ((s1.1 + (shl64 ((1 : UInt64)) c8)), (wI (s1.2 - 1)))))
      else
      some (.inl (s1.1, (wI (s1.2 - 1)))))))
      else
      some (.inr s1.1))) (x, (b : Int) - 1) = some y ∧ y.toNat = frN p.toNat n b x.toNat by
    obtain ⟨y, h1, h2⟩ := h 36 0 (by decide) (by decide)
    refine bind_of h1 ?_
    congr 1
    apply UInt32.toNat_inj.1
    rw [UInt64.toNat_toUInt32, h2]; simp
  intro b
  induction b with
  | zero => intro x _ _; exact ⟨x, by rw [iterC_step]; rfl, rfl⟩
  | succ b ih =>
    intro x hx hb
    have hpw : (2 : Nat) ^ (b + 1) = 2 ^ b + 2 ^ b := by rw [Nat.pow_succ]; omega
    have hpos := Nat.two_pow_pos b
    have hxb : (x + shl64 1 b).toNat = x.toNat + 2 ^ b := by
      have e : (shl64 1 b).toNat = 2 ^ b := by
        simp only [shl64, UInt64.toNat_ofNat', UInt64.toNat_one, Nat.one_mul]
        rw [Nat.min_eq_left (by omega), Nat.mod_eq_of_lt (by omega)]
      rw [UInt64.toNat_add, e, Nat.mod_eq_of_lt (by omega)]
    rw [iterC_step]
    have e1 : (((b + 1 : Nat) : Int) - 1) = (b : Int) := by omega
    simp only [e1]
    rw [if_pos (by omega), cnt_nat, obs, above_eq _ _ _ (by omega) hp hn, hxb, obs, wI_of (by omega) (by omega)]
    simp only [frN]
    by_cases h : p.toNat * 2 ^ (32 * n) < (x.toNat + 2 ^ b) ^ n
    · rw [if_neg (by simp [h])]
      obtain ⟨y, h1, h2⟩ := ih x (by omega) (by omega)
      exact ⟨y, h1, by rw [h2, show Nat.blt (p.toNat * 2 ^ (32 * n)) ((x.toNat + 2 ^ b) ^ n) = true by rw [Nat.blt_eq]; exact h]; rfl⟩
    · rw [if_pos (by simp [h]), obs]
      obtain ⟨y, h1, h2⟩ := ih (x + shl64 1 b) (by omega) (by omega)
      exact ⟨y, h1, by rw [h2, hxb, show Nat.blt (p.toNat * 2 ^ (32 * n)) ((x.toNat + 2 ^ b) ^ n) = false by rw [Bool.eq_false_iff, ne_eq, Nat.blt_eq]; exact h]; rfl⟩
theorem iterC_sim {S X : Type} {body body' : S → Option (S ⊕ X)} (I : S → Prop) (he : ∀ s r, I s → body' s = some r → body s = some r) (hs : ∀ s s', I s → body' s = some (.inl s') → I s') : ∀ (k : Nat) (s : S) (x : X), I s → iterN body' k s = some x → iterC body s = some x
  | 0, s, x, _, h => by cases h
  | k + 1, s, x, hi, h => by
    unfold iterN at h
    cases hb : body' s with
    | none => rw [hb] at h; cases h
    | some r =>
      rw [iterC_step, he s r hi hb]
      rw [hb] at h
      cases r with
      | inl s' => exact iterC_sim I he hs k s' x (hs s s' hi hb) h
      | inr y => exact h
def prL : List UInt64 := [2, 3, 5, 7, 11, 13, 17, 19, 23, 29, 31, 37, 41, 43, 47, 53, 59, 61, 67, 71, 73, 79, 83, 89, 97, 101, 103, 107, 109, 113, 127, 131, 137, 139, 149, 151, 157, 163, 167, 173, 179, 181, 191, 193, 197, 199, 211, 223, 227, 229, 233, 239, 241, 251, 257, 263, 269, 271, 277, 281, 283, 293, 307, 311]
def pstep (s : List UInt64 × UInt64) : Option ((List UInt64 × UInt64) ⊕ List UInt64) :=
  if 1000 < s.2.toNat then none else if s.1.length < 64 then (if s.1.all (fun q => !decide (s.2 % q = 0)) then some (.inl (s.1 ++ [s.2], s.2 + 1)) else some (.inl (s.1, s.2 + 1))) else some (.inr s.1)
theorem Primes_eq : ref07_Primes 64 = some prL := by
  unfold ref07_Primes
  have hmost : (100 : Nat) ≤ most := by decide
  refine bind_of (x := prL) (iterC_sim (body' := pstep) (fun s => (∀ q ∈ s.1, q ≠ 0) ∧ s.2 ≠ 0) ?_ ?_ 400 _ _ ⟨(by intro q hq; cases hq), by decide⟩ ?_) rfl
  · rintro ⟨l, p⟩ r ⟨hI, hp0⟩ hr
    unfold pstep at hr
    simp only at hI hr ⊢
    split at hr
    · cases hr
    rw [← hr]
    by_cases h : l.length < 64
    · rw [if_pos (by omega), if_pos h]
      have hin : iterC (fun s7 : Bool × Int =>
          (if s7.2 < (l.length : Int) then
          ((idx l s7.2).bind fun c10 =>
          (if s7.1 = true then
          ((nz c10).bind fun c12 =>
          some (.inl ((!decide ((p % c10) = (0 : UInt64))), (wI (s7.2 + 1)))))
          else
          some (.inl (false, (wI (s7.2 + 1))))))
          else
          some (.inr s7.1))) (true, 0) = some (l.all (fun q => !decide (p % q = 0))) := by
        refine iterC_count (fun i => ((l.take i).all (fun q => !decide (p % q = 0)), (i : Int))) l.length _ (by simp) ?_ ?_
        · intro i hi
          simp only []
          rw [if_pos (by omega), idx_dig hi, obs, wI_succ _ (by omega)]
          have hm : l.getD i 0 ∈ l := by rw [List.getD_eq_getElem?_getD, List.getElem?_eq_getElem hi]; exact List.getElem_mem hi
          have ht : l.take (i + 1) = l.take i ++ [l.getD i 0] := by
            rw [List.take_add_one, List.getElem?_eq_getElem hi, List.getD_eq_getElem?_getD, List.getElem?_eq_getElem hi]; rfl
          rw [ht, List.all_append]
          have hz : nz (l.getD i 0) = some () := by unfold nz; rw [if_neg (hI _ hm)]
          cases he : (l.take i).all (fun q => !decide (p % q = 0))
          · rw [if_neg (by decide)]; simp
          · rw [if_pos rfl, hz, obs]; simp
        · simp only []; rw [if_neg (by omega), List.take_length]
      rw [bind_of hin rfl]
      by_cases hb : l.all (fun q => !decide (p % q = 0)) = true
      · rw [if_pos hb, if_pos hb]; unfold appL; rw [if_pos (by simp; omega)]; rfl
      · rw [if_neg hb, if_neg hb]
    · rw [if_neg (by omega), if_neg h]
  · rintro ⟨l, p⟩ ⟨l', p'⟩ ⟨hI, hp0⟩ hp
    unfold pstep at hp
    simp only at hI hp0 hp ⊢
    split at hp
    · cases hp
    rename_i hlt
    have hp1 : p + 1 ≠ 0 := by
      intro e
      have := congrArg UInt64.toNat e
      rw [UInt64.toNat_add] at this
      simp at this; omega
    split at hp
    · split at hp
      · cases hp
        refine ⟨fun q hq => ?_, hp1⟩
        rcases List.mem_append.1 hq with h | h
        · exact hI q h
        · simp only [List.mem_singleton] at h; subst h; exact hp0
      · cases hp; exact ⟨hI, hp1⟩
    · cases hp
  · decide +kernel
theorem pr_3 : ∀ i : Fin 64, UInt32.ofNat (frN (prL.getD i 0).toNat 3 36 0) = w0 kL i := by decide +kernel
theorem pr_2 : ∀ i : Fin 8, UInt32.ofNat (frN (prL.getD i 0).toNat 2 36 0) = w0 hL i := by decide +kernel
theorem pr_lt : ∀ i : Fin 64, (prL.getD i 0).toNat < 65536 := by decide +kernel
end Gk

/- The document's answer for sums of bytes is the program's. No condition but lengths. -/
namespace Gk
open Gf
def told (l : List UInt32) (n i : Nat) : List UInt32 := l.take i ++ List.replicate (n - i) 0
theorem told_len (l : List UInt32) (n i : Nat) (h : l.length = n) : (told l n i).length = n := by simp [told]; omega
theorem told_set (l : List UInt32) (n i : Nat) (h : l.length = n) (hi : i < n) : (told l n i).set i (w0 l i) = told l n (i + 1) := by
  unfold told
  obtain ⟨m, hm⟩ : ∃ m, n - i = m + 1 := ⟨n - i - 1, by omega⟩
  have hl : (l.take i).length = i := by simp; omega
  rw [List.set_append_right _ _ (by omega), hl, Nat.sub_self, hm, List.replicate_succ, List.set_cons_zero, show n - (i + 1) = m by omega, w0_take (by omega)]
  simp
theorem told_end (l : List UInt32) (n i : Nat) (h : l.length = n) (hi : n ≤ i) : told l n i = l := by
  unfold told; rw [List.take_of_length_le (by omega), show n - i = 0 by omega]; simp
theorem sched_pre (p : List UInt8) (i : Nat) : ∀ k, w0 (sched p (i + 1 + k)) i = w0 (sched p (i + 1)) i
  | 0 => rfl
  | k + 1 => by
    rw [← sched_pre p i k, show i + 1 + (k + 1) = (i + 1 + k) + 1 by omega, sched]
    simp only [w0, List.getD_eq_getElem?_getD]
    rw [List.getElem?_append_left (by rw [sched_len]; omega)]
theorem co_pcS (m : List UInt8) (j i : Nat) (h : i < 64) : co (pcS m j) i = co m (64 * j + i) := by
  rw [pcS, co_take, if_pos h, co_drop]
theorem lenA_eight (a b c d e f g h : UInt32) : lenA 8 [a, b, c, d, e, f, g, h] = some () := rfl
theorem one_block (m : List UInt8) (s : List UInt32) (j : Nat) (hs : s.length = 8) (hm : 64 * j + 64 ≤ m.length) (hb : m.length ≤ 2000000) : iterC (fun s101 : List UInt32 × List UInt32 × Int =>
(if s101.2.2 < 64 then
(((if s101.2.2 < 16 then
((idx m ((wI (((64 * j : Nat) : Int) + (wI (4 * s101.2.2)))))).bind fun c108 =>
((idx m ((wI ((wI (((64 * j : Nat) : Int) + (wI (4 * s101.2.2)))) + 1)))).bind fun c109 =>
((idx m ((wI ((wI (((64 * j : Nat) : Int) + (wI (4 * s101.2.2)))) + 2)))).bind fun c110 =>
((idx m ((wI ((wI (((64 * j : Nat) : Int) + (wI (4 * s101.2.2)))) + 3)))).bind fun c111 =>
((lenA 64 s101.1).bind fun c112 =>
((idx s101.1 s101.2.2).bind fun c113 => some (s101.1.set (s101.2.2 : Int).toNat (((((shl32 ((c108.toUInt32)) 24) ||| (shl32 ((c109.toUInt32)) 16)) ||| (shl32 ((c110.toUInt32)) 8)) ||| (c111.toUInt32))))))))))
else
((lenA 64 s101.1).bind fun c118 =>
((idx s101.1 ((wI (s101.2.2 - 2)))).bind fun c119 =>
((idx s101.1 ((wI (s101.2.2 - 7)))).bind fun c120 =>
((idx s101.1 ((wI (s101.2.2 - 15)))).bind fun c121 =>
((idx s101.1 ((wI (s101.2.2 - 16)))).bind fun c122 =>
((ref07_turn c119 17).bind fun r123 =>
((ref07_turn c119 19).bind fun r125 =>
((ref07_turn c121 7).bind fun r127 =>
((ref07_turn c121 18).bind fun r129 =>
((idx s101.1 s101.2.2).bind fun c131 => some (s101.1.set (s101.2.2 : Int).toNat ((((((r123 ^^^ r125) ^^^ (shr32 c119 10)) + c120) + ((r127 ^^^ r129) ^^^ (shr32 c121 3))) + c122))))))))))))))).bind fun x104 =>
((lenA 8 s101.2.1).bind fun c137 =>
((idx s101.2.1 7).bind fun c138 =>
((idx s101.2.1 4).bind fun c139 =>
((idx s101.2.1 5).bind fun c140 =>
((idx s101.2.1 6).bind fun c141 =>
((lenA 64 kL).bind fun c142 =>
((idx kL s101.2.2).bind fun c143 =>
((lenA 64 x104).bind fun c144 =>
((idx x104 s101.2.2).bind fun c145 =>
((ref07_turn c139 6).bind fun r146 =>
((ref07_turn c139 11).bind fun r148 =>
((ref07_turn c139 25).bind fun r150 =>
((lenA 8 s101.2.1).bind fun c154 =>
((idx s101.2.1 0).bind fun c155 =>
((idx s101.2.1 1).bind fun c156 =>
((idx s101.2.1 2).bind fun c157 =>
((ref07_turn c155 2).bind fun r158 =>
((ref07_turn c155 13).bind fun r160 =>
((ref07_turn c155 22).bind fun r162 =>
((lenA 8 s101.2.1).bind fun c164 =>
((idx s101.2.1 0).bind fun c165 =>
((idx s101.2.1 1).bind fun c166 =>
((idx s101.2.1 2).bind fun c167 =>
((idx s101.2.1 3).bind fun c168 =>
((idx s101.2.1 4).bind fun c169 =>
((idx s101.2.1 5).bind fun c170 =>
((idx s101.2.1 6).bind fun c171 =>
((lenA 8 (([(((((c138 + ((r146 ^^^ r148) ^^^ r150)) + ((c139 &&& c140) ^^^ (((4294967295 : UInt32) ^^^ c139) &&& c141))) + c143) + c145) + (((r158 ^^^ r160) ^^^ r162) + (((c155 &&& c156) ^^^ (c155 &&& c157)) ^^^ (c156 &&& c157)))), c165, c166, c167, (c168 + ((((c138 + ((r146 ^^^ r148) ^^^ r150)) + ((c139 &&& c140) ^^^ (((4294967295 : UInt32) ^^^ c139) &&& c141))) + c143) + c145)), c169, c170, c171] : List UInt32))).bind fun c173 => some (.inl (x104, ([(((((c138 + ((r146 ^^^ r148) ^^^ r150)) + ((c139 &&& c140) ^^^ (((4294967295 : UInt32) ^^^ c139) &&& c141))) + c143) + c145) + (((r158 ^^^ r160) ^^^ r162) + (((c155 &&& c156) ^^^ (c155 &&& c157)) ^^^ (c156 &&& c157)))), c165, c166, c167, (c168 + ((((c138 + ((r146 ^^^ r148) ^^^ r150)) + ((c139 &&& c140) ^^^ (((4294967295 : UInt32) ^^^ c139) &&& c141))) + c143) + c145)), c169, c170, c171] : List UInt32), (wI (s101.2.2 + 1)))))))))))))))))))))))))))))))))
else some (.inr s101.2.1))) ((List.replicate 64 (0 : UInt32)), s, 0) = some (rnds (sched (pcS m j) 64) s 64) := by
  generalize hp : pcS m j = p
  refine iterC_count (fun t => (wTo p t, rnds (sched p 64) s t, (t : Int))) 64 _ rfl ?_ ?_
  · intro t ht
    have hl := wTo_len p t (by omega)
    have hl' := wTo_len p (t + 1) (by omega)
    have hr := rnds_len (sched p 64) s hs t
    simp only []
    rw [if_pos (by omega)]
    refine bind_of (x := wTo p (t + 1)) ?_ ?_
    · rw [← wTo_set p t ht]
      by_cases h16 : t < 16
      · rw [if_pos (by omega), wI_of (x := 4 * (t : Int)) (by omega) (by omega), wI_of (x := ((64 * j : Nat) : Int) + 4 * (t : Int)) (by omega) (by omega), wI_of (by omega) (by omega), wI_of (by omega) (by omega), wI_of (by omega) (by omega),
          show ((64 * j : Nat) : Int) + 4 * (t : Int) = ((64 * j + 4 * t : Nat) : Int) by omega, show ((64 * j + 4 * t : Nat) : Int) + 1 = ((64 * j + (4 * t + 1) : Nat) : Int) by omega,
          show ((64 * j + 4 * t : Nat) : Int) + 2 = ((64 * j + (4 * t + 2) : Nat) : Int) by omega, show ((64 * j + 4 * t : Nat) : Int) + 3 = ((64 * j + (4 * t + 3) : Nat) : Int) by omega,
          idx_co (by omega), obs, idx_co (by omega), obs, idx_co (by omega), obs, idx_co (by omega), obs, lenA_of hl, obs, idx_w0 (by omega), obs, Int.toNat_natCast]
        unfold nxt; rw [sched_len, if_pos h16]
        unfold be be4
        rw [← hp, co_pcS _ _ _ (by omega), co_pcS _ _ _ (by omega), co_pcS _ _ _ (by omega), co_pcS _ _ _ (by omega)]
      · rw [if_neg (by omega), lenA_of hl, obs, wI_of (by omega) (by omega), wI_of (by omega) (by omega), wI_of (by omega) (by omega), wI_of (by omega) (by omega),
          show (t : Int) - 15 = ((t - 15 : Nat) : Int) by omega, show (t : Int) - 2 = ((t - 2 : Nat) : Int) by omega, show (t : Int) - 16 = ((t - 16 : Nat) : Int) by omega, show (t : Int) - 7 = ((t - 7 : Nat) : Int) by omega,
          idx_w0 (by omega), obs, idx_w0 (by omega), obs, idx_w0 (by omega), obs, idx_w0 (by omega), obs]
        rw [show (17 : Int) = ((17 : Nat) : Int) by rfl, rturn_eq _ 17 (by omega), obs, show (19 : Int) = ((19 : Nat) : Int) by rfl, rturn_eq _ 19 (by omega), obs,
          show (7 : Int) = ((7 : Nat) : Int) by rfl, rturn_eq _ 7 (by omega), obs, show (18 : Int) = ((18 : Nat) : Int) by rfl, rturn_eq _ 18 (by omega), obs,
          idx_w0 (by omega), obs, Int.toNat_natCast, wTo_get _ _ _ (by omega), wTo_get _ _ _ (by omega), wTo_get _ _ _ (by omega), wTo_get _ _ _ (by omega)]
        unfold nxt; rw [sched_len, if_neg h16]
        congr 2
        ac_rfl
    · have e0 := idx_at (l := rnds (sched p 64) s t) 0 (by omega) 0 rfl
      have e1 := idx_at (l := rnds (sched p 64) s t) 1 (by omega) 1 rfl
      have e2 := idx_at (l := rnds (sched p 64) s t) 2 (by omega) 2 rfl
      have e3 := idx_at (l := rnds (sched p 64) s t) 3 (by omega) 3 rfl
      have e4 := idx_at (l := rnds (sched p 64) s t) 4 (by omega) 4 rfl
      have e5 := idx_at (l := rnds (sched p 64) s t) 5 (by omega) 5 rfl
      have e6 := idx_at (l := rnds (sched p 64) s t) 6 (by omega) 6 rfl
      have e7 := idx_at (l := rnds (sched p 64) s t) 7 (by omega) 7 rfl
      have ew : w0 (wTo p (t + 1)) t = w0 (sched p 64) t := by
        rw [wTo_get _ _ _ (by omega), ← sched_pre p t (63 - t), show t + 1 + (63 - t) = 64 by omega]
      simp only [lenA_of hr, e0, e1, e2, e3, e4, e5, e6, e7, obs, lenA_of hl', lenA_of (show kL.length = 64 from rfl), idx_w0 (show t < (wTo p (t + 1)).length by omega), idx_w0 (show t < kL.length from ht), ew,
        show ∀ x, ref07_turn x 6 = some (rot x 6) from fun x => rturn_eq x 6 (by decide), show ∀ x, ref07_turn x 11 = some (rot x 11) from fun x => rturn_eq x 11 (by decide), show ∀ x, ref07_turn x 25 = some (rot x 25) from fun x => rturn_eq x 25 (by decide),
        show ∀ x, ref07_turn x 2 = some (rot x 2) from fun x => rturn_eq x 2 (by decide), show ∀ x, ref07_turn x 13 = some (rot x 13) from fun x => rturn_eq x 13 (by decide), show ∀ x, ref07_turn x 22 = some (rot x 22) from fun x => rturn_eq x 22 (by decide),
        wI_succ t (by omega), lenA_eight]
      rfl
  · simp only []; rw [if_neg (by omega)]
theorem ref_Sum_eq (b : List UInt8) (h : b.length ≤ 1000000) : ref07_Sum b = some (sha b) := by
  have hm : (1000000 : Nat) + 200 ≤ most := by decide
  have hp : padN b.length < 64 := Nat.mod_lt _ (by decide)
  have hn := nbl_eq b.length
  unfold ref07_Sum
  have z64 : (List.replicate 64 (0 : UInt32)).length = 64 := List.length_replicate
  have z8 : (List.replicate 8 (0 : UInt32)).length = 8 := List.length_replicate
  rw [lenA_of z64, obs, lenA_of z8, obs, Primes_eq, obs]
  refine bind_of (x := (kL, hL)) (iterC_count (fun i => (told kL 64 i, told hL 8 i, (i : Int))) 64 _ rfl ?_ ?_) ?_
  · intro i hi
    have hk := told_len kL 64 i rfl
    have hh := told_len hL 8 i rfl
    simp only []
    have ep : (prL.length : Int) = 64 := rfl
    have hlt := pr_lt ⟨i, hi⟩
    have h3 := pr_3 ⟨i, hi⟩
    simp only at hlt h3
    rw [ep, if_pos (by omega), idx_dig (show i < prL.length from hi), obs, show (3 : Int) = ((3 : Nat) : Int) by rfl, Fraction_eq _ 3 hlt (by omega), obs, lenA_of hk, obs, idx_w0 (by omega), obs,
      Int.toNat_natCast, h3, told_set kL 64 i rfl hi, wI_succ _ (by omega)]
    by_cases h8 : i < 8
    · have h2 := pr_2 ⟨i, h8⟩
      simp only at h2
      rw [if_pos (by omega), show (2 : Int) = ((2 : Nat) : Int) by rfl, Fraction_eq _ 2 hlt (by omega), obs, lenA_of hh, obs, idx_w0 (by omega), obs, h2, told_set hL 8 i rfl h8]
    · rw [if_neg (by omega), told_end hL 8 i rfl (by omega), told_end hL 8 (i + 1) rfl (by omega)]
  · rfl
  rw [appL_nil b (by omega), obs, appL_one b 128 (by omega), obs]
  have pl : ∀ i : Nat, ((b ++ [128]) ++ List.replicate i (0 : UInt8)).length = b.length + 1 + i := fun i => by simp only [List.length_append, List.length_singleton, List.length_replicate]
  refine bind_of (x := padL b) (iterC_count (fun i => (b ++ [128]) ++ List.replicate i 0) (padN b.length) _ (by simp) ?_ ?_) ?_
  · intro i hi
    rw [pl i, show (64 : Int) = ((64 : Nat) : Int) by rfl, remI_nat _ _ (by omega), obs, if_neg (by unfold padN at hi; omega),
      appL_one _ _ (by simp only [List.length_append, List.length_singleton, List.length_replicate]; omega), obs, List.replicate_succ']
    simp
  · rw [pl (padN b.length), show (64 : Int) = ((64 : Nat) : Int) by rfl, remI_nat _ _ (by omega), obs, if_pos (by unfold padN; omega)]
    rfl
  refine bind_of (x := padded b) ?_ ?_
  · rw [show (56 : Int) = 8 * ((8 : Nat) : Int) - 8 by rfl]
    rw [put_loop (X := UInt8) (fun j => (shr64 (UInt64.ofInt (b.length : Int) * 8) (8 * j)).toUInt8) 8 (padL b) (by rw [padL_len]; omega)]
    · rfl
    · intro l j hj hl
      rw [if_pos (by simp only []; omega)]
      simp only []
      rw [show 8 * (j : Int) = ((8 * j : Nat) : Int) by omega, cnt_nat, obs, appL_one l _ hl, obs, wI_of (by omega) (by omega)]
    · intro l; rw [if_neg (by simp only []; omega)]
  have hpl := padded_len b
  refine bind_of (x := shaS (padded b) (nbl b.length)) (iterC_count (fun j => (shaS (padded b) j, ((64 * j : Nat) : Int))) (nbl b.length) _ rfl ?_ ?_) ?_
  · intro j hj
    have hs := shaS_len (padded b) j
    simp only []
    rw [if_pos (by omega), obs, lenA_of hs, obs, obs, one_block (padded b) _ j hs (by omega) (by omega), obs,
      add_loop _ _ hs (rnds_len _ _ hs _), obs, wI_of (by omega) (by omega), show ((64 * j : Nat) : Int) + 64 = ((64 * (j + 1) : Nat) : Int) by omega]
    rfl
  · simp only []; rw [if_neg (by omega)]
  have hlen := shaS_len (padded b) (nbl b.length)
  rw [lenA_of hlen, obs, out_loop _ hlen]
  · rfl
  · intro l i hi hl
    simp only []
    rw [if_pos (by omega), obs, idx_w0 (by omega), obs]
    unfold appL
    rw [if_pos (by simp only [List.length_cons, List.length_nil]; omega), obs, wI_succ _ (by omega)]
    rfl
  · intro l; rfl
end Gk

/- Printed by gen.py: for each Go function a pure function, and that the Go code comes to it. No condition beside the equation that says what the pure function gives. -/
namespace Gk
open Go Go.Proofs
noncomputable def aont_mix (a0f : Bool) (a1key : List UInt8) (a2b : List UInt8) : Option (List UInt8 × Int) :=
(if 1048576 < (a2b.length : Int) then some (([] : List UInt8), 4)
else
((cipher_New a0f a1key).bind fun r2 =>
(if r2.2 = 0 then
((makeL 8 (0 : UInt8)).bind fun c5 =>
((stream_Xor r2.1 c5 a2b).bind fun r7 => some (r7.1, r7.2)))
else some (([] : List UInt8), r2.2))))
theorem aont_mix_calls (a0f : Bool) (a1key : List UInt8) (a2b : List UInt8) (p0 : Value) (p1 : Value) (p2 : Value) (r : List UInt8 × Int) (w0 : World) (hp0 : Fd w0 [] p0 a0f) (hp1 : By w0 [] p1 a1key) (hp2 : By w0 [] p2 a2b) (H : aont_mix a0f a1key a2b = some r) :
    Calls Try.prog 31 [p0, p1, p2].toArray w0 (fun e w' => ∃ u0 : Value, e = .returned (.tuple #[u0, (i64 r.2)]) ∧ Ext w0 w' ∧ Nw w0 u0 ∧ OwK (Sc u8) w' [] 5 u0 r.1) := by
  have hE : Ext w0 w0 := Ext.refl w0; unfold aont_mix at H; refine calls_W (n := 28) Try.func31 rfl rfl rfl ?_; refine W_seq <| W_rg <| av (.slice none 0 0) rfl rfl <| av (i64 0) rfl rfl <| wnt <| W_seq <| W_seq <| W_rg <| ?_; refine mv p2 rfl rfl <| wa rfl (q_len rfl T22.sl rfl (hp2.lift (Lift.ext hE _))) <| wa rfl (q_gtI rfl rfl rfl) <| wnt <| ?_; refine W_cond _ rfl rfl (fun hb1 => ?_) (fun hb1 => ?_)
  · replace H := ifp hb1 H; refine W_seq <| W_rg <| av (.slice none 0 0) rfl rfl <| av (i64 4) rfl rfl <| wnt <| W_ret <| th_r <| ?_; obtain rfl := osi H; refine rt2 (.slice none 0 0) (i64 4) rfl rfl rfl rfl rfl rfl ?_; exact ⟨(.slice none 0 0), rfl, hE, Nw.nil _, (OwK.nil _ _ _ _)⟩
  replace H := ifn hb1 H; refine W_skip <| W_th <| W_seq <| W_rg <| mv p0 rfl rfl <| mv p1 rfl rfl <| ?_; obtain ⟨r2, hr2, H⟩ := bsi H; refine wls rfl rfl (stp_call (vs := [p0, p1]) Try.func49 rfl rfl rfl (ar2 rfl rfl) (cipher_New_calls a0f a1key p0 p1 r2 _ [] (Old.nil _) (hp0.lift (Lift.arg hE nv_nil)) (hp1.lift (Lift.ext hE _)) hr2) ?_); rintro _ w2 ⟨v2_0, rfl, x2, i2_0⟩; refine ⟨_, rfl, ?_⟩; have e3 := hE.trans x2; refine mv (.tuple #[v2_0, (i64 r2.2)]) rfl rfl <| wa rfl (q_extract rfl rfl rfl) <| wa rfl (q_extract rfl rfl rfl) <| av v2_0 rfl rfl <| av (i64 r2.2) rfl rfl <| wnt <| W_seq <| W_seq <| ?_; refine W_rg <| mv (i64 r2.2) rfl rfl <| wa rfl (q_neI rfl rfl rfl) <| wnt <| ?_; refine W_cond _ rfl rfl (fun hb4 => ?_) (fun hb4 => ?_)
  · replace H := (if_neg (ndec_t hb4)).symm.trans H; refine W_seq <| W_rg <| mv (i64 r2.2) rfl rfl <| av (.slice none 0 0) rfl rfl <| av (i64 r2.2) rfl rfl <| wnt <| W_ret <| th_r <| ?_; obtain rfl := osi H; refine rt2 (.slice none 0 0) (i64 r2.2) rfl rfl rfl rfl rfl rfl ?_; exact ⟨(.slice none 0 0), rfl, e3, Nw.nil _, (OwK.nil _ _ _ _)⟩
  replace H := (if_pos (ndec_f hb4)).symm.trans H; refine W_skip <| W_th <| W_seq <| W_rg <| mv v2_0 rfl rfl <| ?_; obtain ⟨c5, hc5, H⟩ := bsi H; refine wls rfl rfl (stp_make (L := []) (R := (Sc u8)) rfl T22 rfl rfl hc5 (fun _ _ => rfl) ?_); intro v5 w5 o5 n5 g5 l5; have x5 := grown_ext g5; have i5 : By w5 [] v5 c5 := OwK.slk (Sc.stab _) _ o5 (fun k hk => (Old.nil _) k (n5 k hk)) (fun _ h => h.2); replace i2_0 := i2_0.lift (Lift.ext x5 _); have e6 := e3.trans x5; refine mv p2 rfl rfl ?_; obtain ⟨r7, hr7, H⟩ := bsi H; refine wls rfl rfl (stp_call (vs := [v2_0, v5, p2]) Try.func50 rfl rfl rfl (ar3 rfl rfl rfl) (stream_Xor_calls r2.1 c5 a2b v2_0 v5 p2 r7 _ (i2_0.lift (Lift.sub (L' := []) (fun _ _ => trivial))) (i5.lift (Lift.sub (L' := []) (fun _ _ => trivial))) (hp2.lift (Lift.ext e6 _)) hr7) ?_); rintro _ w7 ⟨v7_0, rfl, x7, n7_0, o7_0⟩; refine ⟨_, rfl, ?_⟩; have o7 : OwK (Sc u8) w7 (v7_0 :: []) 5 v7_0 r7.1 := OwK.scal o7_0 _; replace i2_0 := i2_0.lift (Lift.call _ x7 n7_0); replace i5 := i5.lift (Lift.call _ x7 n7_0); have n9 := Nw.ext e6 n7_0; have e8 := e6.trans x7; refine wa rfl (q_extract rfl rfl rfl) <| wa rfl (q_extract rfl rfl rfl) <| av v7_0 rfl rfl <| av (i64 r7.2) rfl rfl <| wnt <| W_ret <| ?_; obtain rfl := osi H; refine rt2 v7_0 (i64 r7.2) rfl rfl rfl rfl rfl rfl ?_; exact ⟨v7_0, rfl, e8, n9, (o7.weak (Sc.stab _) (fun _ _ => trivial))⟩
noncomputable def aont_Wrap (a0f : Bool) (a1key : List UInt8) (a2b : List UInt8) : Option (List UInt8 × Int) :=
(if (!a0f) = true then some (([] : List UInt8), 1)
else
(if (a1key.length : Int) = 32 then
((aont_mix a0f a1key a2b).bind fun r3 =>
(if r3.2 = 0 then
((hash_Sum ([r3.1] : List (List UInt8))).bind fun r8 =>
((word_Xor a1key r8).bind fun r10 =>
((slices_Concat_sbytebyte ([r3.1, r10] : List (List UInt8))).bind fun r14 => some (r14, 0))))
else some (([] : List UInt8), r3.2)))
else some (([] : List UInt8), 3)))
theorem aont_Wrap_calls (a0f : Bool) (a1key : List UInt8) (a2b : List UInt8) (p0 : Value) (p1 : Value) (p2 : Value) (r : List UInt8 × Int) (w0 : World) (hp0 : Fd w0 [] p0 a0f) (hp1 : By w0 [] p1 a1key) (hp2 : By w0 [] p2 a2b) (H : aont_Wrap a0f a1key a2b = some r) :
    Calls Try.prog 17 [p0, p1, p2].toArray w0 (fun e w' => ∃ u0 : Value, e = .returned (.tuple #[u0, (i64 r.2)]) ∧ Ext w0 w' ∧ Nw w0 u0 ∧ OwK (Sc u8) w' [] 5 u0 r.1) := by
  have hE : Ext w0 w0 := Ext.refl w0; unfold aont_Wrap at H; refine calls_W (n := 35) Try.func17 rfl rfl rfl ?_; refine W_seq <| W_rg <| av (.slice none 0 0) rfl rfl <| av (i64 0) rfl rfl <| wnt <| W_seq <| W_block <| W_seq <| ?_; refine W_rg <| mv p0 rfl rfl <| wa rfl (q_eqF rfl rfl rfl rfl (hp0.lift (Lift.ext hE _))) <| av (.bool ((!a0f))) rfl rfl <| wnt <| ?_; refine W_cond _ rfl rfl (fun hb1 => ?_) (fun hb1 => ?_)
  · replace H := (if_pos hb1).symm.trans H; refine W_seq <| W_rg <| av (.slice none 0 0) rfl rfl <| av (i64 1) rfl rfl <| wnt <| W_ret <| bk_r <| th_r <| ?_; obtain rfl := osi H; refine rt2 (.slice none 0 0) (i64 1) rfl rfl rfl rfl rfl rfl ?_; exact ⟨(.slice none 0 0), rfl, hE, Nw.nil _, (OwK.nil _ _ _ _)⟩
  replace H := (if_neg (ne_true_of_eq_false hb1)).symm.trans H; refine W_seq <| W_rg <| mv p1 rfl rfl <| wa rfl (q_len rfl T22.sl rfl (hp1.lift (Lift.ext hE _))) <| wa rfl (q_neI rfl rfl rfl) <| av (.bool ((!decide ((a1key.length : Int) = 32)))) rfl rfl <| wnt <| ?_; refine W_cond _ rfl rfl (fun hb2 => ?_) (fun hb2 => ?_)
  · replace H := (if_neg (ndec_t hb2)).symm.trans H; refine W_seq <| W_rg <| av (.slice none 0 0) rfl rfl <| av (i64 3) rfl rfl <| wnt <| W_ret <| bk_r <| th_r <| ?_; obtain rfl := osi H; refine rt2 (.slice none 0 0) (i64 3) rfl rfl rfl rfl rfl rfl ?_; exact ⟨(.slice none 0 0), rfl, hE, Nw.nil _, (OwK.nil _ _ _ _)⟩
  replace H := (if_pos (ndec_f hb2)).symm.trans H; refine W_skip <| bk_n <| W_th <| W_seq <| W_rg <| mv p0 rfl rfl <| mv p1 rfl rfl <| mv p2 rfl rfl <| ?_; obtain ⟨r3, hr3, H⟩ := bsi H; refine wls rfl rfl (stp_call (vs := [p0, p1, p2]) Try.func31 rfl rfl rfl (ar3 rfl rfl rfl) (aont_mix_calls a0f a1key a2b p0 p1 p2 r3 _ (hp0.lift (Lift.ext hE _)) (hp1.lift (Lift.ext hE _)) (hp2.lift (Lift.ext hE _)) hr3) ?_); rintro _ w3 ⟨v3_0, rfl, x3, n3_0, o3_0⟩; refine ⟨_, rfl, ?_⟩; have i3_0 : By w3 [] v3_0 r3.1 := OwK.slk (Sc.stab _) _ (OwK.scal o3_0 (v3_0 :: [])) (fun k hk => (Old.nil _) k (n3_0 k hk)) (fun _ h => h.2); have e4 := hE.trans x3; refine mv (.tuple #[v3_0, (i64 r3.2)]) rfl rfl <| wa rfl (q_extract rfl rfl rfl) <| wa rfl (q_extract rfl rfl rfl) <| av v3_0 rfl rfl <| av (i64 r3.2) rfl rfl <| wnt <| W_seq <| W_seq <| ?_; refine W_rg <| mv (i64 r3.2) rfl rfl <| wa rfl (q_neI rfl rfl rfl) <| wnt <| ?_; refine W_cond _ rfl rfl (fun hb5 => ?_) (fun hb5 => ?_)
  · replace H := (if_neg (ndec_t hb5)).symm.trans H; refine W_seq <| W_rg <| mv (i64 r3.2) rfl rfl <| av (.slice none 0 0) rfl rfl <| av (i64 r3.2) rfl rfl <| wnt <| W_ret <| th_r <| ?_; obtain rfl := osi H; refine rt2 (.slice none 0 0) (i64 r3.2) rfl rfl rfl rfl rfl rfl ?_; exact ⟨(.slice none 0 0), rfl, e4, Nw.nil _, (OwK.nil _ _ _ _)⟩
  replace H := (if_pos (ndec_f hb5)).symm.trans H; refine W_skip <| W_th <| W_seq <| W_rg <| mv v3_0 rfl rfl <| mv p1 rfl rfl <| mv v3_0 rfl rfl <| ?_; refine wls rfl rfl (stp_lit (L := []) (R := By) [v3_0] ([r3.1] : List (List UInt8)) rfl T28 rfl (by exact ⟨rfl, rfl, trivial⟩) rfl (LitR.cells (R := By) (w := w3) (L := []) (l := ([r3.1] : List (List UInt8))) (LitR.cons i3_0 LitR.nil) (fun u x h => cells_sl u x h)) rfl (LitR.all (R := By) (w := w3) (L := []) (l := ([r3.1] : List (List UInt8))) (SlK.stab (Sc.stab _)) (LitR.cons i3_0 LitR.nil)) ?_); intro v6 w6 o6 n6 g6 l6; have x6 := grown_ext g6; have i6 : Rw w6 [] v6 (([r3.1] : List (List UInt8))) := OwK.slk (SlK.stab (Sc.stab _)) _ o6 (fun k hk => (Old.nil _) k (n6 k hk)) (fun _ h => h.2); replace i3_0 := i3_0.lift (Lift.ext x6 _); have e7 := e4.trans x6; obtain ⟨r8, hr8, H⟩ := bsi H; refine wls rfl rfl (stp_call (vs := [v6]) Try.func33 rfl rfl rfl (ar1 rfl) (hash_Sum_calls ([r3.1] : List (List UInt8)) v6 r8 _ (i6.lift (Lift.sub (L' := []) (fun _ _ => trivial))) hr8) ?_); rintro _ w8 ⟨v8, rfl, x8, n8_0, o8_0⟩; refine ⟨_, rfl, ?_⟩; have i8_0 : By w8 [] v8 r8 := OwK.slk (Sc.stab _) _ (OwK.scal o8_0 (v8 :: [])) (fun k hk => (Old.nil _) k (n8_0 k hk)) (fun _ h => h.2); replace i3_0 := i3_0.lift (Lift.ext x8 _); replace i6 := i6.lift (Lift.ext x8 _); have e9 := e7.trans x8; obtain ⟨r10, hr10, H⟩ := bsi H; refine wls rfl rfl (stp_call (vs := [p1, v8]) Try.func32 rfl rfl rfl (ar2 rfl rfl) (word_Xor_calls a1key r8 p1 v8 r10 _ (hp1.lift (Lift.ext e9 _)) (i8_0.lift (Lift.sub (L' := []) (fun _ _ => trivial))) hr10) ?_); rintro _ w10 ⟨v10, rfl, x10, n10_0, o10_0⟩; refine ⟨_, rfl, ?_⟩; have i10_0 : By w10 [] v10 r10 := OwK.slk (Sc.stab _) _ (OwK.scal o10_0 (v10 :: [])) (fun k hk => (Old.nil _) k (n10_0 k hk)) (fun _ h => h.2); replace i3_0 := i3_0.lift (Lift.ext x10 _); replace i6 := i6.lift (Lift.ext x10 _); replace i8_0 := i8_0.lift (Lift.ext x10 _); have e11 := e9.trans x10; refine wls rfl rfl (stp_lit (L := []) (R := By) [v3_0, v10] ([r3.1, r10] : List (List UInt8)) rfl T28 rfl (by exact ⟨rfl, rfl, rfl, rfl, trivial⟩) rfl (LitR.cells (R := By) (w := w10) (L := []) (l := ([r3.1, r10] : List (List UInt8))) (LitR.cons i3_0 (LitR.cons i10_0 LitR.nil)) (fun u x h => cells_sl u x h)) rfl (LitR.all (R := By) (w := w10) (L := []) (l := ([r3.1, r10] : List (List UInt8))) (SlK.stab (Sc.stab _)) (LitR.cons i3_0 (LitR.cons i10_0 LitR.nil))) ?_); intro v12 w12 o12 n12 g12 l12; have x12 := grown_ext g12; have i12 : Rw w12 [] v12 (([r3.1, r10] : List (List UInt8))) := OwK.slk (SlK.stab (Sc.stab _)) _ o12 (fun k hk => (Old.nil _) k (n12 k hk)) (fun _ h => h.2); replace i3_0 := i3_0.lift (Lift.ext x12 _); replace i6 := i6.lift (Lift.ext x12 _); replace i8_0 := i8_0.lift (Lift.ext x12 _); replace i10_0 := i10_0.lift (Lift.ext x12 _); have e13 := e11.trans x12
  obtain ⟨r14, hr14, H⟩ := bsi H; refine wls rfl rfl (stp_call (vs := [v12]) Try.func19 rfl rfl rfl (ar1 rfl) (slices_Concat_sbytebyte_calls ([r3.1, r10] : List (List UInt8)) v12 r14 _ (i12.lift (Lift.sub (L' := []) (fun _ _ => trivial))) hr14) ?_); rintro _ w14 ⟨v14, rfl, x14, n14_0, o14_0⟩; refine ⟨_, rfl, ?_⟩; have o14 : OwK (Sc u8) w14 (v14 :: []) 5 v14 r14 := OwK.scal o14_0 _; replace i3_0 := i3_0.lift (Lift.call _ x14 n14_0); replace i6 := i6.lift (Lift.call _ x14 n14_0); replace i8_0 := i8_0.lift (Lift.call _ x14 n14_0); replace i10_0 := i10_0.lift (Lift.call _ x14 n14_0); replace i12 := i12.lift (Lift.call _ x14 n14_0); have n16 := Nw.ext e13 n14_0; have e15 := e13.trans x14; refine av v14 rfl rfl <| av (i64 0) rfl rfl <| wnt <| W_ret <| ?_; obtain rfl := osi H; refine rt2 v14 (i64 0) rfl rfl rfl rfl rfl rfl ?_; exact ⟨v14, rfl, e15, n16, (o14.weak (Sc.stab _) (fun _ _ => trivial))⟩
end Gk

/- Printed by gen.py: for each Go function a pure function, and that the Go code comes to it. No condition beside the equation that says what the pure function gives. -/
namespace Gk
open Go Go.Proofs
end Gk

/- All or nothing (chapter 11), in plain Lean. No condition but lengths. -/
namespace Gk
open Gf
def z8 : List UInt8 := List.replicate 8 0
def mixF (key nonce b : List UInt8) : List UInt8 := xr (strL ((keysF key).headD []) (keysF key).tail nonce 0 b.length) b
theorem mixF_len (key nonce b : List UInt8) : (mixF key nonce b).length = b.length := by rw [mixF, xr_len, strL_len]; omega
theorem co_mixF (key nonce b : List UInt8) (i : Nat) (h : i < b.length) : co (mixF key nonce b) i = strm ((keysF key).headD []) (keysF key).tail nonce i ^^^ co b i := by
  rw [mixF, co_xr _ _ _ (by rw [strL_len]; exact h) h, co_strL _ _ _ _ _ _ h, Nat.zero_add]
theorem New_mix (key : List UInt8) (n : Nat) (hn : n = 4 ∨ n = 8) (h : key.length = 4 * n) : ∃ c, cipher_New true key = some (some c, 0) ∧ Good c ((keysF key).headD []) (keysF key).tail ∧ keysF key = (keysF key).headD [] :: (keysF key).tail := by
  obtain ⟨c, k0, ks, hN, G, hK⟩ := New_good key n hn h
  refine ⟨c, hN, ?_, ?_⟩
  · rw [hK]; exact G
  · rw [hK]; rfl
theorem mix_eq (key b : List UInt8) (hk : key.length = 32) (hb : b.length ≤ 10000) : aont_mix true key b = some (mixF key z8 b, 0) := by
  have hm : (1000 : Nat) ≤ most := by decide
  obtain ⟨c, hN, G, hK⟩ := New_mix key 8 (.inr rfl) hk
  unfold aont_mix
  rw [if_neg (by omega), hN, obs]
  dsimp only
  rw [if_pos rfl, show makeL 8 (0 : UInt8) = some (List.replicate 8 0) from makeL_nat 8 _ (by omega), obs, SXor_eq G _ (by simp) b (by omega), obs]; rfl
theorem Concat2 (a b : List UInt8) (h : a.length + b.length ≤ 1000000) : slices_Concat_sbytebyte [a, b] = some (a ++ b) := by
  have hm : (1000000 : Nat) ≤ most := by decide
  rw [Concat_eq _ (by simp; omega) (by simp; omega)]; simp
def wrapF (key b : List UInt8) : List UInt8 := mixF key z8 b ++ xr key (sha (mixF key z8 b))
theorem wrapF_len (key b : List UInt8) (hk : key.length = 32) : (wrapF key b).length = b.length + 32 := by
  rw [wrapF, List.length_append, mixF_len, xr_len, sha_len, hk]; rfl
theorem Sum1 (b : List UInt8) (h : b.length ≤ 1000000) : hash_Sum [b] = some (sha b) := by
  rw [hash_Sum_eq _ (by simpa using h) (by simp)]; simp
theorem Wrap_eq (key b : List UInt8) (hk : key.length = 32) (hb : b.length ≤ 10000) : aont_Wrap true key b = some (wrapF key b, 0) := by
  have hm : (1000000 : Nat) ≤ most := by decide
  have hl := mixF_len key z8 b
  unfold aont_Wrap
  rw [if_neg (by simp), if_pos (by omega), mix_eq key b hk hb, obs]
  dsimp only
  rw [if_pos rfl, Sum1 _ (by omega), obs, wXor_eq _ _ (by omega), obs, Concat2 _ _ (by rw [xr_len, sha_len]; omega), obs]; rfl
theorem aontblk (key : List UInt8) (n : Nat) (hn : n = 4 ∨ n = 8) (h : key.length = 4 * n) (nonce : List UInt8) (hno : nonce.length = 8) (c : Nat) : ref05_Encrypt key (nonce ++ b8 (UInt64.ofNat c)) = some (blk5 ((keysF key).headD []) (keysF key).tail nonce c) := by
  obtain ⟨_, _, _, hK⟩ := New_mix key n hn h
  exact rEncrypt_eq _ _ _ _ n hn h (by rw [List.length_append, b8_len, hno]) hK
theorem ofInt64q (n : Nat) (h : n < 18446744073709551616) : UInt64.ofInt (n : Int) = UInt64.ofNat n := by
  apply UInt64.toNat_inj.1
  simp [UInt64.ofInt]; omega
theorem mod_natq (a : Int) (m : UInt64) (h0 : 0 < m.toNat) (h : m.toNat ≤ 2000000000) : ∃ n : Nat, n < m.toNat ∧ wI ((((UInt64.ofInt a) % m).toNat : Int)) = (n : Int) := by
  have h1 : ((UInt64.ofInt a) % m).toNat < m.toNat := by rw [UInt64.toNat_mod]; exact Nat.mod_lt _ h0
  exact ⟨_, h1, wI_nat (by omega)⟩
theorem nz_of {m : UInt64} (h : 0 < m.toNat) : nz m = some () := by
  unfold nz
  rw [if_neg (fun e => by rw [e] at h; exact absurd h (by decide))]
end Gk

/- Printed by gen.py: for each Go function a pure function, and that the Go code comes to it. No condition beside the equation that says what the pure function gives. -/
namespace Gk
open Go Go.Proofs
noncomputable def ref03_Eval (a0p : List UInt8) (a1x : UInt8) : Option UInt8 :=
((iterC (fun s1 : UInt8 × UInt8 × Int =>
(if s1.2.2 < (a0p.length : Int) then
((idx a0p s1.2.2).bind fun c4 =>
((ref02_Mul c4 s1.2.1).bind fun r5 =>
((ref02_Mul s1.2.1 a1x).bind fun r7 => some (.inl ((s1.1 ^^^ r5), r7, (wI (s1.2.2 + 1)))))))
else some (.inr s1.1))) ((0 : UInt8), (1 : UInt8), 0)).bind fun x1 => some x1)
theorem ref03_Eval_calls (a0p : List UInt8) (a1x : UInt8) (p0 : Value) (r : UInt8) (w0 : World) (hp0 : By w0 [] p0 a0p) (H : ref03_Eval a0p a1x = some r) :
    Calls Try.prog 43 [p0, (u8 a1x)].toArray w0 (fun e w' => e = .returned (u8 r) ∧ Ext w0 w') := by
  have hE : Ext w0 w0 := Ext.refl w0; unfold ref03_Eval at H; refine calls_W (n := 25) Try.func43 rfl rfl rfl ?_; refine W_seq <| W_rg <| av (u8 0) rfl (cst8 (0 : UInt8) rfl) <| wnt <| W_seq <| W_rg <| av (u8 0) rfl (cst8 (0 : UInt8) rfl) <| av (u8 1) rfl (cst8 (1 : UInt8) rfl) <| ?_; refine wnt <| W_seq <| W_seq <| W_rg <| mv p0 rfl rfl <| wa rfl (q_len rfl T22.sl rfl (hp0.lift (Lift.ext hE _))) <| mv (i64 0) rfl rfl <| wnt <| ?_; obtain ⟨x1, G1, H⟩ := bsi H; refine W_mid (fun f w => f 5 = (u8 x1) ∧ f 25 = undef ∧ Ext w0 w) ?_ ?_
  · refine W_block ?_; refine W_loop (fun s1 f w => f 1 = (u8 a1x) ∧ f 5 = (u8 s1.1) ∧ f 6 = (u8 s1.2.1) ∧ f 9 = p0 ∧ f 10 = (i64 ((a0p.length : Int))) ∧ f 11 = (i64 s1.2.2) ∧ f 25 = undef ∧ Ext w0 w) G1 ?_ ?_
    · exact ⟨rfl, rfl, rfl, rfl, rfl, rfl, rfl, hE⟩
    rintro s1 _ _ w2 ⟨s1_2, s5_2, s6_2, s9_2, s10_2, s11_2, s25_2, hE2⟩ H1 hr1; refine W_seq <| W_rg <| wa rfl (q_ltI rfl s11_2 s10_2) <| wnt <| W_seq <| ?_; refine W_cond _ rfl rfl (fun hb3 => ?_) (fun hb3 => ?_)
    · replace H1 := ifp hb3 H1; refine W_skip <| W_th <| W_seq <| W_block <| W_seq <| W_rg <| ?_; obtain ⟨c4, hc4, H1⟩ := bsi H1; refine wa rfl (q_adr rfl T22 s9_2 s11_2 (hp0.lift (Lift.ext hE2 _)) hc4) <| wq rfl (q_loadS rfl T22 rfl (hp0.lift (Lift.ext hE2 _)) hc4) <| av (u8 c4) rfl rfl <| wnt <| W_seq <| W_rg <| mv (u8 s1.1) rfl s5_2 <| mv (u8 c4) rfl rfl <| ?_; refine mv (u8 s1.2.1) rfl s6_2 ?_; obtain ⟨r5, hr5, H1⟩ := bsi H1; refine wls rfl rfl (stp_call (vs := [(u8 c4), (u8 s1.2.1)]) Try.func62 rfl rfl rfl (ar2 rfl rfl) (ref02_Mul_calls c4 s1.2.1  r5 _  hr5) ?_); rintro _ w5 ⟨rfl, x5⟩; refine ⟨_, rfl, ?_⟩; have e6 := hE2.trans x5; refine wa rfl (q_xor8 rfl rfl rfl) <| av (u8 ((s1.1 ^^^ r5))) rfl rfl <| wnt <| W_rg <| mv (u8 s1.2.1) rfl s6_2 <| mv (u8 a1x) rfl s1_2 <| ?_; obtain ⟨r7, hr7, H1⟩ := bsi H1; refine wls rfl rfl (stp_call (vs := [(u8 s1.2.1), (u8 a1x)]) Try.func62 rfl rfl rfl (ar2 rfl rfl) (ref02_Mul_calls s1.2.1 a1x  r7 _  hr7) ?_); rintro _ w7 ⟨rfl, x7⟩; refine ⟨_, rfl, ?_⟩; have e8 := e6.trans x7; refine av (u8 r7) rfl rfl <| wl_nil <| bk_n <| W_th <| W_rg <| wa rfl (q_addI rfl s11_2 rfl) <| mv (i64 ((wI (s1.2.2 + 1)))) rfl rfl <| wl_nil <| ?_; obtain rfl := osi H1; exact ⟨_, rfl, s1_2, rfl, rfl, s9_2, s10_2, rfl, s25_2, e8⟩
    replace H1 := ifn hb3 H1; refine W_exit <| th_x <| ?_; obtain rfl := osi H1; obtain rfl := hr1 _ rfl; refine th_x <| bk_x <| ?_; exact ⟨s5_2, s25_2, hE2⟩
  rintro _ w10 ⟨s5_10, s25_10, hE10⟩; refine W_th <| W_seq <| W_rg <| mv (u8 x1) rfl s5_10 <| av (u8 x1) rfl rfl <| wnt <| W_ret <| ?_; obtain rfl := osi H; refine rt1 (u8 x1) rfl rfl rfl s25_10 ?_; exact ⟨rfl, hE10⟩
noncomputable def ref03_Weight (a0xs : List UInt8) (a1i : Int) (a2x : UInt8) : Option UInt8 :=
((iterC (fun s1 : UInt8 × Int =>
(if s1.2 < (a0xs.length : Int) then
(if s1.2 = a1i then some (.inl (s1.1, (wI (s1.2 + 1))))
else
((idx a0xs s1.2).bind fun c7 =>
((idx a0xs a1i).bind fun c8 =>
((ref02_Inv (c8 ^^^ c7)).bind fun r9 =>
((ref02_Mul (a2x ^^^ c7) r9).bind fun r11 =>
((ref02_Mul s1.1 r11).bind fun r13 => some (.inl (r13, (wI (s1.2 + 1))))))))))
else some (.inr s1.1))) ((1 : UInt8), 0)).bind fun x1 => some x1)
theorem ref03_Weight_calls (a0xs : List UInt8) (a1i : Int) (a2x : UInt8) (p0 : Value) (r : UInt8) (w0 : World) (hp0 : By w0 [] p0 a0xs) (H : ref03_Weight a0xs a1i a2x = some r) :
    Calls Try.prog 66 [p0, (i64 a1i), (u8 a2x)].toArray w0 (fun e w' => e = .returned (u8 r) ∧ Ext w0 w') := by
  have hE : Ext w0 w0 := Ext.refl w0; unfold ref03_Weight at H; refine calls_W (n := 38) Try.func66 rfl rfl rfl ?_; refine W_seq <| W_rg <| av (u8 0) rfl (cst8 (0 : UInt8) rfl) <| wnt <| W_seq <| W_rg <| av (u8 1) rfl (cst8 (1 : UInt8) rfl) <| wnt <| ?_; refine W_seq <| W_seq <| W_rg <| mv p0 rfl rfl <| wa rfl (q_len rfl T22.sl rfl (hp0.lift (Lift.ext hE _))) <| mv (i64 0) rfl rfl <| wnt <| ?_; obtain ⟨x1, G1, H⟩ := bsi H; refine W_mid (fun f w => f 7 = (u8 x1) ∧ f 38 = undef ∧ Ext w0 w) ?_ ?_
  · refine W_block ?_; refine W_loop (fun s1 f w => f 0 = p0 ∧ f 1 = (i64 a1i) ∧ f 2 = (u8 a2x) ∧ f 7 = (u8 s1.1) ∧ f 10 = (i64 ((a0xs.length : Int))) ∧ f 11 = (i64 s1.2) ∧ f 38 = undef ∧ Ext w0 w) G1 ?_ ?_
    · exact ⟨rfl, rfl, rfl, rfl, rfl, rfl, rfl, hE⟩
    rintro s1 _ _ w2 ⟨s0_2, s1_2, s2_2, s7_2, s10_2, s11_2, s38_2, hE2⟩ H1 hr1; refine W_seq <| W_rg <| wa rfl (q_ltI rfl s11_2 s10_2) <| wnt <| W_seq <| ?_; refine W_cond _ rfl rfl (fun hb3 => ?_) (fun hb3 => ?_)
    · replace H1 := ifp hb3 H1; refine W_skip <| W_th <| W_seq <| W_block <| W_seq <| W_rg <| mv (i64 s1.2) rfl s11_2 <| av (i64 s1.2) rfl rfl <| ?_; refine wnt <| W_seq <| W_rg <| mv (i64 s1.2) rfl rfl <| mv (i64 a1i) rfl s1_2 <| wa rfl (q_neI rfl rfl rfl) <| wnt <| ?_; refine W_cond _ rfl rfl (fun hb4 => ?_) (fun hb4 => ?_)
      · replace H1 := (if_neg (ndec_t hb4)).symm.trans H1; refine W_draw [5, 10, 14] [(0, 0), (1, 0), (2, 0), (3, 0), (4, 0), (5, 1), (6, 0), (7, 0), (8, 0), (9, 0), (10, 1), (11, 0), (12, 0), (13, 0), (14, 1), (15, 0), (16, 2), (17, 2), (18, 2), (19, 0)] mixed (by kernel_rfl) (by kernel_rfl) (by kernel_rfl) (by kernel_rfl) ?_; have x5 := Ext.drew w2; have e6 := hE2.trans x5; refine sv (u8 s1.1) rfl rfl s7_2 <| sv (u8 a2x) rfl rfl s2_2 <| sv p0 rfl rfl s0_2 <| sv (i64 s1.2) rfl rfl rfl <| ?_; obtain ⟨c7, hc7, H1⟩ := bsi H1; refine sa rfl rfl (q_adr rfl T22 rfl rfl (hp0.lift (Lift.ext e6 _)) hc7) <| sq rfl rfl (q_loadS rfl T22 rfl (hp0.lift (Lift.ext e6 _)) hc7) <| sa rfl rfl (q_xor8 rfl rfl rfl) <| sv p0 rfl rfl s0_2 <| sv (i64 a1i) rfl rfl s1_2 <| ?_; obtain ⟨c8, hc8, H1⟩ := bsi H1; refine sa rfl rfl (q_adr rfl T22 rfl rfl (hp0.lift (Lift.ext e6 _)) hc8) <| sq rfl rfl (q_loadS rfl T22 rfl (hp0.lift (Lift.ext e6 _)) hc8) <| sv p0 rfl rfl s0_2 <| sv (i64 s1.2) rfl rfl rfl <| sa rfl rfl (q_adr rfl T22 rfl rfl (hp0.lift (Lift.ext e6 _)) hc7) <| sq rfl rfl (q_loadS rfl T22 rfl (hp0.lift (Lift.ext e6 _)) hc7) <| sa rfl rfl (q_xor8 rfl rfl rfl) <| ?_; obtain ⟨r9, hr9, H1⟩ := bsi H1; refine wss rfl rfl rfl (stp_call (vs := [(u8 ((c8 ^^^ c7)))]) Try.func82 rfl rfl rfl (ar1 rfl) (ref02_Inv_calls (c8 ^^^ c7)  r9 _  hr9) ?_); rintro _ w9 ⟨rfl, x9⟩; refine ⟨_, rfl, x9, ?_⟩; have e10 := e6.trans x9; obtain ⟨r11, hr11, H1⟩ := bsi H1; refine wsc rfl (by kernel_rfl) rfl rfl (stp_call (vs := [(u8 ((a2x ^^^ c7))), (u8 r9)]) Try.func62 rfl rfl rfl (ar2 rfl rfl) (ref02_Mul_calls (a2x ^^^ c7) r9  r11 _  hr11) ?_); rintro _ w11 ⟨rfl, x11⟩; refine ⟨_, rfl, ?_⟩; have e12 := e10.trans x11; obtain ⟨r13, hr13, H1⟩ := bsi H1; refine wsc rfl (by kernel_rfl) rfl rfl (stp_call (vs := [(u8 s1.1), (u8 r11)]) Try.func62 rfl rfl rfl (ar2 rfl rfl) (ref02_Mul_calls s1.1 r11  r13 _  hr13) ?_); rintro _ w13 ⟨rfl, x13⟩; refine ⟨_, rfl, ?_⟩; have e14 := e12.trans x13; refine sa rfl rfl (q_assign (v := (u8 r13)) rfl rfl) ?_; refine ws_nil ?_; refine bk_n <| W_th <| W_rg <| wa rfl (q_addI rfl s11_2 rfl) <| mv (i64 ((wI (s1.2 + 1)))) rfl rfl <| wl_nil <| ?_; obtain rfl := osi H1; exact ⟨_, rfl, s0_2, s1_2, s2_2, rfl, s10_2, rfl, s38_2, e14⟩
      replace H1 := (if_pos (ndec_f hb4)).symm.trans H1; refine W_skip <| bk_n <| W_th <| W_rg <| wa rfl (q_addI rfl s11_2 rfl) <| mv (i64 ((wI (s1.2 + 1)))) rfl rfl <| wl_nil <| ?_; obtain rfl := osi H1; exact ⟨_, rfl, s0_2, s1_2, s2_2, s7_2, s10_2, rfl, s38_2, hE2⟩
    replace H1 := ifn hb3 H1; refine W_exit <| th_x <| ?_; obtain rfl := osi H1; obtain rfl := hr1 _ rfl; refine th_x <| bk_x <| ?_; exact ⟨s7_2, s38_2, hE2⟩
  rintro _ w16 ⟨s7_16, s38_16, hE16⟩; refine W_th <| W_seq <| W_rg <| mv (u8 x1) rfl s7_16 <| av (u8 x1) rfl rfl <| wnt <| W_ret <| ?_; obtain rfl := osi H; refine rt1 (u8 x1) rfl rfl rfl s38_16 ?_; exact ⟨rfl, hE16⟩
end Gk

/- Printed by gen.py: for each Go function a pure function, and that the Go code comes to it. No condition beside the equation that says what the pure function gives. -/
namespace Gk
open Go Go.Proofs
noncomputable def ref08_Share (a0t : Int) (a1secret : List UInt8) (a2mask : List UInt8) (a3x : UInt8) : Option (List UInt8) :=
((iterC (fun s4 : List UInt8 × Int =>
(if s4.2 < (a1secret.length : Int) then
((idx a1secret s4.2).bind fun c7 =>
((iterC (fun s12 : List UInt8 × Int =>
(if s12.2 < a0t then
((idx a2mask ((wI ((wI ((wI (s12.2 - 1)) * (a1secret.length : Int))) + s4.2)))).bind fun c15 =>
((appL s12.1 (([c15] : List UInt8))).bind fun c18 => some (.inl (c18, (wI (s12.2 + 1))))))
else some (.inr s12.1))) (([c7] : List UInt8), 1)).bind fun x12 =>
((ref03_Eval x12 a3x).bind fun r24 =>
((appL s4.1 (([r24] : List UInt8))).bind fun c28 => some (.inl (c28, (wI (s4.2 + 1))))))))
else some (.inr s4.1))) (([] : List UInt8), 0)).bind fun x4 => some x4)
theorem ref08_Share_calls (a0t : Int) (a1secret : List UInt8) (a2mask : List UInt8) (a3x : UInt8) (p1 : Value) (p2 : Value) (r : List UInt8) (w0 : World) (hp1 : By w0 [] p1 a1secret) (hp2 : By w0 [] p2 a2mask) (H : ref08_Share a0t a1secret a2mask a3x = some r) :
    Calls Try.prog 24 [(i64 a0t), p1, p2, (u8 a3x)].toArray w0 (fun e w' => ∃ u0 : Value, e = .returned u0 ∧ Ext w0 w' ∧ Nw w0 u0 ∧ OwK (Sc u8) w' [] 5 u0 r) := by
  have hE : Ext w0 w0 := Ext.refl w0; unfold ref08_Share at H; refine calls_W (n := 50) Try.func24 rfl rfl rfl ?_; refine W_seq <| W_rg <| av (.slice none 0 0) rfl rfl <| wnt <| W_seq <| W_rg <| ?_; refine wls rfl rfl (stp_lit (L := []) (R := (Sc u8)) [] ([] : List UInt8) rfl T22 rfl (by exact trivial) rfl (litC u8 (oneC_u8) (us := []) (l := ([] : List UInt8)) rfl) rfl (litS u8 (us := []) (l := ([] : List UInt8)) rfl) ?_); intro v1 w1 o1 n1 g1 l1; have x1 := grown_ext g1; have n3 := Nw.ext hE n1; have e2 := hE.trans x1; refine av v1 rfl rfl <| wnt <| W_seq <| W_seq <| W_rg <| mv p1 rfl rfl <| wa rfl (q_len rfl T22.sl rfl (hp1.lift (Lift.ext e2 _))) <| mv (i64 0) rfl rfl <| ?_; refine wnt ?_; obtain ⟨x4, G4, H⟩ := bsi H; refine W_mid (fun f w => ∃ v9_35 : Value, f 9 = v9_35 ∧ f 50 = undef ∧ Ext w0 w ∧ OwK (Sc u8) w [v9_35] 5 v9_35 x4 ∧ Nw w0 v9_35) ?_ ?_
  · refine W_block ?_; refine W_loop (fun s4 f w => ∃ v9_33 : Value, f 0 = (i64 a0t) ∧ f 1 = p1 ∧ f 2 = p2 ∧ f 3 = (u8 a3x) ∧ f 9 = v9_33 ∧ f 15 = (i64 ((a1secret.length : Int))) ∧ f 16 = (i64 s4.2) ∧ f 50 = undef ∧ Ext w0 w ∧ OwK (Sc u8) w [v9_33] 5 v9_33 s4.1 ∧ Nw w0 v9_33) G4 ?_ ?_
    · exact ⟨v1, rfl, rfl, rfl, rfl, rfl, rfl, rfl, rfl, e2, o1, n3⟩
    rintro s4 _ _ w5 ⟨v9_5, s0_5, s1_5, s2_5, s3_5, s9_5, s15_5, s16_5, s50_5, hE5, o0_5, n0_5⟩ H4 hr4; refine W_seq <| W_rg <| wa rfl (q_ltI rfl s16_5 s15_5) <| wnt <| W_seq <| ?_; refine W_cond _ rfl rfl (fun hb6 => ?_) (fun hb6 => ?_)
    · replace H4 := ifp hb6 H4; refine W_skip <| W_th <| W_seq <| W_block <| W_seq <| W_rg <| mv (i64 s4.2) rfl s16_5 <| av (i64 s4.2) rfl rfl <| ?_; refine wnt <| W_seq <| W_rg <| mv p1 rfl s1_5 <| mv (i64 s4.2) rfl rfl <| ?_; obtain ⟨c7, hc7, H4⟩ := bsi H4; refine wa rfl (q_adr rfl T22 rfl rfl (hp1.lift (Lift.ext hE5 _)) hc7) <| wq rfl (q_loadS rfl T22 rfl (hp1.lift (Lift.ext hE5 _)) hc7) <| ?_; refine wls rfl rfl (stp_lit (L := [v9_5]) (R := (Sc u8)) [(u8 c7)] ([c7] : List UInt8) rfl T22 rfl (by exact ⟨rfl, rfl, trivial⟩) rfl (litC u8 (oneC_u8) (us := [(u8 c7)]) (l := ([c7] : List UInt8)) rfl) rfl (litS u8 (us := [(u8 c7)]) (l := ([c7] : List UInt8)) rfl) ?_); intro v8 w8 o8 n8 g8 l8; have x8 := grown_ext g8; have q9 : Nq v9_5 v8 := o0_5.nq n8; replace o0_5 := o0_5.extL (Sc.stab _) x8 (Lift.call _ x8 n8); have n11 := Nw.ext hE5 n8; have e10 := hE5.trans x8; refine av v8 rfl rfl <| wnt <| W_seq <| W_seq <| W_rg <| av (i64 1) rfl rfl <| wnt <| ?_; obtain ⟨x12, G12, H4⟩ := bsi H4; refine W_mid (fun f w => ∃ v11_32 : Value, f 0 = (i64 a0t) ∧ f 1 = p1 ∧ f 2 = p2 ∧ f 3 = (u8 a3x) ∧ f 9 = v9_5 ∧ f 11 = v11_32 ∧ f 15 = (i64 ((a1secret.length : Int))) ∧ f 16 = (i64 s4.2) ∧ f 50 = undef ∧ Ext w0 w ∧ OwK (Sc u8) w [v9_5, v11_32] 5 v9_5 s4.1 ∧ Nw w0 v9_5 ∧ OwK (Sc u8) w [v9_5, v11_32] 5 v11_32 x12 ∧ Nw w0 v11_32 ∧ Nq v9_5 v11_32) ?_ ?_
      · refine W_block ?_; refine W_loop (fun s12 f w => ∃ v11_22 : Value, f 0 = (i64 a0t) ∧ f 1 = p1 ∧ f 2 = p2 ∧ f 3 = (u8 a3x) ∧ f 9 = v9_5 ∧ f 10 = (i64 s4.2) ∧ f 11 = v11_22 ∧ f 12 = (i64 s12.2) ∧ f 15 = (i64 ((a1secret.length : Int))) ∧ f 16 = (i64 s4.2) ∧ f 50 = undef ∧ Ext w0 w ∧ OwK (Sc u8) w [v9_5, v11_22] 5 v9_5 s4.1 ∧ Nw w0 v9_5 ∧ OwK (Sc u8) w [v9_5, v11_22] 5 v11_22 s12.1 ∧ Nw w0 v11_22 ∧ Nq v9_5 v11_22) G12 ?_ ?_
        · exact ⟨v8, s0_5, s1_5, s2_5, s3_5, s9_5, rfl, rfl, rfl, s15_5, s16_5, s50_5, e10, (o0_5.weak (Sc.stab _) (fun _ h => ⟨h.2.1, h.1, trivial⟩)), n0_5, (o8.weak (Sc.stab _) (fun _ h => ⟨h.2.1, h.1, trivial⟩)), n11, q9⟩
        rintro s12 _ _ w13 ⟨v11_13, s0_13, s1_13, s2_13, s3_13, s9_13, s10_13, s11_13, s12_13, s15_13, s16_13, s50_13, hE13, o0_13, n0_13, o1_13, n1_13, q0_1_13⟩ H12 hr12; refine W_seq <| W_seq <| W_rg <| mv (i64 s12.2) rfl s12_13 <| mv (i64 a0t) rfl s0_13 <| wa rfl (q_ltI rfl rfl rfl) <| wnt <| ?_; refine W_cond _ rfl rfl (fun hb14 => ?_) (fun hb14 => ?_)
        · replace H12 := ifp hb14 H12; refine W_skip <| W_th <| W_seq <| W_block <| W_rg <| mv v11_13 rfl s11_13 <| mv p2 rfl s2_13 <| mv (i64 s12.2) rfl s12_13 <| ?_; refine wa rfl (q_subI rfl rfl rfl) <| mv p1 rfl s1_13 <| wa rfl (q_len rfl T22.sl rfl (hp1.lift (Lift.ext hE13 _))) <| wa rfl (q_mulI rfl rfl rfl) <| mv (i64 s4.2) rfl s10_13 <| wa rfl (q_addI rfl rfl rfl) <| ?_; obtain ⟨c15, hc15, H12⟩ := bsi H12; refine wa rfl (q_adr rfl T22 rfl rfl (hp2.lift (Lift.ext hE13 _)) hc15) <| wq rfl (q_loadS rfl T22 rfl (hp2.lift (Lift.ext hE13 _)) hc15) <| ?_; refine wls rfl rfl (stp_lit (L := [v9_5, v11_13]) (R := (Sc u8)) [(u8 c15)] ([c15] : List UInt8) rfl T22 rfl (by exact ⟨rfl, rfl, trivial⟩) rfl (litC u8 (oneC_u8) (us := [(u8 c15)]) (l := ([c15] : List UInt8)) rfl) rfl (litS u8 (us := [(u8 c15)]) (l := ([c15] : List UInt8)) rfl) ?_); intro v16 w16 o16 n16 g16 l16; have x16 := grown_ext g16; have i16 : By w16 [v9_5, v11_13] v16 (([c15] : List UInt8)) := OwK.slk (Sc.stab _) _ o16 (fun k hk => (Old.cons (Old.cons (Old.nil _) o1_13.lt) o0_13.lt) k (n16 k hk)) (fun _ h => h.2); replace o0_13 := o0_13.extL (Sc.stab _) x16 (Lift.ext x16 _); replace o1_13 := o1_13.extL (Sc.stab _) x16 (Lift.ext x16 _); have e17 := hE13.trans x16; obtain ⟨c18, hc18, H12⟩ := bsi H12; refine wls rfl rfl (stp_append (R := (Sc u8)) (v := v11_13) (u := v16) (Sc.stab _) [v9_5] [] rfl T22 rfl rfl o1_13 i16 (fun _ _ h => h) hc18 oc_u8 ?_); intro v18 w18 o18 g18 nx18 l18; replace i16 := i16.lift l18; have q19 : Nq v9_5 v18 := o0_13.nxt q0_1_13 nx18; replace o0_13 := o0_13.other (Sc.stab _) g18 q0_1_13 l18; have e20 := e17.grown g18 n1_13; have n21 := Nw.nxt e17 n1_13 nx18; refine av v18 rfl rfl <| wl_nil <| bk_n <| W_th <| W_rg <| mv (i64 s12.2) rfl s12_13 <| wa rfl (q_addI rfl rfl rfl) <| av (i64 ((wI (s12.2 + 1)))) rfl rfl <| ?_; refine wl_nil ?_; obtain rfl := osi H12; exact ⟨_, rfl, v18, s0_13, s1_13, s2_13, s3_13, s9_13, s10_13, rfl, rfl, s15_13, s16_13, s50_13, e20, o0_13, n0_13, o18, n21, q19⟩
        replace H12 := ifn hb14 H12; refine W_exit <| th_x <| ?_; obtain rfl := osi H12; obtain rfl := hr12 _ rfl; refine th_x <| bk_x <| ?_; exact ⟨v11_13, s0_13, s1_13, s2_13, s3_13, s9_13, s11_13, s15_13, s16_13, s50_13, hE13, o0_13, n0_13, o1_13, n1_13, q0_1_13⟩
      rintro _ w23 ⟨v11_23, s0_23, s1_23, s2_23, s3_23, s9_23, s11_23, s15_23, s16_23, s50_23, hE23, o0_23, n0_23, o1_23, n1_23, q0_1_23⟩; refine W_th <| W_rg <| mv v9_5 rfl s9_23 <| mv v11_23 rfl s11_23 <| mv (u8 a3x) rfl s3_23 <| ?_; obtain ⟨r24, hr24, H4⟩ := bsi H4; refine wls rfl rfl (stp_call (vs := [v11_23, (u8 a3x)]) Try.func43 rfl rfl rfl (ar2 rfl rfl) (ref03_Eval_calls x12 a3x v11_23 r24 _ (o1_23.rd (Sc.stab _)) hr24) ?_); rintro _ w24 ⟨rfl, x24⟩; refine ⟨_, rfl, ?_⟩; replace o0_23 := o0_23.extL (Sc.stab _) x24 (Lift.ext x24 _); replace o1_23 := o1_23.extL (Sc.stab _) x24 (Lift.ext x24 _); have e25 := hE23.trans x24; refine wls rfl rfl (stp_lit (L := [v9_5, v11_23]) (R := (Sc u8)) [(u8 r24)] ([r24] : List UInt8) rfl T22 rfl (by exact ⟨rfl, rfl, trivial⟩) rfl (litC u8 (oneC_u8) (us := [(u8 r24)]) (l := ([r24] : List UInt8)) rfl) rfl (litS u8 (us := [(u8 r24)]) (l := ([r24] : List UInt8)) rfl) ?_); intro v26 w26 o26 n26 g26 l26; have x26 := grown_ext g26; have i26 : By w26 [v9_5, v11_23] v26 (([r24] : List UInt8)) := OwK.slk (Sc.stab _) _ o26 (fun k hk => (Old.cons (Old.cons (Old.nil _) o1_23.lt) o0_23.lt) k (n26 k hk)) (fun _ h => h.2); replace o0_23 := o0_23.extL (Sc.stab _) x26 (Lift.ext x26 _); replace o1_23 := o1_23.extL (Sc.stab _) x26 (Lift.ext x26 _); have e27 := e25.trans x26; obtain ⟨c28, hc28, H4⟩ := bsi H4; refine wls rfl rfl (stp_append (R := (Sc u8)) (v := v9_5) (u := v26) (Sc.stab _) [] [v11_23] rfl T22 rfl rfl o0_23 i26 (fun _ _ h => h) hc28 oc_u8 ?_); intro v28 w28 o28 g28 nx28 l28; replace i26 := i26.lift l28; have q29 : Nq v11_23 v28 := o1_23.nxt q0_1_23.symm nx28; replace o1_23 := o1_23.other (Sc.stab _) g28 q0_1_23.symm l28; have e30 := e27.grown g28 n0_23; have n31 := Nw.nxt e27 n0_23 nx28; refine av v28 rfl rfl <| wl_nil <| bk_n <| W_th <| W_rg <| wa rfl (q_addI rfl s16_23 rfl) <| mv (i64 ((wI (s4.2 + 1)))) rfl rfl <| wl_nil <| ?_; obtain rfl := osi H4; exact ⟨_, rfl, v28, s0_23, s1_23, s2_23, s3_23, rfl, s15_23, rfl, s50_23, e30, (o28.weak (Sc.stab _) (fun _ h => ⟨h.1, trivial⟩)), n31⟩
    replace H4 := ifn hb6 H4; refine W_exit <| th_x <| ?_; obtain rfl := osi H4; obtain rfl := hr4 _ rfl; refine th_x <| bk_x <| ?_; exact ⟨v9_5, s9_5, s50_5, hE5, o0_5, n0_5⟩
  rintro _ w34 ⟨v9_34, s9_34, s50_34, hE34, o0_34, n0_34⟩; refine W_th <| W_seq <| W_rg <| mv v9_34 rfl s9_34 <| av v9_34 rfl rfl <| wnt <| W_ret <| ?_; obtain rfl := osi H; refine rt1 v9_34 rfl rfl rfl s50_34 ?_; exact ⟨v9_34, rfl, hE34, n0_34, (o0_34.weak (Sc.stab _) (fun _ _ => trivial))⟩
noncomputable def ref08_At (a0xs : List UInt8) (a1shares : List (List UInt8)) (a2x : UInt8) : Option (List UInt8) :=
((idx a1shares 0).bind fun c4 =>
((iterC (fun s6 : List UInt8 × Int =>
(if s6.2 < (c4.length : Int) then
((iterC (fun s9 : UInt8 × Int =>
(if s9.2 < (a0xs.length : Int) then
((idx a1shares s9.2).bind fun c14 =>
((idx c14 s6.2).bind fun c16 =>
((ref03_Weight a0xs s9.2 a2x).bind fun r17 =>
((ref02_Mul r17 c16).bind fun r19 => some (.inl ((s9.1 ^^^ r19), (wI (s9.2 + 1))))))))
else some (.inr s9.1))) ((0 : UInt8), 0)).bind fun x9 =>
((appL s6.1 (([x9] : List UInt8))).bind fun c25 => some (.inl (c25, (wI (s6.2 + 1))))))
else some (.inr s6.1))) (([] : List UInt8), 0)).bind fun x6 => some x6))
theorem ref08_At_calls (a0xs : List UInt8) (a1shares : List (List UInt8)) (a2x : UInt8) (p0 : Value) (p1 : Value) (r : List UInt8) (w0 : World) (hp0 : By w0 [] p0 a0xs) (hp1 : Rw w0 [] p1 a1shares) (H : ref08_At a0xs a1shares a2x = some r) :
    Calls Try.prog 44 [p0, p1, (u8 a2x)].toArray w0 (fun e w' => ∃ u0 : Value, e = .returned u0 ∧ Ext w0 w' ∧ Nw w0 u0 ∧ OwK (Sc u8) w' [] 5 u0 r) := by
  have hE : Ext w0 w0 := Ext.refl w0; unfold ref08_At at H; refine calls_W (n := 45) Try.func44 rfl rfl rfl ?_; refine W_seq <| W_rg <| av (.slice none 0 0) rfl rfl <| wnt <| W_seq <| W_rg <| ?_; refine wls rfl rfl (stp_lit (L := []) (R := (Sc u8)) [] ([] : List UInt8) rfl T22 rfl (by exact trivial) rfl (litC u8 (oneC_u8) (us := []) (l := ([] : List UInt8)) rfl) rfl (litS u8 (us := []) (l := ([] : List UInt8)) rfl) ?_); intro v1 w1 o1 n1 g1 l1; have x1 := grown_ext g1; have n3 := Nw.ext hE n1; have e2 := hE.trans x1; refine av v1 rfl rfl <| wnt <| W_seq <| W_seq <| W_rg <| mv p1 rfl rfl <| ?_; obtain ⟨c4, hc4, H⟩ := bsi H; refine wa rfl (q_adr rfl T28 rfl rfl (hp1.lift (Lift.ext e2 _)) hc4) ?_; refine wlq_load rfl rfl rfl T28 rfl hp1 hc4 e2 (fun v5 ha5 => ?_); refine wa rfl (q_len rfl T22.sl rfl (ha5.lift (Lift.ext e2 _))) <| mv (i64 0) rfl rfl <| wnt <| ?_; obtain ⟨x6, G6, H⟩ := bsi H; refine W_mid (fun f w => ∃ v7_31 : Value, f 7 = v7_31 ∧ f 45 = undef ∧ Ext w0 w ∧ OwK (Sc u8) w [v7_31] 5 v7_31 x6 ∧ Nw w0 v7_31) ?_ ?_
  · refine W_block ?_; refine W_loop (fun s6 f w => ∃ v7_29 : Value, f 0 = p0 ∧ f 1 = p1 ∧ f 2 = (u8 a2x) ∧ f 7 = v7_29 ∧ f 15 = (i64 ((c4.length : Int))) ∧ f 16 = (i64 s6.2) ∧ f 45 = undef ∧ Ext w0 w ∧ OwK (Sc u8) w [v7_29] 5 v7_29 s6.1 ∧ Nw w0 v7_29) G6 ?_ ?_
    · exact ⟨v1, rfl, rfl, rfl, rfl, rfl, rfl, rfl, e2, o1, n3⟩
    rintro s6 _ _ w7 ⟨v7_7, s0_7, s1_7, s2_7, s7_7, s15_7, s16_7, s45_7, hE7, o0_7, n0_7⟩ H6 hr6; refine W_seq <| W_rg <| wa rfl (q_ltI rfl s16_7 s15_7) <| wnt <| W_seq <| ?_; refine W_cond _ rfl rfl (fun hb8 => ?_) (fun hb8 => ?_)
    · replace H6 := ifp hb8 H6; refine W_skip <| W_th <| W_seq <| W_block <| W_seq <| W_rg <| mv (i64 s6.2) rfl s16_7 <| av (i64 s6.2) rfl rfl <| ?_; refine wnt <| W_seq <| W_rg <| av (u8 0) rfl (cst8 (0 : UInt8) rfl) <| wnt <| W_seq <| W_seq <| W_rg <| ?_; refine mv p0 rfl s0_7 <| wa rfl (q_len rfl T22.sl rfl (hp0.lift (Lift.ext hE7 _))) <| mv (i64 0) rfl rfl <| wnt <| ?_; obtain ⟨x9, G9, H6⟩ := bsi H6; refine W_mid (fun f w => f 0 = p0 ∧ f 1 = p1 ∧ f 2 = (u8 a2x) ∧ f 7 = v7_7 ∧ f 9 = (u8 x9) ∧ f 15 = (i64 ((c4.length : Int))) ∧ f 16 = (i64 s6.2) ∧ f 45 = undef ∧ Ext w0 w ∧ OwK (Sc u8) w [v7_7] 5 v7_7 s6.1 ∧ Nw w0 v7_7) ?_ ?_
      · refine W_block ?_; refine W_loop (fun s9 f w => f 0 = p0 ∧ f 1 = p1 ∧ f 2 = (u8 a2x) ∧ f 7 = v7_7 ∧ f 8 = (i64 s6.2) ∧ f 9 = (u8 s9.1) ∧ f 15 = (i64 ((c4.length : Int))) ∧ f 16 = (i64 s6.2) ∧ f 20 = (i64 ((a0xs.length : Int))) ∧ f 21 = (i64 s9.2) ∧ f 45 = undef ∧ Ext w0 w ∧ OwK (Sc u8) w [v7_7] 5 v7_7 s6.1 ∧ Nw w0 v7_7) G9 ?_ ?_
        · exact ⟨s0_7, s1_7, s2_7, s7_7, rfl, rfl, s15_7, s16_7, rfl, rfl, s45_7, hE7, o0_7, n0_7⟩
        rintro s9 _ _ w10 ⟨s0_10, s1_10, s2_10, s7_10, s8_10, s9_10, s15_10, s16_10, s20_10, s21_10, s45_10, hE10, o0_10, n0_10⟩ H9 hr9; refine W_seq <| W_rg <| wa rfl (q_ltI rfl s21_10 s20_10) <| wnt <| W_seq <| ?_; refine W_cond _ rfl rfl (fun hb11 => ?_) (fun hb11 => ?_)
        · replace H9 := ifp hb11 H9; refine W_skip <| W_th <| W_seq <| W_block <| W_seq <| W_rg <| mv (i64 s9.2) rfl s21_10 <| av (i64 s9.2) rfl rfl <| ?_; refine wnt ?_; refine W_draw [8, 11] [(0, 0), (1, 0), (2, 0), (3, 0), (5, 0), (6, 0), (7, 0), (8, 1), (9, 0), (10, 0), (11, 1), (4, 2), (12, 2), (13, 0), (14, 0)] mixed (by kernel_rfl) (by kernel_rfl) (by kernel_rfl) (by kernel_rfl) ?_; have x12 := Ext.drew w10; replace o0_10 := o0_10.extL (Sc.stab _) x12 (Lift.ext x12 _); have e13 := hE10.trans x12; refine sv (u8 s9.1) rfl rfl s9_10 <| sv p0 rfl rfl s0_10 <| sv (i64 s9.2) rfl rfl rfl <| sv (u8 a2x) rfl rfl s2_10 <| sv p1 rfl rfl s1_10 <| sv (i64 s9.2) rfl rfl rfl <| ?_; obtain ⟨c14, hc14, H9⟩ := bsi H9; refine sa rfl rfl (q_adr rfl T28 rfl rfl (hp1.lift (Lift.ext e13 _)) hc14) ?_; refine wsq_load rfl rfl rfl rfl T28 rfl hp1 hc14 e13 (fun v15 ha15 => ?_); refine sv (i64 s6.2) rfl rfl s8_10 ?_; obtain ⟨c16, hc16, H9⟩ := bsi H9; refine sa rfl rfl (q_adr rfl T22 rfl rfl (ha15.lift (Lift.ext e13 _)) hc16) <| sq rfl rfl (q_loadS rfl T22 rfl (ha15.lift (Lift.ext e13 _)) hc16) <| ?_; obtain ⟨r17, hr17, H9⟩ := bsi H9; refine wss rfl rfl rfl (stp_call (vs := [p0, (i64 s9.2), (u8 a2x)]) Try.func66 rfl rfl rfl (ar3 rfl rfl rfl) (ref03_Weight_calls a0xs s9.2 a2x p0 r17 _ (hp0.lift (Lift.ext e13 _)) hr17) ?_); rintro _ w17 ⟨rfl, x17⟩; refine ⟨_, rfl, x17, ?_⟩; replace o0_10 := o0_10.extL (Sc.stab _) x17 (Lift.ext x17 _); have e18 := e13.trans x17; obtain ⟨r19, hr19, H9⟩ := bsi H9; refine wsc rfl (by kernel_rfl) rfl rfl (stp_call (vs := [(u8 r17), (u8 c16)]) Try.func62 rfl rfl rfl (ar2 rfl rfl) (ref02_Mul_calls r17 c16  r19 _  hr19) ?_); rintro _ w19 ⟨rfl, x19⟩; refine ⟨_, rfl, ?_⟩; replace o0_10 := o0_10.extL (Sc.stab _) x19 (Lift.ext x19 _); have e20 := e18.trans x19; refine sa rfl rfl (q_xor8 rfl rfl rfl) <| sa rfl rfl (q_assign (v := (u8 ((s9.1 ^^^ r19)))) rfl rfl) <| ?_; refine ws_nil ?_; refine bk_n <| W_th <| W_rg <| wa rfl (q_addI rfl s21_10 rfl) <| mv (i64 ((wI (s9.2 + 1)))) rfl rfl <| wl_nil <| ?_; obtain rfl := osi H9; exact ⟨_, rfl, s0_10, s1_10, s2_10, s7_10, s8_10, rfl, s15_10, s16_10, s20_10, rfl, s45_10, e20, o0_10, n0_10⟩
        replace H9 := ifn hb11 H9; refine W_exit <| th_x <| ?_; obtain rfl := osi H9; obtain rfl := hr9 _ rfl; refine th_x <| bk_x <| ?_; exact ⟨s0_10, s1_10, s2_10, s7_10, s9_10, s15_10, s16_10, s45_10, hE10, o0_10, n0_10⟩
      rintro _ w22 ⟨s0_22, s1_22, s2_22, s7_22, s9_22, s15_22, s16_22, s45_22, hE22, o0_22, n0_22⟩; refine W_th <| W_rg <| mv v7_7 rfl s7_22 <| mv (u8 x9) rfl s9_22 <| ?_; refine wls rfl rfl (stp_lit (L := [v7_7]) (R := (Sc u8)) [(u8 x9)] ([x9] : List UInt8) rfl T22 rfl (by exact ⟨rfl, rfl, trivial⟩) rfl (litC u8 (oneC_u8) (us := [(u8 x9)]) (l := ([x9] : List UInt8)) rfl) rfl (litS u8 (us := [(u8 x9)]) (l := ([x9] : List UInt8)) rfl) ?_); intro v23 w23 o23 n23 g23 l23; have x23 := grown_ext g23; have i23 : By w23 [v7_7] v23 (([x9] : List UInt8)) := OwK.slk (Sc.stab _) _ o23 (fun k hk => (Old.cons (Old.nil _) o0_22.lt) k (n23 k hk)) (fun _ h => h.2); replace o0_22 := o0_22.extL (Sc.stab _) x23 (Lift.ext x23 _); have e24 := hE22.trans x23; obtain ⟨c25, hc25, H6⟩ := bsi H6; refine wls rfl rfl (stp_append (R := (Sc u8)) (v := v7_7) (u := v23) (Sc.stab _) [] [] rfl T22 rfl rfl o0_22 i23 (fun _ _ h => h) hc25 oc_u8 ?_); intro v25 w25 o25 g25 nx25 l25; replace i23 := i23.lift l25; have e26 := e24.grown g25 n0_22; have n27 := Nw.nxt e24 n0_22 nx25; refine av v25 rfl rfl <| wl_nil <| bk_n <| W_th <| W_rg <| wa rfl (q_addI rfl s16_22 rfl) <| mv (i64 ((wI (s6.2 + 1)))) rfl rfl <| wl_nil <| ?_; obtain rfl := osi H6; exact ⟨_, rfl, v25, s0_22, s1_22, s2_22, rfl, s15_22, rfl, s45_22, e26, o25, n27⟩
    replace H6 := ifn hb8 H6; refine W_exit <| th_x <| ?_; obtain rfl := osi H6; obtain rfl := hr6 _ rfl; refine th_x <| bk_x <| ?_; exact ⟨v7_7, s7_7, s45_7, hE7, o0_7, n0_7⟩
  rintro _ w30 ⟨v7_30, s7_30, s45_30, hE30, o0_30, n0_30⟩; refine W_th <| W_seq <| W_rg <| mv v7_30 rfl s7_30 <| av v7_30 rfl rfl <| wnt <| W_ret <| ?_; obtain rfl := osi H; refine rt1 v7_30 rfl rfl rfl s45_30 ?_; exact ⟨v7_30, rfl, hE30, n0_30, (o0_30.weak (Sc.stab _) (fun _ _ => trivial))⟩
end Gk

/- Printed by gen.py: for each Go function a pure function, and that the Go code comes to it. No condition beside the equation that says what the pure function gives. -/
namespace Gk
open Go Go.Proofs
noncomputable def code_member (a0n : Int) : Option Bool :=
(if 1 ≤ a0n then some (decide (a0n ≤ 255))
else some false)
theorem code_member_calls (a0n : Int) (r : Bool) (w0 : World) (H : code_member a0n = some r) :
    Calls Try.prog 34 [(i64 a0n)].toArray w0 (fun e w' => e = .returned (.bool r) ∧ Ext w0 w') := by
  have hE : Ext w0 w0 := Ext.refl w0; unfold code_member at H; refine calls_W (n := 9) Try.func34 rfl rfl rfl ?_; refine W_seq <| W_rg <| av (.bool false) rfl rfl <| wnt <| W_seq <| W_rg <| mv (i64 a0n) rfl rfl <| wa rfl (q_geI rfl rfl rfl) <| ?_; refine wlb rfl rfl (q_move (v := (.bool ((decide (1 ≤ a0n))))) rfl rfl) (fun hb1 => ?_) (fun hb1 => ?_)
  · replace H := ifp hb1 H; refine mv (i64 a0n) rfl rfl <| wa rfl (q_leI rfl rfl rfl) <| wa rfl (q_pick_t (v := (.bool ((decide (a0n ≤ 255))))) rfl rfl rfl) <| av (.bool ((decide (a0n ≤ 255)))) rfl rfl <| wnt <| W_ret <| ?_; obtain rfl := osi H; refine rt1 (.bool ((decide (a0n ≤ 255)))) rfl rfl rfl rfl ?_; exact ⟨rfl, hE⟩
  replace H := ifn hb1 H; refine wlk rfl rfl <| wlk rfl rfl <| wa rfl (q_pick_f (v := (.bool false)) rfl rfl rfl) <| av (.bool false) rfl rfl <| wnt <| W_ret <| ?_; obtain rfl := osi H; refine rt1 (.bool false) rfl rfl rfl rfl ?_; exact ⟨rfl, hE⟩
noncomputable def code_places (a0n : Int) : Option (List UInt8) :=
((makeL a0n (0 : UInt8)).bind fun c1 =>
((iterC (fun s4 : List UInt8 × Int =>
(if s4.2 < (c1.length : Int) then
((idx s4.1 s4.2).bind fun c7 => some (.inl ((s4.1.set (s4.2 : Int).toNat ((UInt8.ofInt ((wI (s4.2 + 1)))))), (wI (s4.2 + 1)))))
else some (.inr s4.1))) (c1, 0)).bind fun x4 => some x4))
theorem code_places_calls (a0n : Int) (r : List UInt8) (w0 : World) (H : code_places a0n = some r) :
    Calls Try.prog 59 [(i64 a0n)].toArray w0 (fun e w' => ∃ u0 : Value, e = .returned u0 ∧ Ext w0 w' ∧ Nw w0 u0 ∧ OwK (Sc u8) w' [] 5 u0 r) := by
  have hE : Ext w0 w0 := Ext.refl w0; unfold code_places at H; refine calls_W (n := 20) Try.func59 rfl rfl rfl ?_; refine W_seq <| W_rg <| av (.slice none 0 0) rfl rfl <| wnt <| W_seq <| W_rg <| mv (i64 a0n) rfl rfl <| ?_; obtain ⟨c1, hc1, H⟩ := bsi H; refine wls rfl rfl (stp_make (L := []) (R := (Sc u8)) rfl T22 rfl rfl hc1 (fun _ _ => rfl) ?_); intro v1 w1 o1 n1 g1 l1; have x1 := grown_ext g1; have n3 := Nw.ext hE n1; have e2 := hE.trans x1; refine av v1 rfl rfl <| wnt <| W_seq <| W_seq <| W_rg <| mv v1 rfl rfl <| wa rfl (q_len rfl T22.sl rfl (o1.rd (Sc.stab _))) <| mv (i64 0) rfl rfl <| ?_; refine wnt ?_; obtain ⟨x4, G4, H⟩ := bsi H; refine W_mid (fun f w => f 3 = v1 ∧ f 20 = undef ∧ Ext w0 w ∧ OwK (Sc u8) w [v1] 5 v1 x4 ∧ Nw w0 v1) ?_ ?_
  · refine W_block ?_; refine W_loop (fun s4 f w => f 3 = v1 ∧ f 8 = (i64 ((c1.length : Int))) ∧ f 9 = (i64 s4.2) ∧ f 20 = undef ∧ Ext w0 w ∧ OwK (Sc u8) w [v1] 5 v1 s4.1 ∧ Nw w0 v1) G4 ?_ ?_
    · exact ⟨rfl, rfl, rfl, rfl, e2, o1, n3⟩
    rintro s4 _ _ w5 ⟨s3_5, s8_5, s9_5, s20_5, hE5, o0_5, n0_5⟩ H4 hr4; refine W_seq <| W_rg <| wa rfl (q_ltI rfl s9_5 s8_5) <| wnt <| W_seq <| ?_; refine W_cond _ rfl rfl (fun hb6 => ?_) (fun hb6 => ?_)
    · replace H4 := ifp hb6 H4; refine W_skip <| W_th <| W_seq <| W_block <| W_seq <| W_rg <| mv (i64 s4.2) rfl s9_5 <| av (i64 s4.2) rfl rfl <| ?_; refine wnt <| W_rg <| mv v1 rfl s3_5 <| mv (i64 s4.2) rfl rfl <| mv (i64 s4.2) rfl rfl <| wa rfl (q_addI rfl rfl rfl) <| wa rfl (q_cvt8I rfl rfl rfl rfl) <| ?_; obtain ⟨c7, hc7, H4⟩ := bsi H4; refine wa rfl (q_adr rfl T22 rfl rfl (o0_5.rd (Sc.stab _)) hc7) ?_; refine wln rfl rfl (stp_store (R := (Sc u8)) (u := (u8 ((UInt8.ofInt ((wI (s4.2 + 1))))))) (Sc.stab _) [] [] rfl T22 rfl rfl o0_5 (put_of ((UInt8.ofInt ((wI (s4.2 + 1))))) hc7) rfl rfl ?_); intro w8 o8 g8 l8; have e9 := hE5.grown g8 n0_5; refine wl_nil <| bk_n <| W_th <| W_rg <| wa rfl (q_addI rfl s9_5 rfl) <| mv (i64 ((wI (s4.2 + 1)))) rfl rfl <| wl_nil <| ?_; obtain rfl := osi H4; exact ⟨_, rfl, s3_5, s8_5, rfl, s20_5, e9, o8, n0_5⟩
    replace H4 := ifn hb6 H4; refine W_exit <| th_x <| ?_; obtain rfl := osi H4; obtain rfl := hr4 _ rfl; refine th_x <| bk_x <| ?_; exact ⟨s3_5, s20_5, hE5, o0_5, n0_5⟩
  rintro _ w11 ⟨s3_11, s20_11, hE11, o0_11, n0_11⟩; refine W_th <| W_seq <| W_rg <| mv v1 rfl s3_11 <| av v1 rfl rfl <| wnt <| W_ret <| ?_; obtain rfl := osi H; refine rt1 v1 rfl rfl rfl s20_11 ?_; exact ⟨v1, rfl, hE11, n0_11, (o0_11.weak (Sc.stab _) (fun _ _ => trivial))⟩
noncomputable def code_unlike_1 (a0r : List UInt8) (b0 : List (List UInt8)) : Option Bool :=
((idx b0 0).bind fun c1 => some (!decide ((a0r.length : Int) = (c1.length : Int))))
theorem code_unlike_1_calls (a0r : List UInt8) (b0 : List (List UInt8)) (p0 : Value) (gc0 : Nat) (cv0 : Value) (r : Bool) (w0 : World) (hp0 : By w0 [] p0 a0r) (hcB0 : Blk w0 gc0 28 #[cv0]) (hcv0 : Rw w0 [] cv0 b0) (H : code_unlike_1 a0r b0 = some r) :
    Calls Try.prog 57 [p0, (bp gc0)].toArray w0 (fun e w' => e = .returned (.bool r) ∧ Ext w0 w') := by
  have hE : Ext w0 w0 := Ext.refl w0; unfold code_unlike_1 at H; refine calls_W (n := 11) Try.func57 rfl rfl rfl ?_; refine W_seq <| W_rg <| av (.bool false) rfl rfl <| wnt <| W_seq <| W_rg <| mv p0 rfl rfl <| wa rfl (q_len rfl T22.sl rfl (hp0.lift (Lift.ext hE _))) <| ?_; refine wq rfl (q_loadB (u := cv0) rfl Try.isAgg28 rfl (hcB0.ext hE) rfl) ?_; obtain ⟨c1, hc1, H⟩ := bsi H; refine wa rfl (q_adr rfl T28 rfl rfl (hcv0.lift (Lift.ext hE _)) hc1) ?_; refine wlq_load rfl rfl rfl T28 rfl hcv0 hc1 hE (fun v2 ha2 => ?_); refine wa rfl (q_len rfl T22.sl rfl (ha2.lift (Lift.ext hE _))) <| wa rfl (q_neI rfl rfl rfl) <| av (.bool ((!decide ((a0r.length : Int) = (c1.length : Int))))) rfl rfl <| wnt <| W_ret <| ?_; obtain rfl := osi H; refine rt1 (.bool ((!decide ((a0r.length : Int) = (c1.length : Int))))) rfl rfl rfl rfl ?_; exact ⟨rfl, hE⟩
noncomputable def code_unlike (a0l : List (List UInt8)) : Option Bool :=
((lim a0l.length).bind fun lim4 =>
((anyO (fun y4 => code_unlike_1 y4 a0l) a0l).bind fun r4 => some r4))
theorem code_unlike_calls (a0l : List (List UInt8)) (p0 : Value) (r : Bool) (w0 : World) (hp0 : Rw w0 [] p0 a0l) (H : code_unlike a0l = some r) :
    Calls Try.prog 37 [p0].toArray w0 (fun e w' => e = .returned (.bool r) ∧ Ext w0 w') := by
  have hE : Ext w0 w0 := Ext.refl w0; unfold code_unlike at H; refine calls_W (n := 6) Try.func37 rfl rfl rfl ?_; refine W_seq <| W_rg <| ?_; refine wls rfl rfl (stp_boxL (v := p0) (cs := #[p0]) [] rfl rfl (cells_sl _ _ (hp0.lift (Lift.ext hE _))) ?_); intro g1 w1 o1 n1 g1r l1; have x1 := grown_ext g1r; have n3 := Nw.ext hE n1; have e2 := hE.trans x1; refine av (.bool false) rfl rfl <| wnt <| W_seq <| W_rg <| wq rfl (q_loadB (u := p0) rfl Try.isAgg28 rfl o1 rfl) <| wa rfl (q_mkfuncN (vs := [(bp g1)]) rfl (ar1 rfl)) <| ?_; obtain ⟨lim4, hl4, H⟩ := bsi H; obtain ⟨r4, hr4, H⟩ := bsi H; refine wls rfl rfl (stp_call (vs := [p0, (.func (.func 57) #[] [(bp g1)].toArray)]) Try.func56 rfl rfl rfl (ar2 rfl rfl) (ContainsFunc_rows_calls p0 a0l 57 _ Try.func57 rfl rfl [(bp g1)] (fun y4 => code_unlike_1 y4 a0l) r4 _ (hp0.lift (Lift.ext e2 _)) (lim_lt hl4) hr4 (fun y4 _ b w' xE hb u hu => code_unlike_1_calls y4 a0l u g1 p0 b w' hu (o1.ext xE) ((hp0.lift (Lift.ext e2 _)).lift (Lift.ext xE _)) hb)) ?_); rintro _ w4 ⟨rfl, x4⟩; refine ⟨_, rfl, ?_⟩; replace o1 := o1.ext x4; have e5 := e2.trans x4; refine av (.bool r4) rfl rfl <| wnt <| W_ret <| ?_; obtain rfl := osi H; refine rt1 (.bool r4) rfl rfl rfl rfl ?_; exact ⟨rfl, e5⟩
noncomputable def code_Piece (a0f : Bool) (a1parts : List (List UInt8)) (a2x : Int) : Option (List UInt8 × Int) :=
(if (!a0f) = true then some (([] : List UInt8), 1)
else
((code_member (a1parts.length : Int)).bind fun r2 =>
(if (!r2) = true then some (([] : List UInt8), 2)
else
((code_member a2x).bind fun r5 =>
(if (!r5) = true then some (([] : List UInt8), 2)
else
((code_unlike a1parts).bind fun r8 =>
(if r8 = true then some (([] : List UInt8), 3)
else
(if a2x ≤ (a1parts.length : Int) then
((idx a1parts ((wI (a2x - 1)))).bind fun c12 =>
((slices_Clone_sbytebyte c12).bind fun r14 => some (r14, 0)))
else
((code_places (a1parts.length : Int)).bind fun r17 =>
((shamir_At a0f r17 a1parts (UInt8.ofInt a2x)).bind fun r19 => some (r19.1, r19.2)))))))))))
theorem code_Piece_calls (a0f : Bool) (a1parts : List (List UInt8)) (a2x : Int) (p0 : Value) (p1 : Value) (r : List UInt8 × Int) (w0 : World) (hp0 : Fd w0 [] p0 a0f) (hp1 : Rw w0 [] p1 a1parts) (H : code_Piece a0f a1parts a2x = some r) :
    Calls Try.prog 38 [p0, p1, (i64 a2x)].toArray w0 (fun e w' => ∃ u0 : Value, e = .returned (.tuple #[u0, (i64 r.2)]) ∧ Ext w0 w' ∧ Nw w0 u0 ∧ OwK (Sc u8) w' [] 5 u0 r.1) := by
  have hE : Ext w0 w0 := Ext.refl w0; unfold code_Piece at H; refine calls_W (n := 45) Try.func38 rfl rfl rfl ?_; refine W_seq <| W_rg <| av (.slice none 0 0) rfl rfl <| av (i64 0) rfl rfl <| wnt <| W_seq <| W_block <| W_seq <| ?_; refine W_rg <| mv p0 rfl rfl <| wa rfl (q_eqF rfl rfl rfl rfl (hp0.lift (Lift.ext hE _))) <| av (.bool ((!a0f))) rfl rfl <| wnt <| ?_; refine W_cond _ rfl rfl (fun hb1 => ?_) (fun hb1 => ?_)
  · replace H := (if_pos hb1).symm.trans H; refine W_seq <| W_rg <| av (.slice none 0 0) rfl rfl <| av (i64 1) rfl rfl <| wnt <| W_ret <| bk_r <| th_r <| ?_; obtain rfl := osi H; refine rt2 (.slice none 0 0) (i64 1) rfl rfl rfl rfl rfl rfl ?_; exact ⟨(.slice none 0 0), rfl, hE, Nw.nil _, (OwK.nil _ _ _ _)⟩
  replace H := (if_neg (ne_true_of_eq_false hb1)).symm.trans H; refine W_seq <| W_rg <| mv p1 rfl rfl <| wa rfl (q_len rfl T28.sl rfl (hp1.lift (Lift.ext hE _))) <| ?_; obtain ⟨r2, hr2, H⟩ := bsi H; refine wls rfl rfl (stp_call (vs := [(i64 ((a1parts.length : Int)))]) Try.func34 rfl rfl rfl (ar1 rfl) (code_member_calls (a1parts.length : Int)  r2 _  hr2) ?_); rintro _ w2 ⟨rfl, x2⟩; refine ⟨_, rfl, ?_⟩; have e3 := hE.trans x2; refine wa rfl (q_not rfl rfl) ?_; refine wlb rfl rfl (q_move (v := (.bool ((!r2)))) rfl rfl) (fun hb4 => ?_) (fun hb4 => ?_)
  · replace H := (if_pos hb4).symm.trans H; refine wlk rfl rfl <| wlk rfl rfl <| wlk rfl rfl <| wa rfl (q_pick_t (v := (.bool true)) rfl rfl rfl) <| av (.bool true) rfl rfl <| wnt <| ?_; refine W_cond true rfl rfl (fun _ => ?_) (fun hb => by cases hb); refine W_seq <| W_rg <| av (.slice none 0 0) rfl rfl <| av (i64 2) rfl rfl <| wnt <| W_ret <| bk_r <| th_r <| ?_; obtain rfl := osi H; refine rt2 (.slice none 0 0) (i64 2) rfl rfl rfl rfl rfl rfl ?_; exact ⟨(.slice none 0 0), rfl, e3, Nw.nil _, (OwK.nil _ _ _ _)⟩
  replace H := (if_neg (ne_true_of_eq_false hb4)).symm.trans H; refine mv (i64 a2x) rfl rfl ?_; obtain ⟨r5, hr5, H⟩ := bsi H; refine wls rfl rfl (stp_call (vs := [(i64 a2x)]) Try.func34 rfl rfl rfl (ar1 rfl) (code_member_calls a2x  r5 _  hr5) ?_); rintro _ w5 ⟨rfl, x5⟩; refine ⟨_, rfl, ?_⟩; have e6 := e3.trans x5; refine wa rfl (q_not rfl rfl) <| wa rfl (q_pick_f (v := (.bool ((!r5)))) rfl rfl rfl) <| av (.bool ((!r5))) rfl rfl <| wnt <| ?_; refine W_cond _ rfl rfl (fun hb7 => ?_) (fun hb7 => ?_)
  · replace H := (if_pos hb7).symm.trans H; refine W_seq <| W_rg <| av (.slice none 0 0) rfl rfl <| av (i64 2) rfl rfl <| wnt <| W_ret <| bk_r <| th_r <| ?_; obtain rfl := osi H; refine rt2 (.slice none 0 0) (i64 2) rfl rfl rfl rfl rfl rfl ?_; exact ⟨(.slice none 0 0), rfl, e6, Nw.nil _, (OwK.nil _ _ _ _)⟩
  replace H := (if_neg (ne_true_of_eq_false hb7)).symm.trans H; refine W_seq <| W_rg <| mv p1 rfl rfl <| ?_; obtain ⟨r8, hr8, H⟩ := bsi H; refine wls rfl rfl (stp_call (vs := [p1]) Try.func37 rfl rfl rfl (ar1 rfl) (code_unlike_calls a1parts p1 r8 _ (hp1.lift (Lift.ext e6 _)) hr8) ?_); rintro _ w8 ⟨rfl, x8⟩; refine ⟨_, rfl, ?_⟩; have e9 := e6.trans x8; refine av (.bool r8) rfl rfl <| wnt <| ?_; refine W_cond _ rfl rfl (fun hb10 => ?_) (fun hb10 => ?_)
  · replace H := (if_pos hb10).symm.trans H; refine W_seq <| W_rg <| av (.slice none 0 0) rfl rfl <| av (i64 3) rfl rfl <| wnt <| W_ret <| bk_r <| th_r <| ?_; obtain rfl := osi H; refine rt2 (.slice none 0 0) (i64 3) rfl rfl rfl rfl rfl rfl ?_; exact ⟨(.slice none 0 0), rfl, e9, Nw.nil _, (OwK.nil _ _ _ _)⟩
  replace H := (if_neg (ne_true_of_eq_false hb10)).symm.trans H; refine W_seq <| W_rg <| mv (i64 a2x) rfl rfl <| mv p1 rfl rfl <| wa rfl (q_len rfl T28.sl rfl (hp1.lift (Lift.ext e9 _))) <| wa rfl (q_leI rfl rfl rfl) <| av (.bool ((decide (a2x ≤ (a1parts.length : Int))))) rfl rfl <| wnt <| ?_; refine W_cond _ rfl rfl (fun hb11 => ?_) (fun hb11 => ?_)
  · replace H := ifp hb11 H; refine W_seq <| W_rg <| mv p1 rfl rfl <| mv (i64 a2x) rfl rfl <| wa rfl (q_subI rfl rfl rfl) <| ?_; obtain ⟨c12, hc12, H⟩ := bsi H; refine wa rfl (q_adr rfl T28 rfl rfl (hp1.lift (Lift.ext e9 _)) hc12) ?_; refine wlq_load rfl rfl rfl T28 rfl hp1 hc12 e9 (fun v13 ha13 => ?_); obtain ⟨r14, hr14, H⟩ := bsi H; refine wls rfl rfl (stp_call (vs := [v13]) Try.func35 rfl rfl rfl (ar1 rfl) (slices_Clone_sbytebyte_calls c12 v13 r14 _ (ha13.lift (Lift.ext e9 _)) hr14) ?_); rintro _ w14 ⟨v14, rfl, x14, n14_0, o14_0⟩; refine ⟨_, rfl, ?_⟩; have o14 : OwK (Sc u8) w14 (v14 :: []) 5 v14 r14 := OwK.scal o14_0 _; have n16 := Nw.ext e9 n14_0; have e15 := e9.trans x14; refine av v14 rfl rfl <| av (i64 0) rfl rfl <| wnt <| W_ret <| bk_r <| th_r <| ?_; obtain rfl := osi H; refine rt2 v14 (i64 0) rfl rfl rfl rfl rfl rfl ?_; exact ⟨v14, rfl, e15, n16, (o14.weak (Sc.stab _) (fun _ _ => trivial))⟩
  replace H := ifn hb11 H; refine W_skip <| bk_n <| W_th <| W_seq <| W_rg <| mv p0 rfl rfl <| mv p1 rfl rfl <| wa rfl (q_len rfl T28.sl rfl (hp1.lift (Lift.ext e9 _))) <| ?_; obtain ⟨r17, hr17, H⟩ := bsi H; refine wls rfl rfl (stp_call (vs := [(i64 ((a1parts.length : Int)))]) Try.func59 rfl rfl rfl (ar1 rfl) (code_places_calls (a1parts.length : Int)  r17 _  hr17) ?_); rintro _ w17 ⟨v17, rfl, x17, n17_0, o17_0⟩; refine ⟨_, rfl, ?_⟩; have i17_0 : By w17 [] v17 r17 := OwK.slk (Sc.stab _) _ (OwK.scal o17_0 (v17 :: [])) (fun k hk => (Old.nil _) k (n17_0 k hk)) (fun _ h => h.2); have e18 := e9.trans x17; refine mv p1 rfl rfl <| mv (i64 a2x) rfl rfl <| wa rfl (q_cvt8I rfl rfl rfl rfl) <| ?_; obtain ⟨r19, hr19, H⟩ := bsi H; refine wls rfl rfl (stp_call (vs := [p0, v17, p1, (u8 ((UInt8.ofInt a2x)))]) Try.func58 rfl rfl rfl (ar4 rfl rfl rfl rfl) (shamir_At_calls a0f r17 a1parts (UInt8.ofInt a2x) p0 v17 p1 r19 _ (hp0.lift (Lift.ext e18 _)) (i17_0.lift (Lift.sub (L' := []) (fun _ _ => trivial))) (hp1.lift (Lift.ext e18 _)) hr19) ?_); rintro _ w19 ⟨v19_0, rfl, x19, n19_0, o19_0⟩; refine ⟨_, rfl, ?_⟩; have o19 : OwK (Sc u8) w19 (v19_0 :: []) 5 v19_0 r19.1 := OwK.scal o19_0 _; replace i17_0 := i17_0.lift (Lift.call _ x19 n19_0); have n21 := Nw.ext e18 n19_0; have e20 := e18.trans x19; refine wa rfl (q_extract rfl rfl rfl) <| wa rfl (q_extract rfl rfl rfl) <| av v19_0 rfl rfl <| av (i64 r19.2) rfl rfl <| wnt <| W_ret <| ?_; obtain rfl := osi H; refine rt2 v19_0 (i64 r19.2) rfl rfl rfl rfl rfl rfl ?_; exact ⟨v19_0, rfl, e20, n21, (o19.weak (Sc.stab _) (fun _ _ => trivial))⟩
noncomputable def code_Encode (a0f : Bool) (a1n : Int) (a2parts : List (List UInt8)) : Option (List (List UInt8) × Int) :=
(if (!a0f) = true then some (([] : List (List UInt8)), 1)
else
(if (a2parts.length : Int) = 0 then some (([] : List (List UInt8)), 2)
else
(if a1n < (a2parts.length : Int) then some (([] : List (List UInt8)), 2)
else
(if 255 < a1n then some (([] : List (List UInt8)), 2)
else
((code_unlike a2parts).bind fun r5 =>
(if r5 = true then some (([] : List (List UInt8)), 3)
else
((iterC (fun s8 : List (List UInt8) × Int =>
(if s8.2 < a1n then
((code_Piece a0f a2parts (wI (s8.2 + 1))).bind fun r11 =>
(if r11.2 = 0 then
((appL s8.1 (([r11.1] : List (List UInt8)))).bind fun c16 => some (.inl (c16, (wI (s8.2 + 1)))))
else some (.inr (.inr (([] : List (List UInt8)), r11.2)))))
else some (.inr (.inl s8.1)))) (([] : List (List UInt8)), 0)).bind (Sum.elim (fun y8 => some (y8, 0)) (fun q8 => some q8)))))))))
theorem code_Encode_calls (a0f : Bool) (a1n : Int) (a2parts : List (List UInt8)) (p0 : Value) (p2 : Value) (r : List (List UInt8) × Int) (w0 : World) (L0 : List Value) (hL0 : Old w0 L0) (hp0 : Fd w0 [] p0 a0f) (hp2 : Rw w0 [] p2 a2parts) (H : code_Encode a0f a1n a2parts = some r) :
    Calls Try.prog 20 [p0, (i64 a1n), p2].toArray w0 (fun e w' => ∃ u0 : Value, e = .returned (.tuple #[u0, (i64 r.2)]) ∧ Ext w0 w' ∧ Nw w0 u0 ∧ OwK By w' (u0 :: L0) 22 u0 r.1) := by
  have hE : Ext w0 w0 := Ext.refl w0; unfold code_Encode at H; refine calls_W (n := 53) Try.func20 rfl rfl rfl ?_; refine W_seq <| W_rg <| av (.slice none 0 0) rfl rfl <| av (i64 0) rfl rfl <| wnt <| W_seq <| W_block <| W_seq <| ?_; refine W_rg <| mv p0 rfl rfl <| wa rfl (q_eqF rfl rfl rfl rfl (hp0.lift (Lift.ext hE _))) <| av (.bool ((!a0f))) rfl rfl <| wnt <| ?_; refine W_cond _ rfl rfl (fun hb1 => ?_) (fun hb1 => ?_)
  · replace H := (if_pos hb1).symm.trans H; refine W_seq <| W_rg <| av (.slice none 0 0) rfl rfl <| av (i64 1) rfl rfl <| wnt <| W_ret <| bk_r <| th_r <| ?_; obtain rfl := osi H; refine rt2 (.slice none 0 0) (i64 1) rfl rfl rfl rfl rfl rfl ?_; exact ⟨(.slice none 0 0), rfl, hE, Nw.nil _, (OwK.nil _ _ _ _)⟩
  replace H := (if_neg (ne_true_of_eq_false hb1)).symm.trans H; refine W_seq <| W_rg <| mv p2 rfl rfl <| wa rfl (q_len rfl T28.sl rfl (hp2.lift (Lift.ext hE _))) <| wa rfl (q_eqI rfl rfl rfl) <| ?_; refine wlb rfl rfl (q_move (v := (.bool ((decide ((a2parts.length : Int) = 0))))) rfl rfl) (fun hb2 => ?_) (fun hb2 => ?_)
  · replace H := ifp hb2 H; refine wlk rfl rfl <| wlk rfl rfl <| wlk rfl rfl <| wlk rfl rfl <| wa rfl (q_pick_t (v := (.bool true)) rfl rfl rfl) <| mv (.bool true) rfl rfl <| wlk rfl rfl <| wlk rfl rfl <| ?_; refine wa rfl (q_pick_t (v := (.bool true)) rfl rfl rfl) <| av (.bool true) rfl rfl <| wnt <| ?_; refine W_cond true rfl rfl (fun _ => ?_) (fun hb => by cases hb); refine W_seq <| W_rg <| av (.slice none 0 0) rfl rfl <| av (i64 2) rfl rfl <| wnt <| W_ret <| bk_r <| th_r <| ?_; obtain rfl := osi H; refine rt2 (.slice none 0 0) (i64 2) rfl rfl rfl rfl rfl rfl ?_; exact ⟨(.slice none 0 0), rfl, hE, Nw.nil _, (OwK.nil _ _ _ _)⟩
  replace H := ifn hb2 H; refine mv p2 rfl rfl <| wa rfl (q_len rfl T28.sl rfl (hp2.lift (Lift.ext hE _))) <| mv (i64 a1n) rfl rfl <| wa rfl (q_gtI rfl rfl rfl) <| wa rfl (q_pick_f (v := (.bool ((decide (a1n < (a2parts.length : Int)))))) rfl rfl rfl) <| ?_; refine wlb rfl rfl (q_move (v := (.bool ((decide (a1n < (a2parts.length : Int)))))) rfl rfl) (fun hb3 => ?_) (fun hb3 => ?_)
  · replace H := ifp hb3 H; refine wlk rfl rfl <| wlk rfl rfl <| wa rfl (q_pick_t (v := (.bool true)) rfl rfl rfl) <| av (.bool true) rfl rfl <| wnt <| ?_; refine W_cond true rfl rfl (fun _ => ?_) (fun hb => by cases hb); refine W_seq <| W_rg <| av (.slice none 0 0) rfl rfl <| av (i64 2) rfl rfl <| wnt <| W_ret <| bk_r <| th_r <| ?_; obtain rfl := osi H; refine rt2 (.slice none 0 0) (i64 2) rfl rfl rfl rfl rfl rfl ?_; exact ⟨(.slice none 0 0), rfl, hE, Nw.nil _, (OwK.nil _ _ _ _)⟩
  replace H := ifn hb3 H; refine mv (i64 a1n) rfl rfl <| wa rfl (q_gtI rfl rfl rfl) <| wa rfl (q_pick_f (v := (.bool ((decide (255 < a1n))))) rfl rfl rfl) <| av (.bool ((decide (255 < a1n)))) rfl rfl <| wnt <| ?_; refine W_cond _ rfl rfl (fun hb4 => ?_) (fun hb4 => ?_)
  · replace H := ifp hb4 H; refine W_seq <| W_rg <| av (.slice none 0 0) rfl rfl <| av (i64 2) rfl rfl <| wnt <| W_ret <| bk_r <| th_r <| ?_; obtain rfl := osi H; refine rt2 (.slice none 0 0) (i64 2) rfl rfl rfl rfl rfl rfl ?_; exact ⟨(.slice none 0 0), rfl, hE, Nw.nil _, (OwK.nil _ _ _ _)⟩
  replace H := ifn hb4 H; refine W_seq <| W_rg <| mv p2 rfl rfl <| ?_; obtain ⟨r5, hr5, H⟩ := bsi H; refine wls rfl rfl (stp_call (vs := [p2]) Try.func37 rfl rfl rfl (ar1 rfl) (code_unlike_calls a2parts p2 r5 _ (hp2.lift (Lift.ext hE _)) hr5) ?_); rintro _ w5 ⟨rfl, x5⟩; refine ⟨_, rfl, ?_⟩; have e6 := hE.trans x5; refine av (.bool r5) rfl rfl <| wnt <| ?_; refine W_cond _ rfl rfl (fun hb7 => ?_) (fun hb7 => ?_)
  · replace H := (if_pos hb7).symm.trans H; refine W_seq <| W_rg <| av (.slice none 0 0) rfl rfl <| av (i64 3) rfl rfl <| wnt <| W_ret <| bk_r <| th_r <| ?_; obtain rfl := osi H; refine rt2 (.slice none 0 0) (i64 3) rfl rfl rfl rfl rfl rfl ?_; exact ⟨(.slice none 0 0), rfl, e6, Nw.nil _, (OwK.nil _ _ _ _)⟩
  replace H := (if_neg (ne_true_of_eq_false hb7)).symm.trans H; refine W_skip <| bk_n <| W_th <| W_seq <| W_rg <| av (.slice none 0 0) rfl rfl <| wnt <| W_seq <| ?_; refine W_seq <| W_rg <| mv (i64 a1n) rfl rfl <| mv (i64 0) rfl rfl <| wnt <| ?_; obtain ⟨x8, G8, H⟩ := bsi H; refine W_mid (fun f w => ∃ y8, x8 = .inl y8 ∧ ∃ v8_21 : Value, f 8 = v8_21 ∧ f 53 = undef ∧ Ext w0 w ∧ OwK By w (v8_21 :: L0) 22 v8_21 y8 ∧ Nw w0 v8_21) ?_ ?_
  · refine W_block ?_; refine W_loop (fun s8 f w => ∃ v8_19 : Value, f 0 = p0 ∧ f 2 = p2 ∧ f 8 = v8_19 ∧ f 32 = (i64 a1n) ∧ f 33 = (i64 s8.2) ∧ f 53 = undef ∧ Ext w0 w ∧ OwK By w (v8_19 :: L0) 22 v8_19 s8.1 ∧ Nw w0 v8_19) G8 ?_ ?_
    · exact ⟨(.slice none 0 0), rfl, rfl, rfl, rfl, rfl, rfl, e6, (OwK.nil _ _ _ _), (Nw.nil _)⟩
    rintro s8 _ _ w9 ⟨v8_9, s0_9, s2_9, s8_9, s32_9, s33_9, s53_9, hE9, o0_9, n0_9⟩ H8 hr8; refine W_seq <| W_rg <| wa rfl (q_ltI rfl s33_9 s32_9) <| wnt <| W_seq <| ?_; refine W_cond _ rfl rfl (fun hb10 => ?_) (fun hb10 => ?_)
    · replace H8 := ifp hb10 H8; refine W_skip <| W_th <| W_seq <| W_block <| W_seq <| W_rg <| mv (i64 s8.2) rfl s33_9 <| av (i64 s8.2) rfl rfl <| ?_; refine wnt <| W_seq <| W_rg <| mv p0 rfl s0_9 <| mv p2 rfl s2_9 <| mv (i64 s8.2) rfl rfl <| wa rfl (q_addI rfl rfl rfl) <| ?_; obtain ⟨r11, hr11, H8⟩ := bsi H8; refine wls rfl rfl (stp_call (vs := [p0, p2, (i64 ((wI (s8.2 + 1))))]) Try.func38 rfl rfl rfl (ar3 rfl rfl rfl) (code_Piece_calls a0f a2parts (wI (s8.2 + 1)) p0 p2 r11 _ (hp0.lift (Lift.ext hE9 _)) (hp2.lift (Lift.ext hE9 _)) hr11) ?_); rintro _ w11 ⟨v11_0, rfl, x11, n11_0, o11_0⟩; refine ⟨_, rfl, ?_⟩; have i11_0 : By w11 (v8_9 :: L0) v11_0 r11.1 := OwK.slk (Sc.stab _) _ (OwK.scal o11_0 (v11_0 :: (v8_9 :: L0))) (fun k hk => (Old.cons (hL0.ext hE9) o0_9.lt) k (n11_0 k hk)) (fun _ h => h.2); replace o0_9 := o0_9.extL (SlK.stab (Sc.stab _)) x11 (Lift.ext x11 _); have e12 := hE9.trans x11; refine mv (.tuple #[v11_0, (i64 r11.2)]) rfl rfl <| wa rfl (q_extract rfl rfl rfl) <| wa rfl (q_extract rfl rfl rfl) <| av v11_0 rfl rfl <| av (i64 r11.2) rfl rfl <| wnt <| W_seq <| W_seq <| ?_; refine W_rg <| mv (i64 r11.2) rfl rfl <| wa rfl (q_neI rfl rfl rfl) <| wnt <| ?_; refine W_cond _ rfl rfl (fun hb13 => ?_) (fun hb13 => ?_)
      · replace H8 := (if_neg (ndec_t hb13)).symm.trans H8; refine W_seq <| W_rg <| mv (i64 r11.2) rfl rfl <| av (.slice none 0 0) rfl rfl <| av (i64 r11.2) rfl rfl <| wnt <| W_ret <| th_r <| ?_; refine bk_r <| th_r <| ?_; obtain rfl := osi H8; obtain rfl := hr8 _ rfl; simp only [Sum.elim_inr] at H; refine th_r <| bk_r <| th_r <| th_r <| ?_; obtain rfl := osi H; refine rt2 (.slice none 0 0) (i64 r11.2) rfl rfl rfl rfl rfl s53_9 ?_; exact ⟨(.slice none 0 0), rfl, e12, Nw.nil _, (OwK.nil _ _ _ _)⟩
      replace H8 := (if_pos (ndec_f hb13)).symm.trans H8; refine W_skip <| W_th <| W_rg <| mv v8_9 rfl s8_9 <| mv v11_0 rfl rfl <| ?_; refine wls rfl rfl (stp_lit (L := (v8_9 :: L0)) (R := By) [v11_0] ([r11.1] : List (List UInt8)) rfl T28 rfl (by exact ⟨rfl, rfl, trivial⟩) rfl (LitR.cells (R := By) (w := w11) (L := (v8_9 :: L0)) (l := ([r11.1] : List (List UInt8))) (LitR.cons i11_0 LitR.nil) (fun u x h => cells_sl u x h)) rfl (LitR.all (R := By) (w := w11) (L := (v8_9 :: L0)) (l := ([r11.1] : List (List UInt8))) (SlK.stab (Sc.stab _)) (LitR.cons i11_0 LitR.nil)) ?_); intro v14 w14 o14 n14 g14 l14; have x14 := grown_ext g14; have i14 : Rw w14 (v8_9 :: L0) v14 (([r11.1] : List (List UInt8))) := OwK.slk (SlK.stab (Sc.stab _)) _ o14 (fun k hk => (Old.cons (hL0.ext e12) o0_9.lt) k (n14 k hk)) (fun _ h => h.2); replace i11_0 := i11_0.lift (Lift.ext x14 _); replace o0_9 := o0_9.extL (SlK.stab (Sc.stab _)) x14 (Lift.ext x14 _); have e15 := e12.trans x14; obtain ⟨c16, hc16, H8⟩ := bsi H8; refine wls rfl rfl (stp_append (R := By) (v := v8_9) (u := v14) (SlK.stab (Sc.stab _)) [] (L0) rfl T28 rfl rfl o0_9 i14 (fun _ _ h => h) hc16 oc_sl ?_); intro v16 w16 o16 g16 nx16 l16; replace i11_0 := i11_0.lift l16; replace i14 := i14.lift l16; have e17 := e15.grown g16 n0_9; have n18 := Nw.nxt e15 n0_9 nx16; refine av v16 rfl rfl <| wl_nil <| bk_n <| W_th <| W_rg <| wa rfl (q_addI rfl s33_9 rfl) <| mv (i64 ((wI (s8.2 + 1)))) rfl rfl <| wl_nil <| ?_; obtain rfl := osi H8; exact ⟨_, rfl, v16, s0_9, s2_9, rfl, s32_9, rfl, s53_9, e17, o16, n18⟩
    replace H8 := ifn hb10 H8; refine W_exit <| th_x <| ?_; obtain rfl := osi H8; obtain rfl := hr8 _ rfl; refine th_x <| bk_x <| ?_; exact ⟨_, rfl, v8_9, s8_9, s53_9, hE9, o0_9, n0_9⟩
  rintro _ w20 ⟨y8, rfl, v8_20, s8_20, s53_20, hE20, o0_20, n0_20⟩; simp only [Sum.elim_inl] at H; refine W_th <| W_seq <| W_rg <| mv v8_20 rfl s8_20 <| av v8_20 rfl rfl <| av (i64 0) rfl rfl <| wnt <| W_ret <| ?_; obtain rfl := osi H; refine rt2 v8_20 (i64 0) rfl rfl rfl rfl rfl s53_20 ?_; exact ⟨v8_20, rfl, hE20, n0_20, (o0_20.weak (SlK.stab (Sc.stab _)) (fun _ h => ⟨h.1, h.2⟩))⟩
noncomputable def code_PartSize (a0size : Int) (a1t : Int) : Option Int :=
((code_member a1t).bind fun r1 =>
(if (!r1) = true then some 0
else
(if a0size < 0 then some 0
else
((divI a0size a1t).bind fun c5 =>
((remI a0size a1t).bind fun c6 =>
(if 0 < c6 then some (wI (c5 + 1))
else some c5))))))
theorem code_PartSize_calls (a0size : Int) (a1t : Int) (r : Int) (w0 : World) (H : code_PartSize a0size a1t = some r) :
    Calls Try.prog 27 [(i64 a0size), (i64 a1t)].toArray w0 (fun e w' => e = .returned (i64 r) ∧ Ext w0 w') := by
  have hE : Ext w0 w0 := Ext.refl w0; unfold code_PartSize at H; refine calls_W (n := 23) Try.func27 rfl rfl rfl ?_; refine W_seq <| W_rg <| av (i64 0) rfl rfl <| wnt <| W_seq <| W_seq <| W_rg <| mv (i64 a1t) rfl rfl <| ?_; obtain ⟨r1, hr1, H⟩ := bsi H; refine wls rfl rfl (stp_call (vs := [(i64 a1t)]) Try.func34 rfl rfl rfl (ar1 rfl) (code_member_calls a1t  r1 _  hr1) ?_); rintro _ w1 ⟨rfl, x1⟩; refine ⟨_, rfl, ?_⟩; have e2 := hE.trans x1; refine wa rfl (q_not rfl rfl) ?_; refine wlb rfl rfl (q_move (v := (.bool ((!r1)))) rfl rfl) (fun hb3 => ?_) (fun hb3 => ?_)
  · replace H := (if_pos hb3).symm.trans H; refine wlk rfl rfl <| wlk rfl rfl <| wa rfl (q_pick_t (v := (.bool true)) rfl rfl rfl) <| wnt <| ?_; refine W_cond true rfl rfl (fun _ => ?_) (fun hb => by cases hb); refine W_seq <| W_rg <| av (i64 0) rfl rfl <| wnt <| W_ret <| th_r <| ?_; obtain rfl := osi H; refine rt1 (i64 0) rfl rfl rfl rfl ?_; exact ⟨rfl, e2⟩
  replace H := (if_neg (ne_true_of_eq_false hb3)).symm.trans H; refine mv (i64 a0size) rfl rfl <| wa rfl (q_ltI rfl rfl rfl) <| wa rfl (q_pick_f (v := (.bool ((decide (a0size < 0))))) rfl rfl rfl) <| wnt <| ?_; refine W_cond _ rfl rfl (fun hb4 => ?_) (fun hb4 => ?_)
  · replace H := ifp hb4 H; refine W_seq <| W_rg <| av (i64 0) rfl rfl <| wnt <| W_ret <| th_r <| ?_; obtain rfl := osi H; refine rt1 (i64 0) rfl rfl rfl rfl ?_; exact ⟨rfl, e2⟩
  replace H := ifn hb4 H; refine W_skip <| W_th <| W_seq <| W_rg <| mv (i64 a0size) rfl rfl <| mv (i64 a1t) rfl rfl <| ?_; obtain ⟨c5, hc5, H⟩ := bsi H; refine wa rfl (q_divI rfl rfl rfl hc5) <| av (i64 c5) rfl rfl <| wnt <| W_seq <| W_seq <| W_rg <| mv (i64 a0size) rfl rfl <| mv (i64 a1t) rfl rfl <| ?_; obtain ⟨c6, hc6, H⟩ := bsi H; refine wa rfl (q_remI rfl rfl rfl hc6) <| wa rfl (q_gtI rfl rfl rfl) <| wnt <| ?_; refine W_cond _ rfl rfl (fun hb7 => ?_) (fun hb7 => ?_)
  · replace H := ifp hb7 H; refine W_rg <| mv (i64 c5) rfl rfl <| wa rfl (q_addI rfl rfl rfl) <| av (i64 ((wI (c5 + 1)))) rfl rfl <| wnt <| W_seq <| W_rg <| mv (i64 ((wI (c5 + 1)))) rfl rfl <| ?_; refine av (i64 ((wI (c5 + 1)))) rfl rfl <| wnt <| W_ret <| ?_; obtain rfl := osi H; refine rt1 (i64 ((wI (c5 + 1)))) rfl rfl rfl rfl ?_; exact ⟨rfl, e2⟩
  replace H := ifn hb7 H; refine W_skip <| W_th <| W_seq <| W_rg <| mv (i64 c5) rfl rfl <| av (i64 c5) rfl rfl <| wnt <| W_ret <| ?_; obtain rfl := osi H; refine rt1 (i64 c5) rfl rfl rfl rfl ?_; exact ⟨rfl, e2⟩
noncomputable def code_Cut (a0b : List UInt8) (a1t : Int) : Option (List (List UInt8) × Int) :=
((code_member a1t).bind fun r1 =>
(if (!r1) = true then some (([] : List (List UInt8)), 2)
else
((code_PartSize (a0b.length : Int) a1t).bind fun r4 =>
((makeL ((wI (r4 * a1t))) (0 : UInt8)).bind fun c6 =>
((iterC (fun s11 : List (List UInt8) × Int =>
(if s11.2 < a1t then
((subL ((copyL c6 0 a0b)) ((wI (s11.2 * r4))) ((wI ((wI (s11.2 + 1)) * r4)))).bind fun c14 =>
((slices_Clone_sbytebyte c14).bind fun r15 =>
((appL s11.1 (([r15] : List (List UInt8)))).bind fun c19 => some (.inl (c19, (wI (s11.2 + 1)))))))
else some (.inr s11.1))) (([] : List (List UInt8)), 0)).bind fun x11 => some (x11, 0))))))
theorem code_Cut_calls (a0b : List UInt8) (a1t : Int) (p0 : Value) (r : List (List UInt8) × Int) (w0 : World) (L0 : List Value) (hL0 : Old w0 L0) (hp0 : By w0 [] p0 a0b) (H : code_Cut a0b a1t = some r) :
    Calls Try.prog 18 [p0, (i64 a1t)].toArray w0 (fun e w' => ∃ u0 : Value, e = .returned (.tuple #[u0, (i64 r.2)]) ∧ Ext w0 w' ∧ Nw w0 u0 ∧ OwK By w' (u0 :: L0) 22 u0 r.1) := by
  have hE : Ext w0 w0 := Ext.refl w0; unfold code_Cut at H; refine calls_W (n := 43) Try.func18 rfl rfl rfl ?_; refine W_seq <| W_rg <| av (.slice none 0 0) rfl rfl <| av (i64 0) rfl rfl <| wnt <| W_seq <| W_seq <| W_rg <| ?_; refine mv (i64 a1t) rfl rfl ?_; obtain ⟨r1, hr1, H⟩ := bsi H; refine wls rfl rfl (stp_call (vs := [(i64 a1t)]) Try.func34 rfl rfl rfl (ar1 rfl) (code_member_calls a1t  r1 _  hr1) ?_); rintro _ w1 ⟨rfl, x1⟩; refine ⟨_, rfl, ?_⟩; have e2 := hE.trans x1; refine wa rfl (q_not rfl rfl) <| wnt <| ?_; refine W_cond _ rfl rfl (fun hb3 => ?_) (fun hb3 => ?_)
  · replace H := (if_pos hb3).symm.trans H; refine W_seq <| W_rg <| av (.slice none 0 0) rfl rfl <| av (i64 2) rfl rfl <| wnt <| W_ret <| th_r <| ?_; obtain rfl := osi H; refine rt2 (.slice none 0 0) (i64 2) rfl rfl rfl rfl rfl rfl ?_; exact ⟨(.slice none 0 0), rfl, e2, Nw.nil _, (OwK.nil _ _ _ _)⟩
  replace H := (if_neg (ne_true_of_eq_false hb3)).symm.trans H; refine W_skip <| W_th <| W_seq <| W_rg <| mv p0 rfl rfl <| wa rfl (q_len rfl T22.sl rfl (hp0.lift (Lift.ext e2 _))) <| mv (i64 a1t) rfl rfl <| ?_; obtain ⟨r4, hr4, H⟩ := bsi H; refine wls rfl rfl (stp_call (vs := [(i64 ((a0b.length : Int))), (i64 a1t)]) Try.func27 rfl rfl rfl (ar2 rfl rfl) (code_PartSize_calls (a0b.length : Int) a1t  r4 _  hr4) ?_); rintro _ w4 ⟨rfl, x4⟩; refine ⟨_, rfl, ?_⟩; have e5 := e2.trans x4; refine av (i64 r4) rfl rfl <| wnt <| W_seq <| W_rg <| mv (i64 r4) rfl rfl <| mv (i64 a1t) rfl rfl <| wa rfl (q_mulI rfl rfl rfl) <| ?_; obtain ⟨c6, hc6, H⟩ := bsi H; refine wls rfl rfl (stp_make (L := (L0)) (R := (Sc u8)) rfl T22 rfl rfl hc6 (fun _ _ => rfl) ?_); intro v6 w6 o6 n6 g6 l6; have x6 := grown_ext g6; have n8 := Nw.ext e5 n6; have e7 := e5.trans x6; refine av v6 rfl rfl <| wnt <| W_seq <| W_rg <| mv v6 rfl rfl <| mv p0 rfl rfl <| ?_; refine wls rfl rfl (stp_copy (R := (Sc u8)) (off := 0) (dv := v6) (u := p0) (Sc.stab _) [] (L0) rfl T22 rfl rfl o6 (copy_whole o6) (by decide) (Int.natCast_nonneg _) (hp0.lift (Lift.ext e7 _)) (fun _ _ h => h) oc_u8 ?_); intro w9 o9 g9 l9; have e10 := e7.grown g9 n8; refine wnt <| W_seq <| W_rg <| av (.slice none 0 0) rfl rfl <| wnt <| W_seq <| W_seq <| W_rg <| ?_; refine mv (i64 a1t) rfl rfl <| mv (i64 0) rfl rfl <| wnt <| ?_; obtain ⟨x11, G11, H⟩ := bsi H; refine W_mid (fun f w => ∃ v8_25 : Value, f 8 = v8_25 ∧ f 43 = undef ∧ Ext w0 w ∧ OwK By w (v8_25 :: L0) 22 v8_25 x11 ∧ Nw w0 v8_25) ?_ ?_
  · refine W_block ?_; refine W_loop (fun s11 f w => ∃ v8_23 : Value, f 6 = (i64 r4) ∧ f 7 = v6 ∧ f 8 = v8_23 ∧ f 24 = (i64 a1t) ∧ f 25 = (i64 s11.2) ∧ f 43 = undef ∧ Ext w0 w ∧ OwK (Sc u8) w (v6 :: v8_23 :: L0) 5 v6 ((copyL c6 0 a0b)) ∧ Nw w0 v6 ∧ OwK By w (v6 :: v8_23 :: L0) 22 v8_23 s11.1 ∧ Nw w0 v8_23 ∧ Nq v6 v8_23) G11 ?_ ?_
    · exact ⟨(.slice none 0 0), rfl, rfl, rfl, rfl, rfl, rfl, e10, (o9.weak (Sc.stab _) (fun _ h => ⟨h.1, nh_nil, h.2⟩)), n8, (OwK.nil _ _ _ _), (Nw.nil _), (Nq.nil _).symm⟩
    rintro s11 _ _ w12 ⟨v8_12, s6_12, s7_12, s8_12, s24_12, s25_12, s43_12, hE12, o0_12, n0_12, o1_12, n1_12, q0_1_12⟩ H11 hr11; refine W_seq <| W_rg <| wa rfl (q_ltI rfl s25_12 s24_12) <| wnt <| W_seq <| ?_; refine W_cond _ rfl rfl (fun hb13 => ?_) (fun hb13 => ?_)
    · replace H11 := ifp hb13 H11; refine W_skip <| W_th <| W_seq <| W_block <| W_seq <| W_rg <| mv (i64 s11.2) rfl s25_12 <| av (i64 s11.2) rfl rfl <| ?_; refine wnt <| W_rg <| mv v8_12 rfl s8_12 <| mv v6 rfl s7_12 <| mv (i64 s11.2) rfl rfl <| mv (i64 r4) rfl s6_12 <| wa rfl (q_mulI rfl rfl rfl) <| mv (i64 s11.2) rfl rfl <| ?_; refine wa rfl (q_addI rfl rfl rfl) <| mv (i64 r4) rfl s6_12 <| wa rfl (q_mulI rfl rfl rfl) <| ?_; obtain ⟨c14, hc14, H11⟩ := bsi H11; refine wa rfl (q_slice (a := (wI (s11.2 * r4))) (b := (wI ((wI (s11.2 + 1)) * r4))) rfl T22 rfl (o0_12.rd (Sc.stab _)) rfl rfl hc14) ?_; obtain ⟨r15, hr15, H11⟩ := bsi H11; refine wls rfl rfl (stp_call (vs := [(subV v6 ((wI (s11.2 * r4)) : Int).toNat ((wI ((wI (s11.2 + 1)) * r4)) : Int).toNat)]) Try.func35 rfl rfl rfl (ar1 rfl) (slices_Clone_sbytebyte_calls c14 (subV v6 ((wI (s11.2 * r4)) : Int).toNat ((wI ((wI (s11.2 + 1)) * r4)) : Int).toNat) r15 _ (SlK.cut (L := []) (o0_12.rd (Sc.stab _)) hc14) hr15) ?_); rintro _ w15 ⟨v15, rfl, x15, n15_0, o15_0⟩; refine ⟨_, rfl, ?_⟩; have i15_0 : By w15 (v6 :: v8_12 :: L0) v15 r15 := OwK.slk (Sc.stab _) _ (OwK.scal o15_0 (v15 :: (v6 :: v8_12 :: L0))) (fun k hk => (Old.cons (Old.cons (hL0.ext hE12) o1_12.lt) o0_12.lt) k (n15_0 k hk)) (fun _ h => h.2); replace o0_12 := o0_12.extL (Sc.stab _) x15 (Lift.ext x15 _); replace o1_12 := o1_12.extL (SlK.stab (Sc.stab _)) x15 (Lift.ext x15 _); have e16 := hE12.trans x15; refine wls rfl rfl (stp_lit (L := (v6 :: v8_12 :: L0)) (R := By) [v15] ([r15] : List (List UInt8)) rfl T28 rfl (by exact ⟨rfl, rfl, trivial⟩) rfl (LitR.cells (R := By) (w := w15) (L := (v6 :: v8_12 :: L0)) (l := ([r15] : List (List UInt8))) (LitR.cons i15_0 LitR.nil) (fun u x h => cells_sl u x h)) rfl (LitR.all (R := By) (w := w15) (L := (v6 :: v8_12 :: L0)) (l := ([r15] : List (List UInt8))) (SlK.stab (Sc.stab _)) (LitR.cons i15_0 LitR.nil)) ?_); intro v17 w17 o17 n17 g17 l17; have x17 := grown_ext g17; have i17 : Rw w17 (v6 :: v8_12 :: L0) v17 (([r15] : List (List UInt8))) := OwK.slk (SlK.stab (Sc.stab _)) _ o17 (fun k hk => (Old.cons (Old.cons (hL0.ext e16) o1_12.lt) o0_12.lt) k (n17 k hk)) (fun _ h => h.2); replace i15_0 := i15_0.lift (Lift.ext x17 _); replace o0_12 := o0_12.extL (Sc.stab _) x17 (Lift.ext x17 _); replace o1_12 := o1_12.extL (SlK.stab (Sc.stab _)) x17 (Lift.ext x17 _); have e18 := e16.trans x17; obtain ⟨c19, hc19, H11⟩ := bsi H11; refine wls rfl rfl (stp_append (R := By) (v := v8_12) (u := v17) (SlK.stab (Sc.stab _)) [v6] (L0) rfl T28 rfl rfl o1_12 i17 (fun _ _ h => h) hc19 oc_sl ?_)
      intro v19 w19 o19 g19 nx19 l19; replace i15_0 := i15_0.lift l19; replace i17 := i17.lift l19; have q20 : Nq v6 v19 := o0_12.nxt q0_1_12 nx19; replace o0_12 := o0_12.other (Sc.stab _) g19 q0_1_12 l19; have e21 := e18.grown g19 n1_12; have n22 := Nw.nxt e18 n1_12 nx19; refine av v19 rfl rfl <| wl_nil <| bk_n <| W_th <| W_rg <| wa rfl (q_addI rfl s25_12 rfl) <| mv (i64 ((wI (s11.2 + 1)))) rfl rfl <| wl_nil <| ?_; obtain rfl := osi H11; exact ⟨_, rfl, v19, s6_12, s7_12, rfl, s24_12, rfl, s43_12, e21, o0_12, n0_12, o19, n22, q20⟩
    replace H11 := ifn hb13 H11; refine W_exit <| th_x <| ?_; obtain rfl := osi H11; obtain rfl := hr11 _ rfl; refine th_x <| bk_x <| ?_; exact ⟨v8_12, s8_12, s43_12, hE12, (o1_12.weak (SlK.stab (Sc.stab _)) (fun _ h => ⟨h.2.1, h.2.2⟩)), n1_12⟩
  rintro _ w24 ⟨v8_24, s8_24, s43_24, hE24, o0_24, n0_24⟩; refine W_th <| W_seq <| W_rg <| mv v8_24 rfl s8_24 <| av v8_24 rfl rfl <| av (i64 0) rfl rfl <| wnt <| W_ret <| ?_; obtain rfl := osi H; refine rt2 v8_24 (i64 0) rfl rfl rfl rfl rfl s43_24 ?_; exact ⟨v8_24, rfl, hE24, n0_24, (o0_24.weak (SlK.stab (Sc.stab _)) (fun _ h => ⟨h.1, h.2⟩))⟩
noncomputable def ref09_Places (a0n : Int) : Option (List UInt8) :=
((iterC (fun s4 : List UInt8 × Int =>
(if s4.2 ≤ a0n then
((appL s4.1 (([(UInt8.ofInt s4.2)] : List UInt8))).bind fun c9 => some (.inl (c9, (wI (s4.2 + 1)))))
else some (.inr s4.1))) (([] : List UInt8), 1)).bind fun x4 => some x4)
theorem ref09_Places_calls (a0n : Int) (r : List UInt8) (w0 : World) (H : ref09_Places a0n = some r) :
    Calls Try.prog 45 [(i64 a0n)].toArray w0 (fun e w' => ∃ u0 : Value, e = .returned u0 ∧ Ext w0 w' ∧ Nw w0 u0 ∧ OwK (Sc u8) w' [] 5 u0 r) := by
  have hE : Ext w0 w0 := Ext.refl w0; unfold ref09_Places at H; refine calls_W (n := 17) Try.func45 rfl rfl rfl ?_; refine W_seq <| W_rg <| av (.slice none 0 0) rfl rfl <| wnt <| W_seq <| W_rg <| ?_; refine wls rfl rfl (stp_lit (L := []) (R := (Sc u8)) [] ([] : List UInt8) rfl T22 rfl (by exact trivial) rfl (litC u8 (oneC_u8) (us := []) (l := ([] : List UInt8)) rfl) rfl (litS u8 (us := []) (l := ([] : List UInt8)) rfl) ?_); intro v1 w1 o1 n1 g1 l1; have x1 := grown_ext g1; have n3 := Nw.ext hE n1; have e2 := hE.trans x1; refine av v1 rfl rfl <| wnt <| W_seq <| W_seq <| W_rg <| av (i64 1) rfl rfl <| wnt <| ?_; obtain ⟨x4, G4, H⟩ := bsi H; refine W_mid (fun f w => ∃ v3_14 : Value, f 3 = v3_14 ∧ f 17 = undef ∧ Ext w0 w ∧ OwK (Sc u8) w [v3_14] 5 v3_14 x4 ∧ Nw w0 v3_14) ?_ ?_
  · refine W_block ?_; refine W_loop (fun s4 f w => ∃ v3_12 : Value, f 0 = (i64 a0n) ∧ f 3 = v3_12 ∧ f 4 = (i64 s4.2) ∧ f 17 = undef ∧ Ext w0 w ∧ OwK (Sc u8) w [v3_12] 5 v3_12 s4.1 ∧ Nw w0 v3_12) G4 ?_ ?_
    · exact ⟨v1, rfl, rfl, rfl, rfl, e2, o1, n3⟩
    rintro s4 _ _ w5 ⟨v3_5, s0_5, s3_5, s4_5, s17_5, hE5, o0_5, n0_5⟩ H4 hr4; refine W_seq <| W_seq <| W_rg <| mv (i64 s4.2) rfl s4_5 <| mv (i64 a0n) rfl s0_5 <| wa rfl (q_leI rfl rfl rfl) <| wnt <| ?_; refine W_cond _ rfl rfl (fun hb6 => ?_) (fun hb6 => ?_)
    · replace H4 := ifp hb6 H4; refine W_skip <| W_th <| W_seq <| W_block <| W_rg <| mv v3_5 rfl s3_5 <| mv (i64 s4.2) rfl s4_5 <| wa rfl (q_cvt8I rfl rfl rfl rfl) <| ?_; refine wls rfl rfl (stp_lit (L := [v3_5]) (R := (Sc u8)) [(u8 ((UInt8.ofInt s4.2)))] ([(UInt8.ofInt s4.2)] : List UInt8) rfl T22 rfl (by exact ⟨rfl, rfl, trivial⟩) rfl (litC u8 (oneC_u8) (us := [(u8 ((UInt8.ofInt s4.2)))]) (l := ([(UInt8.ofInt s4.2)] : List UInt8)) rfl) rfl (litS u8 (us := [(u8 ((UInt8.ofInt s4.2)))]) (l := ([(UInt8.ofInt s4.2)] : List UInt8)) rfl) ?_); intro v7 w7 o7 n7 g7 l7; have x7 := grown_ext g7; have i7 : By w7 [v3_5] v7 (([(UInt8.ofInt s4.2)] : List UInt8)) := OwK.slk (Sc.stab _) _ o7 (fun k hk => (Old.cons (Old.nil _) o0_5.lt) k (n7 k hk)) (fun _ h => h.2); replace o0_5 := o0_5.extL (Sc.stab _) x7 (Lift.ext x7 _); have e8 := hE5.trans x7; obtain ⟨c9, hc9, H4⟩ := bsi H4; refine wls rfl rfl (stp_append (R := (Sc u8)) (v := v3_5) (u := v7) (Sc.stab _) [] [] rfl T22 rfl rfl o0_5 i7 (fun _ _ h => h) hc9 oc_u8 ?_); intro v9 w9 o9 g9 nx9 l9; replace i7 := i7.lift l9; have e10 := e8.grown g9 n0_5; have n11 := Nw.nxt e8 n0_5 nx9; refine av v9 rfl rfl <| wl_nil <| bk_n <| W_th <| W_rg <| mv (i64 s4.2) rfl s4_5 <| wa rfl (q_addI rfl rfl rfl) <| av (i64 ((wI (s4.2 + 1)))) rfl rfl <| ?_; refine wl_nil ?_; obtain rfl := osi H4; exact ⟨_, rfl, v9, s0_5, rfl, rfl, s17_5, e10, o9, n11⟩
    replace H4 := ifn hb6 H4; refine W_exit <| th_x <| ?_; obtain rfl := osi H4; obtain rfl := hr4 _ rfl; refine th_x <| bk_x <| ?_; exact ⟨v3_5, s3_5, s17_5, hE5, o0_5, n0_5⟩
  rintro _ w13 ⟨v3_13, s3_13, s17_13, hE13, o0_13, n0_13⟩; refine W_th <| W_seq <| W_rg <| mv v3_13 rfl s3_13 <| av v3_13 rfl rfl <| wnt <| W_ret <| ?_; obtain rfl := osi H; refine rt1 v3_13 rfl rfl rfl s17_13 ?_; exact ⟨v3_13, rfl, hE13, n0_13, (o0_13.weak (Sc.stab _) (fun _ _ => trivial))⟩
noncomputable def ref09_Piece (a0parts : List (List UInt8)) (a1x : Int) : Option (List UInt8) :=
((ref09_Places (a0parts.length : Int)).bind fun r1 =>
((ref08_At r1 a0parts (UInt8.ofInt a1x)).bind fun r3 => some r3))
theorem ref09_Piece_calls (a0parts : List (List UInt8)) (a1x : Int) (p0 : Value) (r : List UInt8) (w0 : World) (hp0 : Rw w0 [] p0 a0parts) (H : ref09_Piece a0parts a1x = some r) :
    Calls Try.prog 25 [p0, (i64 a1x)].toArray w0 (fun e w' => ∃ u0 : Value, e = .returned u0 ∧ Ext w0 w' ∧ Nw w0 u0 ∧ OwK (Sc u8) w' [] 5 u0 r) := by
  have hE : Ext w0 w0 := Ext.refl w0; unfold ref09_Piece at H; refine calls_W (n := 12) Try.func25 rfl rfl rfl ?_; refine W_seq <| W_rg <| av (.slice none 0 0) rfl rfl <| wnt <| W_seq <| W_rg <| mv p0 rfl rfl <| wa rfl (q_len rfl T28.sl rfl (hp0.lift (Lift.ext hE _))) <| ?_; obtain ⟨r1, hr1, H⟩ := bsi H; refine wls rfl rfl (stp_call (vs := [(i64 ((a0parts.length : Int)))]) Try.func45 rfl rfl rfl (ar1 rfl) (ref09_Places_calls (a0parts.length : Int)  r1 _  hr1) ?_); rintro _ w1 ⟨v1, rfl, x1, n1_0, o1_0⟩; refine ⟨_, rfl, ?_⟩; have i1_0 : By w1 [] v1 r1 := OwK.slk (Sc.stab _) _ (OwK.scal o1_0 (v1 :: [])) (fun k hk => (Old.nil _) k (n1_0 k hk)) (fun _ h => h.2); have e2 := hE.trans x1; refine mv p0 rfl rfl <| mv (i64 a1x) rfl rfl <| wa rfl (q_cvt8I rfl rfl rfl rfl) <| ?_; obtain ⟨r3, hr3, H⟩ := bsi H; refine wls rfl rfl (stp_call (vs := [v1, p0, (u8 ((UInt8.ofInt a1x)))]) Try.func44 rfl rfl rfl (ar3 rfl rfl rfl) (ref08_At_calls r1 a0parts (UInt8.ofInt a1x) v1 p0 r3 _ (i1_0.lift (Lift.sub (L' := []) (fun _ _ => trivial))) (hp0.lift (Lift.ext e2 _)) hr3) ?_); rintro _ w3 ⟨v3, rfl, x3, n3_0, o3_0⟩; refine ⟨_, rfl, ?_⟩; have o3 : OwK (Sc u8) w3 (v3 :: []) 5 v3 r3 := OwK.scal o3_0 _; replace i1_0 := i1_0.lift (Lift.call _ x3 n3_0); have n5 := Nw.ext e2 n3_0; have e4 := e2.trans x3; refine av v3 rfl rfl <| wnt <| W_ret <| ?_; obtain rfl := osi H; refine rt1 v3 rfl rfl rfl rfl ?_; exact ⟨v3, rfl, e4, n5, (o3.weak (Sc.stab _) (fun _ _ => trivial))⟩
noncomputable def ref09_Cut (a0b : List UInt8) (a1t : Int) : Option (List (List UInt8)) :=
((iterC (fun s2 : Int =>
(if (wI (s2 * a1t)) < (a0b.length : Int) then some (.inl (wI (s2 + 1)))
else some (.inr s2))) 0).bind fun x2 =>
((makeL a1t ([] : List UInt8)).bind fun c7 =>
((iterC (fun s11 : List (List UInt8) × Int =>
(if s11.2 < (c7.length : Int) then
((iterC (fun s14 : List (List UInt8) × Int =>
(if s14.2 < x2 then
(((if (wI ((wI (s11.2 * x2)) + s14.2)) < (a0b.length : Int) then
((idx a0b ((wI ((wI (s11.2 * x2)) + s14.2)))).bind fun c19 => some c19)
else some (0 : UInt8))).bind fun x17 =>
((idx s14.1 s11.2).bind fun c21 =>
((appL c21 (([x17] : List UInt8))).bind fun c26 => some (.inl ((s14.1.set (s11.2 : Int).toNat c26), (wI (s14.2 + 1)))))))
else some (.inr s14.1))) (s11.1, 0)).bind fun x14 => some (.inl (x14, (wI (s11.2 + 1)))))
else some (.inr s11.1))) (c7, 0)).bind fun x11 => some x11)))
theorem ref09_Cut_calls (a0b : List UInt8) (a1t : Int) (p0 : Value) (r : List (List UInt8)) (w0 : World) (L0 : List Value) (hL0 : Old w0 L0) (hp0 : By w0 [] p0 a0b) (H : ref09_Cut a0b a1t = some r) :
    Calls Try.prog 22 [p0, (i64 a1t)].toArray w0 (fun e w' => ∃ u0 : Value, e = .returned u0 ∧ Ext w0 w' ∧ Nw w0 u0 ∧ OwK By w' (u0 :: L0) 22 u0 r) := by
  have hE : Ext w0 w0 := Ext.refl w0; unfold ref09_Cut at H; refine calls_W (n := 58) Try.func22 rfl rfl rfl ?_; refine W_seq <| W_rg <| av (.slice none 0 0) rfl rfl <| ?_; have oG1 : OwD w0 22 5 (.tuple #[.slice none 0 0]) (.slice none 0 0) [] := OwD.nil _ _ _; have nG1 : Nw w0 (.tuple #[.slice none 0 0]) := nw_nilG _; refine wnt <| W_seq <| W_rg <| av (i64 0) rfl rfl <| wnt <| W_seq <| ?_; obtain ⟨x2, G2, H⟩ := bsi H; refine W_mid (fun f w => f 0 = p0 ∧ f 1 = (i64 a1t) ∧ f 5 = (i64 x2) ∧ f 58 = undef ∧ Ext w0 w) ?_ ?_
  · refine W_block ?_; refine W_loop (fun s2 f w => f 0 = p0 ∧ f 1 = (i64 a1t) ∧ f 5 = (i64 s2) ∧ f 58 = undef ∧ Ext w0 w) G2 ?_ ?_
    · exact ⟨rfl, rfl, rfl, rfl, hE⟩
    rintro s2 _ _ w3 ⟨s0_3, s1_3, s5_3, s58_3, hE3⟩ H2 hr2; refine W_seq <| W_seq <| W_rg <| mv (i64 s2) rfl s5_3 <| mv (i64 a1t) rfl s1_3 <| wa rfl (q_mulI rfl rfl rfl) <| mv p0 rfl s0_3 <| wa rfl (q_len rfl T22.sl rfl (hp0.lift (Lift.ext hE3 _))) <| ?_; refine wa rfl (q_ltI rfl rfl rfl) <| wnt <| ?_; refine W_cond _ rfl rfl (fun hb4 => ?_) (fun hb4 => ?_)
    · replace H2 := ifp hb4 H2; refine W_skip <| W_th <| W_block <| W_rg <| mv (i64 s2) rfl s5_3 <| wa rfl (q_addI rfl rfl rfl) <| av (i64 ((wI (s2 + 1)))) rfl rfl <| wl_nil <| ?_; refine bk_n ?_; obtain rfl := osi H2; exact ⟨_, rfl, s0_3, s1_3, rfl, s58_3, hE3⟩
    replace H2 := ifn hb4 H2; refine W_exit <| th_x <| ?_; obtain rfl := osi H2; obtain rfl := hr2 _ rfl; refine th_x <| bk_x <| ?_; exact ⟨s0_3, s1_3, s5_3, s58_3, hE3⟩
  rintro _ w6 ⟨s0_6, s1_6, s5_6, s58_6, hE6⟩; refine W_th <| W_seq <| W_rg <| mv (i64 a1t) rfl s1_6 <| ?_; obtain ⟨c7, hc7, H⟩ := bsi H; refine wls rfl rfl (stp_makeD (e2 := 5) (L0) rfl T28 rfl rfl hc7 ?_); intro G8 v8 w8 o8 n8 g8 l8; have x8 := grown_ext g8; have n10 := Nw.ext hE6 n8; have e9 := hE6.trans x8; refine av v8 rfl rfl <| wnt <| W_seq <| W_seq <| W_rg <| mv v8 rfl rfl <| wa rfl (q_len rfl T28.sl rfl o8.rd) <| mv (i64 0) rfl rfl <| ?_; refine wnt ?_; obtain ⟨x11, G11, H⟩ := bsi H; refine W_mid (fun f w => ∃ G6_39 : Value, f 6 = v8 ∧ f 58 = undef ∧ Ext w0 w ∧ OwD w 22 5 G6_39 v8 x11 ∧ Nw w0 G6_39) ?_ ?_
  · refine W_block ?_; refine W_loop (fun s11 f w => ∃ G6_37 : Value, f 0 = p0 ∧ f 5 = (i64 x2) ∧ f 6 = v8 ∧ f 21 = (i64 ((c7.length : Int))) ∧ f 22 = (i64 s11.2) ∧ f 58 = undef ∧ Ext w0 w ∧ OwD w 22 5 G6_37 v8 s11.1 ∧ Nw w0 G6_37) G11 ?_ ?_
    · exact ⟨G8, s0_6, s5_6, rfl, rfl, rfl, s58_6, e9, o8, n10⟩
    rintro s11 _ _ w12 ⟨G6_12, s0_12, s5_12, s6_12, s21_12, s22_12, s58_12, hE12, o0_12, n0_12⟩ H11 hr11; refine W_seq <| W_rg <| wa rfl (q_ltI rfl s22_12 s21_12) <| wnt <| W_seq <| ?_; refine W_cond _ rfl rfl (fun hb13 => ?_) (fun hb13 => ?_)
    · replace H11 := ifp hb13 H11; refine W_skip <| W_th <| W_seq <| W_block <| W_seq <| W_rg <| mv (i64 s11.2) rfl s22_12 <| av (i64 s11.2) rfl rfl <| ?_; refine wnt <| W_seq <| W_rg <| av (i64 0) rfl rfl <| wnt <| ?_; obtain ⟨x14, G14, H11⟩ := bsi H11; refine W_mid (fun f w => ∃ G6_36 : Value, f 0 = p0 ∧ f 5 = (i64 x2) ∧ f 6 = v8 ∧ f 21 = (i64 ((c7.length : Int))) ∧ f 22 = (i64 s11.2) ∧ f 58 = undef ∧ Ext w0 w ∧ OwD w 22 5 G6_36 v8 x14 ∧ Nw w0 G6_36) ?_ ?_
      · refine W_block ?_; refine W_loop (fun s14 f w => ∃ G6_34 : Value, f 0 = p0 ∧ f 5 = (i64 x2) ∧ f 6 = v8 ∧ f 7 = (i64 s11.2) ∧ f 8 = (i64 s14.2) ∧ f 21 = (i64 ((c7.length : Int))) ∧ f 22 = (i64 s11.2) ∧ f 58 = undef ∧ Ext w0 w ∧ OwD w 22 5 G6_34 v8 s14.1 ∧ Nw w0 G6_34) G14 ?_ ?_
        · exact ⟨G6_12, s0_12, s5_12, s6_12, rfl, rfl, s21_12, s22_12, s58_12, hE12, o0_12, n0_12⟩
        rintro s14 _ _ w15 ⟨G6_15, s0_15, s5_15, s6_15, s7_15, s8_15, s21_15, s22_15, s58_15, hE15, o0_15, n0_15⟩ H14 hr14; refine W_seq <| W_seq <| W_rg <| mv (i64 s14.2) rfl s8_15 <| mv (i64 x2) rfl s5_15 <| wa rfl (q_ltI rfl rfl rfl) <| wnt <| ?_; refine W_cond _ rfl rfl (fun hb16 => ?_) (fun hb16 => ?_)
        · replace H14 := ifp hb16 H14; refine W_skip <| W_th <| W_seq <| W_block <| W_seq <| W_rg <| av (u8 0) rfl (cst8 (0 : UInt8) rfl) <| wnt <| ?_; refine W_seq ?_; obtain ⟨x17, H17, H14⟩ := bsi H14; refine W_mid (fun f w => f 0 = p0 ∧ f 5 = (i64 x2) ∧ f 6 = v8 ∧ f 7 = (i64 s11.2) ∧ f 8 = (i64 s14.2) ∧ f 9 = (u8 x17) ∧ f 21 = (i64 ((c7.length : Int))) ∧ f 22 = (i64 s11.2) ∧ f 58 = undef ∧ Ext w0 w ∧ OwD w 22 5 G6_15 v8 s14.1 ∧ Nw w0 G6_15) ?_ ?_
          · refine W_seq <| W_rg <| mv (i64 s11.2) rfl s7_15 <| mv (i64 x2) rfl s5_15 <| wa rfl (q_mulI rfl rfl rfl) <| mv (i64 s14.2) rfl s8_15 <| wa rfl (q_addI rfl rfl rfl) <| mv p0 rfl s0_15 <| ?_; refine wa rfl (q_len rfl T22.sl rfl (hp0.lift (Lift.ext hE15 _))) <| wa rfl (q_ltI rfl rfl rfl) <| wnt <| ?_; refine W_cond _ rfl rfl (fun hb18 => ?_) (fun hb18 => ?_)
            · replace H17 := ifp hb18 H17; refine W_rg <| mv p0 rfl s0_15 <| mv (i64 s11.2) rfl s7_15 <| mv (i64 x2) rfl s5_15 <| wa rfl (q_mulI rfl rfl rfl) <| mv (i64 s14.2) rfl s8_15 <| wa rfl (q_addI rfl rfl rfl) <| ?_; obtain ⟨c19, hc19, H17⟩ := bsi H17; refine wa rfl (q_adr rfl T22 rfl rfl (hp0.lift (Lift.ext hE15 _)) hc19) <| wq rfl (q_loadS rfl T22 rfl (hp0.lift (Lift.ext hE15 _)) hc19) <| av (u8 c19) rfl rfl <| wl_nil <| ?_; obtain rfl := osi H17; exact ⟨s0_15, s5_15, s6_15, s7_15, s8_15, rfl, s21_15, s22_15, s58_15, hE15, o0_15, n0_15⟩
            replace H17 := ifn hb18 H17; refine W_skip ?_; obtain rfl := osi H17; exact ⟨s0_15, s5_15, s6_15, s7_15, s8_15, rfl, s21_15, s22_15, s58_15, hE15, o0_15, n0_15⟩
          rintro _ w20 ⟨s0_20, s5_20, s6_20, s7_20, s8_20, s9_20, s21_20, s22_20, s58_20, hE20, o0_20, n0_20⟩; refine W_th <| W_rg <| mv v8 rfl s6_20 <| mv (i64 s11.2) rfl s7_20 <| mv v8 rfl s6_20 <| mv (i64 s11.2) rfl s7_20 <| ?_; obtain ⟨c21, hc21, H14⟩ := bsi H14; refine wa rfl (q_adr rfl T28 rfl rfl o0_20.rd hc21) ?_; refine wlq_loadD rfl rfl rfl T28 rfl o0_20 hc21 (fun v22 hD22 => ?_); refine mv (u8 x17) rfl s9_20 ?_; refine wls rfl rfl (stp_lit (L := (G6_15 :: L0)) (R := (Sc u8)) [(u8 x17)] ([x17] : List UInt8) rfl T22 rfl (by exact ⟨rfl, rfl, trivial⟩) rfl (litC u8 (oneC_u8) (us := [(u8 x17)]) (l := ([x17] : List UInt8)) rfl) rfl (litS u8 (us := [(u8 x17)]) (l := ([x17] : List UInt8)) rfl) ?_); intro v23 w23 o23 n23 g23 l23; have x23 := grown_ext g23; have i23 : By w23 (G6_15 :: L0) v23 (([x17] : List UInt8)) := OwK.slk (Sc.stab _) _ o23 (fun k hk => (Old.cons (hL0.ext hE20) o0_20.ltB) k (n23 k hk)) (fun _ h => h.2); replace o0_20 := o0_20.ext x23; have e24 := hE20.trans x23; obtain ⟨c26, hc26, H14⟩ := bsi H14; refine wls rfl rfl (stp_appendRow (v := v22) (q := v23) [] (L0) rfl T22 rfl rfl o0_20 hD22 hc21 i23 hc26 ?_); intro v26 w26 hP26 o26 g26 nx26 l26; replace i23 := i23.lift l26; have e27 := e24.grown g26 n0_20; have n28 := Nw.nxt e24 n0_20 nx26; refine wa rfl (q_adr rfl T28 rfl rfl o26.rd hc21) ?_; refine wln rfl rfl (stp_storePnd (x := v26) [v26] (L0) rfl T28 rfl rfl o26 hc21 hP26 ?_); intro G30 w29 o29 g29 hG29 l29; replace i23 := i23.lift l29; have e31 := e27.grown g29 n0_20
          have n32 : Nw w0 G30 := fun k hk => (hG29 k hk).elim (n0_20 k) (n28 k)
          replace i23 := i23.lift (Lift.sub (show ∀ k, Av (v26 :: G6_15 :: L0) k → Av (G30 :: L0) k from fun _ h => ⟨(fun e => (hG29 _ e).elim h.2.1 h.1), h.2.2⟩)); refine wl_nil <| bk_n <| W_th <| W_rg <| mv (i64 s14.2) rfl s8_20 <| wa rfl (q_addI rfl rfl rfl) <| av (i64 ((wI (s14.2 + 1)))) rfl rfl <| wl_nil <| ?_; obtain rfl := osi H14; exact ⟨_, rfl, G30, s0_20, s5_20, s6_20, s7_20, rfl, s21_20, s22_20, s58_20, e31, o29, n32⟩
        replace H14 := ifn hb16 H14; refine W_exit <| th_x <| ?_; obtain rfl := osi H14; obtain rfl := hr14 _ rfl; refine th_x <| bk_x <| ?_; exact ⟨G6_15, s0_15, s5_15, s6_15, s21_15, s22_15, s58_15, hE15, o0_15, n0_15⟩
      rintro _ w35 ⟨G6_35, s0_35, s5_35, s6_35, s21_35, s22_35, s58_35, hE35, o0_35, n0_35⟩; refine bk_n <| W_th <| W_rg <| wa rfl (q_addI rfl s22_35 rfl) <| mv (i64 ((wI (s11.2 + 1)))) rfl rfl <| wl_nil <| ?_; obtain rfl := osi H11; exact ⟨_, rfl, G6_35, s0_35, s5_35, s6_35, s21_35, rfl, s58_35, hE35, o0_35, n0_35⟩
    replace H11 := ifn hb13 H11; refine W_exit <| th_x <| ?_; obtain rfl := osi H11; obtain rfl := hr11 _ rfl; refine th_x <| bk_x <| ?_; exact ⟨G6_12, s6_12, s58_12, hE12, o0_12, n0_12⟩
  rintro _ w38 ⟨G6_38, s6_38, s58_38, hE38, o0_38, n0_38⟩; refine W_th <| W_seq <| W_rg <| mv v8 rfl s6_38 <| av v8 rfl rfl <| wnt <| W_ret <| ?_; obtain rfl := osi H; refine rt1 v8 rfl rfl rfl s58_38 ?_; exact ⟨v8, rfl, hE38, (OwD.nwu o0_38 n0_38), (o0_38.owk L0 (fun k hk => hL0 k (n0_38 k hk)))⟩
end Gk

/- Printed by gen.py: for each Go function a pure function, and that the Go code comes to it. No condition beside the equation that says what the pure function gives. -/
namespace Gk
open Go Go.Proofs
end Gk

/- Printed by gen.py: for each Go function a pure function, and that the Go code comes to it. No condition beside the equation that says what the pure function gives. -/
namespace Gk
open Go Go.Proofs
end Gk

/- What chapter 3's functions come to, in plain Lean. No condition but lengths. -/
namespace Gk
open Gf
theorem ev_snoc (x c : UInt8) : ∀ p : List UInt8, evp (p ++ [c]) x = evp p x ^^^ mul c (pow x p.length)
  | [] => by show c ^^^ mul 0 x = 0 ^^^ mul c 1; rw [zero_mul, xor_zero, zero_xor, mul_one]
  | a :: p => by
    show a ^^^ mul (evp (p ++ [c]) x) x = (a ^^^ mul (evp p x) x) ^^^ mul c (mul (pow x p.length) x)
    rw [ev_snoc x c p, add_mul, xor_assoc, mul_assoc]
theorem ref03_Eval_eq (p : List UInt8) (x : UInt8) (h : p.length ≤ most) : ref03_Eval p x = some (evp p x) := by
  unfold ref03_Eval
  have hm := most_lt'
  refine bind_of ?_ rfl
  refine iterC_count (fun i => (evp (p.take i) x, pow x i, (i : Int))) p.length (evp p x) rfl ?_ ?_
  · intro i hi
    simp only
    rw [if_pos (by omega), idx_co hi]
    simp only [obs, refMul_eq]
    rw [take_snoc hi, ev_snoc, List.length_take, Nat.min_eq_left (by omega), wI_succ i (by omega)]
    rfl
  · simp
end Gk

/- Chapter 3: vanishing polynomials. No condition. -/
namespace Gk
open Gf
end Gk

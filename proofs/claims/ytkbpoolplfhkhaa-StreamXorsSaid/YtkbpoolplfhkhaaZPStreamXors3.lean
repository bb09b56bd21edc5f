/- Parts F5d, Hd, Fm, F5e, R5, Qa, Qb, Qc, Qd, Qe, L5, L5b, Qf, F6, Qg, one behind the other. What is proved: said at the head of each part. No condition beside those said there. -/
import Derived.Test.YtkbpoolplfhkhaaRows
import Derived.Orders
import Derived.Deep.Draws
import Derived.Laws.World
import Derived.KernelRfl
import Derived.OrdersIn
import Derived.TacticsIn
import Derived.RangeFuncCalls
import Derived.Deep.LoopGhost
import Derived.Tactics
import Derived.Sort.LoopGhostIn
import Derived.RangeFuncLeaves
import Derived.RangeFuncNested
import Derived.RangeFuncRecord
import Derived.Laws.Sem
import Derived.OwnWalk
import Derived.RangeFuncWrites
import Derived.Laws.IdiomCopy
import Derived.WalkKit
import Derived.ProofKit
import Derived.OpenShut
import Derived.ChangeOld
import Derived.Below
import Derived.Test.YtkbpoolplfhkhaaProg
import Derived.MapKept
import Derived.Lib.AppendZerosOnto
import Derived.Laws.CopyRow
import Derived.Laws.Cells
import Derived.Lib.SlBytesConst
import Derived.Test.YtkbpoolplfhkhaaZPStreamXors1
import Derived.Test.YtkbpoolplfhkhaaZPStreamXors2
/- Printed by gen.py: for each Go function a pure function, and that the Go code comes to it. No condition beside the equation that says what the pure function gives. -/
set_option linter.unusedVariables false
set_option linter.unusedSimpArgs false
namespace Gk
open Go Go.Proofs
noncomputable def cipher_New (a0f : Bool) (a1key : List UInt8) : Option (Option Cip × Int) :=
(((if (!a0f) = true then some (.inr ((none : Option Cip), 1))
else
(if (a1key.length : Int) = 16 then some (.inl ())
else
(if (a1key.length : Int) = 32 then some (.inl ())
else some (.inr ((none : Option Cip), 3)))))).bind (Sum.elim (fun s1 =>
((cipher_boxes (⟨a0f, [], (List.replicate 256 (0 : UInt8)), (List.replicate 256 (0 : UInt8))⟩ : Cip)).bind fun r15 =>
((divI ((a1key.length : Int)) 4).bind fun c17 =>
((lim (a1key.length + 4)).bind fun lim33 =>
((rangeL (fun (s33 : List (List UInt8)) (y33 : Int × List UInt8) =>
((slices_Clone_sbytebyte y33.2).bind fun r40 =>
((appL s33 (([r40] : List (List UInt8)))).bind fun c46 => some c46))) (chunksI a1key 4) ([] : List (List UInt8))).bind fun x33 =>
((((iterC (fun s60 : List (List UInt8) × UInt8 × Int =>
(if s60.2.2 < (wI (4 * (wI (c17 + 7)))) then
((idx s60.1 ((wI (s60.2.2 - 1)))).bind fun c63 =>
((slices_Clone_sbytebyte c63).bind fun r66 =>
((((remI s60.2.2 c17).bind fun c75 =>
(if c75 = 0 then
((idx r66 1).bind fun c80 =>
((idx r66 2).bind fun c81 =>
((idx r66 3).bind fun c82 =>
((idx r66 0).bind fun c83 =>
((cipher_through r15.box ([c80, c81, c82, c83] : List UInt8)).bind fun r87 =>
((idx r87 0).bind fun c96 =>
((field_Mul a0f s60.2.1 (2 : UInt8)).bind fun r100 => some (r100, (r87.set (0 : Int).toNat ((c96 ^^^ s60.2.1)))))))))))
else
(if c17 = 8 then
((remI s60.2.2 c17).bind fun c104 =>
(if c104 = 4 then
((cipher_through r15.box r66).bind fun r106 => some (s60.2.1, r106))
else some (s60.2.1, r66)))
else some (s60.2.1, r66))))).bind fun x74 =>
((idx s60.1 ((wI (s60.2.2 - c17)))).bind fun c119 =>
((word_Xor x74.2 c119).bind fun r121 =>
((appL s60.1 (([r121] : List (List UInt8)))).bind fun c127 => some (.inl (c127, x74.1, (wI (s60.2.2 + 1))))))))))
else some (.inr s60.1))) (x33, (1 : UInt8), c17)).bind fun x60 => some x60)).bind fun x59 =>
((lim (x59.length + 4)).bind fun lim156 =>
((rangeL (fun (s156 : List (List UInt8)) (y156 : Int × List (List UInt8)) =>
((slices_Concat_sbytebyte y156.2).bind fun r164 =>
((lenA 16 r164).bind fun c168 =>
((appL s156 [r164]).bind fun c173 => some c173)))) (chunksI x59 4) ([] : List (List UInt8))).bind fun x156 =>
((lenA 256 r15.box).bind fun c189 =>
((lenA 256 r15.back).bind fun c188 => some ((some (⟨a0f, x156, r15.box, r15.back⟩ : Cip)), 0))))))))))) (fun q1 => some q1)))
set_option maxRecDepth 100000 in
set_option maxHeartbeats 8000000 in
theorem cipher_New_calls (a0f : Bool) (a1key : List UInt8) (p0 : Value) (p1 : Value) (r : Option Cip × Int) (w0 : World) (L0 : List Value) (hL0 : Old w0 L0) (hp0 : Fd w0 L0 p0 a0f) (hp1 : By w0 [] p1 a1key) (H : cipher_New a0f a1key = some r) :
    Calls Try.prog 17 [p0, p1].toArray w0 (fun e w' => ∃ u0 : Value, e = .returned (.tuple #[u0, (i64 r.2)]) ∧ Ext w0 w' ∧ Ci w' L0 u0 r.1) := by
  have hE : Ext w0 w0 := Ext.refl w0; unfold cipher_New at H; refine calls_W (n := 129) Try.func17 rfl rfl rfl ?_; refine W_seq ?_; refine W_reg (by kernel_rfl) ?_; refine wla rfl rfl (q_assign (v := (.pointer none)) rfl rfl) ?_; refine wla rfl rfl (q_assign (v := (i64 0)) rfl rfl) ?_; refine wl_nil ?_; refine W_th ?_; refine W_seq ?_; obtain ⟨x1, H1, H⟩ := bsi H; refine W_mid (fun f w => ∃ s1, x1 = .inl s1 ∧ f 0 = p0 ∧ f 1 = p1 ∧ f 129 = undef ∧ Ext w0 w) ?_ ?_
  · refine W_block ?_; refine W_seq ?_; refine W_reg (by kernel_rfl) ?_; refine wla rfl rfl (q_move (v := p0) rfl rfl) ?_; refine wla rfl rfl (q_eqF rfl rfl rfl rfl ((hp0.lift (Lift.sub (L' := []) (fun _ _ => trivial))).lift (Lift.ext hE _))) ?_; refine wla rfl rfl (q_assign (v := (.bool ((!a0f)))) rfl rfl) ?_; refine wl_nil ?_; refine W_th ?_; refine W_cond _ rfl rfl (fun hb2 => ?_) (fun hb2 => ?_)
    · replace H1 := (if_pos hb2).symm.trans H1; refine W_seq ?_; refine W_reg (by kernel_rfl) ?_; refine wla rfl rfl (q_assign (v := (.pointer none)) rfl rfl) ?_; refine wla rfl rfl (q_assign (v := (i64 1)) rfl rfl) ?_; refine wl_nil ?_; refine W_th ?_; refine W_ret ?_; refine bk_r ?_; obtain rfl := osi H1; simp only [Sum.elim_inr] at H; refine th_r ?_; refine th_r ?_; obtain rfl := osi H; refine rt2 (.pointer none) (i64 1) rfl rfl rfl rfl rfl rfl ?_; exact ⟨(.pointer none), rfl, hE, (Ci.nil _ _)⟩
    replace H1 := (if_neg (ne_true_of_eq_false hb2)).symm.trans H1; refine W_seq ?_; refine W_reg (by kernel_rfl) ?_; refine wla rfl rfl (q_move (v := p1) rfl rfl) ?_; refine wla rfl rfl (q_len rfl T22.sl rfl (hp1.lift (Lift.ext hE _))) ?_; refine wla rfl rfl (q_neI rfl rfl rfl) ?_; refine wlb rfl rfl (q_move (v := (.bool ((!decide ((a1key.length : Int) = 16))))) rfl rfl) (fun hb3 => ?_) (fun hb3 => ?_)
    · replace H1 := (if_neg (ndec_t hb3)).symm.trans H1; refine wla rfl rfl (q_move (v := p1) rfl rfl) ?_; refine wla rfl rfl (q_len rfl T22.sl rfl (hp1.lift (Lift.ext hE _))) ?_; refine wla rfl rfl (q_neI rfl rfl rfl) ?_; refine wla rfl rfl (q_pick_t (v := (.bool ((!decide ((a1key.length : Int) = 32))))) rfl rfl rfl) ?_; refine wla rfl rfl (q_assign (v := (.bool ((!decide ((a1key.length : Int) = 32))))) rfl rfl) ?_; refine wl_nil ?_; refine W_th ?_; refine W_cond _ rfl rfl (fun hb4 => ?_) (fun hb4 => ?_)
      · replace H1 := (if_neg (ndec_t hb4)).symm.trans H1; refine W_seq ?_; refine W_reg (by kernel_rfl) ?_; refine wla rfl rfl (q_assign (v := (.pointer none)) rfl rfl) ?_; refine wla rfl rfl (q_assign (v := (i64 3)) rfl rfl) ?_; refine wl_nil ?_; refine W_th ?_; refine W_ret ?_; refine bk_r ?_; obtain rfl := osi H1; simp only [Sum.elim_inr] at H; refine th_r ?_; refine th_r ?_; obtain rfl := osi H; refine rt2 (.pointer none) (i64 3) rfl rfl rfl rfl rfl rfl ?_; exact ⟨(.pointer none), rfl, hE, (Ci.nil _ _)⟩
      replace H1 := (if_pos (ndec_f hb4)).symm.trans H1; refine W_skip ?_; refine bk_n ?_; obtain rfl := osi H1; exact ⟨_, rfl, rfl, rfl, rfl, hE⟩
    replace H1 := (if_pos (ndec_f hb3)).symm.trans H1; refine wlk rfl rfl ?_; refine wlk rfl rfl ?_; refine wlk rfl rfl ?_; refine wla rfl rfl (q_pick_f (v := (.bool false)) rfl rfl rfl) ?_; refine wla rfl rfl (q_assign (v := (.bool false)) rfl rfl) ?_; refine wl_nil ?_; refine W_th ?_; refine W_cond false rfl rfl (fun hb => by cases hb) (fun _ => ?_); refine W_skip ?_; refine bk_n ?_; obtain rfl := osi H1; exact ⟨_, rfl, rfl, rfl, rfl, hE⟩
  rintro _ w5 ⟨s1, rfl, s0_5, s1_5, s129_5, hE5⟩; simp only [Sum.elim_inl] at H; refine W_th ?_; refine W_seq ?_; refine W_reg (by kernel_rfl) ?_; refine wla rfl rfl (q_move (v := p0) rfl s0_5) ?_; refine wla rfl rfl (q_buildC rfl rfl (cells_fd ((hp0.lift (Lift.sub (L' := []) (fun _ _ => trivial))).lift (Lift.ext hE5 _)))) ?_; refine wls rfl rfl (stp_boxL (v := (.agg (cipc p0 (.slice none 0 0) (List.replicate 256 (0 : UInt8)) (List.replicate 256 (0 : UInt8))))) (cs := (cipc p0 (.slice none 0 0) ((List.replicate 256 (0 : UInt8))) ((List.replicate 256 (0 : UInt8))))) (L0) rfl rfl rfl ?_); intro g6 w6 o6 n6 g6r l6; have x6 := grown_ext g6r; have n8 := Nw.ext hE5 n6; have e7 := hE5.trans x6; refine wls rfl rfl (stp_allocL (z := (.pointer none)) (cs := #[(.pointer none)]) ((bp g6) :: L0) rfl Try.zeroValue25 rfl ?_); intro g9 w9 o9 n9 g9r l9; have x9 := grown_ext g9r; have q10 : Nq (bp g6) (bp g9) := o6.nq n9; replace o6 := o6.ext x9; have n12 := Nw.ext e7 n9; have e11 := e7.trans x9; refine wln rfl rfl (stp_storeL (u := (bp g6)) [] ((bp g6) :: L0) rfl Try.sizeOf25 rfl rfl o9 rfl ?_); intro w13 o13 g13 l13; replace o6 := o6.other g13 q10; have e14 := e11.grown g13 n12; refine wl_nil ?_; refine W_th ?_; refine W_seq ?_; refine W_reg (by kernel_rfl) ?_; refine wlq rfl rfl (q_loadB (u := (bp g6)) rfl Try.isAgg25 rfl o13 rfl) ?_; obtain ⟨r15, hr15, H⟩ := bsi H; refine wls rfl rfl (stp_call (vs := [(bp g6)]) Try.func44 rfl rfl rfl (ar1 rfl) (cipher_boxes_calls (⟨a0f, [], (List.replicate 256 (0 : UInt8)), (List.replicate 256 (0 : UInt8))⟩ : Cip) g6 p0 (.slice none 0 0) r15 _ o6 ((hp0.lift (Lift.sub (L' := []) (fun _ _ => trivial))).lift (Lift.arg e14 (nv_cons n8 nv_nil))) hr15) ?_); rintro _ w15 ⟨rfl, x15, hb15_0⟩; refine ⟨_, rfl, ?_⟩; have lx15 := Lift.ownX [(bp g9)] (L0) x15; replace o13 := o13.otherX x15 q10.symm; have e16 := e14.grownX x15 n8; refine wl_nil ?_; refine W_th ?_; refine W_seq ?_; refine W_reg (by kernel_rfl) ?_; refine wla rfl rfl (q_move (v := p1) rfl s1_5) ?_; refine wla rfl rfl (q_len rfl T22.sl rfl (hp1.lift (Lift.ext e16 _))) ?_; obtain ⟨c17, hc17, H⟩ := bsi H; refine wla rfl rfl (q_divI rfl rfl rfl hc17) ?_; refine wla rfl rfl (q_assign (v := (i64 c17)) rfl rfl) ?_; refine wl_nil ?_; refine W_th ?_; refine W_seq ?_; refine W_reg (by kernel_rfl) ?_; refine wls rfl rfl (stp_allocL (z := (.slice none 0 0)) (cs := #[(.slice none 0 0)]) ((bp g9) :: (bp g6) :: L0) rfl Try.zeroValue61 rfl ?_); intro g18 w18 o18 n18 g18r l18; have x18 := grown_ext g18r; have q19 : Nq (bp g9) (bp g18) := o13.nq n18; have q20 : Nq (bp g6) (bp g18) := hb15_0.nq n18; replace o13 := o13.ext x18; replace hb15_0 := hb15_0.ext x18; have n22 := Nw.ext e16 n18; have e21 := e16.trans x18; refine wl_nil ?_; refine W_th ?_; refine W_seq ?_; refine W_seq ?_; refine W_reg (by kernel_rfl) ?_; refine wla rfl rfl (q_move (v := p1) rfl s1_5) ?_; refine wls rfl rfl (stp_call (vs := [p1, i64 4]) Try.func45 rfl rfl rfl (ar2 rfl rfl) (Chunk_bytes_calls p1 (cells_sl _ _ (hp1.lift (Lift.ext e21 _))) 4 (by decide) _) ?_)
  rintro _ w23 ⟨g23a, g23b, rfl, nA23, nB23, qAB23, hA23, hB23, x23⟩; refine ⟨_, rfl, ?_⟩; have q24 : Nq (bp g18) (bp g23a) := o18.nq nA23; have q25 : Nq (bp g18) (bp g23b) := o18.nq nB23; have q26 : Nq (bp g9) (bp g23a) := o13.nq nA23; have q27 : Nq (bp g9) (bp g23b) := o13.nq nB23; have q28 : Nq (bp g6) (bp g23a) := hb15_0.nq nA23; have q29 : Nq (bp g6) (bp g23b) := hb15_0.nq nB23; replace o18 := o18.ext x23; replace o13 := o13.ext x23; replace hb15_0 := hb15_0.ext x23; have n30 := Nw.ext e21 nA23; have n31 := Nw.ext e21 nB23; have e32 := e21.trans x23; refine wl_nil ?_; refine W_th ?_; refine W_block ?_; obtain ⟨lim33, hl33, H⟩ := bsi H; obtain ⟨x33, G33, H⟩ := bsi H; refine W_rangeDS (π := fun x : ChEl a1key 4 => x.1) (xs := chunksI a1key 4) (ea := fun x => subW p1 x.1.1.toNat (x.1.1 + (x.1.2.length : Int)).toNat (x.1.1 + (x.1.2.length : Int)).toNat) (Rd := RdC_bytes a1key 4 g23a g23b p1) (gf := 73) (lb := #[(bp g23a), (bp g23b)]) G33 s129_5 rfl rfl (enters Try.func73 rfl rfl) rfl (chunk_bytes a1key 4 (by decide) p1 g23a g23b _ ⟨hA23, hB23, (hp1.lift (Lift.ext e32 _))⟩ (lim_lt hl33)) (fun ys h => h) (fun x => x.2.2) (fun _ _ t h => RdC_bytes.tn t h) rfl (fun s33 w => ∃ vbbpg18_193 : Value, Ext w0 w ∧ OwK By w (vbbpg18_193 :: (bp g9) :: (bp g6) :: (bp g18) :: (bp g23a) :: (bp g23b) :: L0) 22 vbbpg18_193 s33 ∧ Nw w0 vbbpg18_193 ∧ Blk w g9 25 #[(bp g6)] ∧ Nw w0 (bp g9) ∧ Blk w g6 66 (cipc p0 (.slice none 0 0) r15.box r15.back) ∧ Nw w0 (bp g6) ∧ Blk w g18 61 #[vbbpg18_193] ∧ Nw w0 (bp g18) ∧ Blk w g23a 22 #[p1] ∧ Nw w0 (bp g23a) ∧ Blk w g23b 3 #[(i64 4)] ∧ Nw w0 (bp g23b) ∧ Nq vbbpg18_193 (bp g9) ∧ Nq vbbpg18_193 (bp g6) ∧ Nq vbbpg18_193 (bp g18) ∧ Nq vbbpg18_193 (bp g23a) ∧ Nq vbbpg18_193 (bp g23b) ∧ Nq (bp g9) (bp g6) ∧ Nq (bp g9) (bp g18) ∧ Nq (bp g9) (bp g23a) ∧ Nq (bp g9) (bp g23b) ∧ Nq (bp g6) (bp g18) ∧ Nq (bp g6) (bp g23a) ∧ Nq (bp g6) (bp g23b) ∧ Nq (bp g18) (bp g23a) ∧ Nq (bp g18) (bp g23b) ∧ Nq (bp g23a) (bp g23b)) ?_ ?_ ⟨(.slice none 0 0), e32, (OwK.nil _ _ _ _), (Nw.nil _), o13, n12, hb15_0, n8, o18, n22, hA23, n30, hB23, n31, (Nq.nil _), (Nq.nil _), (Nq.nil _), (Nq.nil _), (Nq.nil _), q10.symm, q19, q26, q27, q20, q28, q29, q24, q25, qAB23⟩ (fun x f => upd (f) 9 (subW p1 x.1.1.toNat (x.1.1 + (x.1.2.length : Int)).toNat (x.1.1 + (x.1.2.length : Int)).toNat)) ?_ ?_ ?_
  · rintro s33 W W' t ⟨vbbpg18_34, hE34, o0_34, n0_34, o1_34, n1_34, o2_34, n2_34, o3_34, n3_34, o4_34, n4_34, o5_34, n5_34, q0_1_34, q0_2_34, q0_3_34, q0_4_34, q0_5_34, q1_2_34, q1_3_34, q1_4_34, q1_5_34, q2_3_34, q2_4_34, q2_5_34, q3_4_34, q3_5_34, q4_5_34⟩; exact ⟨vbbpg18_34, (hE34.tn t e32.size), (o0_34.tn (SlK.stab (Sc.stab _)) t), n0_34, (o1_34.tn t), n1_34, (o2_34.tn t), n2_34, (o3_34.tn t), n3_34, (o4_34.tn t), n4_34, (o5_34.tn t), n5_34, q0_1_34, q0_2_34, q0_3_34, q0_4_34, q0_5_34, q1_2_34, q1_3_34, q1_4_34, q1_5_34, q2_3_34, q2_4_34, q2_5_34, q3_4_34, q3_5_34, q4_5_34⟩
  · rintro s33 W ⟨vbbpg18_35, hE35, o0_35, n0_35, o1_35, n1_35, o2_35, n2_35, o3_35, n3_35, o4_35, n4_35, o5_35, n5_35, q0_1_35, q0_2_35, q0_3_35, q0_4_35, q0_5_35, q1_2_35, q1_3_35, q1_4_35, q1_5_35, q2_3_35, q2_4_35, q2_5_35, q3_4_35, q3_5_35, q4_5_35⟩; have t := Ext.drew W; exact ⟨vbbpg18_35, (hE35.trans t), (o0_35.extL (SlK.stab (Sc.stab _)) t (Lift.ext t _)), n0_35, (o1_35.ext t), n1_35, (o2_35.ext t), n2_35, (o3_35.ext t), n3_35, (o4_35.ext t), n4_35, (o5_35.ext t), n5_35, q0_1_35, q0_2_35, q0_3_35, q0_4_35, q0_5_35, q1_2_35, q1_3_35, q1_4_35, q1_5_35, q2_3_35, q2_4_35, q2_5_35, q3_4_35, q3_5_35, q4_5_35⟩
  · intro l x W1 K hK; refine W_reg (by kernel_rfl) ?_; refine wla rfl rfl (q_assign (v := subW p1 x.1.1.toNat (x.1.1 + (x.1.2.length : Int)).toNat (x.1.1 + (x.1.2.length : Int)).toNat) rfl rfl) ?_; refine wl_nil ?_; exact hK
  · rintro l ⟨y33, hy33⟩ s33 sp33 w36 ⟨vbbpg18_36, hE36, o0_36, n0_36, o1_36, n1_36, o2_36, n2_36, o3_36, n3_36, o4_36, n4_36, o5_36, n5_36, q0_1_36, q0_2_36, q0_3_36, q0_4_36, q0_5_36, q1_2_36, q1_3_36, q1_4_36, q1_5_36, q2_3_36, q2_4_36, q2_5_36, q3_4_36, q3_5_36, q4_5_36⟩ H33; have kf33 := KeepsFrom.refl w23.heap.size w36; refine W_block ?_; refine W_draw [0] [(0, 1), (1, 0), (2, 2), (3, 2), (4, 2), (5, 2)] mixed (by kernel_rfl) (by kernel_rfl) (by kernel_rfl) (by kernel_rfl) ?_; have x37 := Ext.drew w36; replace o0_36 := o0_36.extL (SlK.stab (Sc.stab _)) x37 (Lift.ext x37 _); replace o1_36 := o1_36.ext x37; replace o2_36 := o2_36.ext x37; replace o3_36 := o3_36.ext x37; replace o4_36 := o4_36.ext x37; replace o5_36 := o5_36.ext x37; have k38 := kf33.ext x37; have e39 := hE36.trans x37; refine wsq rfl rfl rfl (q_loadB (u := vbbpg18_36) rfl Try.isAgg61 rfl o3_36 rfl) ?_; refine wsa rfl rfl rfl (q_move (v := (subW p1 y33.1.toNat (y33.1 + (y33.2.length : Int)).toNat (y33.1 + (y33.2.length : Int)).toNat)) rfl rfl) ?_; obtain ⟨r40, hr40, H33⟩ := bsi H33; refine wss rfl rfl rfl (stp_call (vs := [(subW p1 y33.1.toNat (y33.1 + (y33.2.length : Int)).toNat (y33.1 + (y33.2.length : Int)).toNat)]) Try.func46 rfl rfl rfl (ar1 rfl) (slices_Clone_sbytebyte_calls y33.2 (subW p1 y33.1.toNat (y33.1 + (y33.2.length : Int)).toNat (y33.1 + (y33.2.length : Int)).toNat) r40 _ (SlK.cut3 (L := []) (hp1.lift (Lift.ext e39 _)) hy33.1) hr40) ?_); rintro _ w40 ⟨v40, rfl, x40, n40_0, o40_0⟩; refine ⟨_, rfl, x40, ?_⟩; have i40_0 : By w40 (vbbpg18_36 :: (bp g9) :: (bp g6) :: (bp g18) :: (bp g23a) :: (bp g23b) :: L0) v40 r40 := OwK.slk (Sc.stab _) _ (OwK.scal o40_0 (v40 :: (vbbpg18_36 :: (bp g9) :: (bp g6) :: (bp g18) :: (bp g23a) :: (bp g23b) :: L0))) (fun k hk => (Old.cons (Old.cons (Old.cons (Old.cons (Old.cons (Old.cons (hL0.ext e39) o5_36.ltB) o4_36.ltB) o3_36.ltB) o2_36.ltB) o1_36.ltB) o0_36.lt) k (n40_0 k hk)) (fun _ h => h.2); replace o0_36 := o0_36.extL (SlK.stab (Sc.stab _)) x40 (Lift.ext x40 _); replace o1_36 := o1_36.ext x40; replace o2_36 := o2_36.ext x40; replace o3_36 := o3_36.ext x40; replace o4_36 := o4_36.ext x40; replace o5_36 := o5_36.ext x40; have k41 := k38.ext x40; have e42 := e39.trans x40; refine wss rfl rfl rfl (stp_lit (L := (vbbpg18_36 :: (bp g9) :: (bp g6) :: (bp g18) :: (bp g23a) :: (bp g23b) :: L0)) (R := By) [v40] ([r40] : List (List UInt8)) rfl T61 rfl (by exact ⟨rfl, rfl, trivial⟩) rfl (LitR.cells (R := By) (w := w40) (L := (vbbpg18_36 :: (bp g9) :: (bp g6) :: (bp g18) :: (bp g23a) :: (bp g23b) :: L0)) (l := ([r40] : List (List UInt8))) (LitR.cons i40_0 LitR.nil) (fun u x h => cells_sl u x h)) rfl (LitR.all (R := By) (w := w40) (L := (vbbpg18_36 :: (bp g9) :: (bp g6) :: (bp g18) :: (bp g23a) :: (bp g23b) :: L0)) (l := ([r40] : List (List UInt8))) (SlK.stab (Sc.stab _)) (LitR.cons i40_0 LitR.nil)) ?_); intro v43 w43 o43 n43 g43 l43; refine ⟨grown_ext g43, ?_⟩; have x43 := grown_ext g43; have i43 : Rw w43 (vbbpg18_36 :: (bp g9) :: (bp g6) :: (bp g18) :: (bp g23a) :: (bp g23b) :: L0) v43 (([r40] : List (List UInt8))) := OwK.slk (SlK.stab (Sc.stab _)) _ o43 (fun k hk => (Old.cons (Old.cons (Old.cons (Old.cons (Old.cons (Old.cons (hL0.ext e42) o5_36.ltB) o4_36.ltB) o3_36.ltB) o2_36.ltB) o1_36.ltB) o0_36.lt) k (n43 k hk)) (fun _ h => h.2)
    replace i40_0 := i40_0.lift (Lift.ext x43 _); replace o0_36 := o0_36.extL (SlK.stab (Sc.stab _)) x43 (Lift.ext x43 _); replace o1_36 := o1_36.ext x43; replace o2_36 := o2_36.ext x43; replace o3_36 := o3_36.ext x43; replace o4_36 := o4_36.ext x43; replace o5_36 := o5_36.ext x43; have k44 := k41.ext x43; have e45 := e42.trans x43; obtain ⟨c46, hc46, H33⟩ := bsi H33; refine wsc rfl (by kernel_rfl) rfl rfl (stp_append (R := By) (v := vbbpg18_36) (u := v43) (SlK.stab (Sc.stab _)) [] ((bp g9) :: (bp g6) :: (bp g18) :: (bp g23a) :: (bp g23b) :: L0) rfl T61 rfl rfl o0_36 i43 (fun _ _ h => h) hc46 oc_sl ?_); intro v46 w46 o46 g46 nx46 l46; have k47 := k44.own g46 o0_36.cl; replace i40_0 := i40_0.lift l46; replace i43 := i43.lift l46; have q48 : Nq (bp g9) v46 := o1_36.nxt q0_1_36.symm nx46; have q49 : Nq (bp g6) v46 := o2_36.nxt q0_2_36.symm nx46; have q50 : Nq (bp g18) v46 := o3_36.nxt q0_3_36.symm nx46; have q51 : Nq (bp g23a) v46 := o4_36.nxt q0_4_36.symm nx46; have q52 : Nq (bp g23b) v46 := o5_36.nxt q0_5_36.symm nx46; replace o1_36 := o1_36.other g46 q0_1_36.symm; replace o2_36 := o2_36.other g46 q0_2_36.symm; replace o3_36 := o3_36.other g46 q0_3_36.symm; replace o4_36 := o4_36.other g46 q0_4_36.symm; replace o5_36 := o5_36.other g46 q0_5_36.symm; have e53 := e45.grown g46 n0_36; have n54 := Nw.nxt e45 n0_36 nx46; refine wsn rfl (by kernel_rfl) rfl rfl (stp_storeL (u := v46) [v46, (bp g9), (bp g6)] ((bp g23a) :: (bp g23b) :: L0) rfl Try.sizeOf61 rfl rfl o3_36 (oc_own o46) ?_); intro w55 o55 g55 l55; have k56 := k47.own g55 o3_36.cl; replace i40_0 := i40_0.lift l55; replace i43 := i43.lift l55; replace o46 := o46.other (SlK.stab (Sc.stab _)) g55 q50.symm l55; replace o1_36 := o1_36.other g55 q1_3_36; replace o2_36 := o2_36.other g55 q2_3_36; replace o4_36 := o4_36.other g55 q3_4_36.symm; replace o5_36 := o5_36.other g55 q3_5_36.symm; have e57 := e53.grown g55 n3_36; refine ws_nil ?_; refine bk_n ?_; obtain rfl := osi H33; exact ⟨k56, ⟨o4_36, o5_36, (hp1.lift (Lift.ext e57 _))⟩, v46, e57, o46, n54, o1_36, n1_36, o2_36, n2_36, o55, n3_36, o4_36, n4_36, o5_36, n5_36, q48.symm, q49.symm, q50.symm, q51.symm, q52.symm, q1_2_36, q1_3_36, q1_4_36, q1_5_36, q2_3_36, q2_4_36, q2_5_36, q3_4_36, q3_5_36, q4_5_36⟩
  intro D33 w58 hD33 ⟨vbbpg18_58, hE58, o0_58, n0_58, o1_58, n1_58, o2_58, n2_58, o3_58, n3_58, o4_58, n4_58, o5_58, n5_58, q0_1_58, q0_2_58, q0_3_58, q0_4_58, q0_5_58, q1_2_58, q1_3_58, q1_4_58, q1_5_58, q2_3_58, q2_4_58, q2_5_58, q3_4_58, q3_5_58, q4_5_58⟩ hK33; have hd33 := Nat.le_trans e32.size hD33; have kd33 := KeepsFrom.refl 0 w58; refine bk_n ?_; refine W_th ?_; refine W_seq ?_; refine W_reg (by kernel_rfl) ?_; refine wla rfl rfl (q_assign (v := (u8 1)) rfl (cst8 (1 : UInt8) rfl)) ?_; refine wl_nil ?_; refine W_th ?_; refine W_seq ?_; obtain ⟨x59, H59, H⟩ := bsi H; refine W_mid (fun f w => ∃ vbbpg18_192 : Value, f 6 = (bp g9) ∧ f 8 = (bp g18) ∧ f 129 = (bp D33) ∧ Ext w0 w ∧ KeepsFrom 0 w58 w ∧ OwK By w (vbbpg18_192 :: (bp g9) :: (bp g6) :: (bp g18) :: L0) 22 vbbpg18_192 x59 ∧ Nw w0 vbbpg18_192 ∧ Blk w g9 25 #[(bp g6)] ∧ Nw w0 (bp g9) ∧ Blk w g6 66 (cipc p0 (.slice none 0 0) r15.box r15.back) ∧ Nw w0 (bp g6) ∧ Blk w g18 61 #[vbbpg18_192] ∧ Nw w0 (bp g18) ∧ Nq vbbpg18_192 (bp g9) ∧ Nq vbbpg18_192 (bp g6) ∧ Nq vbbpg18_192 (bp g18) ∧ Nq (bp g9) (bp g6) ∧ Nq (bp g9) (bp g18) ∧ Nq (bp g6) (bp g18)) ?_ ?_
  · refine W_seq ?_; refine W_reg (by kernel_rfl) ?_; refine wla rfl rfl (q_move (v := (i64 c17)) rfl rfl) ?_; refine wla rfl rfl (q_assign (v := (i64 c17)) rfl rfl) ?_; refine wl_nil ?_; refine W_th ?_; obtain ⟨x60, G60, H59⟩ := bsi H59; refine W_mid (fun f w => ∃ vbbpg18_141 : Value, f 6 = (bp g9) ∧ f 8 = (bp g18) ∧ f 129 = (bp D33) ∧ Ext w0 w ∧ KeepsFrom 0 w58 w ∧ OwK By w (vbbpg18_141 :: (bp g9) :: (bp g6) :: (bp g18) :: L0) 22 vbbpg18_141 x60 ∧ Nw w0 vbbpg18_141 ∧ Blk w g9 25 #[(bp g6)] ∧ Nw w0 (bp g9) ∧ Blk w g6 66 (cipc p0 (.slice none 0 0) r15.box r15.back) ∧ Nw w0 (bp g6) ∧ Blk w g18 61 #[vbbpg18_141] ∧ Nw w0 (bp g18) ∧ Nq vbbpg18_141 (bp g9) ∧ Nq vbbpg18_141 (bp g6) ∧ Nq vbbpg18_141 (bp g18) ∧ Nq (bp g9) (bp g6) ∧ Nq (bp g9) (bp g18) ∧ Nq (bp g6) (bp g18)) ?_ ?_
    · refine W_block ?_; refine W_loop (fun s60 f w => ∃ vbbpg18_139 : Value, f 0 = p0 ∧ f 6 = (bp g9) ∧ f 7 = (i64 c17) ∧ f 8 = (bp g18) ∧ f 10 = (u8 s60.2.1) ∧ f 11 = (i64 s60.2.2) ∧ f 129 = (bp D33) ∧ Ext w0 w ∧ KeepsFrom 0 w58 w ∧ OwK By w (vbbpg18_139 :: (bp g9) :: (bp g6) :: (bp g18) :: L0) 22 vbbpg18_139 s60.1 ∧ Nw w0 vbbpg18_139 ∧ Blk w g9 25 #[(bp g6)] ∧ Nw w0 (bp g9) ∧ Blk w g6 66 (cipc p0 (.slice none 0 0) r15.box r15.back) ∧ Nw w0 (bp g6) ∧ Blk w g18 61 #[vbbpg18_139] ∧ Nw w0 (bp g18) ∧ Nq vbbpg18_139 (bp g9) ∧ Nq vbbpg18_139 (bp g6) ∧ Nq vbbpg18_139 (bp g18) ∧ Nq (bp g9) (bp g6) ∧ Nq (bp g9) (bp g18) ∧ Nq (bp g6) (bp g18)) G60 ?_ ?_
      · exact ⟨vbbpg18_58, s0_5, rfl, rfl, rfl, rfl, rfl, rfl, hE58, kd33, (o0_58.weak (SlK.stab (Sc.stab _)) (fun _ h => ⟨h.1, h.2.1, h.2.2.1, h.2.2.2.1, h.2.2.2.2.2.2⟩)), n0_58, o1_58, n1_58, o2_58, n2_58, o3_58, n3_58, q0_1_58, q0_2_58, q0_3_58, q1_2_58, q1_3_58, q2_3_58⟩
      rintro s60 _ _ w61 ⟨vbbpg18_61, s0_61, s6_61, s7_61, s8_61, s10_61, s11_61, s129_61, hE61, k0_61, o0_61, n0_61, o1_61, n1_61, o2_61, n2_61, o3_61, n3_61, q0_1_61, q0_2_61, q0_3_61, q1_2_61, q1_3_61, q2_3_61⟩ H60 hr60; refine W_seq ?_; refine W_seq ?_; refine W_reg (by kernel_rfl) ?_; refine wla rfl rfl (q_move (v := (i64 s60.2.2)) rfl s11_61) ?_; refine wla rfl rfl (q_move (v := (i64 c17)) rfl s7_61) ?_; refine wla rfl rfl (q_addI rfl rfl rfl) ?_; refine wla rfl rfl (q_mulI rfl rfl rfl) ?_; refine wla rfl rfl (q_ltI rfl rfl rfl) ?_; refine wl_nil ?_; refine W_th ?_; refine W_cond _ rfl rfl (fun hb62 => ?_) (fun hb62 => ?_)
      · replace H60 := (if_pos (of_decide_eq_true hb62)).symm.trans H60; refine W_skip ?_; refine W_th ?_; refine W_seq ?_; refine W_block ?_; refine W_seq ?_; refine W_reg (by kernel_rfl) ?_; refine wlq rfl rfl (q_loadB (u := vbbpg18_61) rfl Try.isAgg61 (by exact s8_61) o3_61 rfl) ?_; refine wla rfl rfl (q_move (v := (i64 s60.2.2)) rfl s11_61) ?_; refine wla rfl rfl (q_subI rfl rfl rfl) ?_; obtain ⟨c63, hc63, H60⟩ := bsi H60; refine wla rfl rfl (q_adr rfl T61 rfl rfl (o0_61.rd (SlK.stab (Sc.stab _))) hc63) ?_; refine wlq_loadO (SlK.stab (Sc.stab _)) rfl rfl rfl T61 rfl o0_61 hc63 (fun v65 i65 => ?_); replace i65 : By w61 (vbbpg18_61 :: (bp g9) :: (bp g6) :: (bp g18) :: L0) v65 c63 := i65; obtain ⟨r66, hr66, H60⟩ := bsi H60; refine wls rfl rfl (stp_call (vs := [v65]) Try.func46 rfl rfl rfl (ar1 rfl) (slices_Clone_sbytebyte_calls c63 v65 r66 _ (i65.lift (Lift.sub (fun _ _ => trivial))) hr66) ?_); rintro _ w66 ⟨v66, rfl, x66, n66_0, o66_0⟩; refine ⟨_, rfl, ?_⟩; have o66 : OwK (Sc u8) w66 (v66 :: (vbbpg18_61 :: (bp g9) :: (bp g6) :: (bp g18) :: L0)) 5 v66 r66 := OwK.scal o66_0 _; have q67 : Nq vbbpg18_61 v66 := o0_61.nq n66_0; have q68 : Nq (bp g9) v66 := o1_61.nq n66_0; have q69 : Nq (bp g6) v66 := o2_61.nq n66_0; have q70 : Nq (bp g18) v66 := o3_61.nq n66_0; replace i65 := i65.lift (Lift.call _ x66 n66_0); replace o0_61 := o0_61.extL (SlK.stab (Sc.stab _)) x66 (Lift.call _ x66 n66_0); replace o1_61 := o1_61.ext x66; replace o2_61 := o2_61.ext x66; replace o3_61 := o3_61.ext x66; have k71 := k0_61.ext x66; have n73 := Nw.ext hE61 n66_0; have e72 := hE61.trans x66; refine wla rfl rfl (q_assign (v := v66) rfl rfl) ?_; refine wl_nil ?_; refine W_th ?_; refine W_seq ?_; obtain ⟨x74, H74, H60⟩ := bsi H60; refine W_mid (fun f w => ∃ v12_138 : Value, f 0 = p0 ∧ f 6 = (bp g9) ∧ f 7 = (i64 c17) ∧ f 8 = (bp g18) ∧ f 10 = (u8 x74.1) ∧ f 11 = (i64 s60.2.2) ∧ f 12 = v12_138 ∧ f 129 = (bp D33) ∧ Ext w0 w ∧ KeepsFrom 0 w58 w ∧ OwK By w (vbbpg18_61 :: v12_138 :: (bp g9) :: (bp g6) :: (bp g18) :: L0) 22 vbbpg18_61 s60.1 ∧ Nw w0 vbbpg18_61 ∧ OwK (Sc u8) w (vbbpg18_61 :: v12_138 :: (bp g9) :: (bp g6) :: (bp g18) :: L0) 5 v12_138 x74.2 ∧ Nw w0 v12_138 ∧ Blk w g9 25 #[(bp g6)] ∧ Nw w0 (bp g9) ∧ Blk w g6 66 (cipc p0 (.slice none 0 0) r15.box r15.back) ∧ Nw w0 (bp g6) ∧ Blk w g18 61 #[vbbpg18_61] ∧ Nw w0 (bp g18) ∧ Nq vbbpg18_61 v12_138 ∧ Nq vbbpg18_61 (bp g9) ∧ Nq vbbpg18_61 (bp g6) ∧ Nq vbbpg18_61 (bp g18) ∧ Nq v12_138 (bp g9) ∧ Nq v12_138 (bp g6) ∧ Nq v12_138 (bp g18) ∧ Nq (bp g9) (bp g6) ∧ Nq (bp g9) (bp g18) ∧ Nq (bp g6) (bp g18)) ?_ ?_
        · refine W_block ?_; refine W_seq ?_; refine W_reg (by kernel_rfl) ?_; refine wla rfl rfl (q_move (v := (i64 s60.2.2)) rfl s11_61) ?_; refine wla rfl rfl (q_move (v := (i64 c17)) rfl s7_61) ?_; obtain ⟨c75, hc75, H74⟩ := bsi H74; refine wla rfl rfl (q_remI rfl rfl rfl hc75) ?_; refine wla rfl rfl (q_eqI rfl rfl rfl) ?_; refine wla rfl rfl (q_assign (v := (.bool ((decide (c75 = 0))))) rfl rfl) ?_; refine wl_nil ?_; refine W_th ?_; refine W_cond _ rfl rfl (fun hb76 => ?_) (fun hb76 => ?_)
          · replace H74 := (if_pos (of_decide_eq_true hb76)).symm.trans H74; refine W_seq ?_; refine W_draw [0, 5, 8, 11, 14] [(0, 1), (1, 0), (2, 0), (3, 0), (4, 0), (5, 1), (6, 0), (7, 0), (8, 1), (9, 0), (10, 0), (11, 1), (12, 0), (13, 0), (14, 1), (15, 2), (16, 2), (17, 0)] mixed (by kernel_rfl) (by kernel_rfl) (by kernel_rfl) (by kernel_rfl) ?_; have x77 := Ext.drew w66; replace i65 := i65.lift (Lift.ext x77 _); replace o66 := o66.extL (Sc.stab _) x77 (Lift.ext x77 _); replace o0_61 := o0_61.extL (SlK.stab (Sc.stab _)) x77 (Lift.ext x77 _); replace o1_61 := o1_61.ext x77; replace o2_61 := o2_61.ext x77; replace o3_61 := o3_61.ext x77; have k78 := k71.ext x77; have e79 := e72.trans x77; refine wsq rfl rfl rfl (q_loadB (u := (bp g6)) rfl Try.isAgg25 (by exact s6_61) o1_61 rfl) ?_; refine wsa rfl rfl rfl (q_nilP rfl rfl) ?_; refine wsa rfl rfl rfl (q_fldC (g := g6) (d := 2) rfl fieldAtC2 rfl) ?_; refine wsa rfl rfl rfl (q_move (v := v66) rfl rfl) ?_; obtain ⟨c80, hc80, H74⟩ := bsi H74; refine wsa rfl rfl rfl (q_adr rfl T22 rfl rfl (o66.rd (Sc.stab _)) hc80) ?_; refine wsq rfl rfl rfl (q_loadS rfl T22 rfl (o66.rd (Sc.stab _)) hc80) ?_; refine wsa rfl rfl rfl (q_move (v := v66) rfl rfl) ?_; obtain ⟨c81, hc81, H74⟩ := bsi H74; refine wsa rfl rfl rfl (q_adr rfl T22 rfl rfl (o66.rd (Sc.stab _)) hc81) ?_; refine wsq rfl rfl rfl (q_loadS rfl T22 rfl (o66.rd (Sc.stab _)) hc81) ?_; refine wsa rfl rfl rfl (q_move (v := v66) rfl rfl) ?_; obtain ⟨c82, hc82, H74⟩ := bsi H74; refine wsa rfl rfl rfl (q_adr rfl T22 rfl rfl (o66.rd (Sc.stab _)) hc82) ?_; refine wsq rfl rfl rfl (q_loadS rfl T22 rfl (o66.rd (Sc.stab _)) hc82) ?_; refine wsa rfl rfl rfl (q_move (v := v66) rfl rfl) ?_; obtain ⟨c83, hc83, H74⟩ := bsi H74; refine wsa rfl rfl rfl (q_adr rfl T22 rfl rfl (o66.rd (Sc.stab _)) hc83) ?_; refine wsq rfl rfl rfl (q_loadS rfl T22 rfl (o66.rd (Sc.stab _)) hc83) ?_; refine wss rfl rfl rfl (stp_lit (L := (v66 :: vbbpg18_61 :: (bp g9) :: (bp g6) :: (bp g18) :: L0)) (R := (Sc u8)) [(u8 c80), (u8 c81), (u8 c82), (u8 c83)] ([c80, c81, c82, c83] : List UInt8) rfl T22 rfl (by exact ⟨rfl, rfl, rfl, rfl, rfl, rfl, rfl, rfl, trivial⟩) rfl (litC u8 (oneC_u8) (us := [(u8 c80), (u8 c81), (u8 c82), (u8 c83)]) (l := ([c80, c81, c82, c83] : List UInt8)) rfl) rfl (litS u8 (us := [(u8 c80), (u8 c81), (u8 c82), (u8 c83)]) (l := ([c80, c81, c82, c83] : List UInt8)) rfl) ?_); intro v84 w84 o84 n84 g84 l84; refine ⟨grown_ext g84, ?_⟩; have x84 := grown_ext g84; have i84 : By w84 (v66 :: vbbpg18_61 :: (bp g9) :: (bp g6) :: (bp g18) :: L0) v84 (([c80, c81, c82, c83] : List UInt8)) := OwK.slk (Sc.stab _) _ o84 (fun k hk => (Old.cons (Old.cons (Old.cons (Old.cons (Old.cons (hL0.ext e79) o3_61.ltB) o2_61.ltB) o1_61.ltB) o0_61.lt) o66.lt) k (n84 k hk)) (fun _ h => h.2); replace i65 := i65.lift (Lift.ext x84 _); replace o66 := o66.extL (Sc.stab _) x84 (Lift.ext x84 _); replace o0_61 := o0_61.extL (SlK.stab (Sc.stab _)) x84 (Lift.ext x84 _)
            replace o1_61 := o1_61.ext x84; replace o2_61 := o2_61.ext x84; replace o3_61 := o3_61.ext x84; have k85 := k78.ext x84; have e86 := e79.trans x84; obtain ⟨r87, hr87, H74⟩ := bsi H74; refine wsc rfl (by kernel_rfl) rfl rfl (stp_call (vs := [(bpo g6 2), v84]) Try.func47 rfl rfl rfl (ar2 rfl rfl) (cipher_through_calls r15.box ([c80, c81, c82, c83] : List UInt8) (bpo g6 2) v84 r87 _ (blk_box o2_61) (i84.lift (Lift.sub (fun _ _ => trivial))) hr87) ?_); rintro _ w87 ⟨v87, rfl, x87, n87_0, o87_0⟩; refine ⟨_, rfl, ?_⟩; have o87 : OwK (Sc u8) w87 (v87 :: (v66 :: vbbpg18_61 :: (bp g9) :: (bp g6) :: (bp g18) :: L0)) 5 v87 r87 := OwK.scal o87_0 _; have q88 : Nq v66 v87 := o66.nq n87_0; have q89 : Nq vbbpg18_61 v87 := o0_61.nq n87_0; have q90 : Nq (bp g9) v87 := o1_61.nq n87_0; have q91 : Nq (bp g6) v87 := o2_61.nq n87_0; have q92 : Nq (bp g18) v87 := o3_61.nq n87_0; replace i65 := i65.lift (Lift.call _ x87 n87_0); replace i84 := i84.lift (Lift.call _ x87 n87_0); replace o66 := o66.extL (Sc.stab _) x87 (Lift.call _ x87 n87_0); replace o0_61 := o0_61.extL (SlK.stab (Sc.stab _)) x87 (Lift.call _ x87 n87_0); replace o1_61 := o1_61.ext x87; replace o2_61 := o2_61.ext x87; replace o3_61 := o3_61.ext x87; have k93 := k85.ext x87; have n95 := Nw.ext e86 n87_0; have e94 := e86.trans x87; refine wsa rfl rfl rfl (q_assign (v := v87) rfl rfl) ?_; refine ws_nil ?_; refine W_th ?_; refine W_seq ?_; refine W_reg (by kernel_rfl) ?_; refine wla rfl rfl (q_move (v := v87) rfl rfl) ?_; obtain ⟨c96, hc96, H74⟩ := bsi H74; refine wla rfl rfl (q_adr rfl T22 rfl rfl (o87.rd (Sc.stab _)) hc96) ?_; refine wlq rfl rfl (q_loadS rfl T22 rfl (o87.rd (Sc.stab _)) hc96) ?_; refine wla rfl rfl (q_move (v := (u8 s60.2.1)) rfl s10_61) ?_; refine wla rfl rfl (q_xor8 rfl rfl rfl) ?_; refine wla rfl rfl (q_adr rfl T22 rfl rfl (o87.rd (Sc.stab _)) hc96) ?_; refine wln rfl rfl (stp_store (R := (Sc u8)) (u := (u8 ((c96 ^^^ s60.2.1)))) (Sc.stab _) [] (v66 :: vbbpg18_61 :: (bp g9) :: (bp g6) :: (bp g18) :: L0) rfl T22 rfl rfl o87 (put_of ((c96 ^^^ s60.2.1)) hc96) rfl rfl ?_); intro w97 o97 g97 l97; have k98 := k93.own g97 o87.cl; replace i65 := i65.lift l97; replace i84 := i84.lift l97; replace o66 := o66.other (Sc.stab _) g97 q88 l97; replace o0_61 := o0_61.other (SlK.stab (Sc.stab _)) g97 q89 l97; replace o1_61 := o1_61.other g97 q90; replace o2_61 := o2_61.other g97 q91; replace o3_61 := o3_61.other g97 q92; have e99 := e94.grown g97 n95; refine wl_nil ?_; refine W_th ?_; refine W_reg (by kernel_rfl) ?_; refine wla rfl rfl (q_move (v := p0) rfl s0_61) ?_; refine wla rfl rfl (q_move (v := (u8 s60.2.1)) rfl s10_61) ?_; obtain ⟨r100, hr100, H74⟩ := bsi H74; refine wls rfl rfl (stp_call (vs := [p0, (u8 s60.2.1), (u8 2)]) Try.func48 rfl rfl rfl (ar3 rfl rfl (by exact (cst8 (2 : UInt8) rfl))) (field_Mul_calls a0f s60.2.1 (2 : UInt8) p0 r100 _ ((hp0.lift (Lift.sub (L' := []) (fun _ _ => trivial))).lift (Lift.ext e99 _)) hr100) ?_)
            rintro _ w100 ⟨rfl, x100⟩; refine ⟨_, rfl, ?_⟩; replace i65 := i65.lift (Lift.ext x100 _); replace i84 := i84.lift (Lift.ext x100 _); replace o97 := o97.extL (Sc.stab _) x100 (Lift.ext x100 _); replace o66 := o66.extL (Sc.stab _) x100 (Lift.ext x100 _); replace o0_61 := o0_61.extL (SlK.stab (Sc.stab _)) x100 (Lift.ext x100 _); replace o1_61 := o1_61.ext x100; replace o2_61 := o2_61.ext x100; replace o3_61 := o3_61.ext x100; have k101 := k98.ext x100; have e102 := e99.trans x100; refine wla rfl rfl (q_assign (v := (u8 r100)) rfl rfl) ?_; refine wl_nil ?_; refine bk_n ?_; obtain rfl := osi H74; exact ⟨v87, s0_61, s6_61, s7_61, s8_61, rfl, s11_61, rfl, s129_61, e102, k101, (o0_61.weak (SlK.stab (Sc.stab _)) (fun _ h => ⟨h.2.2.1, h.1, h.2.2.2.1, h.2.2.2.2.1, h.2.2.2.2.2.1, h.2.2.2.2.2.2⟩)), n0_61, (o97.weak (Sc.stab _) (fun _ h => ⟨h.2.2.1, h.1, h.2.2.2.1, h.2.2.2.2.1, h.2.2.2.2.2.1, h.2.2.2.2.2.2⟩)), n95, o1_61, n1_61, o2_61, n2_61, o3_61, n3_61, q89, q0_1_61, q0_2_61, q0_3_61, q90.symm, q91.symm, q92.symm, q1_2_61, q1_3_61, q2_3_61⟩
          replace H74 := (if_neg (of_decide_eq_false hb76)).symm.trans H74; refine W_seq ?_; refine W_reg (by kernel_rfl) ?_; refine wla rfl rfl (q_move (v := (i64 c17)) rfl s7_61) ?_; refine wla rfl rfl (q_eqI rfl rfl rfl) ?_; refine wlb rfl rfl (q_move (v := (.bool ((decide (c17 = 8))))) rfl rfl) (fun hb103 => ?_) (fun hb103 => ?_)
          · replace H74 := (if_pos (of_decide_eq_true hb103)).symm.trans H74; refine wla rfl rfl (q_move (v := (i64 s60.2.2)) rfl s11_61) ?_; refine wla rfl rfl (q_move (v := (i64 c17)) rfl s7_61) ?_; obtain ⟨c104, hc104, H74⟩ := bsi H74; refine wla rfl rfl (q_remI rfl rfl rfl hc104) ?_; refine wla rfl rfl (q_eqI rfl rfl rfl) ?_; refine wla rfl rfl (q_pick_t (v := (.bool ((decide (c104 = 4))))) rfl rfl rfl) ?_; refine wla rfl rfl (q_assign (v := (.bool ((decide (c104 = 4))))) rfl rfl) ?_; refine wl_nil ?_; refine W_th ?_; refine W_cond _ rfl rfl (fun hb105 => ?_) (fun hb105 => ?_)
            · replace H74 := (if_pos (of_decide_eq_true hb105)).symm.trans H74; refine W_reg (by kernel_rfl) ?_; refine wlq rfl rfl (q_loadB (u := (bp g6)) rfl Try.isAgg25 (by exact s6_61) o1_61 rfl) ?_; refine wla rfl rfl (q_nilP rfl rfl) ?_; refine wla rfl rfl (q_fldC (g := g6) (d := 2) rfl fieldAtC2 rfl) ?_; refine wla rfl rfl (q_move (v := v66) rfl rfl) ?_; obtain ⟨r106, hr106, H74⟩ := bsi H74; refine wls rfl rfl (stp_call (vs := [(bpo g6 2), v66]) Try.func47 rfl rfl rfl (ar2 rfl rfl) (cipher_through_calls r15.box r66 (bpo g6 2) v66 r106 _ (blk_box o2_61) (o66.rd (Sc.stab _)) hr106) ?_); rintro _ w106 ⟨v106, rfl, x106, n106_0, o106_0⟩; refine ⟨_, rfl, ?_⟩; have o106 : OwK (Sc u8) w106 (v106 :: (v66 :: vbbpg18_61 :: (bp g9) :: (bp g6) :: (bp g18) :: L0)) 5 v106 r106 := OwK.scal o106_0 _; have q107 : Nq v66 v106 := o66.nq n106_0; have q108 : Nq vbbpg18_61 v106 := o0_61.nq n106_0; have q109 : Nq (bp g9) v106 := o1_61.nq n106_0; have q110 : Nq (bp g6) v106 := o2_61.nq n106_0; have q111 : Nq (bp g18) v106 := o3_61.nq n106_0; replace i65 := i65.lift (Lift.call _ x106 n106_0); replace o66 := o66.extL (Sc.stab _) x106 (Lift.call _ x106 n106_0); replace o0_61 := o0_61.extL (SlK.stab (Sc.stab _)) x106 (Lift.call _ x106 n106_0); replace o1_61 := o1_61.ext x106; replace o2_61 := o2_61.ext x106; replace o3_61 := o3_61.ext x106; have k112 := k71.ext x106; have n114 := Nw.ext e72 n106_0; have e113 := e72.trans x106; refine wla rfl rfl (q_assign (v := v106) rfl rfl) ?_; refine wl_nil ?_; refine bk_n ?_; obtain rfl := osi H74; exact ⟨v106, s0_61, s6_61, s7_61, s8_61, s10_61, s11_61, rfl, s129_61, e113, k112, (o0_61.weak (SlK.stab (Sc.stab _)) (fun _ h => ⟨h.2.2.1, h.1, h.2.2.2.1, h.2.2.2.2.1, h.2.2.2.2.2.1, h.2.2.2.2.2.2⟩)), n0_61, (o106.weak (Sc.stab _) (fun _ h => ⟨h.2.2.1, h.1, h.2.2.2.1, h.2.2.2.2.1, h.2.2.2.2.2.1, h.2.2.2.2.2.2⟩)), n114, o1_61, n1_61, o2_61, n2_61, o3_61, n3_61, q108, q0_1_61, q0_2_61, q0_3_61, q109.symm, q110.symm, q111.symm, q1_2_61, q1_3_61, q2_3_61⟩
            replace H74 := (if_neg (of_decide_eq_false hb105)).symm.trans H74; refine W_skip ?_; refine bk_n ?_; obtain rfl := osi H74; exact ⟨v66, s0_61, s6_61, s7_61, s8_61, s10_61, s11_61, rfl, s129_61, e72, k71, (o0_61.weak (SlK.stab (Sc.stab _)) (fun _ h => ⟨h.2.1, h.1, h.2.2.1, h.2.2.2.1, h.2.2.2.2.1, h.2.2.2.2.2⟩)), n0_61, (o66.weak (Sc.stab _) (fun _ h => ⟨h.2.1, h.1, h.2.2.1, h.2.2.2.1, h.2.2.2.2.1, h.2.2.2.2.2⟩)), n73, o1_61, n1_61, o2_61, n2_61, o3_61, n3_61, q67, q0_1_61, q0_2_61, q0_3_61, q68.symm, q69.symm, q70.symm, q1_2_61, q1_3_61, q2_3_61⟩
          replace H74 := (if_neg (of_decide_eq_false hb103)).symm.trans H74; refine wlk rfl rfl ?_; refine wlk rfl rfl ?_; refine wlk rfl rfl ?_; refine wlk rfl rfl ?_; refine wla rfl rfl (q_pick_f (v := (.bool false)) rfl rfl rfl) ?_; refine wla rfl rfl (q_assign (v := (.bool false)) rfl rfl) ?_; refine wl_nil ?_; refine W_th ?_; refine W_cond false rfl rfl (fun hb => by cases hb) (fun _ => ?_); refine W_skip ?_; refine bk_n ?_; obtain rfl := osi H74; exact ⟨v66, s0_61, s6_61, s7_61, s8_61, s10_61, s11_61, rfl, s129_61, e72, k71, (o0_61.weak (SlK.stab (Sc.stab _)) (fun _ h => ⟨h.2.1, h.1, h.2.2.1, h.2.2.2.1, h.2.2.2.2.1, h.2.2.2.2.2⟩)), n0_61, (o66.weak (Sc.stab _) (fun _ h => ⟨h.2.1, h.1, h.2.2.1, h.2.2.2.1, h.2.2.2.2.1, h.2.2.2.2.2⟩)), n73, o1_61, n1_61, o2_61, n2_61, o3_61, n3_61, q67, q0_1_61, q0_2_61, q0_3_61, q68.symm, q69.symm, q70.symm, q1_2_61, q1_3_61, q2_3_61⟩
        rintro _ w115 ⟨v12_115, s0_115, s6_115, s7_115, s8_115, s10_115, s11_115, s12_115, s129_115, hE115, k0_115, o0_115, n0_115, o1_115, n1_115, o2_115, n2_115, o3_115, n3_115, o4_115, n4_115, q0_1_115, q0_2_115, q0_3_115, q0_4_115, q1_2_115, q1_3_115, q1_4_115, q2_3_115, q2_4_115, q3_4_115⟩; refine W_th ?_; refine W_draw [0, 2, 7] [(0, 1), (1, 0), (2, 1), (3, 0), (4, 0), (5, 0), (6, 0), (7, 1), (8, 2), (9, 2), (10, 2), (11, 2)] mixed (by kernel_rfl) (by kernel_rfl) (by kernel_rfl) (by kernel_rfl) ?_; have x116 := Ext.drew w115; replace o0_115 := o0_115.extL (SlK.stab (Sc.stab _)) x116 (Lift.ext x116 _); replace o1_115 := o1_115.extL (Sc.stab _) x116 (Lift.ext x116 _); replace o2_115 := o2_115.ext x116; replace o3_115 := o3_115.ext x116; replace o4_115 := o4_115.ext x116; have k117 := k0_115.ext x116; have e118 := hE115.trans x116; refine wsq rfl rfl rfl (q_loadB (u := vbbpg18_61) rfl Try.isAgg61 (by exact s8_115) o4_115 rfl) ?_; refine wsa rfl rfl rfl (q_move (v := v12_115) rfl s12_115) ?_; refine wsq rfl rfl rfl (q_loadB (u := vbbpg18_61) rfl Try.isAgg61 (by exact s8_115) o4_115 rfl) ?_; refine wsa rfl rfl rfl (q_move (v := (i64 s60.2.2)) rfl s11_115) ?_; refine wsa rfl rfl rfl (q_move (v := (i64 c17)) rfl s7_115) ?_; refine wsa rfl rfl rfl (q_subI rfl rfl rfl) ?_; obtain ⟨c119, hc119, H60⟩ := bsi H60; refine wsa rfl rfl rfl (q_adr rfl T61 rfl rfl (o0_115.rd (SlK.stab (Sc.stab _))) hc119) ?_; refine wsq_loadO (SlK.stab (Sc.stab _)) rfl rfl rfl rfl T61 rfl o0_115 hc119 (fun v120 i120 => ?_); replace i120 : By (World.drew w115) (vbbpg18_61 :: v12_115 :: (bp g9) :: (bp g6) :: (bp g18) :: L0) v120 c119 := i120; obtain ⟨r121, hr121, H60⟩ := bsi H60; refine wss rfl rfl rfl (stp_call (vs := [v12_115, v120]) Try.func49 rfl rfl rfl (ar2 rfl rfl) (word_Xor_calls x74.2 c119 v12_115 v120 r121 _ (o1_115.rd (Sc.stab _)) (i120.lift (Lift.sub (fun _ _ => trivial))) hr121) ?_); rintro _ w121 ⟨v121, rfl, x121, n121_0, o121_0⟩; refine ⟨_, rfl, x121, ?_⟩; have i121_0 : By w121 (vbbpg18_61 :: v12_115 :: (bp g9) :: (bp g6) :: (bp g18) :: L0) v121 r121 := OwK.slk (Sc.stab _) _ (OwK.scal o121_0 (v121 :: (vbbpg18_61 :: v12_115 :: (bp g9) :: (bp g6) :: (bp g18) :: L0))) (fun k hk => (Old.cons (Old.cons (Old.cons (Old.cons (Old.cons (hL0.ext e118) o4_115.ltB) o3_115.ltB) o2_115.ltB) o1_115.lt) o0_115.lt) k (n121_0 k hk)) (fun _ h => h.2); replace i120 := i120.lift (Lift.ext x121 _); replace o0_115 := o0_115.extL (SlK.stab (Sc.stab _)) x121 (Lift.ext x121 _); replace o1_115 := o1_115.extL (Sc.stab _) x121 (Lift.ext x121 _); replace o2_115 := o2_115.ext x121; replace o3_115 := o3_115.ext x121; replace o4_115 := o4_115.ext x121; have k122 := k117.ext x121; have e123 := e118.trans x121; refine wss rfl rfl rfl (stp_lit (L := (vbbpg18_61 :: v12_115 :: (bp g9) :: (bp g6) :: (bp g18) :: L0)) (R := By) [v121] ([r121] : List (List UInt8)) rfl T61 rfl (by exact ⟨rfl, rfl, trivial⟩) rfl (LitR.cells (R := By) (w := w121) (L := (vbbpg18_61 :: v12_115 :: (bp g9) :: (bp g6) :: (bp g18) :: L0)) (l := ([r121] : List (List UInt8))) (LitR.cons i121_0 LitR.nil) (fun u x h => cells_sl u x h)) rfl (LitR.all (R := By) (w := w121) (L := (vbbpg18_61 :: v12_115 :: (bp g9) :: (bp g6) :: (bp g18) :: L0)) (l := ([r121] : List (List UInt8))) (SlK.stab (Sc.stab _)) (LitR.cons i121_0 LitR.nil)) ?_)
        intro v124 w124 o124 n124 g124 l124; refine ⟨grown_ext g124, ?_⟩; have x124 := grown_ext g124; have i124 : Rw w124 (vbbpg18_61 :: v12_115 :: (bp g9) :: (bp g6) :: (bp g18) :: L0) v124 (([r121] : List (List UInt8))) := OwK.slk (SlK.stab (Sc.stab _)) _ o124 (fun k hk => (Old.cons (Old.cons (Old.cons (Old.cons (Old.cons (hL0.ext e123) o4_115.ltB) o3_115.ltB) o2_115.ltB) o1_115.lt) o0_115.lt) k (n124 k hk)) (fun _ h => h.2); replace i120 := i120.lift (Lift.ext x124 _); replace i121_0 := i121_0.lift (Lift.ext x124 _); replace o0_115 := o0_115.extL (SlK.stab (Sc.stab _)) x124 (Lift.ext x124 _); replace o1_115 := o1_115.extL (Sc.stab _) x124 (Lift.ext x124 _); replace o2_115 := o2_115.ext x124; replace o3_115 := o3_115.ext x124; replace o4_115 := o4_115.ext x124; have k125 := k122.ext x124; have e126 := e123.trans x124; obtain ⟨c127, hc127, H60⟩ := bsi H60; refine wsc rfl (by kernel_rfl) rfl rfl (stp_append (R := By) (v := vbbpg18_61) (u := v124) (SlK.stab (Sc.stab _)) [] (v12_115 :: (bp g9) :: (bp g6) :: (bp g18) :: L0) rfl T61 rfl rfl o0_115 i124 (fun _ _ h => h) hc127 oc_sl ?_); intro v127 w127 o127 g127 nx127 l127; have k128 := k125.own g127 o0_115.cl; replace i120 := i120.lift l127; replace i121_0 := i121_0.lift l127; replace i124 := i124.lift l127; have q129 : Nq v12_115 v127 := o1_115.nxt q0_1_115.symm nx127; have q130 : Nq (bp g9) v127 := o2_115.nxt q0_2_115.symm nx127; have q131 : Nq (bp g6) v127 := o3_115.nxt q0_3_115.symm nx127; have q132 : Nq (bp g18) v127 := o4_115.nxt q0_4_115.symm nx127; replace o1_115 := o1_115.other (Sc.stab _) g127 q0_1_115.symm l127; replace o2_115 := o2_115.other g127 q0_2_115.symm; replace o3_115 := o3_115.other g127 q0_3_115.symm; replace o4_115 := o4_115.other g127 q0_4_115.symm; have e133 := e126.grown g127 n0_115; have n134 := Nw.nxt e126 n0_115 nx127; refine wsn rfl (by kernel_rfl) rfl rfl (stp_storeL (u := v127) [v127, v12_115, (bp g9), (bp g6)] (L0) rfl Try.sizeOf61 (by exact s8_115) rfl o4_115 (oc_own o127) ?_); intro w135 o135 g135 l135; have k136 := k128.own g135 o4_115.cl; replace i120 := i120.lift l135; replace i121_0 := i121_0.lift l135; replace i124 := i124.lift l135; replace o127 := o127.other (SlK.stab (Sc.stab _)) g135 q132.symm l135; replace o1_115 := o1_115.other (Sc.stab _) g135 q1_4_115 l135; replace o2_115 := o2_115.other g135 q2_4_115; replace o3_115 := o3_115.other g135 q3_4_115; have e137 := e133.grown g135 n4_115; refine ws_nil ?_; refine bk_n ?_; refine W_th ?_; refine W_reg (by kernel_rfl) ?_; refine wla rfl rfl (q_move (v := (i64 s60.2.2)) rfl s11_115) ?_; refine wla rfl rfl (q_addI rfl rfl rfl) ?_; refine wla rfl rfl (q_assign (v := (i64 ((wI (s60.2.2 + 1))))) rfl rfl) ?_; refine wl_nil ?_; obtain rfl := osi H60; exact ⟨_, rfl, v127, s0_115, s6_115, s7_115, s8_115, s10_115, rfl, s129_115, e137, k136, (o127.weak (SlK.stab (Sc.stab _)) (fun _ h => ⟨h.1, h.2.2.1, h.2.2.2.1, h.2.2.2.2.1, h.2.2.2.2.2⟩)), n134, o2_115, n2_115, o3_115, n3_115, o135, n4_115, q130.symm, q131.symm, q132.symm, q2_3_115, q2_4_115, q3_4_115⟩
      replace H60 := (if_neg (of_decide_eq_false hb62)).symm.trans H60; refine W_exit ?_; refine th_x ?_; obtain rfl := osi H60; obtain rfl := hr60 _ rfl; refine th_x ?_; refine bk_x ?_; exact ⟨vbbpg18_61, s6_61, s8_61, s129_61, hE61, k0_61, o0_61, n0_61, o1_61, n1_61, o2_61, n2_61, o3_61, n3_61, q0_1_61, q0_2_61, q0_3_61, q1_2_61, q1_3_61, q2_3_61⟩
    rintro _ w140 ⟨vbbpg18_140, s6_140, s8_140, s129_140, hE140, k0_140, o0_140, n0_140, o1_140, n1_140, o2_140, n2_140, o3_140, n3_140, q0_1_140, q0_2_140, q0_3_140, q1_2_140, q1_3_140, q2_3_140⟩; obtain rfl := osi H59; exact ⟨vbbpg18_140, s6_140, s8_140, s129_140, hE140, k0_140, o0_140, n0_140, o1_140, n1_140, o2_140, n2_140, o3_140, n3_140, q0_1_140, q0_2_140, q0_3_140, q1_2_140, q1_3_140, q2_3_140⟩
  rintro _ w142 ⟨vbbpg18_142, s6_142, s8_142, s129_142, hE142, k0_142, o0_142, n0_142, o1_142, n1_142, o2_142, n2_142, o3_142, n3_142, q0_1_142, q0_2_142, q0_3_142, q1_2_142, q1_3_142, q2_3_142⟩; refine W_th ?_; refine W_seq ?_; refine W_seq ?_; refine W_reg (by kernel_rfl) ?_; refine wlq rfl rfl (q_loadB (u := vbbpg18_142) rfl Try.isAgg61 (by exact s8_142) o3_142 rfl) ?_; refine wls rfl rfl (stp_call (vs := [vbbpg18_142, i64 4]) Try.func50 rfl rfl rfl (ar2 rfl rfl) (Chunk_rows_calls vbbpg18_142 (cells_own o0_142) 4 (by decide) _) ?_); rintro _ w143 ⟨g143a, g143b, rfl, nA143, nB143, qAB143, hA143, hB143, x143⟩; refine ⟨_, rfl, ?_⟩; have q144 : Nq vbbpg18_142 (bp g143a) := o0_142.nq nA143; have q145 : Nq vbbpg18_142 (bp g143b) := o0_142.nq nB143; have q146 : Nq (bp g9) (bp g143a) := o1_142.nq nA143; have q147 : Nq (bp g9) (bp g143b) := o1_142.nq nB143; have q148 : Nq (bp g6) (bp g143a) := o2_142.nq nA143; have q149 : Nq (bp g6) (bp g143b) := o2_142.nq nB143; have q150 : Nq (bp g18) (bp g143a) := o3_142.nq nA143; have q151 : Nq (bp g18) (bp g143b) := o3_142.nq nB143; replace o0_142 := o0_142.extL (SlK.stab (Sc.stab _)) x143 (Lift.call2 _ x143 nA143 nB143); replace o1_142 := o1_142.ext x143; replace o2_142 := o2_142.ext x143; replace o3_142 := o3_142.ext x143; have k152 := k0_142.ext x143; have n153 := Nw.ext hE142 nA143; have n154 := Nw.ext hE142 nB143; have e155 := hE142.trans x143; refine wl_nil ?_; refine W_th ?_; refine W_block ?_; have hM156 := k152.same D33 _ (Nat.zero_le _) hK33 rfl; obtain ⟨lim156, hl156, H⟩ := bsi H; obtain ⟨x156, G156, H⟩ := bsi H; refine W_rangeDG (π := fun x : ChEl x59 4 => x.1) (xs := chunksI x59 4) (ea := fun x => subW vbbpg18_142 x.1.1.toNat (x.1.1 + (x.1.2.length : Int)).toNat (x.1.1 + (x.1.2.length : Int)).toNat) (Rd := RdC_rows x59 4 g143a g143b vbbpg18_142) (gf := 74) (lb := #[(bp g143a), (bp g143b)]) G156 (mark_two (D' := D33) s129_142) rfl rfl (enters Try.func74 rfl rfl) rfl (chunk_rows x59 4 (by decide) vbbpg18_142 g143a g143b _ ⟨hA143, hB143, (o0_142.rd (SlK.stab (Sc.stab _)))⟩ (lim_lt hl156)) (fun ys h => h) (fun x => x.2.2) (fun _ _ t h => RdC_rows.tn t h) rfl (fun s156 w => ∃ vbbpg6_191 : Value, Ext w0 w ∧ OwK By w (vbbpg18_142 :: vbbpg6_191 :: (bp g9) :: (bp g6) :: (bp g143a) :: (bp g143b) :: L0) 22 vbbpg18_142 x59 ∧ Nw w0 vbbpg18_142 ∧ OwS w 77 vbbpg6_191 s156 ∧ Nw w0 vbbpg6_191 ∧ Blk w g9 25 #[(bp g6)] ∧ Nw w0 (bp g9) ∧ Blk w g6 66 (cipc p0 vbbpg6_191 r15.box r15.back) ∧ Nw w0 (bp g6) ∧ Blk w g143a 61 #[vbbpg18_142] ∧ Nw w0 (bp g143a) ∧ Blk w g143b 3 #[(i64 4)] ∧ Nw w0 (bp g143b) ∧ Nq vbbpg18_142 vbbpg6_191 ∧ Nq vbbpg18_142 (bp g9) ∧ Nq vbbpg18_142 (bp g6) ∧ Nq vbbpg18_142 (bp g143a) ∧ Nq vbbpg18_142 (bp g143b) ∧ Nq vbbpg6_191 (bp g9) ∧ Nq vbbpg6_191 (bp g6) ∧ Nq vbbpg6_191 (bp g143a) ∧ Nq vbbpg6_191 (bp g143b) ∧ Nq (bp g9) (bp g6) ∧ Nq (bp g9) (bp g143a) ∧ Nq (bp g9) (bp g143b) ∧ Nq (bp g6) (bp g143a) ∧ Nq (bp g6) (bp g143b) ∧ Nq (bp g143a) (bp g143b) ∧ w.heap[D33]? = some (.deferred (some []))) ?_ ?_ ⟨(.slice none 0 0), e155, (o0_142.weak (SlK.stab (Sc.stab _)) (fun _ h => ⟨h.2.2.1, nh_nil, h.2.2.2.1, h.2.2.2.2.1, h.1, h.2.1, h.2.2.2.2.2.2⟩)), n0_142, (OwS.nil _ _), (Nw.nil _), o1_142, n1_142, o2_142, n2_142, hA143, n153, hB143, n154, (Nq.nil _).symm, q0_1_142, q0_2_142, q144, q145, (Nq.nil _), (Nq.nil _), (Nq.nil _), (Nq.nil _), q1_2_142, q146, q147, q148, q149, qAB143, hM156⟩ (fun x f => upd (f) 13 (subW vbbpg18_142 x.1.1.toNat (x.1.1 + (x.1.2.length : Int)).toNat (x.1.1 + (x.1.2.length : Int)).toNat)) ?_ ?_ ?_
  · rintro s156 W W' t ⟨vbbpg6_157, hE157, o0_157, n0_157, o1_157, n1_157, o2_157, n2_157, o3_157, n3_157, o4_157, n4_157, o5_157, n5_157, q0_1_157, q0_2_157, q0_3_157, q0_4_157, q0_5_157, q1_2_157, q1_3_157, q1_4_157, q1_5_157, q2_3_157, q2_4_157, q2_5_157, q3_4_157, q3_5_157, q4_5_157, xt0_157⟩; exact ⟨vbbpg6_157, (hE157.tn t e155.size), (o0_157.tn (SlK.stab (Sc.stab _)) t), n0_157, (o1_157.tn t), n1_157, (o2_157.tn t), n2_157, (o3_157.tn t), n3_157, (o4_157.tn t), n4_157, (o5_157.tn t), n5_157, q0_1_157, q0_2_157, q0_3_157, q0_4_157, q0_5_157, q1_2_157, q1_3_157, q1_4_157, q1_5_157, q2_3_157, q2_4_157, q2_5_157, q3_4_157, q3_5_157, q4_5_157, (Tn.low t xt0_157 (lt_of_get hM156))⟩
  · rintro s156 W ⟨vbbpg6_158, hE158, o0_158, n0_158, o1_158, n1_158, o2_158, n2_158, o3_158, n3_158, o4_158, n4_158, o5_158, n5_158, q0_1_158, q0_2_158, q0_3_158, q0_4_158, q0_5_158, q1_2_158, q1_3_158, q1_4_158, q1_5_158, q2_3_158, q2_4_158, q2_5_158, q3_4_158, q3_5_158, q4_5_158, xt0_158⟩; have t := Ext.drew W; exact ⟨vbbpg6_158, (hE158.trans t), (o0_158.extL (SlK.stab (Sc.stab _)) t (Lift.ext t _)), n0_158, (o1_158.ext t), n1_158, (o2_158.ext t), n2_158, (o3_158.ext t), n3_158, (o4_158.ext t), n4_158, (o5_158.ext t), n5_158, q0_1_158, q0_2_158, q0_3_158, q0_4_158, q0_5_158, q1_2_158, q1_3_158, q1_4_158, q1_5_158, q2_3_158, q2_4_158, q2_5_158, q3_4_158, q3_5_158, q4_5_158, ((Ext.blk t _ (lt_of_get xt0_158)).trans xt0_158)⟩
  · intro l x W1 K hK; refine W_reg (by kernel_rfl) ?_; refine wla rfl rfl (q_assign (v := subW vbbpg18_142 x.1.1.toNat (x.1.1 + (x.1.2.length : Int)).toNat (x.1.1 + (x.1.2.length : Int)).toNat) rfl rfl) ?_; refine wl_nil ?_; exact hK
  · rintro l ⟨y156, hy156⟩ s156 sp156 w159 ⟨vbbpg6_159, hE159, o0_159, n0_159, o1_159, n1_159, o2_159, n2_159, o3_159, n3_159, o4_159, n4_159, o5_159, n5_159, q0_1_159, q0_2_159, q0_3_159, q0_4_159, q0_5_159, q1_2_159, q1_3_159, q1_4_159, q1_5_159, q2_3_159, q2_4_159, q2_5_159, q3_4_159, q3_5_159, q4_5_159, xt0_159⟩ H156; have kf156 := KeepsFrom.refl w143.heap.size w159; have kz156 := KeepsFrom.refl 0 w159; refine W_block ?_; refine W_drawT [1, 4, 8] [(1, 1), (2, 0), (3, 0), (4, 1), (5, 0)] (.br 0 [(6, 2), (7, 0), (8, 1), (9, 2), (10, 2), (11, 0), (12, 0), (13, 2)] .fin (.br 6 [(7, 0), (8, 1)] (.br 0 [(9, 2), (10, 2), (11, 0), (12, 0), (13, 2)] .fin (.br 9 [] (.br 0 [(10, 2), (11, 0), (12, 0), (13, 2)] .fin (.br 10 [(0, 2), (11, 0), (12, 0), (13, 2)] .fin .fin)) .fin)) .fin)) mixed (by kernel_rfl) (by kernel_rfl) (by kernel_rfl) (by kernel_rfl) ?_; have x160 := Ext.drew w159; replace o0_159 := o0_159.extL (SlK.stab (Sc.stab _)) x160 (Lift.ext x160 _); replace o1_159 := o1_159.ext x160; replace o2_159 := o2_159.ext x160; replace o3_159 := o3_159.ext x160; replace o4_159 := o4_159.ext x160; replace o5_159 := o5_159.ext x160; have k161 := kf156.ext x160; have k162 := kz156.ext x160; have e163 := hE159.trans x160; refine wsq rfl rfl rfl (q_loadB (u := (bp g6)) rfl Try.isAgg25 (by exact s6_142) o2_159 rfl) ?_; refine wsa rfl rfl rfl (q_nilP rfl rfl) ?_; refine wsa rfl rfl rfl (q_fldC (g := g6) (d := 1) rfl fieldAtC1 rfl) ?_; refine wsq rfl rfl rfl (q_loadB (u := vbbpg6_159) rfl Try.isAgg63 rfl o3_159 rfl) ?_; refine wsa rfl rfl rfl (q_move (v := (subW vbbpg18_142 y156.1.toNat (y156.1 + (y156.2.length : Int)).toNat (y156.1 + (y156.2.length : Int)).toNat)) rfl rfl) ?_; refine ws_nil ?_; refine wr_br ?_ ?_
    · refine wss rfl rfl rfl (Qt.stp (q_loadB (u := (bp g6)) rfl Try.isAgg25 (by exact s6_142) o2_159 rfl) ⟨Ext.refl _, ?_⟩); obtain ⟨r164, hr164, H156⟩ := bsi H156; refine wss rfl rfl rfl (stp_call (vs := [(subW vbbpg18_142 y156.1.toNat (y156.1 + (y156.2.length : Int)).toNat (y156.1 + (y156.2.length : Int)).toNat)]) Try.func51 rfl rfl rfl (ar1 rfl) (slices_Concat_sbytebyte_calls y156.2 (subW vbbpg18_142 y156.1.toNat (y156.1 + (y156.2.length : Int)).toNat (y156.1 + (y156.2.length : Int)).toNat) r164 _ (SlK.cut3 (L := []) (o0_159.rd (SlK.stab (Sc.stab _))) hy156.1) hr164) ?_); rintro _ w164 ⟨v164, rfl, x164, n164_0, o164_0⟩; refine ⟨_, rfl, x164, ?_⟩; have i164_0 : By w164 (vbbpg18_142 :: vbbpg6_159 :: (bp g9) :: (bp g6) :: (bp g143a) :: (bp g143b) :: L0) v164 r164 := OwK.slk (Sc.stab _) _ (OwK.scal o164_0 (v164 :: (vbbpg18_142 :: vbbpg6_159 :: (bp g9) :: (bp g6) :: (bp g143a) :: (bp g143b) :: L0))) (fun k hk => (Old.cons (Old.cons (Old.cons (Old.cons (Old.cons (Old.cons (hL0.ext e163) o5_159.ltB) o4_159.ltB) o3_159.ltB) o2_159.ltB) o1_159.ltB) o0_159.lt) k (n164_0 k hk)) (fun _ h => h.2); replace o0_159 := o0_159.extL (SlK.stab (Sc.stab _)) x164 (Lift.ext x164 _); replace o1_159 := o1_159.ext x164; replace o2_159 := o2_159.ext x164; replace o3_159 := o3_159.ext x164; replace o4_159 := o4_159.ext x164; replace o5_159 := o5_159.ext x164; have k165 := k161.ext x164; have k166 := k162.ext x164; have e167 := e163.trans x164; obtain ⟨c168, hc168, H156⟩ := bsi H156; refine wsa rfl rfl rfl (q_arrAt rfl A77 rfl i164_0 (Nat.le_of_eq (lenA_eq hc168).symm)) ?_; refine wsq rfl rfl rfl (q_loadSp rfl A77 rfl i164_0 (lenA_eq hc168) (by decide)) ?_; refine wss rfl rfl rfl (stp_litK (L := (vbbpg18_142 :: vbbpg6_159 :: (bp g9) :: (bp g6) :: (bp g143a) :: (bp g143b) :: L0)) (a := r164) rfl K63 rfl (lenA_eq hc168) ?_); intro v169 w169 o169 n169 g169 l169; refine ⟨grown_ext g169, ?_⟩; have x169 := grown_ext g169; have i169 : Ka w169 (vbbpg18_142 :: vbbpg6_159 :: (bp g9) :: (bp g6) :: (bp g143a) :: (bp g143b) :: L0) v169 [r164] := OwS.ka (vbbpg18_142 :: vbbpg6_159 :: (bp g9) :: (bp g6) :: (bp g143a) :: (bp g143b) :: L0) o169 (fun k hk => (Old.cons (Old.cons (Old.cons (Old.cons (Old.cons (Old.cons (hL0.ext e167) o5_159.ltB) o4_159.ltB) o3_159.ltB) o2_159.ltB) o1_159.ltB) o0_159.lt) k (n169 k hk)); replace i164_0 := i164_0.lift (Lift.ext x169 _); replace o0_159 := o0_159.extL (SlK.stab (Sc.stab _)) x169 (Lift.ext x169 _); replace o1_159 := o1_159.ext x169; replace o2_159 := o2_159.ext x169; replace o3_159 := o3_159.ext x169; replace o4_159 := o4_159.ext x169; replace o5_159 := o5_159.ext x169; have k170 := k165.ext x169; have k171 := k166.ext x169; have e172 := e167.trans x169; obtain ⟨c173, hc173, H156⟩ := bsi H156; refine wsc rfl (by kernel_rfl) rfl rfl (stp_appendK (v := vbbpg6_159) (u := v169) [vbbpg18_142] ((bp g9) :: (bp g6) :: (bp g143a) :: (bp g143b) :: L0) rfl K63 rfl rfl o1_159 i169 (List.cons_ne_nil _ _) hc173 ?_)
      intro v173 w173 o173 g173 nx173 l173; have k174 := k170.own g173 o1_159.cl; have k175 := k171.own g173 o1_159.cl; replace i164_0 := i164_0.lift l173; replace i169 := i169.lift l173; have q176 : Nq vbbpg18_142 v173 := o0_159.nxt q0_1_159 nx173; have q177 : Nq (bp g9) v173 := o2_159.nxt q1_2_159.symm nx173; have q178 : Nq (bp g6) v173 := o3_159.nxt q1_3_159.symm nx173; have q179 : Nq (bp g143a) v173 := o4_159.nxt q1_4_159.symm nx173; have q180 : Nq (bp g143b) v173 := o5_159.nxt q1_5_159.symm nx173; replace o0_159 := o0_159.other (SlK.stab (Sc.stab _)) g173 q0_1_159 l173; replace o2_159 := o2_159.other g173 q1_2_159.symm; replace o3_159 := o3_159.other g173 q1_3_159.symm; replace o4_159 := o4_159.other g173 q1_4_159.symm; replace o5_159 := o5_159.other g173 q1_5_159.symm; have e181 := e172.grown g173 n1_159; have n182 := Nw.nxt e172 n1_159 nx173; refine wsa rfl rfl rfl (q_nilP rfl rfl) ?_; refine wsa rfl rfl rfl (q_fldC (g := g6) (d := 1) rfl fieldAtC1 rfl) ?_; refine wsn rfl (by kernel_rfl) rfl rfl (stp_storeCs (ks' := v173) [vbbpg18_142, v173, (bp g9)] ((bp g143a) :: (bp g143b) :: L0) rfl rfl rfl o3_159 (OwS.oc o173) ?_); intro w183 o183 g183 l183; have k184 := k174.own g183 o3_159.cl; have k185 := k175.own g183 o3_159.cl; replace i164_0 := i164_0.lift l183; replace i169 := i169.lift l183; replace o0_159 := o0_159.other (SlK.stab (Sc.stab _)) g183 q0_3_159 l183; replace o173 := o173.other g183 q178.symm; replace o2_159 := o2_159.other g183 q2_3_159; replace o4_159 := o4_159.other g183 q3_4_159.symm; replace o5_159 := o5_159.other g183 q3_5_159.symm; have e186 := e181.grown g183 n3_159; refine ws_nil ?_; refine wt_fin ?_; refine bk_n ?_; obtain rfl := osi H156; exact ⟨k184, ⟨o4_159, o5_159, (o0_159.rd (SlK.stab (Sc.stab _)))⟩, v173, e186, o0_159, n0_159, o173, n182, o2_159, n2_159, o183, n3_159, o4_159, n4_159, o5_159, n5_159, q176, q0_2_159, q0_3_159, q0_4_159, q0_5_159, q177.symm, q178.symm, q179.symm, q180.symm, q2_3_159, q2_4_159, q2_5_159, q3_4_159, q3_5_159, q4_5_159, (k185.same D33 _ (Nat.zero_le _) xt0_159 rfl)⟩
    refine wr_br ?_ ?_
    · obtain ⟨r164, hr164, H156⟩ := bsi H156; refine wss rfl rfl rfl (stp_call (vs := [(subW vbbpg18_142 y156.1.toNat (y156.1 + (y156.2.length : Int)).toNat (y156.1 + (y156.2.length : Int)).toNat)]) Try.func51 rfl rfl rfl (ar1 rfl) (slices_Concat_sbytebyte_calls y156.2 (subW vbbpg18_142 y156.1.toNat (y156.1 + (y156.2.length : Int)).toNat (y156.1 + (y156.2.length : Int)).toNat) r164 _ (SlK.cut3 (L := []) (o0_159.rd (SlK.stab (Sc.stab _))) hy156.1) hr164) ?_); rintro _ w164 ⟨v164, rfl, x164, n164_0, o164_0⟩; refine ⟨_, rfl, x164, ?_⟩; have i164_0 : By w164 (vbbpg18_142 :: vbbpg6_159 :: (bp g9) :: (bp g6) :: (bp g143a) :: (bp g143b) :: L0) v164 r164 := OwK.slk (Sc.stab _) _ (OwK.scal o164_0 (v164 :: (vbbpg18_142 :: vbbpg6_159 :: (bp g9) :: (bp g6) :: (bp g143a) :: (bp g143b) :: L0))) (fun k hk => (Old.cons (Old.cons (Old.cons (Old.cons (Old.cons (Old.cons (hL0.ext e163) o5_159.ltB) o4_159.ltB) o3_159.ltB) o2_159.ltB) o1_159.ltB) o0_159.lt) k (n164_0 k hk)) (fun _ h => h.2); replace o0_159 := o0_159.extL (SlK.stab (Sc.stab _)) x164 (Lift.ext x164 _); replace o1_159 := o1_159.ext x164; replace o2_159 := o2_159.ext x164; replace o3_159 := o3_159.ext x164; replace o4_159 := o4_159.ext x164; replace o5_159 := o5_159.ext x164; have k165 := k161.ext x164; have k166 := k162.ext x164; have e167 := e163.trans x164; obtain ⟨c168, hc168, H156⟩ := bsi H156; refine wsa rfl rfl rfl (q_arrAt rfl A77 rfl i164_0 (Nat.le_of_eq (lenA_eq hc168).symm)) ?_; refine wsq rfl rfl rfl (q_loadSp rfl A77 rfl i164_0 (lenA_eq hc168) (by decide)) ?_; refine ws_nil ?_; refine wt_br ?_; refine wr_br ?_ ?_
      · refine wss rfl rfl rfl (Qt.stp (q_loadB (u := (bp g6)) rfl Try.isAgg25 (by exact s6_142) o2_159 rfl) ⟨Ext.refl _, ?_⟩); refine wss rfl rfl rfl (stp_litK (L := (vbbpg18_142 :: vbbpg6_159 :: (bp g9) :: (bp g6) :: (bp g143a) :: (bp g143b) :: L0)) (a := r164) rfl K63 rfl (lenA_eq hc168) ?_); intro v169 w169 o169 n169 g169 l169; refine ⟨grown_ext g169, ?_⟩; have x169 := grown_ext g169; have i169 : Ka w169 (vbbpg18_142 :: vbbpg6_159 :: (bp g9) :: (bp g6) :: (bp g143a) :: (bp g143b) :: L0) v169 [r164] := OwS.ka (vbbpg18_142 :: vbbpg6_159 :: (bp g9) :: (bp g6) :: (bp g143a) :: (bp g143b) :: L0) o169 (fun k hk => (Old.cons (Old.cons (Old.cons (Old.cons (Old.cons (Old.cons (hL0.ext e167) o5_159.ltB) o4_159.ltB) o3_159.ltB) o2_159.ltB) o1_159.ltB) o0_159.lt) k (n169 k hk)); replace i164_0 := i164_0.lift (Lift.ext x169 _); replace o0_159 := o0_159.extL (SlK.stab (Sc.stab _)) x169 (Lift.ext x169 _); replace o1_159 := o1_159.ext x169; replace o2_159 := o2_159.ext x169; replace o3_159 := o3_159.ext x169; replace o4_159 := o4_159.ext x169; replace o5_159 := o5_159.ext x169; have k170 := k165.ext x169; have k171 := k166.ext x169; have e172 := e167.trans x169; obtain ⟨c173, hc173, H156⟩ := bsi H156; refine wsc rfl (by kernel_rfl) rfl rfl (stp_appendK (v := vbbpg6_159) (u := v169) [vbbpg18_142] ((bp g9) :: (bp g6) :: (bp g143a) :: (bp g143b) :: L0) rfl K63 rfl rfl o1_159 i169 (List.cons_ne_nil _ _) hc173 ?_); intro v173 w173 o173 g173 nx173 l173; have k174 := k170.own g173 o1_159.cl; have k175 := k171.own g173 o1_159.cl; replace i164_0 := i164_0.lift l173; replace i169 := i169.lift l173; have q176 : Nq vbbpg18_142 v173 := o0_159.nxt q0_1_159 nx173; have q177 : Nq (bp g9) v173 := o2_159.nxt q1_2_159.symm nx173; have q178 : Nq (bp g6) v173 := o3_159.nxt q1_3_159.symm nx173; have q179 : Nq (bp g143a) v173 := o4_159.nxt q1_4_159.symm nx173; have q180 : Nq (bp g143b) v173 := o5_159.nxt q1_5_159.symm nx173; replace o0_159 := o0_159.other (SlK.stab (Sc.stab _)) g173 q0_1_159 l173; replace o2_159 := o2_159.other g173 q1_2_159.symm; replace o3_159 := o3_159.other g173 q1_3_159.symm; replace o4_159 := o4_159.other g173 q1_4_159.symm; replace o5_159 := o5_159.other g173 q1_5_159.symm; have e181 := e172.grown g173 n1_159; have n182 := Nw.nxt e172 n1_159 nx173; refine wsa rfl rfl rfl (q_nilP rfl rfl) ?_; refine wsa rfl rfl rfl (q_fldC (g := g6) (d := 1) rfl fieldAtC1 rfl) ?_; refine wsn rfl (by kernel_rfl) rfl rfl (stp_storeCs (ks' := v173) [vbbpg18_142, v173, (bp g9)] ((bp g143a) :: (bp g143b) :: L0) rfl rfl rfl o3_159 (OwS.oc o173) ?_); intro w183 o183 g183 l183; have k184 := k174.own g183 o3_159.cl; have k185 := k175.own g183 o3_159.cl; replace i164_0 := i164_0.lift l183; replace i169 := i169.lift l183; replace o0_159 := o0_159.other (SlK.stab (Sc.stab _)) g183 q0_3_159 l183; replace o173 := o173.other g183 q178.symm; replace o2_159 := o2_159.other g183 q2_3_159; replace o4_159 := o4_159.other g183 q3_4_159.symm; replace o5_159 := o5_159.other g183 q3_5_159.symm
        have e186 := e181.grown g183 n3_159; refine ws_nil ?_; refine wt_fin ?_; refine bk_n ?_; obtain rfl := osi H156; exact ⟨k184, ⟨o4_159, o5_159, (o0_159.rd (SlK.stab (Sc.stab _)))⟩, v173, e186, o0_159, n0_159, o173, n182, o2_159, n2_159, o183, n3_159, o4_159, n4_159, o5_159, n5_159, q176, q0_2_159, q0_3_159, q0_4_159, q0_5_159, q177.symm, q178.symm, q179.symm, q180.symm, q2_3_159, q2_4_159, q2_5_159, q3_4_159, q3_5_159, q4_5_159, (k185.same D33 _ (Nat.zero_le _) xt0_159 rfl)⟩
      refine wr_br ?_ ?_
      · refine wss rfl rfl rfl (stp_litK (L := (vbbpg18_142 :: vbbpg6_159 :: (bp g9) :: (bp g6) :: (bp g143a) :: (bp g143b) :: L0)) (a := r164) rfl K63 rfl (lenA_eq hc168) ?_); intro v169 w169 o169 n169 g169 l169; refine ⟨grown_ext g169, ?_⟩; have x169 := grown_ext g169; have i169 : Ka w169 (vbbpg18_142 :: vbbpg6_159 :: (bp g9) :: (bp g6) :: (bp g143a) :: (bp g143b) :: L0) v169 [r164] := OwS.ka (vbbpg18_142 :: vbbpg6_159 :: (bp g9) :: (bp g6) :: (bp g143a) :: (bp g143b) :: L0) o169 (fun k hk => (Old.cons (Old.cons (Old.cons (Old.cons (Old.cons (Old.cons (hL0.ext e167) o5_159.ltB) o4_159.ltB) o3_159.ltB) o2_159.ltB) o1_159.ltB) o0_159.lt) k (n169 k hk)); replace i164_0 := i164_0.lift (Lift.ext x169 _); replace o0_159 := o0_159.extL (SlK.stab (Sc.stab _)) x169 (Lift.ext x169 _); replace o1_159 := o1_159.ext x169; replace o2_159 := o2_159.ext x169; replace o3_159 := o3_159.ext x169; replace o4_159 := o4_159.ext x169; replace o5_159 := o5_159.ext x169; have k170 := k165.ext x169; have k171 := k166.ext x169; have e172 := e167.trans x169; refine ws_nil ?_; refine wt_br ?_; refine wr_br ?_ ?_
        · refine wss rfl rfl rfl (Qt.stp (q_loadB (u := (bp g6)) rfl Try.isAgg25 (by exact s6_142) o2_159 rfl) ⟨Ext.refl _, ?_⟩); obtain ⟨c173, hc173, H156⟩ := bsi H156; refine wsc rfl (by kernel_rfl) rfl rfl (stp_appendK (v := vbbpg6_159) (u := v169) [vbbpg18_142] ((bp g9) :: (bp g6) :: (bp g143a) :: (bp g143b) :: L0) rfl K63 rfl rfl o1_159 i169 (List.cons_ne_nil _ _) hc173 ?_); intro v173 w173 o173 g173 nx173 l173; have k174 := k170.own g173 o1_159.cl; have k175 := k171.own g173 o1_159.cl; replace i164_0 := i164_0.lift l173; replace i169 := i169.lift l173; have q176 : Nq vbbpg18_142 v173 := o0_159.nxt q0_1_159 nx173; have q177 : Nq (bp g9) v173 := o2_159.nxt q1_2_159.symm nx173; have q178 : Nq (bp g6) v173 := o3_159.nxt q1_3_159.symm nx173; have q179 : Nq (bp g143a) v173 := o4_159.nxt q1_4_159.symm nx173; have q180 : Nq (bp g143b) v173 := o5_159.nxt q1_5_159.symm nx173; replace o0_159 := o0_159.other (SlK.stab (Sc.stab _)) g173 q0_1_159 l173; replace o2_159 := o2_159.other g173 q1_2_159.symm; replace o3_159 := o3_159.other g173 q1_3_159.symm; replace o4_159 := o4_159.other g173 q1_4_159.symm; replace o5_159 := o5_159.other g173 q1_5_159.symm; have e181 := e172.grown g173 n1_159; have n182 := Nw.nxt e172 n1_159 nx173; refine wsa rfl rfl rfl (q_nilP rfl rfl) ?_; refine wsa rfl rfl rfl (q_fldC (g := g6) (d := 1) rfl fieldAtC1 rfl) ?_; refine wsn rfl (by kernel_rfl) rfl rfl (stp_storeCs (ks' := v173) [vbbpg18_142, v173, (bp g9)] ((bp g143a) :: (bp g143b) :: L0) rfl rfl rfl o3_159 (OwS.oc o173) ?_); intro w183 o183 g183 l183; have k184 := k174.own g183 o3_159.cl; have k185 := k175.own g183 o3_159.cl; replace i164_0 := i164_0.lift l183; replace i169 := i169.lift l183; replace o0_159 := o0_159.other (SlK.stab (Sc.stab _)) g183 q0_3_159 l183; replace o173 := o173.other g183 q178.symm; replace o2_159 := o2_159.other g183 q2_3_159; replace o4_159 := o4_159.other g183 q3_4_159.symm; replace o5_159 := o5_159.other g183 q3_5_159.symm; have e186 := e181.grown g183 n3_159; refine ws_nil ?_; refine wt_fin ?_; refine bk_n ?_; obtain rfl := osi H156; exact ⟨k184, ⟨o4_159, o5_159, (o0_159.rd (SlK.stab (Sc.stab _)))⟩, v173, e186, o0_159, n0_159, o173, n182, o2_159, n2_159, o183, n3_159, o4_159, n4_159, o5_159, n5_159, q176, q0_2_159, q0_3_159, q0_4_159, q0_5_159, q177.symm, q178.symm, q179.symm, q180.symm, q2_3_159, q2_4_159, q2_5_159, q3_4_159, q3_5_159, q4_5_159, (k185.same D33 _ (Nat.zero_le _) xt0_159 rfl)⟩
        refine wr_br ?_ ?_
        · obtain ⟨c173, hc173, H156⟩ := bsi H156; refine wsc rfl (by kernel_rfl) rfl rfl (stp_appendK (v := vbbpg6_159) (u := v169) [vbbpg18_142] ((bp g9) :: (bp g6) :: (bp g143a) :: (bp g143b) :: L0) rfl K63 rfl rfl o1_159 i169 (List.cons_ne_nil _ _) hc173 ?_); intro v173 w173 o173 g173 nx173 l173; have k174 := k170.own g173 o1_159.cl; have k175 := k171.own g173 o1_159.cl; replace i164_0 := i164_0.lift l173; replace i169 := i169.lift l173; have q176 : Nq vbbpg18_142 v173 := o0_159.nxt q0_1_159 nx173; have q177 : Nq (bp g9) v173 := o2_159.nxt q1_2_159.symm nx173; have q178 : Nq (bp g6) v173 := o3_159.nxt q1_3_159.symm nx173; have q179 : Nq (bp g143a) v173 := o4_159.nxt q1_4_159.symm nx173; have q180 : Nq (bp g143b) v173 := o5_159.nxt q1_5_159.symm nx173; replace o0_159 := o0_159.other (SlK.stab (Sc.stab _)) g173 q0_1_159 l173; replace o2_159 := o2_159.other g173 q1_2_159.symm; replace o3_159 := o3_159.other g173 q1_3_159.symm; replace o4_159 := o4_159.other g173 q1_4_159.symm; replace o5_159 := o5_159.other g173 q1_5_159.symm; have e181 := e172.grown g173 n1_159; have n182 := Nw.nxt e172 n1_159 nx173; refine wss rfl rfl rfl (Qt.stp (q_loadB (u := (bp g6)) rfl Try.isAgg25 (by exact s6_142) o2_159 rfl) ⟨Ext.refl _, ?_⟩); refine wsa rfl rfl rfl (q_nilP rfl rfl) ?_; refine wsa rfl rfl rfl (q_fldC (g := g6) (d := 1) rfl fieldAtC1 rfl) ?_; refine wsn rfl (by kernel_rfl) rfl rfl (stp_storeCs (ks' := v173) [vbbpg18_142, v173, (bp g9)] ((bp g143a) :: (bp g143b) :: L0) rfl rfl rfl o3_159 (OwS.oc o173) ?_); intro w183 o183 g183 l183; have k184 := k174.own g183 o3_159.cl; have k185 := k175.own g183 o3_159.cl; replace i164_0 := i164_0.lift l183; replace i169 := i169.lift l183; replace o0_159 := o0_159.other (SlK.stab (Sc.stab _)) g183 q0_3_159 l183; replace o173 := o173.other g183 q178.symm; replace o2_159 := o2_159.other g183 q2_3_159; replace o4_159 := o4_159.other g183 q3_4_159.symm; replace o5_159 := o5_159.other g183 q3_5_159.symm; have e186 := e181.grown g183 n3_159; refine ws_nil ?_; refine wt_fin ?_; refine bk_n ?_; obtain rfl := osi H156; exact ⟨k184, ⟨o4_159, o5_159, (o0_159.rd (SlK.stab (Sc.stab _)))⟩, v173, e186, o0_159, n0_159, o173, n182, o2_159, n2_159, o183, n3_159, o4_159, n4_159, o5_159, n5_159, q176, q0_2_159, q0_3_159, q0_4_159, q0_5_159, q177.symm, q178.symm, q179.symm, q180.symm, q2_3_159, q2_4_159, q2_5_159, q3_4_159, q3_5_159, q4_5_159, (k185.same D33 _ (Nat.zero_le _) xt0_159 rfl)⟩
        trivial
      trivial
    trivial
  intro D156 w187 hD156 ⟨vbbpg6_187, hE187, o0_187, n0_187, o1_187, n1_187, o2_187, n2_187, o3_187, n3_187, o4_187, n4_187, o5_187, n5_187, q0_1_187, q0_2_187, q0_3_187, q0_4_187, q0_5_187, q1_2_187, q1_3_187, q1_4_187, q1_5_187, q2_3_187, q2_4_187, q2_5_187, q3_4_187, q3_5_187, q4_5_187, xt0_187⟩ hK156; have hd156 := Nat.le_trans e155.size hD156; have kd156 := KeepsFrom.refl 0 w187; have hne156 : D156 ≠ D33 := Nat.ne_of_gt (Nat.lt_of_lt_of_le (lt_of_get hM156) hD156); refine bk_n ?_; refine W_th ?_; refine W_seq ?_; refine W_reg (by kernel_rfl) ?_; refine wlq rfl rfl (q_loadB (u := (bp g6)) rfl Try.isAgg25 (by exact s6_142) o2_187 rfl) ?_; refine wla rfl rfl (q_assign (v := (bp g6)) rfl rfl) ?_; refine wla rfl rfl (q_assign (v := (i64 0)) rfl rfl) ?_; refine wl_nil ?_; refine W_th ?_; refine W_ret ?_; obtain ⟨c189, hc189, H⟩ := bsi H; obtain ⟨c188, hc188, H⟩ := bsi H; obtain rfl := osi H; have hk190 := kd156.same D156 _ (Nat.zero_le _) hK156 rfl; have t190 := Tn.put hk190 hd156 (.deferred none); have hk190b := kd156.same D33 _ (Nat.zero_le _) xt0_187 rfl; have t190b := Tn.put2 hk190 hk190b hne156 hd33 (.deferred none) (.deferred none); refine rtmm2 (bp g6) (i64 0) rfl rfl rfl rfl rfl rfl hne156 hk190 hk190b ?_; exact ⟨(bp g6), rfl, ((hE187.tn t190 (Nat.le_refl _)).tn t190b (Nat.le_refl _)), (Ci.mk ((o3_187.tn t190).tn t190b) (hL0 _ (n3_187 _ (hs_bp' _))) (((hp0.lift (Lift.ext hE187 _)).tn t190).tn t190b) (OwS.ka L0 ((o1_187.tn t190).tn t190b) (fun k hk => hL0 k (n1_187 k hk))) (lenA_eq hc189) (lenA_eq hc188))⟩
end Gk

/- A range over a function of two values, whose assignments may lay new blocks. No condition. -/
set_option linter.unusedVariables false
set_option linter.unusedSimpArgs false
namespace Gk
open Go Go.RowKit
section
variable {P : Program} {n : Nat} {Q : Exit → (Nat → Value) → World → Prop} {f : Nat → Value} {w : World}
end
end Gk

/- slices.Backward over arrays of sixteen bytes: what it hands back, and its iterator's contract. No condition. -/
set_option linter.unusedVariables false
set_option linter.unusedSimpArgs false
namespace Gk
open Go Go.Proofs Go.RowKit
end Gk

/- Printed by gen.py: for each Go function a pure function, and that the Go code comes to it. No condition beside the equation that says what the pure function gives. -/
set_option linter.unusedVariables false
set_option linter.unusedSimpArgs false
namespace Gk
open Go Go.Proofs
end Gk

/- Printed by gen.py: for each Go function a pure function, and that the Go code comes to it. No condition beside the equation that says what the pure function gives. -/
set_option linter.unusedVariables false
set_option linter.unusedSimpArgs false
namespace Gk
open Go Go.Proofs
noncomputable def ref05_Box (a0x : UInt8) : Option UInt8 :=
((ref02_Inv a0x).bind fun r1 =>
((iterC (fun s3 : UInt8 × Int =>
(if s3.2 < 8 then
((cnt s3.2).bind fun c8 =>
((remI ((wI (s3.2 + 4))) 8).bind fun c9 =>
((cnt c9).bind fun c10 =>
((remI ((wI (s3.2 + 5))) 8).bind fun c11 =>
((cnt c11).bind fun c12 =>
((remI ((wI (s3.2 + 6))) 8).bind fun c13 =>
((cnt c13).bind fun c14 =>
((remI ((wI (s3.2 + 7))) 8).bind fun c15 =>
((cnt c15).bind fun c16 =>
((cnt s3.2).bind fun c17 =>
((cnt s3.2).bind fun c18 => some (.inl ((s3.1 ||| (shl8 ((((((((shr8 r1 c8) &&& (1 : UInt8)) ^^^ ((shr8 r1 c10) &&& (1 : UInt8))) ^^^ ((shr8 r1 c12) &&& (1 : UInt8))) ^^^ ((shr8 r1 c14) &&& (1 : UInt8))) ^^^ ((shr8 r1 c16) &&& (1 : UInt8))) ^^^ ((shr8 ((99 : UInt8)) c17) &&& (1 : UInt8)))) c18)), (wI (s3.2 + 1)))))))))))))))
else some (.inr s3.1))) ((0 : UInt8), 0)).bind fun x3 => some x3))
set_option maxRecDepth 100000 in
set_option maxHeartbeats 8000000 in
theorem ref05_Box_calls (a0x : UInt8) (r : UInt8) (w0 : World) (H : ref05_Box a0x = some r) :
    Calls Try.prog 59 [(u8 a0x)].toArray w0 (fun e w' => e = .returned (u8 r) ∧ Ext w0 w') := by
  have hE : Ext w0 w0 := Ext.refl w0; unfold ref05_Box at H; refine calls_W (n := 55) Try.func59 rfl rfl rfl ?_; refine W_seq ?_; refine W_reg (by kernel_rfl) ?_; refine wla rfl rfl (q_assign (v := (u8 0)) rfl (cst8 (0 : UInt8) rfl)) ?_; refine wl_nil ?_; refine W_th ?_; refine W_seq ?_; refine W_reg (by kernel_rfl) ?_; refine wla rfl rfl (q_move (v := (u8 a0x)) rfl rfl) ?_; obtain ⟨r1, hr1, H⟩ := bsi H; refine wls rfl rfl (stp_call (vs := [(u8 a0x)]) Try.func78 rfl rfl rfl (ar1 rfl) (ref02_Inv_calls a0x  r1 _  hr1) ?_); rintro _ w1 ⟨rfl, x1⟩; refine ⟨_, rfl, ?_⟩; have e2 := hE.trans x1; refine wla rfl rfl (q_assign (v := (u8 r1)) rfl rfl) ?_; refine wl_nil ?_; refine W_th ?_; refine W_seq ?_; refine W_reg (by kernel_rfl) ?_; refine wla rfl rfl (q_assign (v := (u8 0)) rfl (cst8 (0 : UInt8) rfl)) ?_; refine wl_nil ?_; refine W_th ?_; refine W_seq ?_; refine W_seq ?_; refine W_reg (by kernel_rfl) ?_; refine wla rfl rfl (q_assign (v := (i64 0)) rfl rfl) ?_; refine wl_nil ?_; refine W_th ?_; obtain ⟨x3, G3, H⟩ := bsi H; refine W_mid (fun f w => f 4 = (u8 x3) ∧ f 55 = undef ∧ Ext w0 w) ?_ ?_
  · refine W_block ?_; refine W_loop (fun s3 f w => f 3 = (u8 r1) ∧ f 4 = (u8 s3.1) ∧ f 5 = (i64 s3.2) ∧ f 55 = undef ∧ Ext w0 w) G3 ?_ ?_
    · exact ⟨rfl, rfl, rfl, rfl, e2⟩
    rintro s3 _ _ w4 ⟨s3_4, s4_4, s5_4, s55_4, hE4⟩ H3 hr3; refine W_seq ?_; refine W_seq ?_; refine W_reg (by kernel_rfl) ?_; refine wla rfl rfl (q_move (v := (i64 s3.2)) rfl s5_4) ?_; refine wla rfl rfl (q_ltI rfl rfl rfl) ?_; refine wl_nil ?_; refine W_th ?_; refine W_cond _ rfl rfl (fun hb5 => ?_) (fun hb5 => ?_)
    · replace H3 := (if_pos (of_decide_eq_true hb5)).symm.trans H3; refine W_skip ?_; refine W_th ?_; refine W_seq ?_; refine W_block ?_; refine W_seq ?_; refine W_draw [] [(0, 0), (1, 0), (2, 0), (3, 0), (4, 0), (5, 0), (6, 0), (7, 0), (8, 0), (9, 0), (10, 0), (11, 0), (12, 0), (13, 0), (14, 0), (15, 0), (16, 0), (17, 0), (18, 0), (19, 0), (20, 0), (21, 0), (22, 0), (23, 0), (24, 0), (25, 0), (26, 0), (27, 0), (28, 0), (29, 0), (30, 0), (31, 0), (32, 0), (33, 0), (34, 0), (35, 0), (36, 0)] mixed (by kernel_rfl) (by kernel_rfl) (by kernel_rfl) (by kernel_rfl) ?_; have x6 := Ext.drew w4; have e7 := hE4.trans x6; refine wsa rfl rfl rfl (q_move (v := (u8 r1)) rfl s3_4) ?_; refine wsa rfl rfl rfl (q_move (v := (i64 s3.2)) rfl s5_4) ?_; obtain ⟨c8, hc8, H3⟩ := bsi H3; refine wsa rfl rfl rfl (q_shr8 c8 rfl rfl rfl (cnt_eq hc8)) ?_; refine wsa rfl rfl rfl (q_and8 rfl rfl (cst8 (1 : UInt8) rfl)) ?_; refine wsa rfl rfl rfl (q_move (v := (u8 r1)) rfl s3_4) ?_; refine wsa rfl rfl rfl (q_move (v := (i64 s3.2)) rfl s5_4) ?_; refine wsa rfl rfl rfl (q_addI rfl rfl rfl) ?_; obtain ⟨c9, hc9, H3⟩ := bsi H3; refine wsa rfl rfl rfl (q_remI rfl rfl rfl hc9) ?_; obtain ⟨c10, hc10, H3⟩ := bsi H3; refine wsa rfl rfl rfl (q_shr8 c10 rfl rfl rfl (cnt_eq hc10)) ?_; refine wsa rfl rfl rfl (q_and8 rfl rfl (cst8 (1 : UInt8) rfl)) ?_; refine wsa rfl rfl rfl (q_xor8 rfl rfl rfl) ?_; refine wsa rfl rfl rfl (q_move (v := (u8 r1)) rfl s3_4) ?_; refine wsa rfl rfl rfl (q_move (v := (i64 s3.2)) rfl s5_4) ?_; refine wsa rfl rfl rfl (q_addI rfl rfl rfl) ?_; obtain ⟨c11, hc11, H3⟩ := bsi H3; refine wsa rfl rfl rfl (q_remI rfl rfl rfl hc11) ?_; obtain ⟨c12, hc12, H3⟩ := bsi H3; refine wsa rfl rfl rfl (q_shr8 c12 rfl rfl rfl (cnt_eq hc12)) ?_; refine wsa rfl rfl rfl (q_and8 rfl rfl (cst8 (1 : UInt8) rfl)) ?_; refine wsa rfl rfl rfl (q_xor8 rfl rfl rfl) ?_; refine wsa rfl rfl rfl (q_move (v := (u8 r1)) rfl s3_4) ?_; refine wsa rfl rfl rfl (q_move (v := (i64 s3.2)) rfl s5_4) ?_; refine wsa rfl rfl rfl (q_addI rfl rfl rfl) ?_; obtain ⟨c13, hc13, H3⟩ := bsi H3; refine wsa rfl rfl rfl (q_remI rfl rfl rfl hc13) ?_; obtain ⟨c14, hc14, H3⟩ := bsi H3; refine wsa rfl rfl rfl (q_shr8 c14 rfl rfl rfl (cnt_eq hc14)) ?_; refine wsa rfl rfl rfl (q_and8 rfl rfl (cst8 (1 : UInt8) rfl)) ?_; refine wsa rfl rfl rfl (q_xor8 rfl rfl rfl) ?_; refine wsa rfl rfl rfl (q_move (v := (u8 r1)) rfl s3_4) ?_; refine wsa rfl rfl rfl (q_move (v := (i64 s3.2)) rfl s5_4) ?_; refine wsa rfl rfl rfl (q_addI rfl rfl rfl) ?_; obtain ⟨c15, hc15, H3⟩ := bsi H3; refine wsa rfl rfl rfl (q_remI rfl rfl rfl hc15) ?_; obtain ⟨c16, hc16, H3⟩ := bsi H3; refine wsa rfl rfl rfl (q_shr8 c16 rfl rfl rfl (cnt_eq hc16)) ?_; refine wsa rfl rfl rfl (q_and8 rfl rfl (cst8 (1 : UInt8) rfl)) ?_; refine wsa rfl rfl rfl (q_xor8 rfl rfl rfl) ?_; refine wsa rfl rfl rfl (q_move (v := (i64 s3.2)) rfl s5_4) ?_
      obtain ⟨c17, hc17, H3⟩ := bsi H3; refine wsa rfl rfl rfl (q_shr8 c17 rfl (cst8 (99 : UInt8) rfl) rfl (cnt_eq hc17)) ?_; refine wsa rfl rfl rfl (q_and8 rfl rfl (cst8 (1 : UInt8) rfl)) ?_; refine wsa rfl rfl rfl (q_xor8 rfl rfl rfl) ?_; refine wsa rfl rfl rfl (q_assign (v := (u8 ((((((((shr8 r1 c8) &&& (1 : UInt8)) ^^^ ((shr8 r1 c10) &&& (1 : UInt8))) ^^^ ((shr8 r1 c12) &&& (1 : UInt8))) ^^^ ((shr8 r1 c14) &&& (1 : UInt8))) ^^^ ((shr8 r1 c16) &&& (1 : UInt8))) ^^^ ((shr8 ((99 : UInt8)) c17) &&& (1 : UInt8)))))) rfl rfl) ?_; refine ws_nil ?_; refine W_th ?_; refine W_reg (by kernel_rfl) ?_; refine wla rfl rfl (q_move (v := (u8 s3.1)) rfl s4_4) ?_; refine wla rfl rfl (q_move (v := (u8 ((((((((shr8 r1 c8) &&& (1 : UInt8)) ^^^ ((shr8 r1 c10) &&& (1 : UInt8))) ^^^ ((shr8 r1 c12) &&& (1 : UInt8))) ^^^ ((shr8 r1 c14) &&& (1 : UInt8))) ^^^ ((shr8 r1 c16) &&& (1 : UInt8))) ^^^ ((shr8 ((99 : UInt8)) c17) &&& (1 : UInt8)))))) rfl rfl) ?_; refine wla rfl rfl (q_move (v := (i64 s3.2)) rfl s5_4) ?_; obtain ⟨c18, hc18, H3⟩ := bsi H3; refine wla rfl rfl (q_shl8 c18 rfl rfl rfl (cnt_eq hc18)) ?_; refine wla rfl rfl (q_or8 rfl rfl rfl) ?_; refine wla rfl rfl (q_assign (v := (u8 ((s3.1 ||| (shl8 ((((((((shr8 r1 c8) &&& (1 : UInt8)) ^^^ ((shr8 r1 c10) &&& (1 : UInt8))) ^^^ ((shr8 r1 c12) &&& (1 : UInt8))) ^^^ ((shr8 r1 c14) &&& (1 : UInt8))) ^^^ ((shr8 r1 c16) &&& (1 : UInt8))) ^^^ ((shr8 ((99 : UInt8)) c17) &&& (1 : UInt8)))) c18))))) rfl rfl) ?_; refine wl_nil ?_; refine bk_n ?_; refine W_th ?_; refine W_reg (by kernel_rfl) ?_; refine wla rfl rfl (q_move (v := (i64 s3.2)) rfl s5_4) ?_; refine wla rfl rfl (q_addI rfl rfl rfl) ?_; refine wla rfl rfl (q_assign (v := (i64 ((wI (s3.2 + 1))))) rfl rfl) ?_; refine wl_nil ?_; obtain rfl := osi H3; exact ⟨_, rfl, s3_4, rfl, rfl, s55_4, e7⟩
    replace H3 := (if_neg (of_decide_eq_false hb5)).symm.trans H3; refine W_exit ?_; refine th_x ?_; obtain rfl := osi H3; obtain rfl := hr3 _ rfl; refine th_x ?_; refine bk_x ?_; exact ⟨s4_4, s55_4, hE4⟩
  rintro _ w20 ⟨s4_20, s55_20, hE20⟩; refine W_th ?_; refine W_seq ?_; refine W_reg (by kernel_rfl) ?_; refine wla rfl rfl (q_move (v := (u8 x3)) rfl s4_20) ?_; refine wla rfl rfl (q_assign (v := (u8 x3)) rfl rfl) ?_; refine wl_nil ?_; refine W_th ?_; refine W_ret ?_; obtain rfl := osi H; refine rt1 (u8 x3) rfl rfl rfl s55_20 ?_; exact ⟨rfl, hE20⟩
noncomputable def ref05_Keys (a0key : List UInt8) : Option (List UInt8) :=
((divI ((a0key.length : Int)) 4).bind fun c1 =>
((appL (([] : List UInt8)) a0key).bind fun c5 =>
((iterC (fun s8 : List UInt8 × UInt8 × Int =>
(if s8.2.2 < (wI (4 * (wI (c1 + 7)))) then
((idx s8.1 ((wI ((wI (4 * s8.2.2)) - 4)))).bind fun c13 =>
((idx s8.1 ((wI ((wI (4 * s8.2.2)) - 3)))).bind fun c14 =>
((idx s8.1 ((wI ((wI (4 * s8.2.2)) - 2)))).bind fun c15 =>
((idx s8.1 ((wI ((wI (4 * s8.2.2)) - 1)))).bind fun c16 =>
((((remI s8.2.2 c1).bind fun c20 =>
(if c20 = 0 then
((idx (([c13, c14, c15, c16] : List UInt8)) 1).bind fun c24 =>
((idx (([c13, c14, c15, c16] : List UInt8)) 2).bind fun c25 =>
((idx (([c13, c14, c15, c16] : List UInt8)) 3).bind fun c26 =>
((idx (([c13, c14, c15, c16] : List UInt8)) 0).bind fun c27 =>
((ref05_Box c24).bind fun r28 =>
((ref05_Box c25).bind fun r30 =>
((ref05_Box c26).bind fun r32 =>
((ref05_Box c27).bind fun r34 =>
((ref02_Mul s8.2.1 (2 : UInt8)).bind fun r38 => some (r38, ([(r28 ^^^ s8.2.1), r30, r32, r34] : List UInt8)))))))))))
else
(if c1 = 8 then
((remI s8.2.2 8).bind fun c41 =>
(if c41 = 4 then
((idx (([c13, c14, c15, c16] : List UInt8)) 0).bind fun c45 =>
((idx (([c13, c14, c15, c16] : List UInt8)) 1).bind fun c46 =>
((idx (([c13, c14, c15, c16] : List UInt8)) 2).bind fun c47 =>
((idx (([c13, c14, c15, c16] : List UInt8)) 3).bind fun c48 =>
((ref05_Box c45).bind fun r49 =>
((ref05_Box c46).bind fun r51 =>
((ref05_Box c47).bind fun r53 =>
((ref05_Box c48).bind fun r55 => some (s8.2.1, ([r49, r51, r53, r55] : List UInt8))))))))))
else some (s8.2.1, ([c13, c14, c15, c16] : List UInt8))))
else some (s8.2.1, ([c13, c14, c15, c16] : List UInt8)))))).bind fun x19 =>
((iterC (fun s60 : List UInt8 × Int =>
(if s60.2 < 4 then
((idx s60.1 ((wI ((wI (4 * (wI (s8.2.2 - c1)))) + s60.2)))).bind fun c66 =>
((idx x19.2 s60.2).bind fun c67 =>
((appL s60.1 (([(c66 ^^^ c67)] : List UInt8))).bind fun c70 => some (.inl (c70, (wI (s60.2 + 1)))))))
else some (.inr s60.1))) (s8.1, 0)).bind fun x60 => some (.inl (x60, x19.1, (wI (s8.2.2 + 1))))))))))
else some (.inr s8.1))) (c5, (1 : UInt8), c1)).bind fun x8 => some x8)))
set_option maxRecDepth 100000 in
set_option maxHeartbeats 8000000 in
theorem ref05_Keys_calls (a0key : List UInt8) (p0 : Value) (r : List UInt8) (w0 : World) (hp0 : By w0 [] p0 a0key) (H : ref05_Keys a0key = some r) :
    Calls Try.prog 58 [p0].toArray w0 (fun e w' => ∃ u0 : Value, e = .returned u0 ∧ Ext w0 w' ∧ Nw w0 u0 ∧ OwK (Sc u8) w' [] 5 u0 r) := by
  have hE : Ext w0 w0 := Ext.refl w0; unfold ref05_Keys at H; refine calls_W (n := 119) Try.func58 rfl rfl rfl ?_; refine W_seq ?_; refine W_reg (by kernel_rfl) ?_; refine wla rfl rfl (q_assign (v := (.slice none 0 0)) rfl rfl) ?_; refine wl_nil ?_; refine W_th ?_; refine W_seq ?_; refine W_reg (by kernel_rfl) ?_; refine wla rfl rfl (q_move (v := p0) rfl rfl) ?_; refine wla rfl rfl (q_len rfl T22.sl rfl (hp0.lift (Lift.ext hE _))) ?_; obtain ⟨c1, hc1, H⟩ := bsi H; refine wla rfl rfl (q_divI rfl rfl rfl hc1) ?_; refine wla rfl rfl (q_assign (v := (i64 c1)) rfl rfl) ?_; refine wl_nil ?_; refine W_th ?_; refine W_seq ?_; refine W_reg (by kernel_rfl) ?_; refine wls rfl rfl (stp_lit (L := []) (R := (Sc u8)) [] ([] : List UInt8) rfl T22 rfl (by exact trivial) rfl (litC u8 (oneC_u8) (us := []) (l := ([] : List UInt8)) rfl) rfl (litS u8 (us := []) (l := ([] : List UInt8)) rfl) ?_); intro v2 w2 o2 n2 g2 l2; have x2 := grown_ext g2; have n4 := Nw.ext hE n2; have e3 := hE.trans x2; refine wla rfl rfl (q_move (v := p0) rfl rfl) ?_; obtain ⟨c5, hc5, H⟩ := bsi H; refine wls rfl rfl (stp_append (R := (Sc u8)) (v := v2) (u := p0) (Sc.stab _) [] [] rfl T22 rfl rfl o2 (hp0.lift (Lift.ext e3 _)) (fun _ _ h => h) hc5 oc_u8 ?_); intro v5 w5 o5 g5 nx5 l5; have e6 := e3.grown g5 n4; have n7 := Nw.nxt e3 n4 nx5; refine wla rfl rfl (q_assign (v := v5) rfl rfl) ?_; refine wl_nil ?_; refine W_th ?_; refine W_seq ?_; refine W_reg (by kernel_rfl) ?_; refine wla rfl rfl (q_assign (v := (u8 1)) rfl (cst8 (1 : UInt8) rfl)) ?_; refine wl_nil ?_; refine W_th ?_; refine W_seq ?_; refine W_seq ?_; refine W_reg (by kernel_rfl) ?_; refine wla rfl rfl (q_move (v := (i64 c1)) rfl rfl) ?_; refine wla rfl rfl (q_assign (v := (i64 c1)) rfl rfl) ?_; refine wl_nil ?_; refine W_th ?_; obtain ⟨x8, G8, H⟩ := bsi H; refine W_mid (fun f w => ∃ v4_79 : Value, f 4 = v4_79 ∧ f 119 = undef ∧ Ext w0 w ∧ OwK (Sc u8) w [v4_79] 5 v4_79 x8 ∧ Nw w0 v4_79) ?_ ?_
  · refine W_block ?_; refine W_loop (fun s8 f w => ∃ v4_77 : Value, f 3 = (i64 c1) ∧ f 4 = v4_77 ∧ f 5 = (u8 s8.2.1) ∧ f 6 = (i64 s8.2.2) ∧ f 119 = undef ∧ Ext w0 w ∧ OwK (Sc u8) w [v4_77] 5 v4_77 s8.1 ∧ Nw w0 v4_77) G8 ?_ ?_
    · exact ⟨v5, rfl, rfl, rfl, rfl, rfl, e6, o5, n7⟩
    rintro s8 _ _ w9 ⟨v4_9, s3_9, s4_9, s5_9, s6_9, s119_9, hE9, o0_9, n0_9⟩ H8 hr8; refine W_seq ?_; refine W_seq ?_; refine W_reg (by kernel_rfl) ?_; refine wla rfl rfl (q_move (v := (i64 s8.2.2)) rfl s6_9) ?_; refine wla rfl rfl (q_move (v := (i64 c1)) rfl s3_9) ?_; refine wla rfl rfl (q_addI rfl rfl rfl) ?_; refine wla rfl rfl (q_mulI rfl rfl rfl) ?_; refine wla rfl rfl (q_ltI rfl rfl rfl) ?_; refine wl_nil ?_; refine W_th ?_; refine W_cond _ rfl rfl (fun hb10 => ?_) (fun hb10 => ?_)
    · replace H8 := (if_pos (of_decide_eq_true hb10)).symm.trans H8; refine W_skip ?_; refine W_th ?_; refine W_seq ?_; refine W_block ?_; refine W_seq ?_; refine W_draw [5, 11, 17, 23] [(0, 0), (1, 0), (2, 0), (3, 0), (4, 0), (5, 1), (6, 0), (7, 0), (8, 0), (9, 0), (10, 0), (11, 1), (12, 0), (13, 0), (14, 0), (15, 0), (16, 0), (17, 1), (18, 0), (19, 0), (20, 0), (21, 0), (22, 0), (23, 1), (24, 2), (25, 0)] mixed (by kernel_rfl) (by kernel_rfl) (by kernel_rfl) (by kernel_rfl) ?_; have x11 := Ext.drew w9; replace o0_9 := o0_9.extL (Sc.stab _) x11 (Lift.ext x11 _); have e12 := hE9.trans x11; refine wsa rfl rfl rfl (q_move (v := v4_9) rfl s4_9) ?_; refine wsa rfl rfl rfl (q_move (v := (i64 s8.2.2)) rfl s6_9) ?_; refine wsa rfl rfl rfl (q_mulI rfl rfl rfl) ?_; refine wsa rfl rfl rfl (q_subI rfl rfl rfl) ?_; obtain ⟨c13, hc13, H8⟩ := bsi H8; refine wsa rfl rfl rfl (q_adr rfl T22 rfl rfl (o0_9.rd (Sc.stab _)) hc13) ?_; refine wsq rfl rfl rfl (q_loadS rfl T22 rfl (o0_9.rd (Sc.stab _)) hc13) ?_; refine wsa rfl rfl rfl (q_move (v := v4_9) rfl s4_9) ?_; refine wsa rfl rfl rfl (q_move (v := (i64 s8.2.2)) rfl s6_9) ?_; refine wsa rfl rfl rfl (q_mulI rfl rfl rfl) ?_; refine wsa rfl rfl rfl (q_subI rfl rfl rfl) ?_; obtain ⟨c14, hc14, H8⟩ := bsi H8; refine wsa rfl rfl rfl (q_adr rfl T22 rfl rfl (o0_9.rd (Sc.stab _)) hc14) ?_; refine wsq rfl rfl rfl (q_loadS rfl T22 rfl (o0_9.rd (Sc.stab _)) hc14) ?_; refine wsa rfl rfl rfl (q_move (v := v4_9) rfl s4_9) ?_; refine wsa rfl rfl rfl (q_move (v := (i64 s8.2.2)) rfl s6_9) ?_; refine wsa rfl rfl rfl (q_mulI rfl rfl rfl) ?_; refine wsa rfl rfl rfl (q_subI rfl rfl rfl) ?_; obtain ⟨c15, hc15, H8⟩ := bsi H8; refine wsa rfl rfl rfl (q_adr rfl T22 rfl rfl (o0_9.rd (Sc.stab _)) hc15) ?_; refine wsq rfl rfl rfl (q_loadS rfl T22 rfl (o0_9.rd (Sc.stab _)) hc15) ?_; refine wsa rfl rfl rfl (q_move (v := v4_9) rfl s4_9) ?_; refine wsa rfl rfl rfl (q_move (v := (i64 s8.2.2)) rfl s6_9) ?_; refine wsa rfl rfl rfl (q_mulI rfl rfl rfl) ?_; refine wsa rfl rfl rfl (q_subI rfl rfl rfl) ?_; obtain ⟨c16, hc16, H8⟩ := bsi H8; refine wsa rfl rfl rfl (q_adr rfl T22 rfl rfl (o0_9.rd (Sc.stab _)) hc16) ?_; refine wsq rfl rfl rfl (q_loadS rfl T22 rfl (o0_9.rd (Sc.stab _)) hc16) ?_; refine wsc rfl (by kernel_rfl) rfl rfl (stp_lit (L := [v4_9]) (R := (Sc u8)) [(u8 c13), (u8 c14), (u8 c15), (u8 c16)] ([c13, c14, c15, c16] : List UInt8) rfl T22 rfl (by exact ⟨rfl, rfl, rfl, rfl, rfl, rfl, rfl, rfl, trivial⟩) rfl (litC u8 (oneC_u8) (us := [(u8 c13), (u8 c14), (u8 c15), (u8 c16)]) (l := ([c13, c14, c15, c16] : List UInt8)) rfl) rfl (litS u8 (us := [(u8 c13), (u8 c14), (u8 c15), (u8 c16)]) (l := ([c13, c14, c15, c16] : List UInt8)) rfl) ?_); intro v17 w17 o17 n17 g17 l17; have x17 := grown_ext g17; have i17 : By w17 [v4_9] v17 (([c13, c14, c15, c16] : List UInt8)) := OwK.slk (Sc.stab _) _ o17 (fun k hk => (Old.cons (Old.nil _) o0_9.lt) k (n17 k hk)) (fun _ h => h.2); replace o0_9 := o0_9.extL (Sc.stab _) x17 (Lift.ext x17 _)
      have e18 := e12.trans x17; refine wsa rfl rfl rfl (q_assign (v := v17) rfl rfl) ?_; refine ws_nil ?_; refine W_th ?_; refine W_seq ?_; obtain ⟨x19, H19, H8⟩ := bsi H8; refine W_mid (fun f w => ∃ v7_76 : Value, f 3 = (i64 c1) ∧ f 4 = v4_9 ∧ f 5 = (u8 x19.1) ∧ f 6 = (i64 s8.2.2) ∧ f 7 = v7_76 ∧ f 119 = undef ∧ Ext w0 w ∧ OwK (Sc u8) w [v4_9] 5 v4_9 s8.1 ∧ Nw w0 v4_9 ∧ By w [v4_9] v7_76 x19.2) ?_ ?_
      · refine W_seq ?_; refine W_reg (by kernel_rfl) ?_; refine wla rfl rfl (q_move (v := (i64 s8.2.2)) rfl s6_9) ?_; refine wla rfl rfl (q_move (v := (i64 c1)) rfl s3_9) ?_; obtain ⟨c20, hc20, H19⟩ := bsi H19; refine wla rfl rfl (q_remI rfl rfl rfl hc20) ?_; refine wla rfl rfl (q_eqI rfl rfl rfl) ?_; refine wl_nil ?_; refine W_th ?_; refine W_cond _ rfl rfl (fun hb21 => ?_) (fun hb21 => ?_)
        · replace H19 := (if_pos (of_decide_eq_true hb21)).symm.trans H19; refine W_seq ?_; refine W_draw [2, 8, 12, 16] [(0, 0), (1, 0), (2, 1), (4, 0), (6, 0), (7, 0), (8, 1), (10, 0), (11, 0), (12, 1), (14, 0), (15, 0), (16, 1), (3, 2), (5, 0), (9, 2), (13, 2), (17, 2), (18, 2), (19, 0)] mixed (by kernel_rfl) (by kernel_rfl) (by kernel_rfl) (by kernel_rfl) ?_; have x22 := Ext.drew w17; replace i17 := i17.lift (Lift.ext x22 _); replace o0_9 := o0_9.extL (Sc.stab _) x22 (Lift.ext x22 _); have e23 := e18.trans x22; refine wsa rfl rfl rfl (q_move (v := v17) rfl rfl) ?_; obtain ⟨c24, hc24, H19⟩ := bsi H19; refine wsa rfl rfl rfl (q_adr rfl T22 rfl rfl i17 hc24) ?_; refine wsq rfl rfl rfl (q_loadS rfl T22 rfl i17 hc24) ?_; refine wsa rfl rfl rfl (q_move (v := (u8 s8.2.1)) rfl s5_9) ?_; refine wsa rfl rfl rfl (q_move (v := v17) rfl rfl) ?_; obtain ⟨c25, hc25, H19⟩ := bsi H19; refine wsa rfl rfl rfl (q_adr rfl T22 rfl rfl i17 hc25) ?_; refine wsq rfl rfl rfl (q_loadS rfl T22 rfl i17 hc25) ?_; refine wsa rfl rfl rfl (q_move (v := v17) rfl rfl) ?_; obtain ⟨c26, hc26, H19⟩ := bsi H19; refine wsa rfl rfl rfl (q_adr rfl T22 rfl rfl i17 hc26) ?_; refine wsq rfl rfl rfl (q_loadS rfl T22 rfl i17 hc26) ?_; refine wsa rfl rfl rfl (q_move (v := v17) rfl rfl) ?_; obtain ⟨c27, hc27, H19⟩ := bsi H19; refine wsa rfl rfl rfl (q_adr rfl T22 rfl rfl i17 hc27) ?_; refine wsq rfl rfl rfl (q_loadS rfl T22 rfl i17 hc27) ?_; obtain ⟨r28, hr28, H19⟩ := bsi H19; refine wss rfl rfl rfl (stp_call (vs := [(u8 c24)]) Try.func59 rfl rfl rfl (ar1 rfl) (ref05_Box_calls c24  r28 _  hr28) ?_); rintro _ w28 ⟨rfl, x28⟩; refine ⟨_, rfl, x28, ?_⟩; replace i17 := i17.lift (Lift.ext x28 _); replace o0_9 := o0_9.extL (Sc.stab _) x28 (Lift.ext x28 _); have e29 := e23.trans x28; refine wsa rfl rfl rfl (q_xor8 rfl rfl rfl) ?_; obtain ⟨r30, hr30, H19⟩ := bsi H19; refine wss rfl rfl rfl (stp_call (vs := [(u8 c25)]) Try.func59 rfl rfl rfl (ar1 rfl) (ref05_Box_calls c25  r30 _  hr30) ?_); rintro _ w30 ⟨rfl, x30⟩; refine ⟨_, rfl, x30, ?_⟩; replace i17 := i17.lift (Lift.ext x30 _); replace o0_9 := o0_9.extL (Sc.stab _) x30 (Lift.ext x30 _); have e31 := e29.trans x30; obtain ⟨r32, hr32, H19⟩ := bsi H19; refine wss rfl rfl rfl (stp_call (vs := [(u8 c26)]) Try.func59 rfl rfl rfl (ar1 rfl) (ref05_Box_calls c26  r32 _  hr32) ?_); rintro _ w32 ⟨rfl, x32⟩; refine ⟨_, rfl, x32, ?_⟩; replace i17 := i17.lift (Lift.ext x32 _); replace o0_9 := o0_9.extL (Sc.stab _) x32 (Lift.ext x32 _); have e33 := e31.trans x32; obtain ⟨r34, hr34, H19⟩ := bsi H19; refine wsc rfl (by kernel_rfl) rfl rfl (stp_call (vs := [(u8 c27)]) Try.func59 rfl rfl rfl (ar1 rfl) (ref05_Box_calls c27  r34 _  hr34) ?_); rintro _ w34 ⟨rfl, x34⟩; refine ⟨_, rfl, ?_⟩; replace i17 := i17.lift (Lift.ext x34 _); replace o0_9 := o0_9.extL (Sc.stab _) x34 (Lift.ext x34 _); have e35 := e33.trans x34
          refine wsc rfl (by kernel_rfl) rfl rfl (stp_lit (L := [v4_9]) (R := (Sc u8)) [(u8 ((r28 ^^^ s8.2.1))), (u8 r30), (u8 r32), (u8 r34)] ([(r28 ^^^ s8.2.1), r30, r32, r34] : List UInt8) rfl T22 rfl (by exact ⟨rfl, rfl, rfl, rfl, rfl, rfl, rfl, rfl, trivial⟩) rfl (litC u8 (oneC_u8) (us := [(u8 ((r28 ^^^ s8.2.1))), (u8 r30), (u8 r32), (u8 r34)]) (l := ([(r28 ^^^ s8.2.1), r30, r32, r34] : List UInt8)) rfl) rfl (litS u8 (us := [(u8 ((r28 ^^^ s8.2.1))), (u8 r30), (u8 r32), (u8 r34)]) (l := ([(r28 ^^^ s8.2.1), r30, r32, r34] : List UInt8)) rfl) ?_); intro v36 w36 o36 n36 g36 l36; have x36 := grown_ext g36; have i36 : By w36 [v4_9] v36 (([(r28 ^^^ s8.2.1), r30, r32, r34] : List UInt8)) := OwK.slk (Sc.stab _) _ o36 (fun k hk => (Old.cons (Old.nil _) o0_9.lt) k (n36 k hk)) (fun _ h => h.2); replace i17 := i17.lift (Lift.ext x36 _); replace o0_9 := o0_9.extL (Sc.stab _) x36 (Lift.ext x36 _); have e37 := e35.trans x36; refine wsa rfl rfl rfl (q_assign (v := v36) rfl rfl) ?_; refine ws_nil ?_; refine W_th ?_; refine W_reg (by kernel_rfl) ?_; refine wla rfl rfl (q_move (v := (u8 s8.2.1)) rfl s5_9) ?_; obtain ⟨r38, hr38, H19⟩ := bsi H19; refine wls rfl rfl (stp_call (vs := [(u8 s8.2.1), (u8 2)]) Try.func60 rfl rfl rfl (ar2 rfl (by exact (cst8 (2 : UInt8) rfl))) (ref02_Mul_calls s8.2.1 (2 : UInt8)  r38 _  hr38) ?_); rintro _ w38 ⟨rfl, x38⟩; refine ⟨_, rfl, ?_⟩; replace i17 := i17.lift (Lift.ext x38 _); replace i36 := i36.lift (Lift.ext x38 _); replace o0_9 := o0_9.extL (Sc.stab _) x38 (Lift.ext x38 _); have e39 := e37.trans x38; refine wla rfl rfl (q_assign (v := (u8 r38)) rfl rfl) ?_; refine wl_nil ?_; obtain rfl := osi H19; exact ⟨v36, s3_9, s4_9, rfl, s6_9, rfl, s119_9, e39, o0_9, n0_9, i36⟩
        replace H19 := (if_neg (of_decide_eq_false hb21)).symm.trans H19; refine W_seq ?_; refine W_reg (by kernel_rfl) ?_; refine wla rfl rfl (q_move (v := (i64 c1)) rfl s3_9) ?_; refine wla rfl rfl (q_eqI rfl rfl rfl) ?_; refine wlb rfl rfl (q_move (v := (.bool ((decide (c1 = 8))))) rfl rfl) (fun hb40 => ?_) (fun hb40 => ?_)
        · replace H19 := (if_pos (of_decide_eq_true hb40)).symm.trans H19; refine wla rfl rfl (q_move (v := (i64 s8.2.2)) rfl s6_9) ?_; obtain ⟨c41, hc41, H19⟩ := bsi H19; refine wla rfl rfl (q_remI rfl rfl rfl hc41) ?_; refine wla rfl rfl (q_eqI rfl rfl rfl) ?_; refine wla rfl rfl (q_pick_t (v := (.bool ((decide (c41 = 4))))) rfl rfl rfl) ?_; refine wl_nil ?_; refine W_th ?_; refine W_cond _ rfl rfl (fun hb42 => ?_) (fun hb42 => ?_)
          · replace H19 := (if_pos (of_decide_eq_true hb42)).symm.trans H19; refine W_draw [2, 6, 10, 14] [(0, 0), (1, 0), (2, 1), (4, 0), (5, 0), (6, 1), (8, 0), (9, 0), (10, 1), (12, 0), (13, 0), (14, 1), (3, 2), (7, 2), (11, 2), (15, 2), (16, 2), (17, 0)] mixed (by kernel_rfl) (by kernel_rfl) (by kernel_rfl) (by kernel_rfl) ?_; have x43 := Ext.drew w17; replace i17 := i17.lift (Lift.ext x43 _); replace o0_9 := o0_9.extL (Sc.stab _) x43 (Lift.ext x43 _); have e44 := e18.trans x43; refine wsa rfl rfl rfl (q_move (v := v17) rfl rfl) ?_; obtain ⟨c45, hc45, H19⟩ := bsi H19; refine wsa rfl rfl rfl (q_adr rfl T22 rfl rfl i17 hc45) ?_; refine wsq rfl rfl rfl (q_loadS rfl T22 rfl i17 hc45) ?_; refine wsa rfl rfl rfl (q_move (v := v17) rfl rfl) ?_; obtain ⟨c46, hc46, H19⟩ := bsi H19; refine wsa rfl rfl rfl (q_adr rfl T22 rfl rfl i17 hc46) ?_; refine wsq rfl rfl rfl (q_loadS rfl T22 rfl i17 hc46) ?_; refine wsa rfl rfl rfl (q_move (v := v17) rfl rfl) ?_; obtain ⟨c47, hc47, H19⟩ := bsi H19; refine wsa rfl rfl rfl (q_adr rfl T22 rfl rfl i17 hc47) ?_; refine wsq rfl rfl rfl (q_loadS rfl T22 rfl i17 hc47) ?_; refine wsa rfl rfl rfl (q_move (v := v17) rfl rfl) ?_; obtain ⟨c48, hc48, H19⟩ := bsi H19; refine wsa rfl rfl rfl (q_adr rfl T22 rfl rfl i17 hc48) ?_; refine wsq rfl rfl rfl (q_loadS rfl T22 rfl i17 hc48) ?_; obtain ⟨r49, hr49, H19⟩ := bsi H19; refine wss rfl rfl rfl (stp_call (vs := [(u8 c45)]) Try.func59 rfl rfl rfl (ar1 rfl) (ref05_Box_calls c45  r49 _  hr49) ?_); rintro _ w49 ⟨rfl, x49⟩; refine ⟨_, rfl, x49, ?_⟩; replace i17 := i17.lift (Lift.ext x49 _); replace o0_9 := o0_9.extL (Sc.stab _) x49 (Lift.ext x49 _); have e50 := e44.trans x49; obtain ⟨r51, hr51, H19⟩ := bsi H19; refine wss rfl rfl rfl (stp_call (vs := [(u8 c46)]) Try.func59 rfl rfl rfl (ar1 rfl) (ref05_Box_calls c46  r51 _  hr51) ?_); rintro _ w51 ⟨rfl, x51⟩; refine ⟨_, rfl, x51, ?_⟩; replace i17 := i17.lift (Lift.ext x51 _); replace o0_9 := o0_9.extL (Sc.stab _) x51 (Lift.ext x51 _); have e52 := e50.trans x51; obtain ⟨r53, hr53, H19⟩ := bsi H19; refine wss rfl rfl rfl (stp_call (vs := [(u8 c47)]) Try.func59 rfl rfl rfl (ar1 rfl) (ref05_Box_calls c47  r53 _  hr53) ?_); rintro _ w53 ⟨rfl, x53⟩; refine ⟨_, rfl, x53, ?_⟩; replace i17 := i17.lift (Lift.ext x53 _); replace o0_9 := o0_9.extL (Sc.stab _) x53 (Lift.ext x53 _); have e54 := e52.trans x53; obtain ⟨r55, hr55, H19⟩ := bsi H19; refine wsc rfl (by kernel_rfl) rfl rfl (stp_call (vs := [(u8 c48)]) Try.func59 rfl rfl rfl (ar1 rfl) (ref05_Box_calls c48  r55 _  hr55) ?_); rintro _ w55 ⟨rfl, x55⟩; refine ⟨_, rfl, ?_⟩; replace i17 := i17.lift (Lift.ext x55 _); replace o0_9 := o0_9.extL (Sc.stab _) x55 (Lift.ext x55 _); have e56 := e54.trans x55; refine wsc rfl (by kernel_rfl) rfl rfl (stp_lit (L := [v4_9]) (R := (Sc u8)) [(u8 r49), (u8 r51), (u8 r53), (u8 r55)] ([r49, r51, r53, r55] : List UInt8) rfl T22 rfl (by exact ⟨rfl, rfl, rfl, rfl, rfl, rfl, rfl, rfl, trivial⟩) rfl (litC u8 (oneC_u8) (us := [(u8 r49), (u8 r51), (u8 r53), (u8 r55)]) (l := ([r49, r51, r53, r55] : List UInt8)) rfl) rfl (litS u8 (us := [(u8 r49), (u8 r51), (u8 r53), (u8 r55)]) (l := ([r49, r51, r53, r55] : List UInt8)) rfl) ?_)
            intro v57 w57 o57 n57 g57 l57; have x57 := grown_ext g57; have i57 : By w57 [v4_9] v57 (([r49, r51, r53, r55] : List UInt8)) := OwK.slk (Sc.stab _) _ o57 (fun k hk => (Old.cons (Old.nil _) o0_9.lt) k (n57 k hk)) (fun _ h => h.2); replace i17 := i17.lift (Lift.ext x57 _); replace o0_9 := o0_9.extL (Sc.stab _) x57 (Lift.ext x57 _); have e58 := e56.trans x57; refine wsa rfl rfl rfl (q_assign (v := v57) rfl rfl) ?_; refine ws_nil ?_; obtain rfl := osi H19; exact ⟨v57, s3_9, s4_9, s5_9, s6_9, rfl, s119_9, e58, o0_9, n0_9, i57⟩
          replace H19 := (if_neg (of_decide_eq_false hb42)).symm.trans H19; refine W_skip ?_; obtain rfl := osi H19; exact ⟨v17, s3_9, s4_9, s5_9, s6_9, rfl, s119_9, e18, o0_9, n0_9, i17⟩
        replace H19 := (if_neg (of_decide_eq_false hb40)).symm.trans H19; refine wlk rfl rfl ?_; refine wlk rfl rfl ?_; refine wlk rfl rfl ?_; refine wla rfl rfl (q_pick_f (v := (.bool false)) rfl rfl rfl) ?_; refine wl_nil ?_; refine W_th ?_; refine W_cond false rfl rfl (fun hb => by cases hb) (fun _ => ?_); refine W_skip ?_; obtain rfl := osi H19; exact ⟨v17, s3_9, s4_9, s5_9, s6_9, rfl, s119_9, e18, o0_9, n0_9, i17⟩
      rintro _ w59 ⟨v7_59, s3_59, s4_59, s5_59, s6_59, s7_59, s119_59, hE59, o0_59, n0_59, i0_59⟩; refine W_th ?_; refine W_seq ?_; refine W_reg (by kernel_rfl) ?_; refine wla rfl rfl (q_assign (v := (i64 0)) rfl rfl) ?_; refine wl_nil ?_; refine W_th ?_; obtain ⟨x60, G60, H8⟩ := bsi H8; refine W_mid (fun f w => ∃ v4_75 : Value, f 3 = (i64 c1) ∧ f 4 = v4_75 ∧ f 5 = (u8 x19.1) ∧ f 6 = (i64 s8.2.2) ∧ f 119 = undef ∧ Ext w0 w ∧ OwK (Sc u8) w [v4_75] 5 v4_75 x60 ∧ Nw w0 v4_75) ?_ ?_
      · refine W_block ?_; refine W_loop (fun s60 f w => ∃ v4_73 : Value, f 3 = (i64 c1) ∧ f 4 = v4_73 ∧ f 5 = (u8 x19.1) ∧ f 6 = (i64 s8.2.2) ∧ f 7 = v7_59 ∧ f 8 = (i64 s60.2) ∧ f 119 = undef ∧ Ext w0 w ∧ OwK (Sc u8) w [v4_73] 5 v4_73 s60.1 ∧ Nw w0 v4_73 ∧ By w [v4_73] v7_59 x19.2) G60 ?_ ?_
        · exact ⟨v4_9, s3_59, s4_59, s5_59, s6_59, s7_59, rfl, s119_59, hE59, o0_59, n0_59, i0_59⟩
        rintro s60 _ _ w61 ⟨v4_61, s3_61, s4_61, s5_61, s6_61, s7_61, s8_61, s119_61, hE61, o0_61, n0_61, i0_61⟩ H60 hr60; refine W_seq ?_; refine W_seq ?_; refine W_reg (by kernel_rfl) ?_; refine wla rfl rfl (q_move (v := (i64 s60.2)) rfl s8_61) ?_; refine wla rfl rfl (q_ltI rfl rfl rfl) ?_; refine wl_nil ?_; refine W_th ?_; refine W_cond _ rfl rfl (fun hb62 => ?_) (fun hb62 => ?_)
        · replace H60 := (if_pos (of_decide_eq_true hb62)).symm.trans H60; refine W_skip ?_; refine W_th ?_; refine W_seq ?_; refine W_block ?_; refine W_draw [9, 13] [(0, 0), (1, 0), (2, 0), (3, 0), (4, 0), (5, 0), (6, 0), (7, 0), (8, 0), (9, 1), (10, 0), (11, 0), (12, 0), (13, 1), (14, 0), (15, 2), (16, 2), (17, 0)] mixed (by kernel_rfl) (by kernel_rfl) (by kernel_rfl) (by kernel_rfl) ?_; have x63 := Ext.drew w61; replace i0_61 := i0_61.lift (Lift.ext x63 _); replace o0_61 := o0_61.extL (Sc.stab _) x63 (Lift.ext x63 _); have e65 := hE61.trans x63; refine wsa rfl rfl rfl (q_move (v := v4_61) rfl s4_61) ?_; refine wsa rfl rfl rfl (q_move (v := v4_61) rfl s4_61) ?_; refine wsa rfl rfl rfl (q_move (v := (i64 s8.2.2)) rfl s6_61) ?_; refine wsa rfl rfl rfl (q_move (v := (i64 c1)) rfl s3_61) ?_; refine wsa rfl rfl rfl (q_subI rfl rfl rfl) ?_; refine wsa rfl rfl rfl (q_mulI rfl rfl rfl) ?_; refine wsa rfl rfl rfl (q_move (v := (i64 s60.2)) rfl s8_61) ?_; refine wsa rfl rfl rfl (q_addI rfl rfl rfl) ?_; obtain ⟨c66, hc66, H60⟩ := bsi H60; refine wsa rfl rfl rfl (q_adr rfl T22 rfl rfl (o0_61.rd (Sc.stab _)) hc66) ?_; refine wsq rfl rfl rfl (q_loadS rfl T22 rfl (o0_61.rd (Sc.stab _)) hc66) ?_; refine wsa rfl rfl rfl (q_move (v := v7_59) rfl s7_61) ?_; refine wsa rfl rfl rfl (q_move (v := (i64 s60.2)) rfl s8_61) ?_; obtain ⟨c67, hc67, H60⟩ := bsi H60; refine wsa rfl rfl rfl (q_adr rfl T22 rfl rfl i0_61 hc67) ?_; refine wsq rfl rfl rfl (q_loadS rfl T22 rfl i0_61 hc67) ?_; refine wsa rfl rfl rfl (q_xor8 rfl rfl rfl) ?_; refine wsc rfl (by kernel_rfl) rfl rfl (stp_lit (L := [v4_61]) (R := (Sc u8)) [(u8 ((c66 ^^^ c67)))] ([(c66 ^^^ c67)] : List UInt8) rfl T22 rfl (by exact ⟨rfl, rfl, trivial⟩) rfl (litC u8 (oneC_u8) (us := [(u8 ((c66 ^^^ c67)))]) (l := ([(c66 ^^^ c67)] : List UInt8)) rfl) rfl (litS u8 (us := [(u8 ((c66 ^^^ c67)))]) (l := ([(c66 ^^^ c67)] : List UInt8)) rfl) ?_); intro v68 w68 o68 n68 g68 l68; have x68 := grown_ext g68; have i68 : By w68 [v4_61] v68 (([(c66 ^^^ c67)] : List UInt8)) := OwK.slk (Sc.stab _) _ o68 (fun k hk => (Old.cons (Old.nil _) o0_61.lt) k (n68 k hk)) (fun _ h => h.2); replace i0_61 := i0_61.lift (Lift.ext x68 _); replace o0_61 := o0_61.extL (Sc.stab _) x68 (Lift.ext x68 _); have e69 := e65.trans x68; obtain ⟨c70, hc70, H60⟩ := bsi H60; refine wsc rfl (by kernel_rfl) rfl rfl (stp_append (R := (Sc u8)) (v := v4_61) (u := v68) (Sc.stab _) [] [] rfl T22 rfl rfl o0_61 i68 (fun _ _ h => h) hc70 oc_u8 ?_); intro v70 w70 o70 g70 nx70 l70; replace i0_61 := i0_61.lift l70; replace i68 := i68.lift l70; have e71 := e69.grown g70 n0_61; have n72 := Nw.nxt e69 n0_61 nx70; refine wsa rfl rfl rfl (q_assign (v := v70) rfl rfl) ?_; refine ws_nil ?_; refine bk_n ?_; refine W_th ?_; refine W_reg (by kernel_rfl) ?_; refine wla rfl rfl (q_move (v := (i64 s60.2)) rfl s8_61) ?_; refine wla rfl rfl (q_addI rfl rfl rfl) ?_; refine wla rfl rfl (q_assign (v := (i64 ((wI (s60.2 + 1))))) rfl rfl) ?_
          refine wl_nil ?_; obtain rfl := osi H60; exact ⟨_, rfl, v70, s3_61, rfl, s5_61, s6_61, s7_61, rfl, s119_61, e71, o70, n72, i0_61⟩
        replace H60 := (if_neg (of_decide_eq_false hb62)).symm.trans H60; refine W_exit ?_; refine th_x ?_; obtain rfl := osi H60; obtain rfl := hr60 _ rfl; refine th_x ?_; refine bk_x ?_; exact ⟨v4_61, s3_61, s4_61, s5_61, s6_61, s119_61, hE61, o0_61, n0_61⟩
      rintro _ w74 ⟨v4_74, s3_74, s4_74, s5_74, s6_74, s119_74, hE74, o0_74, n0_74⟩; refine bk_n ?_; refine W_th ?_; refine W_reg (by kernel_rfl) ?_; refine wla rfl rfl (q_move (v := (i64 s8.2.2)) rfl s6_74) ?_; refine wla rfl rfl (q_addI rfl rfl rfl) ?_; refine wla rfl rfl (q_assign (v := (i64 ((wI (s8.2.2 + 1))))) rfl rfl) ?_; refine wl_nil ?_; obtain rfl := osi H8; exact ⟨_, rfl, v4_74, s3_74, s4_74, s5_74, rfl, s119_74, hE74, o0_74, n0_74⟩
    replace H8 := (if_neg (of_decide_eq_false hb10)).symm.trans H8; refine W_exit ?_; refine th_x ?_; obtain rfl := osi H8; obtain rfl := hr8 _ rfl; refine th_x ?_; refine bk_x ?_; exact ⟨v4_9, s4_9, s119_9, hE9, o0_9, n0_9⟩
  rintro _ w78 ⟨v4_78, s4_78, s119_78, hE78, o0_78, n0_78⟩; refine W_th ?_; refine W_seq ?_; refine W_reg (by kernel_rfl) ?_; refine wla rfl rfl (q_move (v := v4_78) rfl s4_78) ?_; refine wla rfl rfl (q_assign (v := v4_78) rfl rfl) ?_; refine wl_nil ?_; refine W_th ?_; refine W_ret ?_; obtain rfl := osi H; refine rt1 v4_78 rfl rfl rfl s119_78 ?_; exact ⟨v4_78, rfl, hE78, n0_78, (o0_78.weak (Sc.stab _) (fun _ _ => trivial))⟩
noncomputable def ref05_Encrypt (a0key : List UInt8) (a1b : List UInt8) : Option (List UInt8) :=
((ref05_Keys a0key).bind fun r1 =>
((divI ((r1.length : Int)) 16).bind fun c4 =>
((lenA 16 ((List.replicate 16 (0 : UInt8)))).bind fun c9 =>
((iterC (fun s11 : List UInt8 × Int =>
(if s11.2 < 16 then
((idx a1b s11.2).bind fun c16 =>
((idx r1 s11.2).bind fun c17 =>
((lenA 16 s11.1).bind fun c18 =>
((idx s11.1 s11.2).bind fun c19 => some (.inl ((s11.1.set (s11.2 : Int).toNat ((c16 ^^^ c17))), (wI (s11.2 + 1))))))))
else some (.inr s11.1))) ((List.replicate 16 (0 : UInt8)), 0)).bind fun x11 =>
((iterC (fun s24 : List UInt8 × Int =>
(if s24.2 ≤ (wI (c4 - 1)) then
((lenA 16 ((List.replicate 16 (0 : UInt8)))).bind fun c32 =>
((iterC (fun s34 : List UInt8 × Int =>
(if s34.2 < 4 then
((iterC (fun s37 : List UInt8 × Int =>
(if s37.2 < 4 then
((remI ((wI (s34.2 + s37.2))) 4).bind fun c40 =>
((lenA 16 s24.1).bind fun c41 =>
((idx s24.1 ((wI ((wI (4 * c40)) + s37.2)))).bind fun c42 =>
((ref05_Box c42).bind fun r43 =>
((lenA 16 s37.1).bind fun c45 =>
((idx s37.1 ((wI ((wI (4 * s34.2)) + s37.2)))).bind fun c46 => some (.inl ((s37.1.set ((wI ((wI (4 * s34.2)) + s37.2)) : Int).toNat r43), (wI (s37.2 + 1))))))))))
else some (.inr s37.1))) (s34.1, 0)).bind fun x37 => some (.inl (x37, (wI (s34.2 + 1)))))
else some (.inr s34.1))) ((List.replicate 16 (0 : UInt8)), 0)).bind fun x34 =>
(((if s24.2 < (wI (c4 - 1)) then
((lenA 16 ((List.replicate 16 (0 : UInt8)))).bind fun c62 =>
((iterC (fun s65 : List UInt8 × Int =>
(if s65.2 < 4 then
((iterC (fun s68 : List UInt8 × Int =>
(if s68.2 < 4 then
((lenA 16 x34).bind fun c73 =>
((idx x34 ((wI ((wI (4 * s65.2)) + s68.2)))).bind fun c74 =>
((remI ((wI (s68.2 + 1))) 4).bind fun c75 =>
((idx x34 ((wI ((wI (4 * s65.2)) + c75)))).bind fun c76 =>
((remI ((wI (s68.2 + 2))) 4).bind fun c77 =>
((idx x34 ((wI ((wI (4 * s65.2)) + c77)))).bind fun c78 =>
((remI ((wI (s68.2 + 3))) 4).bind fun c79 =>
((idx x34 ((wI ((wI (4 * s65.2)) + c79)))).bind fun c80 =>
((ref02_Mul (2 : UInt8) c74).bind fun r81 =>
((ref02_Mul (3 : UInt8) c76).bind fun r83 =>
((lenA 16 s68.1).bind fun c85 =>
((idx s68.1 ((wI ((wI (4 * s65.2)) + s68.2)))).bind fun c86 => some (.inl ((s68.1.set ((wI ((wI (4 * s65.2)) + s68.2)) : Int).toNat ((((r81 ^^^ r83) ^^^ c78) ^^^ c80))), (wI (s68.2 + 1))))))))))))))))
else some (.inr s68.1))) (s65.1, 0)).bind fun x68 => some (.inl (x68, (wI (s65.2 + 1)))))
else some (.inr s65.1))) ((List.replicate 16 (0 : UInt8)), 0)).bind fun x65 =>
((lenA 16 x65).bind fun c94 =>
((lenA 16 x34).bind fun c96 => some x65))))
else some x34)).bind fun x54 =>
((iterC (fun s100 : List UInt8 × Int =>
(if s100.2 < 16 then
((lenA 16 x54).bind fun c105 =>
((idx x54 s100.2).bind fun c106 =>
((idx r1 ((wI ((wI (16 * s24.2)) + s100.2)))).bind fun c107 =>
((lenA 16 s100.1).bind fun c108 =>
((idx s100.1 s100.2).bind fun c109 => some (.inl ((s100.1.set (s100.2 : Int).toNat ((c106 ^^^ c107))), (wI (s100.2 + 1)))))))))
else some (.inr s100.1))) (s24.1, 0)).bind fun x100 => some (.inl (x100, (wI (s24.2 + 1))))))))
else some (.inr s24.1))) (x11, 1)).bind fun x24 =>
((lenA 16 x24).bind fun c119 => some x24))))))
set_option maxRecDepth 100000 in
set_option maxHeartbeats 8000000 in
theorem ref05_Encrypt_calls (a0key : List UInt8) (a1b : List UInt8) (p0 : Value) (p1 : Value) (r : List UInt8) (w0 : World) (hp0 : By w0 [] p0 a0key) (hp1 : By w0 [] p1 a1b) (H : ref05_Encrypt a0key a1b = some r) :
    Calls Try.prog 21 [p0, p1].toArray w0 (fun e w' => ∃ u0 : Value, e = .returned u0 ∧ Ext w0 w' ∧ Nw w0 u0 ∧ By w' [] u0 r) := by
  have hE : Ext w0 w0 := Ext.refl w0; unfold ref05_Encrypt at H; refine calls_W (n := 139) Try.func21 rfl rfl rfl ?_; refine W_seq ?_; refine W_reg (by kernel_rfl) ?_; refine wla rfl rfl (q_assign (v := (.slice none 0 0)) rfl rfl) ?_; refine wl_nil ?_; refine W_th ?_; refine W_seq ?_; refine W_reg (by kernel_rfl) ?_; refine wla rfl rfl (q_move (v := p0) rfl rfl) ?_; obtain ⟨r1, hr1, H⟩ := bsi H; refine wls rfl rfl (stp_call (vs := [p0]) Try.func58 rfl rfl rfl (ar1 rfl) (ref05_Keys_calls a0key p0 r1 _ (hp0.lift (Lift.ext hE _)) hr1) ?_); rintro _ w1 ⟨v1, rfl, x1, n1_0, o1_0⟩; refine ⟨_, rfl, ?_⟩; have n2 := Nw.ext hE n1_0; have i1_0 : By w1 [] v1 r1 := OwK.slk (Sc.stab _) _ (OwK.scal o1_0 (v1 :: [])) (fun k hk => (Old.nil _) k (n1_0 k hk)) (fun _ h => h.2); have e3 := hE.trans x1; refine wla rfl rfl (q_assign (v := v1) rfl rfl) ?_; refine wl_nil ?_; refine W_th ?_; refine W_seq ?_; refine W_reg (by kernel_rfl) ?_; refine wla rfl rfl (q_move (v := v1) rfl rfl) ?_; refine wla rfl rfl (q_len rfl T22.sl rfl i1_0) ?_; obtain ⟨c4, hc4, H⟩ := bsi H; refine wla rfl rfl (q_divI rfl rfl rfl hc4) ?_; refine wla rfl rfl (q_subI rfl rfl rfl) ?_; refine wla rfl rfl (q_assign (v := (i64 ((wI (c4 - 1))))) rfl rfl) ?_; refine wl_nil ?_; refine W_th ?_; refine W_seq ?_; refine W_reg (by kernel_rfl) ?_; refine wla rfl rfl (q_buildA0 (l := ([] : List UInt8)) (us := []) (z := (0 : UInt8)) rfl A76 Z76 (by exact trivial) rfl rfl cel_u8) ?_; refine wls rfl rfl (stp_allocL (z := (ag u8 ((List.replicate 16 (0 : UInt8))))) (cs := (ac u8 ((List.replicate 16 (0 : UInt8))))) [] rfl Z76 rfl ?_); intro g5 w5 o5 n5 g5r l5; have x5 := grown_ext g5r; replace i1_0 := i1_0.lift (Lift.call _ x5 n5); have n7 := Nw.ext e3 n5; have e6 := e3.trans x5; obtain ⟨c9, hc9, H⟩ := bsi H; refine wln rfl rfl (stp_storeA [] [] rfl A76 rfl rfl (lenA_eq hc9) (lenA_eq hc9) o5 one_u8 ?_); intro w8 o8 g8 l8; replace i1_0 := i1_0.lift l8; have e10 := e6.grown g8 n7; refine wl_nil ?_; refine W_th ?_; refine W_seq ?_; refine W_seq ?_; refine W_reg (by kernel_rfl) ?_; refine wla rfl rfl (q_move (v := (i64 0)) rfl rfl) ?_; refine wl_nil ?_; refine W_th ?_; obtain ⟨x11, G11, H⟩ := bsi H; refine W_mid (fun f w => f 5 = v1 ∧ f 6 = (i64 ((wI (c4 - 1)))) ∧ f 7 = (bp g5) ∧ f 139 = undef ∧ Ext w0 w ∧ Blk w g5 76 (ac u8 x11) ∧ Nw w0 (bp g5) ∧ By w [(bp g5)] v1 r1) ?_ ?_
  · refine W_block ?_; refine W_loop (fun s11 f w => f 1 = p1 ∧ f 5 = v1 ∧ f 6 = (i64 ((wI (c4 - 1)))) ∧ f 7 = (bp g5) ∧ f 24 = (i64 s11.2) ∧ f 139 = undef ∧ Ext w0 w ∧ Blk w g5 76 (ac u8 s11.1) ∧ Nw w0 (bp g5) ∧ By w [(bp g5)] v1 r1) G11 ?_ ?_
    · exact ⟨rfl, rfl, rfl, rfl, rfl, rfl, e10, o8, n7, i1_0⟩
    rintro s11 _ _ w12 ⟨s1_12, s5_12, s6_12, s7_12, s24_12, s139_12, hE12, o0_12, n0_12, i0_12⟩ H11 hr11; refine W_seq ?_; refine W_reg (by kernel_rfl) ?_; refine wla rfl rfl (q_ltI rfl s24_12 rfl) ?_; refine wl_nil ?_; refine W_th ?_; refine W_seq ?_; refine W_cond _ rfl rfl (fun hb13 => ?_) (fun hb13 => ?_)
    · replace H11 := (if_pos (of_decide_eq_true hb13)).symm.trans H11; refine W_skip ?_; refine W_th ?_; refine W_seq ?_; refine W_block ?_; refine W_seq ?_; refine W_reg (by kernel_rfl) ?_; refine wla rfl rfl (q_move (v := (i64 s11.2)) rfl s24_12) ?_; refine wla rfl rfl (q_assign (v := (i64 s11.2)) rfl rfl) ?_; refine wl_nil ?_; refine W_th ?_; refine W_draw [4, 8] [(0, 0), (1, 0), (2, 0), (3, 0), (4, 1), (5, 0), (6, 0), (7, 0), (8, 1), (9, 0), (10, 0), (11, 2)] mixed (by kernel_rfl) (by kernel_rfl) (by kernel_rfl) (by kernel_rfl) ?_; have x14 := Ext.drew w12; replace i0_12 := i0_12.lift (Lift.ext x14 _); replace o0_12 := o0_12.ext x14; have e15 := hE12.trans x14; refine wsa rfl rfl rfl (q_move (v := (i64 s11.2)) rfl rfl) ?_; refine wsa rfl rfl rfl (q_move (v := p1) rfl s1_12) ?_; refine wsa rfl rfl rfl (q_move (v := (i64 s11.2)) rfl rfl) ?_; obtain ⟨c16, hc16, H11⟩ := bsi H11; refine wsa rfl rfl rfl (q_adr rfl T22 rfl rfl (hp1.lift (Lift.ext e15 _)) hc16) ?_; refine wsq rfl rfl rfl (q_loadS rfl T22 rfl (hp1.lift (Lift.ext e15 _)) hc16) ?_; refine wsa rfl rfl rfl (q_move (v := v1) rfl s5_12) ?_; refine wsa rfl rfl rfl (q_move (v := (i64 s11.2)) rfl rfl) ?_; obtain ⟨c17, hc17, H11⟩ := bsi H11; refine wsa rfl rfl rfl (q_adr rfl T22 rfl rfl i0_12 hc17) ?_; refine wsq rfl rfl rfl (q_loadS rfl T22 rfl i0_12 hc17) ?_; refine wsa rfl rfl rfl (q_xor8 rfl rfl rfl) ?_; obtain ⟨c18, hc18, H11⟩ := bsi H11; obtain ⟨c19, hc19, H11⟩ := bsi H11; refine wsa rfl rfl rfl (q_ixA (m := 0) rfl A76 (by exact s7_12) rfl (lenA_eq hc18) hc19) ?_; refine wsn rfl (by kernel_rfl) rfl rfl (stp_storeX (b := (c16 ^^^ c17)) [] [] rfl A76 rfl rfl o0_12 hc19 (one_u8 _) ?_); intro w20 o20 g20 l20; replace i0_12 := i0_12.lift l20; have e21 := e15.grown g20 n0_12; refine ws_nil ?_; refine bk_n ?_; refine W_th ?_; refine W_reg (by kernel_rfl) ?_; refine wla rfl rfl (q_addI rfl s24_12 rfl) ?_; refine wla rfl rfl (q_move (v := (i64 ((wI (s11.2 + 1))))) rfl rfl) ?_; refine wl_nil ?_; obtain rfl := osi H11; exact ⟨_, rfl, s1_12, s5_12, s6_12, s7_12, rfl, s139_12, e21, o20, n0_12, i0_12⟩
    replace H11 := (if_neg (of_decide_eq_false hb13)).symm.trans H11; refine W_exit ?_; refine th_x ?_; obtain rfl := osi H11; obtain rfl := hr11 _ rfl; refine th_x ?_; refine bk_x ?_; exact ⟨s5_12, s6_12, s7_12, s139_12, hE12, o0_12, n0_12, i0_12⟩
  rintro _ w23 ⟨s5_23, s6_23, s7_23, s139_23, hE23, o0_23, n0_23, i0_23⟩; refine W_th ?_; refine W_seq ?_; refine W_seq ?_; refine W_reg (by kernel_rfl) ?_; refine wla rfl rfl (q_assign (v := (i64 1)) rfl rfl) ?_; refine wl_nil ?_; refine W_th ?_; obtain ⟨x24, G24, H⟩ := bsi H; refine W_mid (fun f w => f 7 = (bp g5) ∧ f 139 = undef ∧ Ext w0 w ∧ Blk w g5 76 (ac u8 x24) ∧ Nw w0 (bp g5)) ?_ ?_
  · refine W_block ?_; refine W_loop (fun s24 f w => f 5 = v1 ∧ f 6 = (i64 ((wI (c4 - 1)))) ∧ f 7 = (bp g5) ∧ f 9 = (i64 s24.2) ∧ f 139 = undef ∧ Ext w0 w ∧ Blk w g5 76 (ac u8 s24.1) ∧ Nw w0 (bp g5) ∧ By w [(bp g5)] v1 r1) G24 ?_ ?_
    · exact ⟨s5_23, s6_23, s7_23, rfl, s139_23, hE23, o0_23, n0_23, i0_23⟩
    rintro s24 _ _ w25 ⟨s5_25, s6_25, s7_25, s9_25, s139_25, hE25, o0_25, n0_25, i0_25⟩ H24 hr24; refine W_seq ?_; refine W_seq ?_; refine W_reg (by kernel_rfl) ?_; refine wla rfl rfl (q_move (v := (i64 s24.2)) rfl s9_25) ?_; refine wla rfl rfl (q_move (v := (i64 ((wI (c4 - 1))))) rfl s6_25) ?_; refine wla rfl rfl (q_leI rfl rfl rfl) ?_; refine wl_nil ?_; refine W_th ?_; refine W_cond _ rfl rfl (fun hb26 => ?_) (fun hb26 => ?_)
    · replace H24 := (if_pos (of_decide_eq_true hb26)).symm.trans H24; refine W_skip ?_; refine W_th ?_; refine W_seq ?_; refine W_block ?_; refine W_seq ?_; refine W_reg (by kernel_rfl) ?_; refine wla rfl rfl (q_buildA0 (l := ([] : List UInt8)) (us := []) (z := (0 : UInt8)) rfl A76 Z76 (by exact trivial) rfl rfl cel_u8) ?_; refine wls rfl rfl (stp_allocL (z := (ag u8 ((List.replicate 16 (0 : UInt8))))) (cs := (ac u8 ((List.replicate 16 (0 : UInt8))))) [(bp g5)] rfl Z76 rfl ?_); intro g27 w27 o27 n27 g27r l27; have x27 := grown_ext g27r; have q28 : Nq (bp g5) (bp g27) := o0_25.nq n27; replace i0_25 := i0_25.lift (Lift.call _ x27 n27); replace o0_25 := o0_25.ext x27; have n30 := Nw.ext hE25 n27; have e29 := hE25.trans x27; obtain ⟨c32, hc32, H24⟩ := bsi H24; refine wln rfl rfl (stp_storeA [] [(bp g5)] rfl A76 rfl rfl (lenA_eq hc32) (lenA_eq hc32) o27 one_u8 ?_); intro w31 o31 g31 l31; replace i0_25 := i0_25.lift l31; replace o0_25 := o0_25.other g31 q28; have e33 := e29.grown g31 n30; refine wl_nil ?_; refine W_th ?_; refine W_seq ?_; refine W_seq ?_; refine W_reg (by kernel_rfl) ?_; refine wla rfl rfl (q_assign (v := (i64 0)) rfl rfl) ?_; refine wl_nil ?_; refine W_th ?_; obtain ⟨x34, G34, H24⟩ := bsi H24; refine W_mid (fun f w => f 5 = v1 ∧ f 6 = (i64 ((wI (c4 - 1)))) ∧ f 7 = (bp g5) ∧ f 9 = (i64 s24.2) ∧ f 10 = (bp g27) ∧ f 139 = undef ∧ Ext w0 w ∧ Blk w g5 76 (ac u8 s24.1) ∧ Nw w0 (bp g5) ∧ Blk w g27 76 (ac u8 x34) ∧ Nw w0 (bp g27) ∧ Nq (bp g5) (bp g27) ∧ By w [(bp g5), (bp g27)] v1 r1) ?_ ?_
      · refine W_block ?_; refine W_loop (fun s34 f w => f 5 = v1 ∧ f 6 = (i64 ((wI (c4 - 1)))) ∧ f 7 = (bp g5) ∧ f 9 = (i64 s24.2) ∧ f 10 = (bp g27) ∧ f 11 = (i64 s34.2) ∧ f 139 = undef ∧ Ext w0 w ∧ Blk w g5 76 (ac u8 s24.1) ∧ Nw w0 (bp g5) ∧ Blk w g27 76 (ac u8 s34.1) ∧ Nw w0 (bp g27) ∧ Nq (bp g5) (bp g27) ∧ By w [(bp g5), (bp g27)] v1 r1) G34 ?_ ?_
        · exact ⟨s5_25, s6_25, s7_25, s9_25, rfl, rfl, s139_25, e33, o0_25, n0_25, o31, n30, q28, (i0_25.lift (Lift.sub (fun _ h => ⟨h.2.1, h.1, trivial⟩)))⟩
        rintro s34 _ _ w35 ⟨s5_35, s6_35, s7_35, s9_35, s10_35, s11_35, s139_35, hE35, o0_35, n0_35, o1_35, n1_35, q0_1_35, i0_35⟩ H34 hr34; refine W_seq ?_; refine W_seq ?_; refine W_reg (by kernel_rfl) ?_; refine wla rfl rfl (q_move (v := (i64 s34.2)) rfl s11_35) ?_; refine wla rfl rfl (q_ltI rfl rfl rfl) ?_; refine wl_nil ?_; refine W_th ?_; refine W_cond _ rfl rfl (fun hb36 => ?_) (fun hb36 => ?_)
        · replace H34 := (if_pos (of_decide_eq_true hb36)).symm.trans H34; refine W_skip ?_; refine W_th ?_; refine W_seq ?_; refine W_block ?_; refine W_seq ?_; refine W_reg (by kernel_rfl) ?_; refine wla rfl rfl (q_assign (v := (i64 0)) rfl rfl) ?_; refine wl_nil ?_; refine W_th ?_; obtain ⟨x37, G37, H34⟩ := bsi H34; refine W_mid (fun f w => f 5 = v1 ∧ f 6 = (i64 ((wI (c4 - 1)))) ∧ f 7 = (bp g5) ∧ f 9 = (i64 s24.2) ∧ f 10 = (bp g27) ∧ f 11 = (i64 s34.2) ∧ f 139 = undef ∧ Ext w0 w ∧ Blk w g5 76 (ac u8 s24.1) ∧ Nw w0 (bp g5) ∧ Blk w g27 76 (ac u8 x37) ∧ Nw w0 (bp g27) ∧ Nq (bp g5) (bp g27) ∧ By w [(bp g5), (bp g27)] v1 r1) ?_ ?_
          · refine W_block ?_; refine W_loop (fun s37 f w => f 5 = v1 ∧ f 6 = (i64 ((wI (c4 - 1)))) ∧ f 7 = (bp g5) ∧ f 9 = (i64 s24.2) ∧ f 10 = (bp g27) ∧ f 11 = (i64 s34.2) ∧ f 12 = (i64 s37.2) ∧ f 139 = undef ∧ Ext w0 w ∧ Blk w g5 76 (ac u8 s24.1) ∧ Nw w0 (bp g5) ∧ Blk w g27 76 (ac u8 s37.1) ∧ Nw w0 (bp g27) ∧ Nq (bp g5) (bp g27) ∧ By w [(bp g5), (bp g27)] v1 r1) G37 ?_ ?_
            · exact ⟨s5_35, s6_35, s7_35, s9_35, s10_35, s11_35, rfl, s139_35, hE35, o0_35, n0_35, o1_35, n1_35, q0_1_35, i0_35⟩
            rintro s37 _ _ w38 ⟨s5_38, s6_38, s7_38, s9_38, s10_38, s11_38, s12_38, s139_38, hE38, o0_38, n0_38, o1_38, n1_38, q0_1_38, i0_38⟩ H37 hr37; refine W_seq ?_; refine W_seq ?_; refine W_reg (by kernel_rfl) ?_; refine wla rfl rfl (q_move (v := (i64 s37.2)) rfl s12_38) ?_; refine wla rfl rfl (q_ltI rfl rfl rfl) ?_; refine wl_nil ?_; refine W_th ?_; refine W_cond _ rfl rfl (fun hb39 => ?_) (fun hb39 => ?_)
            · replace H37 := (if_pos (of_decide_eq_true hb39)).symm.trans H37; refine W_skip ?_; refine W_th ?_; refine W_seq ?_; refine W_block ?_; refine W_reg (by kernel_rfl) ?_; refine wla rfl rfl (q_move (v := (i64 s34.2)) rfl s11_38) ?_; refine wla rfl rfl (q_mulI rfl rfl rfl) ?_; refine wla rfl rfl (q_move (v := (i64 s37.2)) rfl s12_38) ?_; refine wla rfl rfl (q_addI rfl rfl rfl) ?_; refine wla rfl rfl (q_move (v := (i64 s34.2)) rfl s11_38) ?_; refine wla rfl rfl (q_move (v := (i64 s37.2)) rfl s12_38) ?_; refine wla rfl rfl (q_addI rfl rfl rfl) ?_; obtain ⟨c40, hc40, H37⟩ := bsi H37; refine wla rfl rfl (q_remI rfl rfl rfl hc40) ?_; refine wla rfl rfl (q_mulI rfl rfl rfl) ?_; refine wla rfl rfl (q_move (v := (i64 s37.2)) rfl s12_38) ?_; refine wla rfl rfl (q_addI rfl rfl rfl) ?_; obtain ⟨c41, hc41, H37⟩ := bsi H37; obtain ⟨c42, hc42, H37⟩ := bsi H37; refine wla rfl rfl (q_ixA (m := 0) rfl A76 (by exact s7_38) rfl (lenA_eq hc41) hc42) ?_; refine wlq rfl rfl (q_loadE (m := 0) rfl A76 rfl o0_38 (seg_self _ _) hc42) ?_; obtain ⟨r43, hr43, H37⟩ := bsi H37; refine wls rfl rfl (stp_call (vs := [(u8 c42)]) Try.func59 rfl rfl rfl (ar1 rfl) (ref05_Box_calls c42  r43 _  hr43) ?_); rintro _ w43 ⟨rfl, x43⟩; refine ⟨_, rfl, ?_⟩; replace i0_38 := i0_38.lift (Lift.ext x43 _); replace o0_38 := o0_38.ext x43; replace o1_38 := o1_38.ext x43; have e44 := hE38.trans x43; obtain ⟨c45, hc45, H37⟩ := bsi H37; obtain ⟨c46, hc46, H37⟩ := bsi H37; refine wla rfl rfl (q_ixA (m := 0) rfl A76 (by exact s10_38) rfl (lenA_eq hc45) hc46) ?_; refine wln rfl rfl (stp_storeX (b := r43) [(bp g5)] [] rfl A76 rfl rfl o1_38 hc46 (one_u8 _) ?_); intro w47 o47 g47 l47; replace i0_38 := i0_38.lift l47; replace o0_38 := o0_38.other g47 q0_1_38; have e48 := e44.grown g47 n1_38; refine wl_nil ?_; refine bk_n ?_; refine W_th ?_; refine W_reg (by kernel_rfl) ?_; refine wla rfl rfl (q_move (v := (i64 s37.2)) rfl s12_38) ?_; refine wla rfl rfl (q_addI rfl rfl rfl) ?_; refine wla rfl rfl (q_assign (v := (i64 ((wI (s37.2 + 1))))) rfl rfl) ?_; refine wl_nil ?_; obtain rfl := osi H37; exact ⟨_, rfl, s5_38, s6_38, s7_38, s9_38, s10_38, s11_38, rfl, s139_38, e48, o0_38, n0_38, o47, n1_38, q0_1_38, i0_38⟩
            replace H37 := (if_neg (of_decide_eq_false hb39)).symm.trans H37; refine W_exit ?_; refine th_x ?_; obtain rfl := osi H37; obtain rfl := hr37 _ rfl; refine th_x ?_; refine bk_x ?_; exact ⟨s5_38, s6_38, s7_38, s9_38, s10_38, s11_38, s139_38, hE38, o0_38, n0_38, o1_38, n1_38, q0_1_38, i0_38⟩
          rintro _ w50 ⟨s5_50, s6_50, s7_50, s9_50, s10_50, s11_50, s139_50, hE50, o0_50, n0_50, o1_50, n1_50, q0_1_50, i0_50⟩; refine bk_n ?_; refine W_th ?_; refine W_reg (by kernel_rfl) ?_; refine wla rfl rfl (q_move (v := (i64 s34.2)) rfl s11_50) ?_; refine wla rfl rfl (q_addI rfl rfl rfl) ?_; refine wla rfl rfl (q_assign (v := (i64 ((wI (s34.2 + 1))))) rfl rfl) ?_; refine wl_nil ?_; obtain rfl := osi H34; exact ⟨_, rfl, s5_50, s6_50, s7_50, s9_50, s10_50, rfl, s139_50, hE50, o0_50, n0_50, o1_50, n1_50, q0_1_50, i0_50⟩
        replace H34 := (if_neg (of_decide_eq_false hb36)).symm.trans H34; refine W_exit ?_; refine th_x ?_; obtain rfl := osi H34; obtain rfl := hr34 _ rfl; refine th_x ?_; refine bk_x ?_; exact ⟨s5_35, s6_35, s7_35, s9_35, s10_35, s139_35, hE35, o0_35, n0_35, o1_35, n1_35, q0_1_35, i0_35⟩
      rintro _ w53 ⟨s5_53, s6_53, s7_53, s9_53, s10_53, s139_53, hE53, o0_53, n0_53, o1_53, n1_53, q0_1_53, i0_53⟩; refine W_th ?_; refine W_seq ?_; obtain ⟨x54, H54, H24⟩ := bsi H24; refine W_mid (fun f w => f 5 = v1 ∧ f 6 = (i64 ((wI (c4 - 1)))) ∧ f 7 = (bp g5) ∧ f 9 = (i64 s24.2) ∧ f 10 = (bp g27) ∧ f 139 = undef ∧ Ext w0 w ∧ Blk w g5 76 (ac u8 s24.1) ∧ Nw w0 (bp g5) ∧ Blk w g27 76 (ac u8 x54) ∧ Nw w0 (bp g27) ∧ Nq (bp g5) (bp g27) ∧ By w [(bp g5), (bp g27)] v1 r1) ?_ ?_
      · refine W_seq ?_; refine W_reg (by kernel_rfl) ?_; refine wla rfl rfl (q_move (v := (i64 s24.2)) rfl s9_53) ?_; refine wla rfl rfl (q_move (v := (i64 ((wI (c4 - 1))))) rfl s6_53) ?_; refine wla rfl rfl (q_ltI rfl rfl rfl) ?_; refine wl_nil ?_; refine W_th ?_; refine W_cond _ rfl rfl (fun hb55 => ?_) (fun hb55 => ?_)
        · replace H54 := (if_pos (of_decide_eq_true hb55)).symm.trans H54; refine W_seq ?_; refine W_reg (by kernel_rfl) ?_; refine wla rfl rfl (q_buildA0 (l := ([] : List UInt8)) (us := []) (z := (0 : UInt8)) rfl A76 Z76 (by exact trivial) rfl rfl cel_u8) ?_; refine wls rfl rfl (stp_allocL (z := (ag u8 ((List.replicate 16 (0 : UInt8))))) (cs := (ac u8 ((List.replicate 16 (0 : UInt8))))) [(bp g5), (bp g27)] rfl Z76 rfl ?_); intro g56 w56 o56 n56 g56r l56; have x56 := grown_ext g56r; have q57 : Nq (bp g5) (bp g56) := o0_53.nq n56; have q58 : Nq (bp g27) (bp g56) := o1_53.nq n56; replace i0_53 := i0_53.lift (Lift.call _ x56 n56); replace o0_53 := o0_53.ext x56; replace o1_53 := o1_53.ext x56; have n60 := Nw.ext hE53 n56; have e59 := hE53.trans x56; obtain ⟨c62, hc62, H54⟩ := bsi H54; refine wln rfl rfl (stp_storeA [] [(bp g5), (bp g27)] rfl A76 rfl rfl (lenA_eq hc62) (lenA_eq hc62) o56 one_u8 ?_); intro w61 o61 g61 l61; replace i0_53 := i0_53.lift l61; replace o0_53 := o0_53.other g61 q57; replace o1_53 := o1_53.other g61 q58; have e63 := e59.grown g61 n60; refine wl_nil ?_; refine W_th ?_; refine W_seq ?_; refine W_seq ?_; refine W_reg (by kernel_rfl) ?_; refine wla rfl rfl (q_assign (v := (i64 0)) rfl rfl) ?_; refine wl_nil ?_; refine W_th ?_; obtain ⟨x65, G65, H54⟩ := bsi H54; refine W_mid (fun f w => f 5 = v1 ∧ f 6 = (i64 ((wI (c4 - 1)))) ∧ f 7 = (bp g5) ∧ f 9 = (i64 s24.2) ∧ f 10 = (bp g27) ∧ f 13 = (bp g56) ∧ f 139 = undef ∧ Ext w0 w ∧ Blk w g5 76 (ac u8 s24.1) ∧ Nw w0 (bp g5) ∧ Blk w g27 76 (ac u8 x34) ∧ Nw w0 (bp g27) ∧ Blk w g56 76 (ac u8 x65) ∧ Nw w0 (bp g56) ∧ Nq (bp g5) (bp g27) ∧ Nq (bp g5) (bp g56) ∧ Nq (bp g27) (bp g56) ∧ By w [(bp g5), (bp g27), (bp g56)] v1 r1) ?_ ?_
          · refine W_block ?_; refine W_loop (fun s65 f w => f 5 = v1 ∧ f 6 = (i64 ((wI (c4 - 1)))) ∧ f 7 = (bp g5) ∧ f 9 = (i64 s24.2) ∧ f 10 = (bp g27) ∧ f 13 = (bp g56) ∧ f 14 = (i64 s65.2) ∧ f 139 = undef ∧ Ext w0 w ∧ Blk w g5 76 (ac u8 s24.1) ∧ Nw w0 (bp g5) ∧ Blk w g27 76 (ac u8 x34) ∧ Nw w0 (bp g27) ∧ Blk w g56 76 (ac u8 s65.1) ∧ Nw w0 (bp g56) ∧ Nq (bp g5) (bp g27) ∧ Nq (bp g5) (bp g56) ∧ Nq (bp g27) (bp g56) ∧ By w [(bp g5), (bp g27), (bp g56)] v1 r1) G65 ?_ ?_
            · exact ⟨s5_53, s6_53, s7_53, s9_53, s10_53, rfl, rfl, s139_53, e63, o0_53, n0_53, o1_53, n1_53, o61, n60, q0_1_53, q57, q58, (i0_53.lift (Lift.sub (fun _ h => ⟨h.2.1, h.2.2.1, h.1, trivial⟩)))⟩
            rintro s65 _ _ w66 ⟨s5_66, s6_66, s7_66, s9_66, s10_66, s13_66, s14_66, s139_66, hE66, o0_66, n0_66, o1_66, n1_66, o2_66, n2_66, q0_1_66, q0_2_66, q1_2_66, i0_66⟩ H65 hr65; refine W_seq ?_; refine W_seq ?_; refine W_reg (by kernel_rfl) ?_; refine wla rfl rfl (q_move (v := (i64 s65.2)) rfl s14_66) ?_; refine wla rfl rfl (q_ltI rfl rfl rfl) ?_; refine wl_nil ?_; refine W_th ?_; refine W_cond _ rfl rfl (fun hb67 => ?_) (fun hb67 => ?_)
            · replace H65 := (if_pos (of_decide_eq_true hb67)).symm.trans H65; refine W_skip ?_; refine W_th ?_; refine W_seq ?_; refine W_block ?_; refine W_seq ?_; refine W_reg (by kernel_rfl) ?_; refine wla rfl rfl (q_assign (v := (i64 0)) rfl rfl) ?_; refine wl_nil ?_; refine W_th ?_; obtain ⟨x68, G68, H65⟩ := bsi H65; refine W_mid (fun f w => f 5 = v1 ∧ f 6 = (i64 ((wI (c4 - 1)))) ∧ f 7 = (bp g5) ∧ f 9 = (i64 s24.2) ∧ f 10 = (bp g27) ∧ f 13 = (bp g56) ∧ f 14 = (i64 s65.2) ∧ f 139 = undef ∧ Ext w0 w ∧ Blk w g5 76 (ac u8 s24.1) ∧ Nw w0 (bp g5) ∧ Blk w g27 76 (ac u8 x34) ∧ Nw w0 (bp g27) ∧ Blk w g56 76 (ac u8 x68) ∧ Nw w0 (bp g56) ∧ Nq (bp g5) (bp g27) ∧ Nq (bp g5) (bp g56) ∧ Nq (bp g27) (bp g56) ∧ By w [(bp g5), (bp g27), (bp g56)] v1 r1) ?_ ?_
              · refine W_block ?_; refine W_loop (fun s68 f w => f 5 = v1 ∧ f 6 = (i64 ((wI (c4 - 1)))) ∧ f 7 = (bp g5) ∧ f 9 = (i64 s24.2) ∧ f 10 = (bp g27) ∧ f 13 = (bp g56) ∧ f 14 = (i64 s65.2) ∧ f 15 = (i64 s68.2) ∧ f 139 = undef ∧ Ext w0 w ∧ Blk w g5 76 (ac u8 s24.1) ∧ Nw w0 (bp g5) ∧ Blk w g27 76 (ac u8 x34) ∧ Nw w0 (bp g27) ∧ Blk w g56 76 (ac u8 s68.1) ∧ Nw w0 (bp g56) ∧ Nq (bp g5) (bp g27) ∧ Nq (bp g5) (bp g56) ∧ Nq (bp g27) (bp g56) ∧ By w [(bp g5), (bp g27), (bp g56)] v1 r1) G68 ?_ ?_
                · exact ⟨s5_66, s6_66, s7_66, s9_66, s10_66, s13_66, s14_66, rfl, s139_66, hE66, o0_66, n0_66, o1_66, n1_66, o2_66, n2_66, q0_1_66, q0_2_66, q1_2_66, i0_66⟩
                rintro s68 _ _ w69 ⟨s5_69, s6_69, s7_69, s9_69, s10_69, s13_69, s14_69, s15_69, s139_69, hE69, o0_69, n0_69, o1_69, n1_69, o2_69, n2_69, q0_1_69, q0_2_69, q1_2_69, i0_69⟩ H68 hr68; refine W_seq ?_; refine W_seq ?_; refine W_reg (by kernel_rfl) ?_; refine wla rfl rfl (q_move (v := (i64 s68.2)) rfl s15_69) ?_; refine wla rfl rfl (q_ltI rfl rfl rfl) ?_; refine wl_nil ?_; refine W_th ?_; refine W_cond _ rfl rfl (fun hb70 => ?_) (fun hb70 => ?_)
                · replace H68 := (if_pos (of_decide_eq_true hb70)).symm.trans H68; refine W_skip ?_; refine W_th ?_; refine W_seq ?_; refine W_block ?_; refine W_draw [9, 18, 28, 37] [(0, 0), (1, 0), (2, 0), (3, 0), (4, 0), (5, 0), (6, 0), (7, 0), (8, 0), (9, 1), (11, 0), (12, 0), (13, 0), (14, 0), (15, 0), (16, 0), (17, 0), (18, 1), (21, 0), (22, 0), (23, 0), (24, 0), (25, 0), (26, 0), (27, 0), (28, 1), (30, 0), (31, 0), (32, 0), (33, 0), (34, 0), (35, 0), (36, 0), (37, 1), (10, 2), (19, 2), (20, 0), (29, 0), (38, 0), (39, 0), (40, 2)] mixed (by kernel_rfl) (by kernel_rfl) (by kernel_rfl) (by kernel_rfl) ?_; have x71 := Ext.drew w69; replace i0_69 := i0_69.lift (Lift.ext x71 _); replace o0_69 := o0_69.ext x71; replace o1_69 := o1_69.ext x71; replace o2_69 := o2_69.ext x71; have e72 := hE69.trans x71; refine wsa rfl rfl rfl (q_move (v := (i64 s65.2)) rfl s14_69) ?_; refine wsa rfl rfl rfl (q_mulI rfl rfl rfl) ?_; refine wsa rfl rfl rfl (q_move (v := (i64 s68.2)) rfl s15_69) ?_; refine wsa rfl rfl rfl (q_addI rfl rfl rfl) ?_; refine wsa rfl rfl rfl (q_move (v := (i64 s65.2)) rfl s14_69) ?_; refine wsa rfl rfl rfl (q_mulI rfl rfl rfl) ?_; refine wsa rfl rfl rfl (q_move (v := (i64 s68.2)) rfl s15_69) ?_; refine wsa rfl rfl rfl (q_addI rfl rfl rfl) ?_; obtain ⟨c73, hc73, H68⟩ := bsi H68; obtain ⟨c74, hc74, H68⟩ := bsi H68; refine wsa rfl rfl rfl (q_ixA (m := 0) rfl A76 (by exact s10_69) rfl (lenA_eq hc73) hc74) ?_; refine wsq rfl rfl rfl (q_loadE (m := 0) rfl A76 rfl o1_69 (seg_self _ _) hc74) ?_; refine wsa rfl rfl rfl (q_move (v := (i64 s65.2)) rfl s14_69) ?_; refine wsa rfl rfl rfl (q_mulI rfl rfl rfl) ?_; refine wsa rfl rfl rfl (q_move (v := (i64 s68.2)) rfl s15_69) ?_; refine wsa rfl rfl rfl (q_addI rfl rfl rfl) ?_; obtain ⟨c75, hc75, H68⟩ := bsi H68; refine wsa rfl rfl rfl (q_remI rfl rfl rfl hc75) ?_; refine wsa rfl rfl rfl (q_addI rfl rfl rfl) ?_; obtain ⟨c76, hc76, H68⟩ := bsi H68; refine wsa rfl rfl rfl (q_ixA (m := 0) rfl A76 (by exact s10_69) rfl (lenA_eq hc73) hc76) ?_; refine wsq rfl rfl rfl (q_loadE (m := 0) rfl A76 rfl o1_69 (seg_self _ _) hc76) ?_; refine wsa rfl rfl rfl (q_move (v := (i64 s65.2)) rfl s14_69) ?_; refine wsa rfl rfl rfl (q_mulI rfl rfl rfl) ?_; refine wsa rfl rfl rfl (q_move (v := (i64 s68.2)) rfl s15_69) ?_; refine wsa rfl rfl rfl (q_addI rfl rfl rfl) ?_; obtain ⟨c77, hc77, H68⟩ := bsi H68; refine wsa rfl rfl rfl (q_remI rfl rfl rfl hc77) ?_; refine wsa rfl rfl rfl (q_addI rfl rfl rfl) ?_; obtain ⟨c78, hc78, H68⟩ := bsi H68; refine wsa rfl rfl rfl (q_ixA (m := 0) rfl A76 (by exact s10_69) rfl (lenA_eq hc73) hc78) ?_; refine wsq rfl rfl rfl (q_loadE (m := 0) rfl A76 rfl o1_69 (seg_self _ _) hc78) ?_; refine wsa rfl rfl rfl (q_move (v := (i64 s65.2)) rfl s14_69) ?_; refine wsa rfl rfl rfl (q_mulI rfl rfl rfl) ?_; refine wsa rfl rfl rfl (q_move (v := (i64 s68.2)) rfl s15_69) ?_; refine wsa rfl rfl rfl (q_addI rfl rfl rfl) ?_
                  obtain ⟨c79, hc79, H68⟩ := bsi H68; refine wsa rfl rfl rfl (q_remI rfl rfl rfl hc79) ?_; refine wsa rfl rfl rfl (q_addI rfl rfl rfl) ?_; obtain ⟨c80, hc80, H68⟩ := bsi H68; refine wsa rfl rfl rfl (q_ixA (m := 0) rfl A76 (by exact s10_69) rfl (lenA_eq hc73) hc80) ?_; refine wsq rfl rfl rfl (q_loadE (m := 0) rfl A76 rfl o1_69 (seg_self _ _) hc80) ?_; obtain ⟨r81, hr81, H68⟩ := bsi H68; refine wss rfl rfl rfl (stp_call (vs := [(u8 2), (u8 c74)]) Try.func60 rfl rfl rfl (ar2 (by exact (cst8 (2 : UInt8) rfl)) rfl) (ref02_Mul_calls (2 : UInt8) c74  r81 _  hr81) ?_); rintro _ w81 ⟨rfl, x81⟩; refine ⟨_, rfl, x81, ?_⟩; replace i0_69 := i0_69.lift (Lift.ext x81 _); replace o0_69 := o0_69.ext x81; replace o1_69 := o1_69.ext x81; replace o2_69 := o2_69.ext x81; have e82 := e72.trans x81; obtain ⟨r83, hr83, H68⟩ := bsi H68; refine wss rfl rfl rfl (stp_call (vs := [(u8 3), (u8 c76)]) Try.func60 rfl rfl rfl (ar2 (by exact (cst8 (3 : UInt8) rfl)) rfl) (ref02_Mul_calls (3 : UInt8) c76  r83 _  hr83) ?_); rintro _ w83 ⟨rfl, x83⟩; refine ⟨_, rfl, x83, ?_⟩; replace i0_69 := i0_69.lift (Lift.ext x83 _); replace o0_69 := o0_69.ext x83; replace o1_69 := o1_69.ext x83; replace o2_69 := o2_69.ext x83; have e84 := e82.trans x83; refine wsa rfl rfl rfl (q_xor8 rfl rfl rfl) ?_; refine wsa rfl rfl rfl (q_xor8 rfl rfl rfl) ?_; refine wsa rfl rfl rfl (q_xor8 rfl rfl rfl) ?_; obtain ⟨c85, hc85, H68⟩ := bsi H68; obtain ⟨c86, hc86, H68⟩ := bsi H68; refine wsa rfl rfl rfl (q_ixA (m := 0) rfl A76 (by exact s13_69) rfl (lenA_eq hc85) hc86) ?_; refine wsn rfl (by kernel_rfl) rfl rfl (stp_storeX (b := (((r81 ^^^ r83) ^^^ c78) ^^^ c80)) [(bp g5), (bp g27)] [] rfl A76 rfl rfl o2_69 hc86 (one_u8 _) ?_); intro w87 o87 g87 l87; replace i0_69 := i0_69.lift l87; replace o0_69 := o0_69.other g87 q0_2_69; replace o1_69 := o1_69.other g87 q1_2_69; have e88 := e84.grown g87 n2_69; refine ws_nil ?_; refine bk_n ?_; refine W_th ?_; refine W_reg (by kernel_rfl) ?_; refine wla rfl rfl (q_move (v := (i64 s68.2)) rfl s15_69) ?_; refine wla rfl rfl (q_addI rfl rfl rfl) ?_; refine wla rfl rfl (q_assign (v := (i64 ((wI (s68.2 + 1))))) rfl rfl) ?_; refine wl_nil ?_; obtain rfl := osi H68; exact ⟨_, rfl, s5_69, s6_69, s7_69, s9_69, s10_69, s13_69, s14_69, rfl, s139_69, e88, o0_69, n0_69, o1_69, n1_69, o87, n2_69, q0_1_69, q0_2_69, q1_2_69, i0_69⟩
                replace H68 := (if_neg (of_decide_eq_false hb70)).symm.trans H68; refine W_exit ?_; refine th_x ?_; obtain rfl := osi H68; obtain rfl := hr68 _ rfl; refine th_x ?_; refine bk_x ?_; exact ⟨s5_69, s6_69, s7_69, s9_69, s10_69, s13_69, s14_69, s139_69, hE69, o0_69, n0_69, o1_69, n1_69, o2_69, n2_69, q0_1_69, q0_2_69, q1_2_69, i0_69⟩
              rintro _ w90 ⟨s5_90, s6_90, s7_90, s9_90, s10_90, s13_90, s14_90, s139_90, hE90, o0_90, n0_90, o1_90, n1_90, o2_90, n2_90, q0_1_90, q0_2_90, q1_2_90, i0_90⟩; refine bk_n ?_; refine W_th ?_; refine W_reg (by kernel_rfl) ?_; refine wla rfl rfl (q_move (v := (i64 s65.2)) rfl s14_90) ?_; refine wla rfl rfl (q_addI rfl rfl rfl) ?_; refine wla rfl rfl (q_assign (v := (i64 ((wI (s65.2 + 1))))) rfl rfl) ?_; refine wl_nil ?_; obtain rfl := osi H65; exact ⟨_, rfl, s5_90, s6_90, s7_90, s9_90, s10_90, s13_90, rfl, s139_90, hE90, o0_90, n0_90, o1_90, n1_90, o2_90, n2_90, q0_1_90, q0_2_90, q1_2_90, i0_90⟩
            replace H65 := (if_neg (of_decide_eq_false hb67)).symm.trans H65; refine W_exit ?_; refine th_x ?_; obtain rfl := osi H65; obtain rfl := hr65 _ rfl; refine th_x ?_; refine bk_x ?_; exact ⟨s5_66, s6_66, s7_66, s9_66, s10_66, s13_66, s139_66, hE66, o0_66, n0_66, o1_66, n1_66, o2_66, n2_66, q0_1_66, q0_2_66, q1_2_66, i0_66⟩
          rintro _ w93 ⟨s5_93, s6_93, s7_93, s9_93, s10_93, s13_93, s139_93, hE93, o0_93, n0_93, o1_93, n1_93, o2_93, n2_93, q0_1_93, q0_2_93, q1_2_93, i0_93⟩; refine W_th ?_; refine W_reg (by kernel_rfl) ?_; obtain ⟨c94, hc94, H54⟩ := bsi H54; refine wlq rfl rfl (q_loadA (m := 0) rfl A76 (by exact s13_93) o2_93 (seg_self _ _) (lenA_eq hc94)) ?_; obtain ⟨c96, hc96, H54⟩ := bsi H54; refine wln rfl rfl (stp_storeA [(bp g5)] [(bp g56)] rfl A76 (by exact s10_93) rfl (lenA_eq hc96) (lenA_eq hc94) o1_93 one_u8 ?_); intro w95 o95 g95 l95; replace i0_93 := i0_93.lift l95; replace o0_93 := o0_93.other g95 q0_1_93; replace o2_93 := o2_93.other g95 q1_2_93.symm; have e97 := hE93.grown g95 n1_93; refine wl_nil ?_; obtain rfl := osi H54; exact ⟨s5_93, s6_93, s7_93, s9_93, s10_93, s139_93, e97, o0_93, n0_93, o95, n1_93, q0_1_93, (i0_93.lift (Lift.sub (fun _ h => ⟨h.1, h.2.1, trivial⟩)))⟩
        replace H54 := (if_neg (of_decide_eq_false hb55)).symm.trans H54; refine W_skip ?_; obtain rfl := osi H54; exact ⟨s5_53, s6_53, s7_53, s9_53, s10_53, s139_53, hE53, o0_53, n0_53, o1_53, n1_53, q0_1_53, i0_53⟩
      rintro _ w99 ⟨s5_99, s6_99, s7_99, s9_99, s10_99, s139_99, hE99, o0_99, n0_99, o1_99, n1_99, q0_1_99, i0_99⟩; refine W_th ?_; refine W_seq ?_; refine W_reg (by kernel_rfl) ?_; refine wla rfl rfl (q_move (v := (i64 0)) rfl rfl) ?_; refine wl_nil ?_; refine W_th ?_; obtain ⟨x100, G100, H24⟩ := bsi H24; refine W_mid (fun f w => f 5 = v1 ∧ f 6 = (i64 ((wI (c4 - 1)))) ∧ f 7 = (bp g5) ∧ f 9 = (i64 s24.2) ∧ f 139 = undef ∧ Ext w0 w ∧ Blk w g5 76 (ac u8 x100) ∧ Nw w0 (bp g5) ∧ By w [(bp g5)] v1 r1) ?_ ?_
      · refine W_block ?_; refine W_loop (fun s100 f w => f 5 = v1 ∧ f 6 = (i64 ((wI (c4 - 1)))) ∧ f 7 = (bp g5) ∧ f 9 = (i64 s24.2) ∧ f 10 = (bp g27) ∧ f 121 = (i64 s100.2) ∧ f 139 = undef ∧ Ext w0 w ∧ Blk w g5 76 (ac u8 s100.1) ∧ Nw w0 (bp g5) ∧ Blk w g27 76 (ac u8 x54) ∧ Nw w0 (bp g27) ∧ Nq (bp g5) (bp g27) ∧ By w [(bp g5), (bp g27)] v1 r1) G100 ?_ ?_
        · exact ⟨s5_99, s6_99, s7_99, s9_99, s10_99, rfl, s139_99, hE99, o0_99, n0_99, o1_99, n1_99, q0_1_99, i0_99⟩
        rintro s100 _ _ w101 ⟨s5_101, s6_101, s7_101, s9_101, s10_101, s121_101, s139_101, hE101, o0_101, n0_101, o1_101, n1_101, q0_1_101, i0_101⟩ H100 hr100; refine W_seq ?_; refine W_reg (by kernel_rfl) ?_; refine wla rfl rfl (q_ltI rfl s121_101 rfl) ?_; refine wl_nil ?_; refine W_th ?_; refine W_seq ?_; refine W_cond _ rfl rfl (fun hb102 => ?_) (fun hb102 => ?_)
        · replace H100 := (if_pos (of_decide_eq_true hb102)).symm.trans H100; refine W_skip ?_; refine W_th ?_; refine W_seq ?_; refine W_block ?_; refine W_seq ?_; refine W_reg (by kernel_rfl) ?_; refine wla rfl rfl (q_move (v := (i64 s100.2)) rfl s121_101) ?_; refine wla rfl rfl (q_assign (v := (i64 s100.2)) rfl rfl) ?_; refine wl_nil ?_; refine W_th ?_; refine W_draw [3, 10] [(0, 0), (1, 0), (2, 0), (3, 1), (4, 0), (5, 0), (6, 0), (7, 0), (8, 0), (9, 0), (10, 1), (11, 0), (12, 0), (13, 2)] mixed (by kernel_rfl) (by kernel_rfl) (by kernel_rfl) (by kernel_rfl) ?_; have x103 := Ext.drew w101; replace i0_101 := i0_101.lift (Lift.ext x103 _); replace o0_101 := o0_101.ext x103; replace o1_101 := o1_101.ext x103; have e104 := hE101.trans x103; refine wsa rfl rfl rfl (q_move (v := (i64 s100.2)) rfl rfl) ?_; refine wsa rfl rfl rfl (q_move (v := (i64 s100.2)) rfl rfl) ?_; obtain ⟨c105, hc105, H100⟩ := bsi H100; obtain ⟨c106, hc106, H100⟩ := bsi H100; refine wsa rfl rfl rfl (q_ixA (m := 0) rfl A76 (by exact s10_101) rfl (lenA_eq hc105) hc106) ?_; refine wsq rfl rfl rfl (q_loadE (m := 0) rfl A76 rfl o1_101 (seg_self _ _) hc106) ?_; refine wsa rfl rfl rfl (q_move (v := v1) rfl s5_101) ?_; refine wsa rfl rfl rfl (q_move (v := (i64 s24.2)) rfl s9_101) ?_; refine wsa rfl rfl rfl (q_mulI rfl rfl rfl) ?_; refine wsa rfl rfl rfl (q_move (v := (i64 s100.2)) rfl rfl) ?_; refine wsa rfl rfl rfl (q_addI rfl rfl rfl) ?_; obtain ⟨c107, hc107, H100⟩ := bsi H100; refine wsa rfl rfl rfl (q_adr rfl T22 rfl rfl i0_101 hc107) ?_; refine wsq rfl rfl rfl (q_loadS rfl T22 rfl i0_101 hc107) ?_; refine wsa rfl rfl rfl (q_xor8 rfl rfl rfl) ?_; obtain ⟨c108, hc108, H100⟩ := bsi H100; obtain ⟨c109, hc109, H100⟩ := bsi H100; refine wsa rfl rfl rfl (q_ixA (m := 0) rfl A76 (by exact s7_101) rfl (lenA_eq hc108) hc109) ?_; refine wsn rfl (by kernel_rfl) rfl rfl (stp_storeX (b := (c106 ^^^ c107)) [] [(bp g27)] rfl A76 rfl rfl o0_101 hc109 (one_u8 _) ?_); intro w110 o110 g110 l110; replace i0_101 := i0_101.lift l110; replace o1_101 := o1_101.other g110 q0_1_101.symm; have e111 := e104.grown g110 n0_101; refine ws_nil ?_; refine bk_n ?_; refine W_th ?_; refine W_reg (by kernel_rfl) ?_; refine wla rfl rfl (q_addI rfl s121_101 rfl) ?_; refine wla rfl rfl (q_move (v := (i64 ((wI (s100.2 + 1))))) rfl rfl) ?_; refine wl_nil ?_; obtain rfl := osi H100; exact ⟨_, rfl, s5_101, s6_101, s7_101, s9_101, s10_101, rfl, s139_101, e111, o110, n0_101, o1_101, n1_101, q0_1_101, i0_101⟩
        replace H100 := (if_neg (of_decide_eq_false hb102)).symm.trans H100; refine W_exit ?_; refine th_x ?_; obtain rfl := osi H100; obtain rfl := hr100 _ rfl; refine th_x ?_; refine bk_x ?_; exact ⟨s5_101, s6_101, s7_101, s9_101, s139_101, hE101, o0_101, n0_101, (i0_101.lift (Lift.sub (fun _ h => ⟨h.1, trivial⟩)))⟩
      rintro _ w113 ⟨s5_113, s6_113, s7_113, s9_113, s139_113, hE113, o0_113, n0_113, i0_113⟩; refine bk_n ?_; refine W_th ?_; refine W_reg (by kernel_rfl) ?_; refine wla rfl rfl (q_move (v := (i64 s24.2)) rfl s9_113) ?_; refine wla rfl rfl (q_addI rfl rfl rfl) ?_; refine wla rfl rfl (q_assign (v := (i64 ((wI (s24.2 + 1))))) rfl rfl) ?_; refine wl_nil ?_; obtain rfl := osi H24; exact ⟨_, rfl, s5_113, s6_113, s7_113, rfl, s139_113, hE113, o0_113, n0_113, i0_113⟩
    replace H24 := (if_neg (of_decide_eq_false hb26)).symm.trans H24; refine W_exit ?_; refine th_x ?_; obtain rfl := osi H24; obtain rfl := hr24 _ rfl; refine th_x ?_; refine bk_x ?_; exact ⟨s7_25, s139_25, hE25, o0_25, n0_25⟩
  rintro _ w118 ⟨s7_118, s139_118, hE118, o0_118, n0_118⟩; refine W_th ?_; refine W_seq ?_; refine W_reg (by kernel_rfl) ?_; obtain ⟨c119, hc119, H⟩ := bsi H; refine wla rfl rfl (q_sliceA rfl A76 (by exact s7_118)) ?_; refine wla rfl rfl (q_assign (v := (.slice (some ⟨g5, 0, none⟩) 16 16)) rfl rfl) ?_; refine wl_nil ?_; refine W_th ?_; refine W_ret ?_; obtain rfl := osi H; refine rt1 (.slice (some ⟨g5, 0, none⟩) 16 16) rfl rfl rfl s139_118 ?_; exact ⟨(.slice (some ⟨g5, 0, none⟩) 16 16), rfl, hE118, (nw_asl n0_118), (Blk.by o0_118 (lenA_eq hc119))⟩
end Gk

/- The cipher's functions (chapter 5), in plain Lean. No condition but lengths. -/
set_option linter.unusedSimpArgs false
set_option linter.unusedVariables false
namespace Gk
open Gf
def boxT : List UInt8 := [99, 124, 119, 123, 242, 107, 111, 197, 48, 1, 103, 43, 254, 215, 171, 118, 202, 130, 201, 125, 250, 89, 71, 240, 173, 212, 162, 175, 156, 164, 114, 192, 183, 253, 147, 38, 54, 63, 247, 204, 52, 165, 229, 241, 113, 216, 49, 21, 4, 199, 35, 195, 24, 150, 5, 154, 7, 18, 128, 226, 235, 39, 178, 117, 9, 131, 44, 26, 27, 110, 90, 160, 82, 59, 214, 179, 41, 227, 47, 132, 83, 209, 0, 237, 32, 252, 177, 91, 106, 203, 190, 57, 74, 76, 88, 207, 208, 239, 170, 251, 67, 77, 51, 133, 69, 249, 2, 127, 80, 60, 159, 168, 81, 163, 64, 143, 146, 157, 56, 245, 188, 182, 218, 33, 16, 255, 243, 210, 205, 12, 19, 236, 95, 151, 68, 23, 196, 167, 126, 61, 100, 93, 25, 115, 96, 129, 79, 220, 34, 42, 144, 136, 70, 238, 184, 20, 222, 94, 11, 219, 224, 50, 58, 10, 73, 6, 36, 92, 194, 211, 172, 98, 145, 149, 228, 121, 231, 200, 55, 109, 141, 213, 78, 169, 108, 86, 244, 234, 101, 122, 174, 8, 186, 120, 37, 46, 28, 166, 180, 198, 232, 221, 116, 31, 75, 189, 139, 138, 112, 62, 181, 102, 72, 3, 246, 14, 97, 53, 87, 185, 134, 193, 29, 158, 225, 248, 152, 17, 105, 217, 142, 148, 155, 30, 135, 233, 206, 85, 40, 223, 140, 161, 137, 13, 191, 230, 66, 104, 65, 153, 45, 15, 176, 84, 187, 22]
def backT : List UInt8 := [82, 9, 106, 213, 48, 54, 165, 56, 191, 64, 163, 158, 129, 243, 215, 251, 124, 227, 57, 130, 155, 47, 255, 135, 52, 142, 67, 68, 196, 222, 233, 203, 84, 123, 148, 50, 166, 194, 35, 61, 238, 76, 149, 11, 66, 250, 195, 78, 8, 46, 161, 102, 40, 217, 36, 178, 118, 91, 162, 73, 109, 139, 209, 37, 114, 248, 246, 100, 134, 104, 152, 22, 212, 164, 92, 204, 93, 101, 182, 146, 108, 112, 72, 80, 253, 237, 185, 218, 94, 21, 70, 87, 167, 141, 157, 132, 144, 216, 171, 0, 140, 188, 211, 10, 247, 228, 88, 5, 184, 179, 69, 6, 208, 44, 30, 143, 202, 63, 15, 2, 193, 175, 189, 3, 1, 19, 138, 107, 58, 145, 17, 65, 79, 103, 220, 234, 151, 242, 207, 206, 240, 180, 230, 115, 150, 172, 116, 34, 231, 173, 53, 133, 226, 249, 55, 232, 28, 117, 223, 110, 71, 241, 26, 113, 29, 41, 197, 137, 111, 183, 98, 14, 170, 24, 190, 27, 252, 86, 62, 75, 198, 210, 121, 32, 154, 219, 192, 254, 120, 205, 90, 244, 31, 221, 168, 51, 136, 7, 199, 49, 177, 18, 16, 89, 39, 128, 236, 95, 96, 81, 127, 169, 25, 181, 74, 13, 45, 229, 122, 159, 147, 201, 156, 239, 160, 224, 59, 77, 174, 42, 245, 176, 200, 235, 187, 60, 131, 83, 153, 97, 23, 43, 4, 126, 186, 119, 214, 38, 225, 105, 20, 99, 85, 33, 12, 125]
def sb (x : UInt8) : UInt8 := co boxT x.toNat
def rl (x : UInt8) (k : Nat) : UInt8 := shl8 x k ||| shr8 x (8 - k)
theorem sb_rl (x : UInt8) : (((((inv x ^^^ 99) ^^^ rl (inv x) 1) ^^^ rl (inv x) 2) ^^^ rl (inv x) 3) ^^^ rl (inv x) 4) = sb x := by revert x; refine all8 ?_; decide +kernel
theorem iterC_sim5 {S X : Type} {body body' : S → Option (S ⊕ X)} (I : S → Prop) (he : ∀ s r, I s → body' s = some r → body s = some r) (hs : ∀ s s', I s → body' s = some (.inl s') → I s') : ∀ (k : Nat) (s : S) (x : X), I s → iterN body' k s = some x → iterC body s = some x
  | 0, s, x, _, h => by cases h
  | k + 1, s, x, hi, h => by
    unfold iterN at h
    cases hb : body' s with
    | none => rw [hb] at h; cases h
    | some r =>
      rw [iterC_step, he s r hi hb]
      rw [hb] at h
      cases r with
      | inl s' => exact iterC_sim5 I he hs k s' x (hs s s' hi hb) h
      | inr y => exact h
theorem iter4 {S X : Type} {body : S → Option (S ⊕ X)} {s0 s1 s2 s3 s4 : S} {x : X} (h0 : body s0 = some (.inl s1)) (h1 : body s1 = some (.inl s2)) (h2 : body s2 = some (.inl s3)) (h3 : body s3 = some (.inl s4)) (h4 : body s4 = some (.inr x)) : iterC body s0 = some x := by
  rw [iterC_step, h0]
  show iterC body s1 = some x
  rw [iterC_step, h1]
  show iterC body s2 = some x
  rw [iterC_step, h2]
  show iterC body s3 = some x
  rw [iterC_step, h3]
  show iterC body s4 = some x
  rw [iterC_step, h4]; rfl
theorem Bits8_eq : word_Bits_byte = some 8 := by
  unfold word_Bits_byte
  rw [iterC_some.2 ⟨9, by kernel_rfl⟩]; rfl
theorem Turn8_eq (x : UInt8) (k : Nat) (h0 : 0 < k) (h1 : k < 8) : word_Turn_byte x (k : Int) = some (rl x k) := by
  unfold word_Turn_byte
  rw [Bits8_eq, Option.bind_some, show (8 : Int) = ((8 : Nat) : Int) by rfl, remI_nat _ _ (by omega), Option.bind_some, wI_add _ _ (by omega), remI_nat _ _ (by omega), Option.bind_some]
  have e : (k % 8 + 8) % 8 = k := by omega
  rw [e, if_neg (by omega), cnt_nat, Option.bind_some, wI_sub _ _ (by omega) (by omega), cnt_nat, Option.bind_some]; rfl
def bstep (s : List UInt8 × List UInt8 × Int) : Option ((List UInt8 × List UInt8 × Int) ⊕ List UInt8 × List UInt8) :=
  if s.2.2 < 256 then some (.inl (s.1.set s.2.2.toNat (sb (UInt8.ofInt s.2.2)), s.2.1.set (sb (UInt8.ofInt s.2.2)).toNat (UInt8.ofInt s.2.2), s.2.2 + 1)) else some (.inr (s.1, s.2.1))
theorem boxes_eq (ks : List (List UInt8)) : cipher_boxes ⟨true, ks, List.replicate 256 0, List.replicate 256 0⟩ = some ⟨true, ks, boxT, backT⟩ := by
  unfold cipher_boxes
  dsimp only
  refine bind_of (x := (boxT, backT)) (iterC_sim5 (body' := bstep) (fun s => s.1.length = 256 ∧ s.2.1.length = 256 ∧ 0 ≤ s.2.2) ?_ ?_ 257 _ _ ⟨by rw [List.length_replicate], by rw [List.length_replicate], by decide⟩ (by decide +kernel)) rfl
  · rintro ⟨b, k, i⟩ r ⟨h1, h2, h3⟩ hr
    unfold bstep at hr
    simp only at h1 h2 h3 hr ⊢
    by_cases hi : i < 256
    · rw [if_pos hi] at hr ⊢
      obtain ⟨n, rfl⟩ := Int.eq_ofNat_of_zero_le h3
      have hinv : ∃ e, field_Inv true (UInt8.ofInt (n : Int)) = some (inv (UInt8.ofInt (n : Int)), e) := by
        rw [Inv_eq]
        by_cases h0 : UInt8.ofInt (n : Int) = 0
        · rw [if_pos h0, h0, inv_zero]; exact ⟨_, rfl⟩
        · rw [if_neg h0]; exact ⟨_, rfl⟩
      obtain ⟨e, hinv⟩ := hinv
      rw [hinv, Option.bind_some]
      dsimp only
      generalize UInt8.ofInt (n : Int) = x at *
      have ht : ∀ k : Nat, 0 < k → k < 8 → ∀ y : UInt8, ((word_Turn_byte (inv x) (k : Int)).bind fun r9 => (some (.inl ((y ^^^ r9), (wI ((k : Int) + 1)))) : Option ((UInt8 × Int) ⊕ UInt8))) = some (.inl (y ^^^ rl (inv x) k, ((k + 1 : Nat) : Int))) := fun k h0 h1 y => by
        rw [Turn8_eq _ _ h0 h1, Option.bind_some, wI_succ _ (by omega)]
      refine bind_of (x := sb x) (iter4 (s1 := ((inv x ^^^ 99) ^^^ rl (inv x) 1, 2)) (s2 := (((inv x ^^^ 99) ^^^ rl (inv x) 1) ^^^ rl (inv x) 2, 3)) (s3 := ((((inv x ^^^ 99) ^^^ rl (inv x) 1) ^^^ rl (inv x) 2) ^^^ rl (inv x) 3, 4)) (s4 := (sb x, 5)) ?_ ?_ ?_ ?_ ?_) ?_
      · exact ht 1 (by omega) (by omega) _
      · exact ht 2 (by omega) (by omega) _
      · exact ht 3 (by omega) (by omega) _
      · rw [← sb_rl]; exact ht 4 (by omega) (by omega) _
      · rfl
      · have hs := (sb x).toNat_lt
        rw [lenA, if_pos h1, Option.bind_some, idx_co (by omega), Option.bind_some, lenA, if_pos h2, Option.bind_some, idx_co (by omega), Option.bind_some, wI_succ _ (by omega), ← hr]
        simp
    · rw [if_neg hi] at hr ⊢; exact hr
  · rintro ⟨b, k, i⟩ s' ⟨h1, h2, h3⟩ hr
    unfold bstep at hr
    simp only at h1 h2 h3 hr ⊢
    split at hr
    · cases hr; exact ⟨by simpa using h1, by simpa using h2, by dsimp only; omega⟩
    · cases hr
def rbstep (v : UInt8) (s : UInt8 × Int) : Option ((UInt8 × Int) ⊕ UInt8) :=
  if s.2 < 8 then some (.inl ((s.1 ||| (shl8 ((((((((shr8 v s.2.toNat) &&& (1 : UInt8)) ^^^ ((shr8 v ((s.2.toNat + 4) % 8)) &&& (1 : UInt8))) ^^^ ((shr8 v ((s.2.toNat + 5) % 8)) &&& (1 : UInt8))) ^^^ ((shr8 v ((s.2.toNat + 6) % 8)) &&& (1 : UInt8))) ^^^ ((shr8 v ((s.2.toNat + 7) % 8)) &&& (1 : UInt8))) ^^^ ((shr8 ((99 : UInt8)) s.2.toNat) &&& (1 : UInt8)))) s.2.toNat)), s.2 + 1)) else some (.inr s.1)
theorem rbox_run (x : UInt8) : iterN (rbstep (inv x)) 9 ((0 : UInt8), 0) = some (sb x) := by revert x; refine all8 ?_; decide +kernel
theorem rBox_eq (x : UInt8) : ref05_Box x = some (sb x) := by
  unfold ref05_Box
  rw [refInv_eq, Option.bind_some]
  refine bind_of (x := sb x) (iterC_sim5 (body' := rbstep (inv x)) (fun s => 0 ≤ s.2) ?_ ?_ 9 _ _ (by decide) (rbox_run x)) rfl
  · rintro ⟨o, i⟩ r h3 hr
    unfold rbstep at hr
    simp only at h3 hr ⊢
    by_cases hi : i < 8
    · rw [if_pos hi] at hr ⊢
      obtain ⟨n, rfl⟩ := Int.eq_ofNat_of_zero_le h3
      rw [cnt_nat, Option.bind_some]
      rw [show (4 : Int) = ((4 : Nat) : Int) by rfl, show (5 : Int) = ((5 : Nat) : Int) by rfl, show (6 : Int) = ((6 : Nat) : Int) by rfl, show (7 : Int) = ((7 : Nat) : Int) by rfl, show (8 : Int) = ((8 : Nat) : Int) by rfl]
      rw [wI_add _ _ (by omega), wI_add _ _ (by omega), wI_add _ _ (by omega), wI_add _ _ (by omega), remI_nat _ _ (by omega), remI_nat _ _ (by omega), remI_nat _ _ (by omega), remI_nat _ _ (by omega), wI_succ _ (by omega)]
      simp only [Option.bind_some, cnt_nat]
      rw [← hr]; simp
    · rw [if_neg hi] at hr ⊢; exact hr
  · rintro ⟨o, i⟩ s' h3 hr
    unfold rbstep at hr
    simp only at h3 hr ⊢
    split at hr
    · cases hr; dsimp only; omega
    · cases hr
end Gk

/- Squares of sixteen bytes: rows, columns, boxes and keys, in plain Lean. No condition but lengths. -/
set_option linter.unusedSimpArgs false
set_option linter.unusedVariables false
namespace Gk
open Gf
theorem list16 {α : Type} : ∀ {s : List α}, s.length = 16 → ∃ a0 a1 a2 a3 a4 a5 a6 a7 a8 a9 a10 a11 a12 a13 a14 a15, s = [a0, a1, a2, a3, a4, a5, a6, a7, a8, a9, a10, a11, a12, a13, a14, a15]
  | [a0, a1, a2, a3, a4, a5, a6, a7, a8, a9, a10, a11, a12, a13, a14, a15], _ => ⟨_, _, _, _, _, _, _, _, _, _, _, _, _, _, _, _, rfl⟩
theorem list4 {α : Type} : ∀ {s : List α}, s.length = 4 → ∃ a b c d, s = [a, b, c, d]
  | [a, b, c, d], _ => ⟨a, b, c, d, rfl⟩
theorem lt4 {i : Nat} (h : i < 4) : i = 0 ∨ i = 1 ∨ i = 2 ∨ i = 3 := by omega
theorem fill44 {body : List UInt8 × Int → Option ((List UInt8 × Int) ⊕ List UInt8)} {inner : List UInt8 × Int → List UInt8 × Int → Option ((List UInt8 × Int) ⊕ List UInt8)} {w0 x : List UInt8}
    (hbody : ∀ s, body s = if s.2 < 4 then ((iterC (inner s) (s.1, 0)).bind fun x => some (.inl (x, wI (s.2 + 1)))) else some (.inr s.1)) (W : Nat → Nat → List UInt8) (h0 : w0 = W 0 0) (hx : x = W 4 0)
    (hstep : ∀ i k : Nat, i < 4 → k < 4 → inner (W i 0, (i : Int)) (W i k, (k : Int)) = some (.inl (W i (k + 1), ((k + 1 : Nat) : Int)))) (hend : ∀ i : Nat, i < 4 → inner (W i 0, (i : Int)) (W i 4, ((4 : Nat) : Int)) = some (.inr (W i 4))) (hW : ∀ i : Nat, i < 4 → W i 4 = W (i + 1) 0) :
    iterC body (w0, 0) = some x := by
  subst h0 hx
  refine iterC_count (fun i => (W i 0, (i : Int))) 4 _ rfl ?_ ?_
  · intro i hi
    try dsimp only
    rw [hbody, if_pos (by dsimp only; omega)]
    refine bind_of (x := W i 4) (iterC_count (fun k => (W i k, (k : Int))) 4 _ rfl (fun k hk => hstep i k hi hk) (hend i hi)) ?_
    try dsimp only
    rw [hW i hi, wI_succ _ (by omega)]
  · rw [hbody, if_neg (by dsimp only; omega)]
def tab16 (f : Nat → UInt8) : List UInt8 := (List.range 16).map f
theorem tab16_len (f : Nat → UInt8) : (tab16 f).length = 16 := by simp [tab16]
theorem co_tab16 (f : Nat → UInt8) {i : Nat} (h : i < 16) : co (tab16 f) i = f i := by rw [tab16, co_tab, if_pos h]
def rowsF (n : Nat) (s : List UInt8) : List UInt8 := tab16 fun j => co s (4 * ((j / 4 + n * (j % 4)) % 4) + j % 4)
theorem rowsF_len (n : Nat) (s : List UInt8) : (rowsF n s).length = 16 := tab16_len _
theorem rows_eq (n : Nat) (hn : n = 1 ∨ n = 3) (s : List UInt8) (h : s.length = 16) : cipher_rows s (n : Int) = some (rowsF n s) := by
  obtain ⟨a0, a1, a2, a3, a4, a5, a6, a7, a8, a9, a10, a11, a12, a13, a14, a15, rfl⟩ := list16 h
  unfold cipher_rows
  rcases hn with rfl | rfl
  · refine bind_of (x := rowsF 1 [a0, a1, a2, a3, a4, a5, a6, a7, a8, a9, a10, a11, a12, a13, a14, a15]) (fill44 (fun s => rfl) (fun i k => tab16 fun j => cond (Nat.blt (j % 4) i || (Nat.beq (j % 4) i && Nat.blt (j / 4) k)) (co [a0, a1, a2, a3, a4, a5, a6, a7, a8, a9, a10, a11, a12, a13, a14, a15] (4 * ((j / 4 + 1 * (j % 4)) % 4) + j % 4)) 0) (by kernel_rfl) (by kernel_rfl) ?_ ?_ ?_) (by kernel_rfl)
    · intro i k hi hk
      rcases lt4 hi with rfl | rfl | rfl | rfl <;> rcases lt4 hk with rfl | rfl | rfl | rfl <;> kernel_rfl
    · intro i hi
      rcases lt4 hi with rfl | rfl | rfl | rfl <;> kernel_rfl
    · intro i hi
      rcases lt4 hi with rfl | rfl | rfl | rfl <;> kernel_rfl
  · refine bind_of (x := rowsF 3 [a0, a1, a2, a3, a4, a5, a6, a7, a8, a9, a10, a11, a12, a13, a14, a15]) (fill44 (fun s => rfl) (fun i k => tab16 fun j => cond (Nat.blt (j % 4) i || (Nat.beq (j % 4) i && Nat.blt (j / 4) k)) (co [a0, a1, a2, a3, a4, a5, a6, a7, a8, a9, a10, a11, a12, a13, a14, a15] (4 * ((j / 4 + 3 * (j % 4)) % 4) + j % 4)) 0) (by kernel_rfl) (by kernel_rfl) ?_ ?_ ?_) (by kernel_rfl)
    · intro i k hi hk
      rcases lt4 hi with rfl | rfl | rfl | rfl <;> rcases lt4 hk with rfl | rfl | rfl | rfl <;> kernel_rfl
    · intro i hi
      rcases lt4 hi with rfl | rfl | rfl | rfl <;> kernel_rfl
    · intro i hi
      rcases lt4 hi with rfl | rfl | rfl | rfl <;> kernel_rfl
def colP (p s : List UInt8) (k i : Nat) : Nat → UInt8
  | 0 => 0
  | m + 1 => colP p s k i m ^^^ mul (co p ((i + 4 - m) % 4)) (co s (4 * k + m))
def colF (p s : List UInt8) : List UInt8 := tab16 fun j => colP p s (j / 4) (j % 4) 4
theorem colF_len (p s : List UInt8) : (colF p s).length = 16 := tab16_len _
theorem columns_eq (p s : List UInt8) (hp : p.length = 4) (h : s.length = 16) : cipher_columns s true p = some (colF p s) := by
  obtain ⟨a0, a1, a2, a3, a4, a5, a6, a7, a8, a9, a10, a11, a12, a13, a14, a15, rfl⟩ := list16 h
  obtain ⟨p0, p1, p2, p3, rfl⟩ := list4 hp
  unfold cipher_columns
  simp only [Mul_eq, Option.bind_some]
  refine bind_of (x := colF [p0, p1, p2, p3] [a0, a1, a2, a3, a4, a5, a6, a7, a8, a9, a10, a11, a12, a13, a14, a15]) (fill44 (fun s => rfl) (fun i k => tab16 fun j => cond (Nat.blt j (4 * i + k)) (colP [p0, p1, p2, p3] [a0, a1, a2, a3, a4, a5, a6, a7, a8, a9, a10, a11, a12, a13, a14, a15] (j / 4) (j % 4) 4) 0) (by kernel_rfl) (by kernel_rfl) ?_ ?_ ?_) (by kernel_rfl)
  · intro i k hi hk
    let V : Nat → List UInt8 := fun m => tab16 fun j => cond (Nat.blt j (4 * i + k)) (colP [p0, p1, p2, p3] [a0, a1, a2, a3, a4, a5, a6, a7, a8, a9, a10, a11, a12, a13, a14, a15] (j / 4) (j % 4) 4) (cond (Nat.beq j (4 * i + k)) (colP [p0, p1, p2, p3] [a0, a1, a2, a3, a4, a5, a6, a7, a8, a9, a10, a11, a12, a13, a14, a15] i k m) 0)
    rcases lt4 hi with rfl | rfl | rfl | rfl <;> rcases lt4 hk with rfl | rfl | rfl | rfl <;> exact bind_of (x := V 4) (iter4 (s1 := (V 1, 1)) (s2 := (V 2, 2)) (s3 := (V 3, 3)) (s4 := (V 4, 4)) (by kernel_rfl) (by kernel_rfl) (by kernel_rfl) (by kernel_rfl) (by kernel_rfl)) (by kernel_rfl)
  · intro i hi
    rcases lt4 hi with rfl | rfl | rfl | rfl <;> kernel_rfl
  · intro i hi
    rcases lt4 hi with rfl | rfl | rfl | rfl <;> kernel_rfl
theorem Clone5 (b : List UInt8) (h : b.length ≤ most) : slices_Clone_sbytebyte b = some b := by
  unfold slices_Clone_sbytebyte
  exact appL_nil b h
end Gk

/- Blocks, there and back, in plain Lean (chapter 5). No condition but lengths. -/
set_option linter.unusedSimpArgs false
set_option linter.unusedVariables false
namespace Gk
open Gf
def xr (a b : List UInt8) : List UInt8 := (List.range (min a.length b.length)).map fun i => co a i ^^^ co b i
theorem wXor_eq (a b : List UInt8) (h : a.length ≤ most) : word_Xor a b = some (xr a b) := by
  unfold word_Xor
  have hm := most_lt'
  rw [minI, Nat.min_comm, makeL_nat _ _ (by omega), Option.bind_some]
  have hl : (List.replicate (min b.length a.length) (0 : UInt8)).length = min b.length a.length := List.length_replicate
  refine bind_of (x := xr a b) (iterC_count (fun i => (updB (List.replicate (min b.length a.length) 0) (fun i => co a i ^^^ co b i) i, (i : Int))) (min b.length a.length) _ (by rw [updB_zero]; rfl) ?_ ?_) rfl
  · intro i hi
    have hs := updB_succ (List.replicate (min b.length a.length) 0) (fun i => co a i ^^^ co b i) i (by omega)
    simp only [hl]
    rw [if_pos (by omega), idx_co (by omega), Option.bind_some, idx_co (by omega), Option.bind_some, idx_updB _ _ _ _ (by omega), Option.bind_some, wI_succ _ (by omega), Int.toNat_natCast, hs]
  · simp only [hl]
    rw [if_neg (by omega)]
    have := updB_end (List.replicate (min b.length a.length) 0) (fun i => co a i ^^^ co b i)
    rw [hl] at this
    rw [this, Nat.min_comm]; rfl
theorem xr_len (a b : List UInt8) : (xr a b).length = min a.length b.length := by simp [xr]
theorem co_xr (a b : List UInt8) (i : Nat) (ha : i < a.length) (hb : i < b.length) : co (xr a b) i = co a i ^^^ co b i := by
  rw [xr, co_tab, if_pos (by omega)]
theorem ext_co {p q : List UInt8} (hl : p.length = q.length) (h : ∀ i, i < p.length → co p i = co q i) : p = q := by
  refine eq_of_co hl fun i => ?_
  by_cases hi : i < p.length
  · exact h i hi
  · simp [co, List.getD_eq_getElem?_getD, List.getElem?_eq_none (Nat.le_of_not_lt hi), List.getElem?_eq_none (show q.length ≤ i by omega)]
theorem xr_xr (a b : List UInt8) (h : a.length = b.length) : xr (xr a b) b = a := ext_co (by rw [xr_len, xr_len]; omega) fun i hi => by
  rw [xr_len, xr_len] at hi
  rw [co_xr _ _ _ (by rw [xr_len]; omega) (by omega), co_xr _ _ _ (by omega) (by omega), xor_assoc, xor_self, xor_zero]
theorem co_map (f : UInt8 → UInt8) (l : List UInt8) (i : Nat) (h : i < l.length) : co (l.map f) i = f (co l i) := by
  simp [co, List.getD_eq_getElem?_getD, h]
theorem through_eq (T b : List UInt8) (hT : T.length = 256) (h : b.length ≤ most) : cipher_through T b = some (b.map fun x => co T x.toNat) := by
  unfold cipher_through
  have hm := most_lt'
  rw [Clone5 b h, Option.bind_some]
  refine bind_of (x := b.map fun x => co T x.toNat) (iterC_count (fun i => (updB b (fun j => co T (co b j).toNat) i, (i : Int))) b.length _ (by rw [updB_zero]; rfl) ?_ ?_) rfl
  · intro i hi
    have hs := updB_succ b (fun j => co T (co b j).toNat) i hi
    have hx := (co b i).toNat_lt
    dsimp only
    rw [if_pos (by omega), idx_co hi, Option.bind_some, lenA, if_pos hT, Option.bind_some, idx_co (by omega), Option.bind_some, idx_updB _ _ _ _ hi, Option.bind_some, wI_succ _ (by omega), Int.toNat_natCast, hs]
  · dsimp only
    rw [if_neg (by omega), updB_end]
    congr 2
    refine ext_co (by simp) fun i hi => ?_
    simp only [List.length_map, List.length_range] at hi
    rw [co_tab, if_pos hi, co_map _ _ _ hi]
theorem copyL_full (l m : List UInt8) (h : m.length = l.length) : copyL l 0 m = m := by
  refine ext_co ?_ fun i hi => ?_
  · have := copyL_len l 0 m (by omega); rw [h]; exact this
  · have hl := copyL_len l 0 m (by omega)
    have := co_copyL l 0 m (by omega) i
    rw [show ((0 : Nat) : Int) = 0 by rfl] at this hl
    rw [this, if_pos (by omega), Nat.sub_zero]
theorem add_eq (s k : List UInt8) (hs : s.length = 16) (hk : k.length = 16) : cipher_add s k = some (xr s k) := by
  have hm : (16 : Nat) ≤ most := by decide
  unfold cipher_add
  rw [lenA, if_pos hs, Option.bind_some, lenA, if_pos hk, Option.bind_some, wXor_eq _ _ (by omega), Option.bind_some, copyL_full _ _ (by rw [xr_len]; omega)]
theorem box_eq (s T : List UInt8) (hs : s.length = 16) (hT : T.length = 256) : cipher_box s T = some (s.map fun x => co T x.toNat) := by
  have hm : (16 : Nat) ≤ most := by decide
  unfold cipher_box
  rw [lenA, if_pos hs, Option.bind_some, through_eq _ _ hT (by omega), Option.bind_some, copyL_full _ _ (by simp)]
def pE : List UInt8 := [2, 1, 1, 3]
theorem col_at (p s : List UInt8) (k i : Nat) : colP p s k i 4 = (((0 ^^^ mul (co p ((i + 4 - 0) % 4)) (co s (4 * k + 0))) ^^^ mul (co p ((i + 4 - 1) % 4)) (co s (4 * k + 1))) ^^^ mul (co p ((i + 4 - 2) % 4)) (co s (4 * k + 2))) ^^^ mul (co p ((i + 4 - 3) % 4)) (co s (4 * k + 3)) := rfl
theorem co_col (p s : List UInt8) (k i : Nat) (hk : k < 4) (hi : i < 4) : co (colF p s) (4 * k + i) = colP p s k i 4 := by
  rw [colF, co_tab16 _ (by omega), show (4 * k + i) / 4 = k by omega, show (4 * k + i) % 4 = i by omega]
def rE (s key : List UInt8) (last : Bool) : List UInt8 := xr (if last then rowsF 1 (s.map sb) else colF pE (rowsF 1 (s.map sb))) key
theorem rE_len (s key : List UInt8) (l : Bool) (hk : key.length = 16) : (rE s key l).length = 16 := by
  unfold rE; rw [xr_len]; split
  · rw [rowsF_len, hk]; rfl
  · rw [colF_len, hk]; rfl
def eS (ks : List (List UInt8)) (s : List UInt8) : Nat → List UInt8
  | 0 => s
  | i + 1 => rE (eS ks s i) (ks.getD i []) (Nat.beq (i + 1) ks.length)
theorem eS_len (ks : List (List UInt8)) (s : List UInt8) (hk : ∀ x ∈ ks, x.length = 16) (hs : s.length = 16) : ∀ i, i ≤ ks.length → (eS ks s i).length = 16
  | 0, _ => hs
  | i + 1, h => rE_len _ _ _ (hk _ (getD_mem (by omega)))
def encF (k0 : List UInt8) (ks : List (List UInt8)) (s : List UInt8) : List UInt8 := eS ks (xr s k0) ks.length
theorem encF_len (k0 : List UInt8) (ks : List (List UInt8)) (s : List UInt8) (h0 : k0.length = 16) (hk : ∀ x ∈ ks, x.length = 16) (hs : s.length = 16) : (encF k0 ks s).length = 16 := eS_len ks _ hk (by rw [xr_len]; omega) _ (Nat.le_refl _)
theorem Rounds_eq (c : Cip) (h : 1 ≤ c.keys.length) (h2 : c.keys.length ≤ 1000) : cipher_Rounds (some c) = some ((c.keys.length - 1 : Nat) : Int) := by
  unfold cipher_Rounds
  rw [if_neg (by simp), Option.bind_some, wI_pred _ h (by omega)]
theorem boxT_len : boxT.length = 256 := by decide +kernel
theorem backT_len : backT.length = 256 := by decide +kernel
theorem Encrypt_eq (k0 : List UInt8) (ks : List (List UInt8)) (b : List UInt8) (h0 : k0.length = 16) (hk : ∀ x ∈ ks, x.length = 16) (hn : ks.length ≤ 100) (hb : b.length = 16) : cipher_Encrypt (some ⟨true, k0 :: ks, boxT, backT⟩) b = some (encF k0 ks b, 0) := by
  have hm : (1000 : Nat) ≤ most := by decide
  have hb0 : (xr b k0).length = 16 := by rw [xr_len]; omega
  unfold cipher_Encrypt
  rw [if_neg (by simp), if_pos (by omega), lenA, if_pos hb, Option.bind_some, lenA, if_pos (by simp), Option.bind_some, Option.bind_some]
  dsimp only
  rw [show idx (k0 :: ks) 0 = some k0 by rfl, Option.bind_some, add_eq _ _ hb h0, Option.bind_some]
  have hsub : subL (k0 :: ks) 1 ((k0 :: ks).length : Int) = some ks := by
    have := subL_nat (k0 :: ks) 1 (k0 :: ks).length (by simp) (Nat.le_refl _)
    rw [List.take_length] at this
    exact this
  rw [hsub, Option.bind_some]
  refine bind_of (x := encF k0 ks b) (iterC_count (fun i => (eS ks (xr b k0) i, (i : Int))) ks.length _ rfl ?_ ?_) ?_
  · intro i hi
    have hki : (ks.getD i []).length = 16 := hk _ (getD_mem hi)
    have hsl := eS_len ks (xr b k0) hk hb0 i (by omega)
    dsimp only
    rw [if_pos (by omega), idx_getD hi, Option.bind_some, Option.bind_some, lenA, if_pos hki, Option.bind_some, box_eq _ _ hsl boxT_len, Option.bind_some]
    have hms : ((eS ks (xr b k0) i).map fun x => co boxT x.toNat) = (eS ks (xr b k0) i).map sb := rfl
    rw [hms, show (1 : Int) = ((1 : Nat) : Int) by rfl, rows_eq 1 (.inl rfl) _ (by rw [List.length_map]; exact hsl), Option.bind_some, Rounds_eq _ (by simp) (by simp; omega), Option.bind_some]
    dsimp only
    rw [List.length_cons, Nat.add_sub_cancel]
    rw [wI_of (by omega) (by omega)]
    by_cases hl : i + 1 = ks.length
    · rw [if_neg (by omega), Option.bind_some, add_eq _ _ (rowsF_len _ _) hki, Option.bind_some, wI_add _ _ (by omega), eS, rE]
      rw [show Nat.beq (i + 1) ks.length = true by rw [Nat.beq_eq]; exact hl, if_pos rfl]
    · rw [if_pos (by omega), show ([(2 : UInt8), (1 : UInt8), (1 : UInt8), (3 : UInt8)] : List UInt8) = pE by rfl, columns_eq _ _ rfl (rowsF_len _ _), Option.bind_some, Option.bind_some, add_eq _ _ (colF_len _ _) hki, Option.bind_some, wI_add _ _ (by omega), eS, rE]
      rw [show Nat.beq (i + 1) ks.length = false by rw [Bool.eq_false_iff, ne_eq, Nat.beq_eq]; exact hl]; rfl
  · dsimp only
    rw [if_neg (by omega)]; rfl
  · have hl := encF_len k0 ks b h0 hk hb
    rw [lenA, if_pos hl, Option.bind_some, Clone5 _ (by omega), Option.bind_some]
end Gk

/- The cipher of a key, and the document's, in plain Lean (chapter 5). No condition but lengths. -/
set_option linter.unusedSimpArgs false
set_option linter.unusedVariables false
namespace Gk
open Gf
theorem flat_len (m : Nat) : ∀ (l : List (List UInt8)), (∀ x ∈ l, x.length = m) → l.flatten.length = m * l.length
  | [], _ => by simp
  | x :: l, h => by
    have h1 := h x (List.mem_cons_self ..)
    have h2 := flat_len m l (fun y hy => h y (List.mem_cons_of_mem _ hy))
    rw [List.flatten_cons, List.length_append, h1, h2, List.length_cons, Nat.mul_succ]; omega
theorem co_flat (m : Nat) : ∀ (l : List (List UInt8)), (∀ x ∈ l, x.length = m) → ∀ i k, i < l.length → k < m → co l.flatten (m * i + k) = co (l.getD i []) k
  | [], _, i, k, h, _ => by simp at h
  | x :: l, h, 0, k, _, hk => by
    have h1 := h x (List.mem_cons_self ..)
    simp only [co, List.getD_eq_getElem?_getD, List.flatten_cons, Nat.mul_zero, Nat.zero_add, List.getElem?_append]
    rw [if_pos (by omega)]; rfl
  | x :: l, h, i + 1, k, hi, hk => by
    have h1 := h x (List.mem_cons_self ..)
    have h2 := co_flat m l (fun y hy => h y (List.mem_cons_of_mem _ hy)) i k (by simpa using hi) hk
    simp only [co, List.getD_eq_getElem?_getD, List.flatten_cons, List.getElem?_append] at h2 ⊢
    rw [if_neg (by rw [h1, Nat.mul_succ]; omega), show m * (i + 1) + k - x.length = m * i + k by rw [h1, Nat.mul_succ]; omega, h2]; rfl
def kst (n : Nat) (s : List (List UInt8) × UInt8) (i : Nat) : List (List UInt8) × UInt8 :=
  if i % n = 0 then (s.1 ++ [xr [sb (co (s.1.getD (i - 1) []) 1) ^^^ s.2, sb (co (s.1.getD (i - 1) []) 2), sb (co (s.1.getD (i - 1) []) 3), sb (co (s.1.getD (i - 1) []) 0)] (s.1.getD (i - n) [])], mul s.2 2)
  else if n = 8 ∧ i % n = 4 then (s.1 ++ [xr ((s.1.getD (i - 1) []).map sb) (s.1.getD (i - n) [])], s.2)
  else (s.1 ++ [xr (s.1.getD (i - 1) []) (s.1.getD (i - n) [])], s.2)
def kS (n : Nat) (w : List (List UInt8)) : Nat → List (List UInt8) × UInt8
  | 0 => (w, 1)
  | j + 1 => kst n (kS n w j) (n + j)
theorem kS_ok (n : Nat) (w : List (List UInt8)) (hn : 0 < n) (hw : w.length = n) (h4 : ∀ x ∈ w, x.length = 4) : ∀ j, (kS n w j).1.length = n + j ∧ ∀ x ∈ (kS n w j).1, x.length = 4
  | 0 => ⟨hw, h4⟩
  | j + 1 => by
    obtain ⟨h1, h2⟩ := kS_ok n w hn hw h4 j
    have ha : ((kS n w j).1.getD (n + j - 1) []).length = 4 := h2 _ (getD_mem (by omega))
    have hb : ((kS n w j).1.getD (n + j - n) []).length = 4 := h2 _ (getD_mem (by omega))
    have key : ∀ t : List UInt8, t.length = 4 → ((kS n w j).1 ++ [xr t ((kS n w j).1.getD (n + j - n) [])]).length = n + (j + 1) ∧ ∀ x ∈ (kS n w j).1 ++ [xr t ((kS n w j).1.getD (n + j - n) [])], x.length = 4 := fun t ht => by
      refine ⟨by rw [List.length_append, h1]; rfl, fun x hx => ?_⟩
      rcases List.mem_append.1 hx with hx | hx
      · exact h2 x hx
      · rw [List.mem_singleton.1 hx, xr_len, hb, ht]; rfl
    rw [kS, kst]
    split
    · exact key _ rfl
    · split
      · exact key _ (by rw [List.length_map]; exact ha)
      · exact key _ ha
def wor0 (key : List UInt8) : List (List UInt8) := (chunksI key 4).map (·.2)
def worF (key : List UInt8) : List (List UInt8) := (kS (key.length / 4) (wor0 key) (3 * (key.length / 4) + 28)).1
def keysF (key : List UInt8) : List (List UInt8) := (chunksI (worF key) 4).map (·.2.flatten)
theorem chunks_len {α : Type} (l : List α) (n : Nat) : (chunksI l n).length = (l.length + n - 1) / n := by simp [chunksI]
theorem chunks_at {α : Type} (l : List α) (n j : Nat) (h : j < (l.length + n - 1) / n) : (chunksI l n)[j]? = some (((j * n : Nat) : Int), (l.drop (j * n)).take n) := by
  simp [chunksI, h]
theorem mem_chunks {α : Type} {l : List α} {n : Nat} {x : Int × List α} (h : x ∈ chunksI l n) : ∃ j, j < (l.length + n - 1) / n ∧ x = (((j * n : Nat) : Int), (l.drop (j * n)).take n) := by
  unfold chunksI at h
  obtain ⟨j, hj, rfl⟩ := List.mem_map.1 h
  exact ⟨j, List.mem_range.1 hj, rfl⟩
theorem wor0_len (key : List UInt8) (n : Nat) (h : key.length = 4 * n) : (wor0 key).length = n := by
  rw [wor0, List.length_map, chunks_len]; omega
theorem wor0_4 (key : List UInt8) (n : Nat) (h : key.length = 4 * n) : ∀ x ∈ wor0 key, x.length = 4 := by
  intro x hx
  obtain ⟨y, hy, rfl⟩ := List.mem_map.1 hx
  obtain ⟨j, hj, rfl⟩ := mem_chunks hy
  simp only [List.length_take, List.length_drop]; omega
theorem getD_wor0 (key : List UInt8) (n : Nat) (h : key.length = 4 * n) (j : Nat) (hj : j < n) : (wor0 key).getD j [] = (key.drop (j * 4)).take 4 := by
  rw [wor0, List.getD_eq_getElem?_getD, List.getElem?_map, chunks_at _ _ _ (by omega)]; rfl
theorem wor0_flat (key : List UInt8) (n : Nat) (h : key.length = 4 * n) : (wor0 key).flatten = key := by
  have hl := flat_len 4 _ (wor0_4 key n h)
  rw [wor0_len key n h] at hl
  refine ext_co (by omega) fun i hi => ?_
  have e := co_flat 4 _ (wor0_4 key n h) (i / 4) (i % 4) (by rw [wor0_len key n h]; omega) (by omega)
  rw [show 4 * (i / 4) + i % 4 = i by omega] at e
  rw [e, getD_wor0 key n h _ (by omega), co_take, if_pos (by omega), co_drop]
  congr 1; omega
theorem worF_ok (key : List UInt8) (n : Nat) (hn : 0 < n) (h : key.length = 4 * n) : (worF key).length = 4 * (n + 7) ∧ ∀ x ∈ worF key, x.length = 4 := by
  have h1 := kS_ok n (wor0 key) hn (wor0_len key n h) (wor0_4 key n h) (3 * n + 28)
  unfold worF
  rw [show key.length / 4 = n by omega]
  exact ⟨by rw [h1.1]; omega, h1.2⟩
theorem keysF_len (key : List UInt8) (n : Nat) (hn : 0 < n) (h : key.length = 4 * n) : (keysF key).length = n + 7 := by
  rw [keysF, List.length_map, chunks_len, (worF_ok key n hn h).1]; omega
theorem chunk_flat (key : List UInt8) (n : Nat) (hn : 0 < n) (h : key.length = 4 * n) (j : Nat) (hj : j < n + 7) : (((worF key).drop (j * 4)).take 4).flatten.length = 16 ∧ ∀ i, i < 16 → co (((worF key).drop (j * 4)).take 4).flatten i = co (worF key).flatten (16 * j + i) := by
  obtain ⟨h1, h2⟩ := worF_ok key n hn h
  have h3 : ∀ x ∈ ((worF key).drop (j * 4)).take 4, x.length = 4 := fun x hx => h2 x (List.mem_of_mem_drop (List.mem_of_mem_take hx))
  have hl : (((worF key).drop (j * 4)).take 4).length = 4 := by simp only [List.length_take, List.length_drop]; omega
  refine ⟨by rw [flat_len 4 _ h3, hl], fun i hi => ?_⟩
  have e1 := co_flat 4 _ h3 (i / 4) (i % 4) (by omega) (by omega)
  have e2 := co_flat 4 _ h2 (j * 4 + i / 4) (i % 4) (by omega) (by omega)
  rw [show 4 * (i / 4) + i % 4 = i by omega] at e1
  rw [show 4 * (j * 4 + i / 4) + i % 4 = 16 * j + i by omega] at e2
  rw [e1, e2]
  congr 1
  rw [List.getD_eq_getElem?_getD, List.getD_eq_getElem?_getD, List.getElem?_take, if_pos (by omega), List.getElem?_drop]
theorem getD_keysF (key : List UInt8) (n : Nat) (hn : 0 < n) (h : key.length = 4 * n) (j : Nat) (hj : j < n + 7) : (keysF key).getD j [] = (((worF key).drop (j * 4)).take 4).flatten := by
  have h1 := (worF_ok key n hn h).1
  rw [keysF, List.getD_eq_getElem?_getD, List.getElem?_map, chunks_at _ _ _ (by omega)]; rfl
theorem keysF_16 (key : List UInt8) (n : Nat) (hn : 0 < n) (h : key.length = 4 * n) : ∀ x ∈ keysF key, x.length = 16 := by
  intro x hx
  obtain ⟨j, hj, rfl⟩ := mem_getD hx
  rw [keysF_len key n hn h] at hj
  rw [getD_keysF key n hn h j hj]; exact (chunk_flat key n hn h j hj).1
theorem co_keysF (key : List UInt8) (n : Nat) (hn : 0 < n) (h : key.length = 4 * n) (j : Nat) (hj : j < n + 7) (i : Nat) (hi : i < 16) : co ((keysF key).getD j []) i = co (worF key).flatten (16 * j + i) := by
  rw [getD_keysF key n hn h j hj]; exact (chunk_flat key n hn h j hj).2 i hi
theorem foldl_snoc {α β : Type} (f : α → β) : ∀ (l : List α) (s : List β), l.foldl (fun s y => s ++ [f y]) s = s ++ l.map f
  | [], s => by simp
  | x :: l, s => by rw [List.foldl_cons, foldl_snoc f l]; simp
theorem New_eq (key : List UInt8) (n : Nat) (hn : n = 4 ∨ n = 8) (h : key.length = 4 * n) : cipher_New true key = some (some ⟨true, keysF key, boxT, backT⟩, 0) := by
  have hm : (1000 : Nat) ≤ most := by decide
  have hn0 : 0 < n := by omega
  unfold cipher_New
  have e1 : ∀ (x : Option (Unit ⊕ Option Cip × Int)), x = some (.inl ()) → (if (!true) = true then (some (.inr ((none : Option Cip), 1)) : Option (Unit ⊕ Option Cip × Int)) else x) = some (.inl ()) := fun x hx => by rw [if_neg (by simp), hx]
  have e2 : (if (key.length : Int) = 16 then (some (.inl ()) : Option (Unit ⊕ Option Cip × Int)) else (if (key.length : Int) = 32 then some (.inl ()) else some (.inr ((none : Option Cip), 3)))) = some (.inl ()) := by
    rcases hn with rfl | rfl
    · rw [if_pos (by omega)]
    · rw [if_neg (by omega), if_pos (by omega)]
  rw [e1 _ e2, Option.bind_some, Sum.elim_inl, boxes_eq, Option.bind_some]
  have ed : divI (key.length : Int) 4 = some (n : Int) := by
    rw [show (4 : Int) = ((4 : Nat) : Int) by rfl, divI_nat _ _ (by omega) (by omega), show key.length / 4 = n by omega]
  rw [ed, Option.bind_some, lim_of (by omega), Option.bind_some]
  dsimp only
  -- the first words
  have hr1 := rangeL_inv (f := fun (s33 : List (List UInt8)) (y33 : Int × List UInt8) => ((slices_Clone_sbytebyte y33.2).bind fun r40 => ((appL s33 (([r40] : List (List UInt8)))).bind fun c46 => some c46)))
    (fun s y => s ++ [y.2]) (xs := chunksI key 4) (s0 := []) (fun k s => s.length = k) rfl (fun k s y hk hy hs => by
      obtain ⟨j, hj, rfl⟩ := mem_chunks hy
      rw [chunks_len] at hk
      refine ⟨?_, by rw [List.length_append, hs]; rfl⟩
      rw [Clone5 _ (by simp only [List.length_take, List.length_drop]; omega), Option.bind_some, appL_ok _ _ (by rw [List.length_singleton]; omega) rfl, Option.bind_some])
  rw [hr1.1, Option.bind_some, foldl_snoc, List.nil_append]
  have hw0 : (chunksI key 4).map (·.2) = wor0 key := rfl
  rw [hw0]
  have hok := kS_ok n (wor0 key) hn0 (wor0_len key n h) (wor0_4 key n h)
  refine bind_of (x := worF key) (bind_of (x := worF key) (iterC_count (fun j => ((kS n (wor0 key) j).1, (kS n (wor0 key) j).2, ((n + j : Nat) : Int))) (3 * n + 28) _ rfl ?_ ?_) rfl) ?_
  · intro j hj
    obtain ⟨hl, h4⟩ := hok j
    have eb : wI (4 * wI ((n : Int) + 7)) = ((4 * (n + 7) : Nat) : Int) := by
      rw [wI_of (x := (n : Int) + 7) (by omega) (by omega), wI_of (by omega) (by omega)]; omega
    have ep : wI (((n + j : Nat) : Int) - 1) = ((n + j - 1 : Nat) : Int) := wI_pred _ (by omega) (by omega)
    have em : wI (((n + j : Nat) : Int) - (n : Int)) = ((n + j - n : Nat) : Int) := wI_sub _ _ (by omega) (by omega)
    have ei : wI (((n + j : Nat) : Int) + 1) = ((n + (j + 1) : Nat) : Int) := by rw [wI_succ _ (by omega)]; rfl
    have ht : ((kS n (wor0 key) j).1.getD (n + j - 1) []).length = 4 := h4 _ (getD_mem (by omega))
    have hu : ((kS n (wor0 key) j).1.getD (n + j - n) []).length = 4 := h4 _ (getD_mem (by omega))
    dsimp only
    rw [eb, if_pos (by omega), ep, idx_getD (by omega), Option.bind_some, Clone5 _ (by omega), Option.bind_some, remI_nat _ _ hn0, Option.bind_some, em]
    rw [kS, kst]
    generalize hp : (kS n (wor0 key) j).2 = p at *
    generalize hW : (kS n (wor0 key) j).1 = W at *
    have fin : ∀ (t : List UInt8) (q : UInt8), t.length = 4 → ((idx W ((n + j - n : Nat) : Int)).bind fun c118 => ((word_Xor t c118).bind fun r120 => ((appL W (([r120] : List (List UInt8)))).bind fun c126 => (some (.inl (c126, q, (wI (((n + j : Nat) : Int) + 1)))) : Option ((List (List UInt8) × UInt8 × Int) ⊕ List (List UInt8)))))) = some (.inl (W ++ [xr t (W.getD (n + j - n) [])], q, ((n + (j + 1) : Nat) : Int))) := fun t q ht => by
      rw [idx_getD (by omega), Option.bind_some, wXor_eq _ _ (by omega), Option.bind_some, appL_ok _ _ (by rw [List.length_singleton]; omega) rfl, Option.bind_some, ei]
    by_cases hz : (n + j) % n = 0
    · rw [if_pos (by omega), if_pos hz]
      obtain ⟨a, b, c, d, habcd⟩ := list4 ht
      rw [habcd]
      rw [show idx [a, b, c, d] 1 = some b by rfl, show idx [a, b, c, d] 2 = some c by rfl, show idx [a, b, c, d] 3 = some d by rfl, show idx [a, b, c, d] 0 = some a by rfl]
      simp only [Option.bind_some]
      rw [through_eq _ _ boxT_len (by simp; omega), Option.bind_some, show idx ([b, c, d, a].map fun x => co boxT x.toNat) 0 = some (sb b) by rfl, Option.bind_some, Mul_eq, Option.bind_some, Option.bind_some]
      exact fin [sb b ^^^ p, sb c, sb d, sb a] (mul p 2) rfl
    · rw [if_neg (by omega), if_neg hz]
      by_cases h8 : n = 8 ∧ (n + j) % n = 4
      · rw [if_pos (by omega), Option.bind_some, if_pos (by omega), if_pos h8, through_eq _ _ boxT_len (by omega), Option.bind_some, Option.bind_some]
        exact fin (List.map sb _) p (by rw [List.length_map]; exact ht)
      · rw [if_neg h8]
        by_cases h9 : n = 8
        · rw [if_pos (by omega), Option.bind_some, if_neg (by omega), Option.bind_some]
          exact fin _ p ht
        · rw [if_neg (by omega), Option.bind_some]
          exact fin _ p ht
  · have eb : wI (4 * wI ((n : Int) + 7)) = ((4 * (n + 7) : Nat) : Int) := by
      rw [wI_of (x := (n : Int) + 7) (by omega) (by omega), wI_of (by omega) (by omega)]; omega
    dsimp only
    rw [eb, if_neg (by omega), worF, show key.length / 4 = n by omega]
  -- the keys
  obtain ⟨hl, h4⟩ := worF_ok key n hn0 h
  rw [lim_of (by omega), Option.bind_some]
  have hr2 := rangeL_inv (f := fun (s155 : List (List UInt8)) (y155 : Int × List (List UInt8)) => ((slices_Concat_sbytebyte y155.2).bind fun r163 => ((lenA 16 r163).bind fun c167 => ((appL s155 [r163]).bind fun c172 => some c172))))
    (fun s y => s ++ [y.2.flatten]) (xs := chunksI (worF key) 4) (s0 := []) (fun k s => s.length = k) rfl (fun k s y hk hy hs => by
      obtain ⟨j, hj, rfl⟩ := mem_chunks hy
      rw [chunks_len] at hk
      have hc := (chunk_flat key n hn0 h j (by omega)).1
      refine ⟨?_, by rw [List.length_append, hs]; rfl⟩
      rw [Concat_eq _ (by rw [hc]; omega) (by simp only [List.length_take, List.length_drop]; omega), Option.bind_some, lenA, if_pos hc, Option.bind_some, appL_ok _ _ (by rw [List.length_singleton]; omega) rfl, Option.bind_some])
  rw [hr2.1, Option.bind_some, foldl_snoc, List.nil_append, lenA, if_pos boxT_len, Option.bind_some, lenA, if_pos backT_len, Option.bind_some]; rfl
end Gk

/- The document's words of a key, and its encryption, in plain Lean (chapter 5). No condition but lengths. -/
set_option linter.unusedSimpArgs false
set_option linter.unusedVariables false
namespace Gk
open Gf
theorem co_left (a b : List UInt8) (i : Nat) (h : i < a.length) : co (a ++ b) i = co a i := by
  simp [co, List.getD_eq_getElem?_getD, List.getElem?_append, h]
theorem rKeys_eq (key : List UInt8) (n : Nat) (hn : n = 4 ∨ n = 8) (h : key.length = 4 * n) : ref05_Keys key = some (worF key).flatten := by
  have hm : (1000 : Nat) ≤ most := by decide
  have hn0 : 0 < n := by omega
  unfold ref05_Keys
  rw [show (4 : Int) = ((4 : Nat) : Int) by rfl, divI_nat _ _ (by omega) (by omega), show key.length / 4 = n by omega, Option.bind_some, appL_nil _ (by omega), Option.bind_some]
  have hok := kS_ok n (wor0 key) hn0 (wor0_len key n h) (wor0_4 key n h)
  refine bind_of (x := (worF key).flatten) (iterC_count (fun j => ((kS n (wor0 key) j).1.flatten, (kS n (wor0 key) j).2, ((n + j : Nat) : Int))) (3 * n + 28) _ (by rw [show (kS n (wor0 key) 0).1 = wor0 key by rfl, wor0_flat key n h]; rfl) ?_ ?_) rfl
  · intro j hj
    obtain ⟨hl, h4⟩ := hok j
    have hfl := flat_len 4 _ h4
    have eb : wI (((4 : Nat) : Int) * wI ((n : Int) + 7)) = ((4 * (n + 7) : Nat) : Int) := by
      rw [wI_of (x := (n : Int) + 7) (by omega) (by omega), wI_of (by omega) (by omega)]; omega
    have e4 : wI (((4 : Nat) : Int) * ((n + j : Nat) : Int)) = ((4 * (n + j) : Nat) : Int) := by rw [wI_of (by omega) (by omega)]; omega
    have em : wI (((n + j : Nat) : Int) - (n : Int)) = ((n + j - n : Nat) : Int) := wI_sub _ _ (by omega) (by omega)
    have ei : wI (((n + j : Nat) : Int) + 1) = ((n + (j + 1) : Nat) : Int) := by rw [wI_succ _ (by omega)]; rfl
    have ht : ((kS n (wor0 key) j).1.getD (n + j - 1) []).length = 4 := h4 _ (getD_mem (by omega))
    have hu : ((kS n (wor0 key) j).1.getD (n + j - n) []).length = 4 := h4 _ (getD_mem (by omega))
    have ek : ∀ k : Nat, k < 4 → wI (((4 * (n + j) : Nat) : Int) - ((4 - k : Nat) : Int)) = ((4 * (n + j - 1) + k : Nat) : Int) := fun k hk => by rw [wI_sub _ _ (by omega) (by omega)]; omega
    have ek0 := ek 0 (by omega)
    have ek1 := ek 1 (by omega)
    have ek2 := ek 2 (by omega)
    have ek3 := ek 3 (by omega)
    have i0 := co_flat 4 _ h4 (n + j - 1) 0 (by omega) (by omega)
    have i1 := co_flat 4 _ h4 (n + j - 1) 1 (by omega) (by omega)
    have i2 := co_flat 4 _ h4 (n + j - 1) 2 (by omega) (by omega)
    have i3 := co_flat 4 _ h4 (n + j - 1) 3 (by omega) (by omega)
    have hW4 : ∀ k, k < 4 → co (kS n (wor0 key) j).1.flatten (4 * (n + j - n) + k) = co ((kS n (wor0 key) j).1.getD (n + j - n) []) k := fun k hk => co_flat 4 _ h4 (n + j - n) k (by omega) hk
    dsimp only
    rw [eb, if_pos (by omega), e4]
    rw [kS, kst]
    generalize hp : (kS n (wor0 key) j).2 = p at *
    generalize hW : (kS n (wor0 key) j).1 = W at *
    obtain ⟨a, b, c, d, habcd⟩ := list4 ht
    rw [habcd] at i0 i1 i2 i3 ⊢
    simp only [show (((4 - 0 : Nat) : Int)) = ((4 : Nat) : Int) by rfl, show (((4 - 1 : Nat) : Int)) = 3 by rfl, show (((4 - 2 : Nat) : Int)) = 2 by rfl, show (((4 - 3 : Nat) : Int)) = 1 by rfl] at ek0 ek1 ek2 ek3
    rw [ek0, ek1, ek2, ek3, idx_co (by omega), idx_co (by omega), idx_co (by omega), idx_co (by omega), i0, i1, i2, i3]
    simp only [Option.bind_some]
    rw [show co [a, b, c, d] 0 = a by rfl, show co [a, b, c, d] 1 = b by rfl, show co [a, b, c, d] 2 = c by rfl, show co [a, b, c, d] 3 = d by rfl, remI_nat _ _ hn0, Option.bind_some]
    have fin : ∀ (t : List UInt8) (q : UInt8), t.length = 4 → ((iterC (fun s60 : List UInt8 × Int => (if s60.2 < ((4 : Nat) : Int) then ((idx s60.1 ((wI ((wI (((4 : Nat) : Int) * (wI (((n + j : Nat) : Int) - (n : Int))))) + s60.2)))).bind fun c66 => ((idx t s60.2).bind fun c67 => ((appL s60.1 (([(c66 ^^^ c67)] : List UInt8))).bind fun c70 => some (.inl (c70, (wI (s60.2 + 1))))))) else some (.inr s60.1))) (W.flatten, 0)).bind fun x60 => (some (.inl (x60, q, (wI (((n + j : Nat) : Int) + 1)))) : Option ((List UInt8 × UInt8 × Int) ⊕ List UInt8))) = some (.inl ((W ++ [xr t (W.getD (n + j - n) [])]).flatten, q, ((n + (j + 1) : Nat) : Int))) := fun t q ht => by
      have hx : (xr t (W.getD (n + j - n) [])).length = 4 := by rw [xr_len]; omega
      refine bind_of (x := W.flatten ++ xr t (W.getD (n + j - n) [])) (iterC_count (fun k => (W.flatten ++ (xr t (W.getD (n + j - n) [])).take k, (k : Int))) 4 _ (by rw [List.take_zero, List.append_nil]; rfl) ?_ ?_) ?_
      · intro k hk
        have e5 : wI (wI (((4 : Nat) : Int) * (wI (((n + j : Nat) : Int) - (n : Int)))) + (k : Int)) = ((4 * (n + j - n) + k : Nat) : Int) := by
          rw [em, wI_of (x := ((4 : Nat) : Int) * ((n + j - n : Nat) : Int)) (by omega) (by omega), wI_of (by omega) (by omega)]; omega
        have hlt : 4 * (n + j - n) + k < W.flatten.length := by omega
        dsimp only
        rw [if_pos (by omega), e5, idx_co (by rw [List.length_append]; omega), Option.bind_some, idx_co (by omega), Option.bind_some, co_left _ _ _ hlt, hW4 k hk, xor_comm, ← co_xr _ _ _ (by omega) (by omega), appL_ok _ _ (by rw [List.length_append, List.length_singleton, List.length_take]; omega) rfl, Option.bind_some, List.append_assoc, ← take_snoc (by omega), wI_succ _ (by omega)]
      · dsimp only
        rw [if_neg (by omega), List.take_of_length_le (by omega)]
      · rw [ei, List.flatten_append, List.flatten_singleton]
    by_cases hz : (n + j) % n = 0
    · rw [if_pos (by omega), if_pos hz]
      rw [show idx [a, b, c, d] 1 = some b by rfl, show idx [a, b, c, d] 2 = some c by rfl, show idx [a, b, c, d] 3 = some d by rfl, show idx [a, b, c, d] 0 = some a by rfl]
      simp only [Option.bind_some, rBox_eq, refMul_eq]
      exact fin _ _ rfl
    · rw [if_neg (by omega), if_neg hz]
      by_cases h8 : n = 8 ∧ (n + j) % n = 4
      · have h8c : (n + j) % 8 = 4 := by have := h8.2; rw [h8.1] at this ⊢; exact this
        rw [if_pos (by omega), show (8 : Int) = ((8 : Nat) : Int) by rfl, remI_nat _ _ (by omega), Option.bind_some, if_pos (by omega), if_pos h8]
        rw [show idx [a, b, c, d] 1 = some b by rfl, show idx [a, b, c, d] 2 = some c by rfl, show idx [a, b, c, d] 3 = some d by rfl, show idx [a, b, c, d] 0 = some a by rfl]
        simp only [Option.bind_some, rBox_eq, refMul_eq]
        exact fin _ _ rfl
      · rw [if_neg h8]
        by_cases h9 : n = 8
        · have h10 : ¬ (n + j) % 8 = 4 := fun e => h8 ⟨h9, by rw [h9] at e ⊢; exact e⟩
          rw [if_pos (by omega), show (8 : Int) = ((8 : Nat) : Int) by rfl, remI_nat _ _ (by omega), Option.bind_some, if_neg (by omega), Option.bind_some]
          exact fin _ _ rfl
        · rw [if_neg (by omega), Option.bind_some]
          exact fin _ _ rfl
  · have eb : wI (((4 : Nat) : Int) * wI ((n : Int) + 7)) = ((4 * (n + 7) : Nat) : Int) := by
      rw [wI_of (x := (n : Int) + 7) (by omega) (by omega), wI_of (by omega) (by omega)]; omega
    dsimp only
    rw [eb, if_neg (by omega), worF, show key.length / 4 = n by omega]
theorem rT_loop (S : List UInt8) (h : S.length = 16) : (iterC (fun s34 : List UInt8 × Int =>
(if s34.2 < 4 then
((iterC (fun s37 : List UInt8 × Int =>
(if s37.2 < 4 then
((remI ((wI (s34.2 + s37.2))) 4).bind fun c40 =>
((lenA 16 S).bind fun c41 =>
((idx S ((wI ((wI (4 * c40)) + s37.2)))).bind fun c42 =>
((ref05_Box c42).bind fun r43 =>
((lenA 16 s37.1).bind fun c45 =>
((idx s37.1 ((wI ((wI (4 * s34.2)) + s37.2)))).bind fun c46 => some (.inl ((s37.1.set ((wI ((wI (4 * s34.2)) + s37.2)) : Int).toNat r43), (wI (s37.2 + 1))))))))))
else some (.inr s37.1))) (s34.1, 0)).bind fun x37 => some (.inl (x37, (wI (s34.2 + 1)))))
else some (.inr s34.1))) ((List.replicate 16 (0 : UInt8)), 0)) = some (rowsF 1 (S.map sb)) := by
  obtain ⟨a0, a1, a2, a3, a4, a5, a6, a7, a8, a9, a10, a11, a12, a13, a14, a15, rfl⟩ := list16 h
  simp only [rBox_eq, Option.bind_some]
  refine fill44 (fun s => rfl) (fun i k => tab16 fun j => cond (Nat.blt j (4 * i + k)) (sb (co [a0, a1, a2, a3, a4, a5, a6, a7, a8, a9, a10, a11, a12, a13, a14, a15] (4 * ((j / 4 + j % 4) % 4) + j % 4))) 0) (by kernel_rfl) (by kernel_rfl) ?_ ?_ ?_
  · intro i k hi hk
    rcases lt4 hi with rfl | rfl | rfl | rfl <;> rcases lt4 hk with rfl | rfl | rfl | rfl <;> kernel_rfl
  · intro i hi
    rcases lt4 hi with rfl | rfl | rfl | rfl <;> kernel_rfl
  · intro i hi
    rcases lt4 hi with rfl | rfl | rfl | rfl <;> kernel_rfl
def uF (S : List UInt8) : List UInt8 := tab16 fun j => (((mul 2 (co S j) ^^^ mul 3 (co S (4 * (j / 4) + (j % 4 + 1) % 4))) ^^^ co S (4 * (j / 4) + (j % 4 + 2) % 4)) ^^^ co S (4 * (j / 4) + (j % 4 + 3) % 4))
theorem uF_eq (S : List UInt8) (h : S.length = 16) : uF S = colF pE S := by
  refine ext_co (by rw [colF_len]; exact tab16_len _) fun j hj => ?_
  rw [uF, tab16_len] at hj
  obtain ⟨k, i, hk, hi, rfl⟩ : ∃ k i, k < 4 ∧ i < 4 ∧ j = 4 * k + i := ⟨j / 4, j % 4, by omega, by omega, by omega⟩
  rw [co_col _ _ _ _ hk hi, uF, co_tab16 _ hj, col_at, show (4 * k + i) / 4 = k by omega, show (4 * k + i) % 4 = i by omega]
  rcases lt4 hi with rfl | rfl | rfl | rfl
  · show ((mul 2 _ ^^^ mul 3 _) ^^^ _) ^^^ _ = (((0 ^^^ mul 2 _) ^^^ mul 3 _) ^^^ mul 1 _) ^^^ mul 1 _
    simp only [one_mul, zero_xor]
  · show ((mul 2 _ ^^^ mul 3 _) ^^^ _) ^^^ _ = (((0 ^^^ mul 1 _) ^^^ mul 2 _) ^^^ mul 3 _) ^^^ mul 1 _
    simp only [one_mul, zero_xor]; ac_rfl
  · show ((mul 2 _ ^^^ mul 3 _) ^^^ _) ^^^ _ = (((0 ^^^ mul 1 _) ^^^ mul 1 _) ^^^ mul 2 _) ^^^ mul 3 _
    simp only [one_mul, zero_xor]; ac_rfl
  · show ((mul 2 _ ^^^ mul 3 _) ^^^ _) ^^^ _ = (((0 ^^^ mul 3 _) ^^^ mul 1 _) ^^^ mul 1 _) ^^^ mul 2 _
    simp only [one_mul, zero_xor]; ac_rfl
theorem rU_loop (S : List UInt8) (h : S.length = 16) : (iterC (fun s65 : List UInt8 × Int =>
(if s65.2 < 4 then
((iterC (fun s68 : List UInt8 × Int =>
(if s68.2 < 4 then
((lenA 16 S).bind fun c73 =>
((idx S ((wI ((wI (4 * s65.2)) + s68.2)))).bind fun c74 =>
((remI ((wI (s68.2 + 1))) 4).bind fun c75 =>
((idx S ((wI ((wI (4 * s65.2)) + c75)))).bind fun c76 =>
((remI ((wI (s68.2 + 2))) 4).bind fun c77 =>
((idx S ((wI ((wI (4 * s65.2)) + c77)))).bind fun c78 =>
((remI ((wI (s68.2 + 3))) 4).bind fun c79 =>
((idx S ((wI ((wI (4 * s65.2)) + c79)))).bind fun c80 =>
((ref02_Mul (2 : UInt8) c74).bind fun r81 =>
((ref02_Mul (3 : UInt8) c76).bind fun r83 =>
((lenA 16 s68.1).bind fun c85 =>
((idx s68.1 ((wI ((wI (4 * s65.2)) + s68.2)))).bind fun c86 => some (.inl ((s68.1.set ((wI ((wI (4 * s65.2)) + s68.2)) : Int).toNat ((((r81 ^^^ r83) ^^^ c78) ^^^ c80))), (wI (s68.2 + 1))))))))))))))))
else some (.inr s68.1))) (s65.1, 0)).bind fun x68 => some (.inl (x68, (wI (s65.2 + 1)))))
else some (.inr s65.1))) ((List.replicate 16 (0 : UInt8)), 0)) = some (colF pE S) := by
  rw [← uF_eq S h]
  obtain ⟨a0, a1, a2, a3, a4, a5, a6, a7, a8, a9, a10, a11, a12, a13, a14, a15, rfl⟩ := list16 h
  simp only [refMul_eq, Option.bind_some]
  refine fill44 (fun s => rfl) (fun i k => tab16 fun j => cond (Nat.blt j (4 * i + k)) (co (uF [a0, a1, a2, a3, a4, a5, a6, a7, a8, a9, a10, a11, a12, a13, a14, a15]) j) 0) (by kernel_rfl) (by kernel_rfl) ?_ ?_ ?_
  · intro i k hi hk
    rcases lt4 hi with rfl | rfl | rfl | rfl <;> rcases lt4 hk with rfl | rfl | rfl | rfl <;> kernel_rfl
  · intro i hi
    rcases lt4 hi with rfl | rfl | rfl | rfl <;> kernel_rfl
  · intro i hi
    rcases lt4 hi with rfl | rfl | rfl | rfl <;> kernel_rfl
theorem rA_loop (a1b r1 k0 : List UInt8) (hb : a1b.length = 16) (hk : k0.length = 16) (h1 : 16 ≤ r1.length) (hc : ∀ i, i < 16 → co k0 i = co r1 i) : (iterC (fun s11 : List UInt8 × Int =>
(if s11.2 < 16 then
((idx a1b s11.2).bind fun c16 =>
((idx r1 s11.2).bind fun c17 =>
((lenA 16 s11.1).bind fun c18 =>
((idx s11.1 s11.2).bind fun c19 => some (.inl ((s11.1.set (s11.2 : Int).toNat ((c16 ^^^ c17))), (wI (s11.2 + 1))))))))
else some (.inr s11.1))) ((List.replicate 16 (0 : UInt8)), 0)) = some (xr a1b k0) := by
  have hl : (List.replicate 16 (0 : UInt8)).length = 16 := rfl
  refine iterC_count (fun i => (updB (List.replicate 16 (0 : UInt8)) (fun j => co a1b j ^^^ co r1 j) i, (i : Int))) 16 _ (by rw [updB_zero]; rfl) ?_ ?_
  · intro i hi
    have hs := updB_succ (List.replicate 16 (0 : UInt8)) (fun j => co a1b j ^^^ co r1 j) i (by rw [hl]; exact hi)
    dsimp only
    rw [if_pos (by omega), idx_co (by omega), Option.bind_some, idx_co (by omega), Option.bind_some, lenA, if_pos (by rw [updB_len, hl]), Option.bind_some, idx_updB _ _ _ _ (by rw [hl]; exact hi), Option.bind_some, wI_succ _ (by omega), Int.toNat_natCast, hs]
  · dsimp only
    rw [if_neg (by omega)]
    have := updB_end (List.replicate 16 (0 : UInt8)) (fun j => co a1b j ^^^ co r1 j)
    rw [hl] at this
    rw [this]
    congr 2
    refine ext_co (by rw [xr_len]; simp; omega) fun i hi => ?_
    simp only [List.length_map, List.length_range] at hi
    rw [co_tab, if_pos hi, co_xr _ _ _ (by omega) (by omega), hc i hi]
theorem rZ_loop (S0 X r1 k : List UInt8) (r : Int) (m : Nat) (hr : r = (m : Int)) (hm : m < 1000) (h0 : S0.length = 16) (hX : X.length = 16) (hk : k.length = 16) (h1 : 16 * m + 16 ≤ r1.length) (hc : ∀ i, i < 16 → co k i = co r1 (16 * m + i)) : (iterC (fun s100 : List UInt8 × Int =>
(if s100.2 < 16 then
((lenA 16 X).bind fun c105 =>
((idx X s100.2).bind fun c106 =>
((idx r1 ((wI ((wI (16 * r)) + s100.2)))).bind fun c107 =>
((lenA 16 s100.1).bind fun c108 =>
((idx s100.1 s100.2).bind fun c109 => some (.inl ((s100.1.set (s100.2 : Int).toNat ((c106 ^^^ c107))), (wI (s100.2 + 1)))))))))
else some (.inr s100.1))) (S0, 0)) = some (xr X k) := by
  subst hr
  refine iterC_count (fun i => (updB S0 (fun j => co X j ^^^ co r1 (16 * m + j)) i, (i : Int))) 16 _ (by rw [updB_zero]; rfl) ?_ ?_
  · intro i hi
    have hs := updB_succ S0 (fun j => co X j ^^^ co r1 (16 * m + j)) i (by omega)
    have e5 : wI (wI (16 * (m : Int)) + (i : Int)) = ((16 * m + i : Nat) : Int) := by
      rw [wI_of (x := 16 * (m : Int)) (by omega) (by omega), wI_of (by omega) (by omega)]; omega
    dsimp only
    rw [if_pos (by omega), lenA, if_pos hX, Option.bind_some, idx_co (by omega), Option.bind_some, e5, idx_co (by omega), Option.bind_some, lenA, if_pos (by rw [updB_len, h0]), Option.bind_some, idx_updB _ _ _ _ (by omega), Option.bind_some, wI_succ _ (by omega), Int.toNat_natCast, hs]
  · dsimp only
    rw [if_neg (by omega)]
    have := updB_end S0 (fun j => co X j ^^^ co r1 (16 * m + j))
    rw [h0] at this
    rw [this]
    congr 2
    refine ext_co (by rw [xr_len]; simp; omega) fun i hi => ?_
    simp only [List.length_map, List.length_range] at hi
    rw [co_tab, if_pos hi, co_xr _ _ _ (by omega) (by omega), hc i hi]
theorem rEncrypt_eq (key b k0 : List UInt8) (ks : List (List UInt8)) (n : Nat) (hn : n = 4 ∨ n = 8) (h : key.length = 4 * n) (hb : b.length = 16) (hK : keysF key = k0 :: ks) : ref05_Encrypt key b = some (encF k0 ks b) := by
  have hm : (1000 : Nat) ≤ most := by decide
  have hn0 : 0 < n := by omega
  have h16 := keysF_16 key n hn0 h
  have hkl := keysF_len key n hn0 h
  have hco := co_keysF key n hn0 h
  obtain ⟨w1, w2⟩ := worF_ok key n hn0 h
  have hfl := flat_len 4 _ w2
  rw [hK] at h16 hkl hco
  have hk0 : k0.length = 16 := h16 k0 (List.mem_cons_self ..)
  have hks : ∀ x ∈ ks, x.length = 16 := fun x hx => h16 x (List.mem_cons_of_mem _ hx)
  have hksl : ks.length = n + 6 := by simpa using hkl
  unfold ref05_Encrypt
  have ed : divI ((worF key).flatten.length : Int) 16 = some ((n + 7 : Nat) : Int) := by
    rw [show (16 : Int) = ((16 : Nat) : Int) by rfl, divI_nat _ _ (by omega) (by omega), show (worF key).flatten.length / 16 = n + 7 by omega]
  have ez : lenA 16 (List.replicate 16 (0 : UInt8)) = some () := rfl
  rw [rKeys_eq key n hn h, Option.bind_some, ed, Option.bind_some, ez, Option.bind_some]
  refine bind_of (x := xr b k0) (rA_loop b _ k0 hb hk0 (by omega) (fun i hi => by have := hco 0 (by omega) i hi; simpa using this)) ?_
  have hx0 : (xr b k0).length = 16 := by rw [xr_len]; omega
  have e6 : wI (((n + 7 : Nat) : Int) - 1) = ((n + 6 : Nat) : Int) := by rw [wI_pred _ (by omega) (by omega)]; rfl
  refine bind_of (x := encF k0 ks b) (iterC_count (fun j => (eS ks (xr b k0) j, ((j + 1 : Nat) : Int))) ks.length _ rfl ?_ ?_) ?_
  · intro j hj
    have hsl := eS_len ks (xr b k0) hks hx0 j (by omega)
    have hkj : (ks.getD j []).length = 16 := hks _ (getD_mem hj)
    dsimp only
    rw [e6, if_pos (by omega), Option.bind_some]
    refine bind_of (x := rowsF 1 ((eS ks (xr b k0) j).map sb)) (rT_loop _ hsl) ?_
    have hcj : ∀ i, i < 16 → co (ks.getD j []) i = co (worF key).flatten (16 * (j + 1) + i) := fun i hi => by
      have := hco (j + 1) (by omega) i hi
      rw [← this]; rfl
    have fin : ∀ X : List UInt8, X.length = 16 → rE (eS ks (xr b k0) j) (ks.getD j []) (Nat.beq (j + 1) ks.length) = xr X (ks.getD j []) → _ := fun X hX hE => bind_of (g := fun x100 => (some (.inl (x100, (wI (((j + 1 : Nat) : Int) + 1)))) : Option ((List UInt8 × Int) ⊕ List UInt8))) (r := some (.inl (eS ks (xr b k0) (j + 1), ((j + 1 + 1 : Nat) : Int)))) (rZ_loop (eS ks (xr b k0) j) X (worF key).flatten (ks.getD j []) _ (j + 1) rfl (by omega) hsl hX hkj (by omega) hcj) (by rw [eS, hE, wI_succ _ (by omega)])
    by_cases hl : j + 1 = ks.length
    · rw [if_neg (by omega), Option.bind_some]
      exact fin _ (rowsF_len _ _) (by rw [rE, show Nat.beq (j + 1) ks.length = true by rw [Nat.beq_eq]; exact hl, if_pos rfl])
    · rw [if_pos (by omega), Option.bind_some]
      refine bind_of (x := colF pE (rowsF 1 ((eS ks (xr b k0) j).map sb))) (bind_of (rU_loop _ (rowsF_len _ _)) ?_) ?_
      · rw [lenA, if_pos (colF_len _ _), Option.bind_some, lenA, if_pos (rowsF_len _ _), Option.bind_some]
      · exact fin _ (colF_len _ _) (by rw [rE, show Nat.beq (j + 1) ks.length = false by rw [Bool.eq_false_iff, ne_eq, Nat.beq_eq]; exact hl]; rfl)
  · dsimp only
    rw [e6, if_neg (by omega)]; rfl
  · rw [lenA, if_pos (encF_len k0 ks b hk0 hks hb), Option.bind_some]
end Gk

/- Printed by gen.py: for each Go function a pure function, and that the Go code comes to it. No condition beside the equation that says what the pure function gives. -/
set_option linter.unusedVariables false
set_option linter.unusedSimpArgs false
namespace Gk
open Go Go.Proofs
end Gk

/- Printed by gen.py: for each Go function a pure function, and that the Go code comes to it. No condition beside the equation that says what the pure function gives. -/
set_option linter.unusedVariables false
set_option linter.unusedSimpArgs false
namespace Gk
open Go Go.Proofs
end Gk

/- Chapter 5's statements, in plain Lean. No condition. -/
set_option linter.unusedSimpArgs false
set_option linter.unusedVariables false
namespace Gk
open Gf
def padK (n : Nat) (b : List UInt8) : List UInt8 := copyL (List.replicate n 0) 0 b
theorem padK_len (n : Nat) (b : List UInt8) : (padK n b).length = n := by
  have := copyL_len (List.replicate n (0 : UInt8)) 0 b (by omega)
  rw [List.length_replicate] at this; exact this
theorem keys_cons (key : List UInt8) (n : Nat) (hn : n = 4 ∨ n = 8) (h : key.length = 4 * n) : ∃ k0 ks, keysF key = k0 :: ks ∧ k0.length = 16 ∧ (∀ x ∈ ks, x.length = 16) ∧ ks.length = n + 6 := by
  have hl := keysF_len key n (by omega) h
  have h16 := keysF_16 key n (by omega) h
  cases hK : keysF key with
  | nil => rw [hK] at hl; simp at hl
  | cons k0 ks =>
    rw [hK] at hl h16
    exact ⟨k0, ks, rfl, h16 _ (List.mem_cons_self ..), fun x hx => h16 x (List.mem_cons_of_mem _ hx), by simpa using hl⟩
end Gk

/- Printed by gen.py: for each Go function a pure function, and that the Go code comes to it. No condition beside the equation that says what the pure function gives. -/
set_option linter.unusedVariables false
set_option linter.unusedSimpArgs false
namespace Gk
open Go Go.Proofs
noncomputable def stream_Bytes (a0c : Option Cip) (a1nonce : List UInt8) (a2at : Int) (a3n : Int) : Option (List UInt8 × Int) :=
(if a0c.isNone = true then some (([] : List UInt8), 1)
else
(if (a1nonce.length : Int) = 8 then
(if a2at < 0 then some (([] : List UInt8), 2)
else
(if a3n < 0 then some (([] : List UInt8), 2)
else
(if 1073741824 < a2at then some (([] : List UInt8), 2)
else
(if 1048576 < a3n then some (([] : List UInt8), 2)
else
((divI a2at 16).bind fun c7 =>
((iterC (fun s8 : List UInt8 × Int =>
((remI a2at 16).bind fun c10 =>
(if (s8.1.length : Int) < (wI (c10 + a3n)) then
((word_Put_uint64 a1nonce (UInt64.ofInt s8.2)).bind fun r12 =>
((cipher_Encrypt a0c r12).bind fun r15 =>
(if r15.2 = 0 then
((appL s8.1 r15.1).bind fun c19 => some (.inl (c19, (wI (s8.2 + 1)))))
else some (.inr (.inr (([] : List UInt8), r15.2))))))
else some (.inr (.inl s8.1))))) (([] : List UInt8), c7)).bind (Sum.elim (fun y8 =>
(if a3n = 0 then some (([] : List UInt8), 0)
else
((remI a2at 16).bind fun c25 =>
((remI a2at 16).bind fun c26 =>
((remI a2at 16).bind fun c27 =>
((subL3 y8 c25 ((wI (c26 + a3n))) ((wI (c27 + a3n)))).bind fun c28 => some (c28, 0))))))) (fun q8 => some q8))))))))
else some (([] : List UInt8), 3)))
set_option maxRecDepth 100000 in
set_option maxHeartbeats 8000000 in
theorem stream_Bytes_calls (a0c : Option Cip) (a1nonce : List UInt8) (a2at : Int) (a3n : Int) (p0 : Value) (p1 : Value) (r : List UInt8 × Int) (w0 : World) (hp0 : Ci w0 [] p0 a0c) (hp1 : By w0 [] p1 a1nonce) (H : stream_Bytes a0c a1nonce a2at a3n = some r) :
    Calls Try.prog 25 [p0, p1, (i64 a2at), (i64 a3n)].toArray w0 (fun e w' => ∃ u0 : Value, e = .returned (.tuple #[u0, (i64 r.2)]) ∧ Ext w0 w' ∧ Nw w0 u0 ∧ By w' [] u0 r.1) := by
  have hE : Ext w0 w0 := Ext.refl w0; unfold stream_Bytes at H; refine calls_W (n := 76) Try.func25 rfl rfl rfl ?_; refine W_seq ?_; refine W_reg (by kernel_rfl) ?_; refine wla rfl rfl (q_assign (v := (.slice none 0 0)) rfl rfl) ?_; refine wla rfl rfl (q_assign (v := (i64 0)) rfl rfl) ?_; refine wl_nil ?_; refine W_th ?_; refine W_seq ?_; refine W_block ?_; refine W_seq ?_; refine W_reg (by kernel_rfl) ?_; refine wla rfl rfl (q_move (v := p0) rfl rfl) ?_; refine wla rfl rfl (q_eqC rfl rfl rfl rfl (hp0.lift (Lift.ext hE _))) ?_; refine wla rfl rfl (q_assign (v := (.bool a0c.isNone)) rfl rfl) ?_; refine wl_nil ?_; refine W_th ?_; refine W_cond _ rfl rfl (fun hb1 => ?_) (fun hb1 => ?_)
  · replace H := (if_pos hb1).symm.trans H; refine W_seq ?_; refine W_reg (by kernel_rfl) ?_; refine wla rfl rfl (q_assign (v := (.slice none 0 0)) rfl rfl) ?_; refine wla rfl rfl (q_assign (v := (i64 1)) rfl rfl) ?_; refine wl_nil ?_; refine W_th ?_; refine W_ret ?_; refine bk_r ?_; refine th_r ?_; obtain rfl := osi H; refine rt2 (.slice none 0 0) (i64 1) rfl rfl rfl rfl rfl rfl ?_; exact ⟨(.slice none 0 0), rfl, hE, Nw.nil _, (SlK.nil _ _ _)⟩
  replace H := (if_neg (ne_true_of_eq_false hb1)).symm.trans H; refine W_seq ?_; refine W_reg (by kernel_rfl) ?_; refine wla rfl rfl (q_move (v := p1) rfl rfl) ?_; refine wla rfl rfl (q_len rfl T22.sl rfl (hp1.lift (Lift.ext hE _))) ?_; refine wla rfl rfl (q_neI rfl rfl rfl) ?_; refine wla rfl rfl (q_assign (v := (.bool ((!decide ((a1nonce.length : Int) = 8))))) rfl rfl) ?_; refine wl_nil ?_; refine W_th ?_; refine W_cond _ rfl rfl (fun hb2 => ?_) (fun hb2 => ?_)
  · replace H := (if_neg (ndec_t hb2)).symm.trans H; refine W_seq ?_; refine W_reg (by kernel_rfl) ?_; refine wla rfl rfl (q_assign (v := (.slice none 0 0)) rfl rfl) ?_; refine wla rfl rfl (q_assign (v := (i64 3)) rfl rfl) ?_; refine wl_nil ?_; refine W_th ?_; refine W_ret ?_; refine bk_r ?_; refine th_r ?_; obtain rfl := osi H; refine rt2 (.slice none 0 0) (i64 3) rfl rfl rfl rfl rfl rfl ?_; exact ⟨(.slice none 0 0), rfl, hE, Nw.nil _, (SlK.nil _ _ _)⟩
  replace H := (if_pos (ndec_f hb2)).symm.trans H; refine W_seq ?_; refine W_reg (by kernel_rfl) ?_; refine wla rfl rfl (q_move (v := (i64 a2at)) rfl rfl) ?_; refine wla rfl rfl (q_ltI rfl rfl rfl) ?_; refine wlb rfl rfl (q_move (v := (.bool ((decide (a2at < 0))))) rfl rfl) (fun hb3 => ?_) (fun hb3 => ?_)
  · replace H := (if_pos (of_decide_eq_true hb3)).symm.trans H; refine wlk rfl rfl ?_; refine wlk rfl rfl ?_; refine wla rfl rfl (q_pick_t (v := (.bool true)) rfl rfl rfl) ?_; refine wla rfl rfl (q_move (v := (.bool true)) rfl rfl) ?_; refine wlk rfl rfl ?_; refine wlk rfl rfl ?_; refine wla rfl rfl (q_pick_t (v := (.bool true)) rfl rfl rfl) ?_; refine wla rfl rfl (q_move (v := (.bool true)) rfl rfl) ?_; refine wlk rfl rfl ?_; refine wlk rfl rfl ?_; refine wla rfl rfl (q_pick_t (v := (.bool true)) rfl rfl rfl) ?_; refine wla rfl rfl (q_assign (v := (.bool true)) rfl rfl) ?_; refine wl_nil ?_; refine W_th ?_; refine W_cond true rfl rfl (fun _ => ?_) (fun hb => by cases hb); refine W_seq ?_; refine W_reg (by kernel_rfl) ?_; refine wla rfl rfl (q_assign (v := (.slice none 0 0)) rfl rfl) ?_; refine wla rfl rfl (q_assign (v := (i64 2)) rfl rfl) ?_; refine wl_nil ?_; refine W_th ?_; refine W_ret ?_; refine bk_r ?_; refine th_r ?_; obtain rfl := osi H; refine rt2 (.slice none 0 0) (i64 2) rfl rfl rfl rfl rfl rfl ?_; exact ⟨(.slice none 0 0), rfl, hE, Nw.nil _, (SlK.nil _ _ _)⟩
  replace H := (if_neg (of_decide_eq_false hb3)).symm.trans H; refine wla rfl rfl (q_move (v := (i64 a3n)) rfl rfl) ?_; refine wla rfl rfl (q_ltI rfl rfl rfl) ?_; refine wla rfl rfl (q_pick_f (v := (.bool ((decide (a3n < 0))))) rfl rfl rfl) ?_; refine wlb rfl rfl (q_move (v := (.bool ((decide (a3n < 0))))) rfl rfl) (fun hb4 => ?_) (fun hb4 => ?_)
  · replace H := (if_pos (of_decide_eq_true hb4)).symm.trans H; refine wlk rfl rfl ?_; refine wlk rfl rfl ?_; refine wla rfl rfl (q_pick_t (v := (.bool true)) rfl rfl rfl) ?_; refine wla rfl rfl (q_move (v := (.bool true)) rfl rfl) ?_; refine wlk rfl rfl ?_; refine wlk rfl rfl ?_; refine wla rfl rfl (q_pick_t (v := (.bool true)) rfl rfl rfl) ?_; refine wla rfl rfl (q_assign (v := (.bool true)) rfl rfl) ?_; refine wl_nil ?_; refine W_th ?_; refine W_cond true rfl rfl (fun _ => ?_) (fun hb => by cases hb); refine W_seq ?_; refine W_reg (by kernel_rfl) ?_; refine wla rfl rfl (q_assign (v := (.slice none 0 0)) rfl rfl) ?_; refine wla rfl rfl (q_assign (v := (i64 2)) rfl rfl) ?_; refine wl_nil ?_; refine W_th ?_; refine W_ret ?_; refine bk_r ?_; refine th_r ?_; obtain rfl := osi H; refine rt2 (.slice none 0 0) (i64 2) rfl rfl rfl rfl rfl rfl ?_; exact ⟨(.slice none 0 0), rfl, hE, Nw.nil _, (SlK.nil _ _ _)⟩
  replace H := (if_neg (of_decide_eq_false hb4)).symm.trans H; refine wla rfl rfl (q_move (v := (i64 a2at)) rfl rfl) ?_; refine wla rfl rfl (q_gtI rfl rfl rfl) ?_; refine wla rfl rfl (q_pick_f (v := (.bool ((decide (1073741824 < a2at))))) rfl rfl rfl) ?_; refine wlb rfl rfl (q_move (v := (.bool ((decide (1073741824 < a2at))))) rfl rfl) (fun hb5 => ?_) (fun hb5 => ?_)
  · replace H := (if_pos (of_decide_eq_true hb5)).symm.trans H; refine wlk rfl rfl ?_; refine wlk rfl rfl ?_; refine wla rfl rfl (q_pick_t (v := (.bool true)) rfl rfl rfl) ?_; refine wla rfl rfl (q_assign (v := (.bool true)) rfl rfl) ?_; refine wl_nil ?_; refine W_th ?_; refine W_cond true rfl rfl (fun _ => ?_) (fun hb => by cases hb); refine W_seq ?_; refine W_reg (by kernel_rfl) ?_; refine wla rfl rfl (q_assign (v := (.slice none 0 0)) rfl rfl) ?_; refine wla rfl rfl (q_assign (v := (i64 2)) rfl rfl) ?_; refine wl_nil ?_; refine W_th ?_; refine W_ret ?_; refine bk_r ?_; refine th_r ?_; obtain rfl := osi H; refine rt2 (.slice none 0 0) (i64 2) rfl rfl rfl rfl rfl rfl ?_; exact ⟨(.slice none 0 0), rfl, hE, Nw.nil _, (SlK.nil _ _ _)⟩
  replace H := (if_neg (of_decide_eq_false hb5)).symm.trans H; refine wla rfl rfl (q_move (v := (i64 a3n)) rfl rfl) ?_; refine wla rfl rfl (q_gtI rfl rfl rfl) ?_; refine wla rfl rfl (q_pick_f (v := (.bool ((decide (1048576 < a3n))))) rfl rfl rfl) ?_; refine wla rfl rfl (q_assign (v := (.bool ((decide (1048576 < a3n))))) rfl rfl) ?_; refine wl_nil ?_; refine W_th ?_; refine W_cond _ rfl rfl (fun hb6 => ?_) (fun hb6 => ?_)
  · replace H := (if_pos (of_decide_eq_true hb6)).symm.trans H; refine W_seq ?_; refine W_reg (by kernel_rfl) ?_; refine wla rfl rfl (q_assign (v := (.slice none 0 0)) rfl rfl) ?_; refine wla rfl rfl (q_assign (v := (i64 2)) rfl rfl) ?_; refine wl_nil ?_; refine W_th ?_; refine W_ret ?_; refine bk_r ?_; refine th_r ?_; obtain rfl := osi H; refine rt2 (.slice none 0 0) (i64 2) rfl rfl rfl rfl rfl rfl ?_; exact ⟨(.slice none 0 0), rfl, hE, Nw.nil _, (SlK.nil _ _ _)⟩
  replace H := (if_neg (of_decide_eq_false hb6)).symm.trans H; refine W_skip ?_; refine bk_n ?_; refine W_th ?_; refine W_seq ?_; refine W_reg (by kernel_rfl) ?_; refine wla rfl rfl (q_assign (v := (.slice none 0 0)) rfl rfl) ?_; refine wl_nil ?_; refine W_th ?_; refine W_seq ?_; refine W_seq ?_; refine W_reg (by kernel_rfl) ?_; refine wla rfl rfl (q_move (v := (i64 a2at)) rfl rfl) ?_; obtain ⟨c7, hc7, H⟩ := bsi H; refine wla rfl rfl (q_divI rfl rfl rfl hc7) ?_; refine wla rfl rfl (q_assign (v := (i64 c7)) rfl rfl) ?_; refine wl_nil ?_; refine W_th ?_; obtain ⟨x8, G8, H⟩ := bsi H; refine W_mid (fun f w => ∃ y8, x8 = .inl y8 ∧ ∃ v10_29 : Value, f 2 = (i64 a2at) ∧ f 3 = (i64 a3n) ∧ f 10 = v10_29 ∧ f 76 = undef ∧ Ext w0 w ∧ OwK (Sc u8) w [v10_29] 5 v10_29 y8 ∧ Nw w0 v10_29) ?_ ?_
  · refine W_block ?_; refine W_loop (fun s8 f w => ∃ v10_22 : Value, f 0 = p0 ∧ f 1 = p1 ∧ f 2 = (i64 a2at) ∧ f 3 = (i64 a3n) ∧ f 10 = v10_22 ∧ f 11 = (i64 s8.2) ∧ f 76 = undef ∧ Ext w0 w ∧ OwK (Sc u8) w [v10_22] 5 v10_22 s8.1 ∧ Nw w0 v10_22) G8 ?_ ?_
    · exact ⟨(.slice none 0 0), rfl, rfl, rfl, rfl, rfl, rfl, rfl, hE, (OwK.nil _ _ _ _), (Nw.nil _)⟩
    rintro s8 _ _ w9 ⟨v10_9, s0_9, s1_9, s2_9, s3_9, s10_9, s11_9, s76_9, hE9, o0_9, n0_9⟩ H8 hr8; refine W_seq ?_; refine W_seq ?_; refine W_reg (by kernel_rfl) ?_; refine wla rfl rfl (q_move (v := v10_9) rfl s10_9) ?_; refine wla rfl rfl (q_len rfl T22.sl rfl (o0_9.rd (Sc.stab _))) ?_; refine wla rfl rfl (q_move (v := (i64 a2at)) rfl s2_9) ?_; obtain ⟨c10, hc10, H8⟩ := bsi H8; refine wla rfl rfl (q_remI rfl rfl rfl hc10) ?_; refine wla rfl rfl (q_move (v := (i64 a3n)) rfl s3_9) ?_; refine wla rfl rfl (q_addI rfl rfl rfl) ?_; refine wla rfl rfl (q_ltI rfl rfl rfl) ?_; refine wl_nil ?_; refine W_th ?_; refine W_cond _ rfl rfl (fun hb11 => ?_) (fun hb11 => ?_)
    · replace H8 := (if_pos (of_decide_eq_true hb11)).symm.trans H8; refine W_skip ?_; refine W_th ?_; refine W_seq ?_; refine W_block ?_; refine W_seq ?_; refine W_reg (by kernel_rfl) ?_; refine wla rfl rfl (q_move (v := p0) rfl s0_9) ?_; refine wla rfl rfl (q_move (v := p1) rfl s1_9) ?_; refine wla rfl rfl (q_move (v := (i64 s8.2)) rfl s11_9) ?_; refine wla rfl rfl (q_cvt64I rfl rfl rfl rfl) ?_; obtain ⟨r12, hr12, H8⟩ := bsi H8; refine wls rfl rfl (stp_call (vs := [p1, (u64 ((UInt64.ofInt s8.2)))]) Try.func61 rfl rfl rfl (ar2 rfl rfl) (word_Put_uint64_calls a1nonce (UInt64.ofInt s8.2) p1 r12 _ (hp1.lift (Lift.ext hE9 _)) hr12) ?_); rintro _ w12 ⟨v12, rfl, x12, n12_0, o12_0⟩; refine ⟨_, rfl, ?_⟩; have n13 := Nw.ext hE9 n12_0; have i12_0 : By w12 [v10_9] v12 r12 := OwK.slk (Sc.stab _) _ (OwK.scal o12_0 (v12 :: [v10_9])) (fun k hk => (Old.cons (Old.nil _) o0_9.lt) k (n12_0 k hk)) (fun _ h => h.2); replace o0_9 := o0_9.extL (Sc.stab _) x12 (Lift.ext x12 _); have e14 := hE9.trans x12; obtain ⟨r15, hr15, H8⟩ := bsi H8; refine wls rfl rfl (stp_call (vs := [p0, v12]) Try.func19 rfl rfl rfl (ar2 rfl rfl) (cipher_Encrypt_calls a0c r12 p0 v12 r15 _ (hp0.lift (Lift.ext e14 _)) (i12_0.lift (Lift.sub (fun _ _ => trivial))) hr15) ?_); rintro _ w15 ⟨v15_0, rfl, x15, n15_0, o15_0⟩; refine ⟨_, rfl, ?_⟩; have n16 := Nw.ext e14 n15_0; have i15_0 : By w15 [v10_9] v15_0 r15.1 := OwK.slk (Sc.stab _) _ (OwK.scal o15_0 (v15_0 :: [v10_9])) (fun k hk => (Old.cons (Old.nil _) o0_9.lt) k (n15_0 k hk)) (fun _ h => h.2); replace i12_0 := i12_0.lift (Lift.ext x15 _); replace o0_9 := o0_9.extL (Sc.stab _) x15 (Lift.ext x15 _); have e17 := e14.trans x15; refine wla rfl rfl (q_move (v := (.tuple #[v15_0, (i64 r15.2)])) rfl rfl) ?_; refine wla rfl rfl (q_extract rfl rfl rfl) ?_; refine wla rfl rfl (q_extract rfl rfl rfl) ?_; refine wla rfl rfl (q_assign (v := v15_0) rfl rfl) ?_; refine wla rfl rfl (q_assign (v := (i64 r15.2)) rfl rfl) ?_; refine wl_nil ?_; refine W_th ?_; refine W_seq ?_; refine W_seq ?_; refine W_reg (by kernel_rfl) ?_; refine wla rfl rfl (q_move (v := (i64 r15.2)) rfl rfl) ?_; refine wla rfl rfl (q_neI rfl rfl rfl) ?_; refine wl_nil ?_; refine W_th ?_; refine W_cond _ rfl rfl (fun hb18 => ?_) (fun hb18 => ?_)
      · replace H8 := (if_neg (ndec_t hb18)).symm.trans H8; refine W_seq ?_; refine W_reg (by kernel_rfl) ?_; refine wla rfl rfl (q_move (v := (i64 r15.2)) rfl rfl) ?_; refine wla rfl rfl (q_assign (v := (.slice none 0 0)) rfl rfl) ?_; refine wla rfl rfl (q_assign (v := (i64 r15.2)) rfl rfl) ?_; refine wl_nil ?_; refine W_th ?_; refine W_ret ?_; refine th_r ?_; refine bk_r ?_; refine th_r ?_; obtain rfl := osi H8; obtain rfl := hr8 _ rfl; simp only [Sum.elim_inr] at H; refine th_r ?_; refine bk_r ?_; refine th_r ?_; refine th_r ?_; obtain rfl := osi H; refine rt2 (.slice none 0 0) (i64 r15.2) rfl rfl rfl rfl rfl s76_9 ?_; exact ⟨(.slice none 0 0), rfl, e17, Nw.nil _, (SlK.nil _ _ _)⟩
      replace H8 := (if_pos (ndec_f hb18)).symm.trans H8; refine W_skip ?_; refine W_th ?_; refine W_reg (by kernel_rfl) ?_; refine wla rfl rfl (q_move (v := v10_9) rfl s10_9) ?_; refine wla rfl rfl (q_move (v := v15_0) rfl rfl) ?_; obtain ⟨c19, hc19, H8⟩ := bsi H8; refine wls rfl rfl (stp_append (R := (Sc u8)) (v := v10_9) (u := v15_0) (Sc.stab _) [] [] rfl T22 rfl rfl o0_9 i15_0 (fun _ _ h => h) hc19 oc_u8 ?_); intro v19 w19 o19 g19 nx19 l19; replace i12_0 := i12_0.lift l19; replace i15_0 := i15_0.lift l19; have e20 := e17.grown g19 n0_9; have n21 := Nw.nxt e17 n0_9 nx19; refine wla rfl rfl (q_assign (v := v19) rfl rfl) ?_; refine wl_nil ?_; refine bk_n ?_; refine W_th ?_; refine W_reg (by kernel_rfl) ?_; refine wla rfl rfl (q_move (v := (i64 s8.2)) rfl s11_9) ?_; refine wla rfl rfl (q_addI rfl rfl rfl) ?_; refine wla rfl rfl (q_assign (v := (i64 ((wI (s8.2 + 1))))) rfl rfl) ?_; refine wl_nil ?_; obtain rfl := osi H8; exact ⟨_, rfl, v19, s0_9, s1_9, s2_9, s3_9, rfl, rfl, s76_9, e20, o19, n21⟩
    replace H8 := (if_neg (of_decide_eq_false hb11)).symm.trans H8; refine W_exit ?_; refine th_x ?_; obtain rfl := osi H8; obtain rfl := hr8 _ rfl; refine th_x ?_; refine bk_x ?_; exact ⟨_, rfl, v10_9, s2_9, s3_9, s10_9, s76_9, hE9, o0_9, n0_9⟩
  rintro _ w23 ⟨y8, rfl, v10_23, s2_23, s3_23, s10_23, s76_23, hE23, o0_23, n0_23⟩; simp only [Sum.elim_inl] at H; refine W_th ?_; refine W_seq ?_; refine W_seq ?_; refine W_reg (by kernel_rfl) ?_; refine wla rfl rfl (q_move (v := (i64 a3n)) rfl s3_23) ?_; refine wla rfl rfl (q_eqI rfl rfl rfl) ?_; refine wl_nil ?_; refine W_th ?_; refine W_cond _ rfl rfl (fun hb24 => ?_) (fun hb24 => ?_)
  · replace H := (if_pos (of_decide_eq_true hb24)).symm.trans H; refine W_seq ?_; refine W_reg (by kernel_rfl) ?_; refine wla rfl rfl (q_assign (v := (.slice none 0 0)) rfl rfl) ?_; refine wla rfl rfl (q_assign (v := (i64 0)) rfl rfl) ?_; refine wl_nil ?_; refine W_th ?_; refine W_ret ?_; refine th_r ?_; obtain rfl := osi H; refine rt2 (.slice none 0 0) (i64 0) rfl rfl rfl rfl rfl s76_23 ?_; exact ⟨(.slice none 0 0), rfl, hE23, Nw.nil _, (SlK.nil _ _ _)⟩
  replace H := (if_neg (of_decide_eq_false hb24)).symm.trans H; refine W_skip ?_; refine W_th ?_; refine W_seq ?_; refine W_reg (by kernel_rfl) ?_; refine wla rfl rfl (q_move (v := v10_23) rfl s10_23) ?_; refine wla rfl rfl (q_move (v := (i64 a2at)) rfl s2_23) ?_; obtain ⟨c25, hc25, H⟩ := bsi H; refine wla rfl rfl (q_remI rfl rfl rfl hc25) ?_; refine wla rfl rfl (q_move (v := (i64 a2at)) rfl s2_23) ?_; obtain ⟨c26, hc26, H⟩ := bsi H; refine wla rfl rfl (q_remI rfl rfl rfl hc26) ?_; refine wla rfl rfl (q_move (v := (i64 a3n)) rfl s3_23) ?_; refine wla rfl rfl (q_addI rfl rfl rfl) ?_; refine wla rfl rfl (q_move (v := (i64 a2at)) rfl s2_23) ?_; obtain ⟨c27, hc27, H⟩ := bsi H; refine wla rfl rfl (q_remI rfl rfl rfl hc27) ?_; refine wla rfl rfl (q_move (v := (i64 a3n)) rfl s3_23) ?_; refine wla rfl rfl (q_addI rfl rfl rfl) ?_; obtain ⟨c28, hc28, H⟩ := bsi H; refine wla rfl rfl (q_slice3 (a := c25) (b := (wI (c26 + a3n))) (c := (wI (c27 + a3n))) rfl T22 rfl (o0_23.rd (Sc.stab _)) rfl rfl rfl hc28) ?_; refine wla rfl rfl (q_assign (v := (subW v10_23 (c25 : Int).toNat ((wI (c26 + a3n)) : Int).toNat ((wI (c27 + a3n)) : Int).toNat)) rfl rfl) ?_; refine wla rfl rfl (q_assign (v := (i64 0)) rfl rfl) ?_; refine wl_nil ?_; refine W_th ?_; refine W_ret ?_; obtain rfl := osi H; refine rt2 (subW v10_23 (c25 : Int).toNat ((wI (c26 + a3n)) : Int).toNat ((wI (c27 + a3n)) : Int).toNat) (i64 0) rfl rfl rfl rfl rfl s76_23 ?_; exact ⟨(subW v10_23 (c25 : Int).toNat ((wI (c26 + a3n)) : Int).toNat ((wI (c27 + a3n)) : Int).toNat), rfl, hE23, (fun k hk => n0_23 k (hs_cut3 (o0_23.rd (Sc.stab _)) hc28 k hk)), (SlK.cut3 (L := []) (o0_23.rd (Sc.stab _)) hc28)⟩
noncomputable def stream_Xor (a0c : Option Cip) (a1nonce : List UInt8) (a2b : List UInt8) : Option (List UInt8 × Int) :=
((stream_Bytes a0c a1nonce 0 (a2b.length : Int)).bind fun r1 =>
(if r1.2 = 0 then
((word_Xor r1.1 a2b).bind fun r4 => some (r4, 0))
else some (([] : List UInt8), r1.2)))
set_option maxRecDepth 100000 in
set_option maxHeartbeats 8000000 in
theorem stream_Xor_calls (a0c : Option Cip) (a1nonce : List UInt8) (a2b : List UInt8) (p0 : Value) (p1 : Value) (p2 : Value) (r : List UInt8 × Int) (w0 : World) (hp0 : Ci w0 [] p0 a0c) (hp1 : By w0 [] p1 a1nonce) (hp2 : By w0 [] p2 a2b) (H : stream_Xor a0c a1nonce a2b = some r) :
    Calls Try.prog 28 [p0, p1, p2].toArray w0 (fun e w' => ∃ u0 : Value, e = .returned (.tuple #[u0, (i64 r.2)]) ∧ Ext w0 w' ∧ Nw w0 u0 ∧ OwK (Sc u8) w' [] 5 u0 r.1) := by
  have hE : Ext w0 w0 := Ext.refl w0; unfold stream_Xor at H; refine calls_W (n := 24) Try.func28 rfl rfl rfl ?_; refine W_seq ?_; refine W_reg (by kernel_rfl) ?_; refine wla rfl rfl (q_assign (v := (.slice none 0 0)) rfl rfl) ?_; refine wla rfl rfl (q_assign (v := (i64 0)) rfl rfl) ?_; refine wl_nil ?_; refine W_th ?_; refine W_seq ?_; refine W_reg (by kernel_rfl) ?_; refine wla rfl rfl (q_move (v := p0) rfl rfl) ?_; refine wla rfl rfl (q_move (v := p1) rfl rfl) ?_; refine wla rfl rfl (q_move (v := p2) rfl rfl) ?_; refine wla rfl rfl (q_len rfl T22.sl rfl (hp2.lift (Lift.ext hE _))) ?_; obtain ⟨r1, hr1, H⟩ := bsi H; refine wls rfl rfl (stp_call (vs := [p0, p1, (i64 0), (i64 ((a2b.length : Int)))]) Try.func25 rfl rfl rfl (ar4 rfl rfl rfl rfl) (stream_Bytes_calls a0c a1nonce 0 (a2b.length : Int) p0 p1 r1 _ (hp0.lift (Lift.ext hE _)) (hp1.lift (Lift.ext hE _)) hr1) ?_); rintro _ w1 ⟨v1_0, rfl, x1, n1_0, o1_0⟩; refine ⟨_, rfl, ?_⟩; have i1_0 : By w1 [] v1_0 r1.1 := SlK.avail o1_0 _ (fun k hk => (Old.nil _) k (n1_0 k hk)); have e2 := hE.trans x1; refine wla rfl rfl (q_move (v := (.tuple #[v1_0, (i64 r1.2)])) rfl rfl) ?_; refine wla rfl rfl (q_extract rfl rfl rfl) ?_; refine wla rfl rfl (q_extract rfl rfl rfl) ?_; refine wla rfl rfl (q_assign (v := v1_0) rfl rfl) ?_; refine wla rfl rfl (q_assign (v := (i64 r1.2)) rfl rfl) ?_; refine wl_nil ?_; refine W_th ?_; refine W_seq ?_; refine W_seq ?_; refine W_reg (by kernel_rfl) ?_; refine wla rfl rfl (q_move (v := (i64 r1.2)) rfl rfl) ?_; refine wla rfl rfl (q_neI rfl rfl rfl) ?_; refine wl_nil ?_; refine W_th ?_; refine W_cond _ rfl rfl (fun hb3 => ?_) (fun hb3 => ?_)
  · replace H := (if_neg (ndec_t hb3)).symm.trans H; refine W_seq ?_; refine W_reg (by kernel_rfl) ?_; refine wla rfl rfl (q_move (v := (i64 r1.2)) rfl rfl) ?_; refine wla rfl rfl (q_assign (v := (.slice none 0 0)) rfl rfl) ?_; refine wla rfl rfl (q_assign (v := (i64 r1.2)) rfl rfl) ?_; refine wl_nil ?_; refine W_th ?_; refine W_ret ?_; refine th_r ?_; obtain rfl := osi H; refine rt2 (.slice none 0 0) (i64 r1.2) rfl rfl rfl rfl rfl rfl ?_; exact ⟨(.slice none 0 0), rfl, e2, Nw.nil _, (OwK.nil _ _ _ _)⟩
  replace H := (if_pos (ndec_f hb3)).symm.trans H; refine W_skip ?_; refine W_th ?_; refine W_seq ?_; refine W_reg (by kernel_rfl) ?_; refine wla rfl rfl (q_move (v := v1_0) rfl rfl) ?_; refine wla rfl rfl (q_move (v := p2) rfl rfl) ?_; obtain ⟨r4, hr4, H⟩ := bsi H; refine wls rfl rfl (stp_call (vs := [v1_0, p2]) Try.func49 rfl rfl rfl (ar2 rfl rfl) (word_Xor_calls r1.1 a2b v1_0 p2 r4 _ (i1_0.lift (Lift.sub (fun _ _ => trivial))) (hp2.lift (Lift.ext e2 _)) hr4) ?_); rintro _ w4 ⟨v4, rfl, x4, n4_0, o4_0⟩; refine ⟨_, rfl, ?_⟩; have o4 : OwK (Sc u8) w4 (v4 :: []) 5 v4 r4 := OwK.scal o4_0 _; replace i1_0 := i1_0.lift (Lift.call _ x4 n4_0); have n6 := Nw.ext e2 n4_0; have e5 := e2.trans x4; refine wla rfl rfl (q_assign (v := v4) rfl rfl) ?_; refine wla rfl rfl (q_assign (v := (i64 0)) rfl rfl) ?_; refine wl_nil ?_; refine W_th ?_; refine W_ret ?_; obtain rfl := osi H; refine rt2 v4 (i64 0) rfl rfl rfl rfl rfl rfl ?_; exact ⟨v4, rfl, e5, n6, (o4.weak (Sc.stab _) (fun _ _ => trivial))⟩
noncomputable def ref01_Put (a0x : UInt64) (a1size : Int) : Option (List UInt8) :=
((makeL a1size (0 : UInt8)).bind fun c1 =>
((iterC (fun s4 : UInt64 × List UInt8 × Int =>
(if 0 ≤ s4.2.2 then
((idx s4.2.1 s4.2.2).bind fun c7 => some (.inl ((s4.1 / (256 : UInt64)), (s4.2.1.set (s4.2.2 : Int).toNat ((((s4.1 % (256 : UInt64))).toUInt8))), (wI (s4.2.2 - 1)))))
else some (.inr s4.2.1))) (a0x, c1, (wI (a1size - 1)))).bind fun x4 => some x4))
set_option maxRecDepth 100000 in
set_option maxHeartbeats 8000000 in
theorem ref01_Put_calls (a0x : UInt64) (a1size : Int) (r : List UInt8) (w0 : World) (H : ref01_Put a0x a1size = some r) :
    Calls Try.prog 27 [(u64 a0x), (i64 a1size)].toArray w0 (fun e w' => ∃ u0 : Value, e = .returned u0 ∧ Ext w0 w' ∧ Nw w0 u0 ∧ OwK (Sc u8) w' [] 5 u0 r) := by
  have hE : Ext w0 w0 := Ext.refl w0; unfold ref01_Put at H; refine calls_W (n := 24) Try.func27 rfl rfl rfl ?_; refine W_seq ?_; refine W_reg (by kernel_rfl) ?_; refine wla rfl rfl (q_assign (v := (.slice none 0 0)) rfl rfl) ?_; refine wl_nil ?_; refine W_th ?_; refine W_seq ?_; refine W_reg (by kernel_rfl) ?_; refine wla rfl rfl (q_move (v := (i64 a1size)) rfl rfl) ?_; obtain ⟨c1, hc1, H⟩ := bsi H; refine wls rfl rfl (stp_make (L := []) (R := (Sc u8)) rfl T22 rfl rfl hc1 (fun _ _ => rfl) ?_); intro v1 w1 o1 n1 g1 l1; have x1 := grown_ext g1; have n3 := Nw.ext hE n1; have e2 := hE.trans x1; refine wla rfl rfl (q_assign (v := v1) rfl rfl) ?_; refine wl_nil ?_; refine W_th ?_; refine W_seq ?_; refine W_seq ?_; refine W_reg (by kernel_rfl) ?_; refine wla rfl rfl (q_move (v := (i64 a1size)) rfl rfl) ?_; refine wla rfl rfl (q_subI rfl rfl rfl) ?_; refine wla rfl rfl (q_assign (v := (i64 ((wI (a1size - 1))))) rfl rfl) ?_; refine wl_nil ?_; refine W_th ?_; obtain ⟨x4, G4, H⟩ := bsi H; refine W_mid (fun f w => f 5 = v1 ∧ f 24 = undef ∧ Ext w0 w ∧ OwK (Sc u8) w [v1] 5 v1 x4 ∧ Nw w0 v1) ?_ ?_
  · refine W_block ?_; refine W_loop (fun s4 f w => f 0 = (u64 s4.1) ∧ f 5 = v1 ∧ f 6 = (i64 s4.2.2) ∧ f 24 = undef ∧ Ext w0 w ∧ OwK (Sc u8) w [v1] 5 v1 s4.2.1 ∧ Nw w0 v1) G4 ?_ ?_
    · exact ⟨rfl, rfl, rfl, rfl, e2, o1, n3⟩
    rintro s4 _ _ w5 ⟨s0_5, s5_5, s6_5, s24_5, hE5, o0_5, n0_5⟩ H4 hr4; refine W_seq ?_; refine W_seq ?_; refine W_reg (by kernel_rfl) ?_; refine wla rfl rfl (q_move (v := (i64 s4.2.2)) rfl s6_5) ?_; refine wla rfl rfl (q_geI rfl rfl rfl) ?_; refine wl_nil ?_; refine W_th ?_; refine W_cond _ rfl rfl (fun hb6 => ?_) (fun hb6 => ?_)
    · replace H4 := (if_pos (of_decide_eq_true hb6)).symm.trans H4; refine W_skip ?_; refine W_th ?_; refine W_seq ?_; refine W_block ?_; refine W_seq ?_; refine W_reg (by kernel_rfl) ?_; refine wla rfl rfl (q_move (v := v1) rfl s5_5) ?_; refine wla rfl rfl (q_move (v := (i64 s4.2.2)) rfl s6_5) ?_; refine wla rfl rfl (q_move (v := (u64 s4.1)) rfl s0_5) ?_; refine wla rfl rfl (q_rem64 rfl rfl (cst64 (256 : UInt64) rfl) (by decide)) ?_; refine wla rfl rfl (q_cvt864 rfl rfl rfl rfl) ?_; obtain ⟨c7, hc7, H4⟩ := bsi H4; refine wla rfl rfl (q_adr rfl T22 rfl rfl (o0_5.rd (Sc.stab _)) hc7) ?_; refine wln rfl rfl (stp_store (R := (Sc u8)) (u := (u8 ((((s4.1 % (256 : UInt64))).toUInt8)))) (Sc.stab _) [] [] rfl T22 rfl rfl o0_5 (put_of ((((s4.1 % (256 : UInt64))).toUInt8)) hc7) rfl rfl ?_); intro w8 o8 g8 l8; have e9 := hE5.grown g8 n0_5; refine wl_nil ?_; refine W_th ?_; refine W_reg (by kernel_rfl) ?_; refine wla rfl rfl (q_move (v := (u64 s4.1)) rfl s0_5) ?_; refine wla rfl rfl (q_quo64 rfl rfl (cst64 (256 : UInt64) rfl) (by decide)) ?_; refine wla rfl rfl (q_assign (v := (u64 ((s4.1 / (256 : UInt64))))) rfl rfl) ?_; refine wl_nil ?_; refine bk_n ?_; refine W_th ?_; refine W_reg (by kernel_rfl) ?_; refine wla rfl rfl (q_move (v := (i64 s4.2.2)) rfl s6_5) ?_; refine wla rfl rfl (q_subI rfl rfl rfl) ?_; refine wla rfl rfl (q_assign (v := (i64 ((wI (s4.2.2 - 1))))) rfl rfl) ?_; refine wl_nil ?_; obtain rfl := osi H4; exact ⟨_, rfl, rfl, s5_5, rfl, s24_5, e9, o8, n0_5⟩
    replace H4 := (if_neg (of_decide_eq_false hb6)).symm.trans H4; refine W_exit ?_; refine th_x ?_; obtain rfl := osi H4; obtain rfl := hr4 _ rfl; refine th_x ?_; refine bk_x ?_; exact ⟨s5_5, s24_5, hE5, o0_5, n0_5⟩
  rintro _ w11 ⟨s5_11, s24_11, hE11, o0_11, n0_11⟩; refine W_th ?_; refine W_seq ?_; refine W_reg (by kernel_rfl) ?_; refine wla rfl rfl (q_move (v := v1) rfl s5_11) ?_; refine wla rfl rfl (q_assign (v := v1) rfl rfl) ?_; refine wl_nil ?_; refine W_th ?_; refine W_ret ?_; obtain rfl := osi H; refine rt1 v1 rfl rfl rfl s24_11 ?_; exact ⟨v1, rfl, hE11, n0_11, (o0_11.weak (Sc.stab _) (fun _ _ => trivial))⟩
end Gk

/- The stream's bytes (chapter 6), in plain Lean. No condition but lengths. -/
set_option linter.unusedSimpArgs false
set_option linter.unusedVariables false
namespace Gk
open Gf
def b8 (x : UInt64) : List UInt8 := (List.range 8).map fun i => (shr64 x (56 - 8 * i)).toUInt8
theorem b8_len (x : UInt64) : (b8 x).length = 8 := by simp [b8]
theorem b8_get (x : UInt64) (i : Nat) (h : i < 8) : co (b8 x) i = (shr64 x (56 - 8 * i)).toUInt8 := by rw [b8, co_tab, if_pos h]
theorem Bits64q : word_Bits_uint64 = some 64 := by
  unfold word_Bits_uint64
  rw [iterC_some.2 ⟨65, by kernel_rfl⟩]; rfl
theorem put64q (b : List UInt8) (x : UInt64) (h : b.length + 8 ≤ most) : word_Put_uint64 b x = some (b ++ b8 x) := by
  unfold word_Put_uint64
  have hl := b8_len x
  rw [Clone5 b (by omega), Option.bind_some, Bits64q, Option.bind_some, show wI (64 - 8) = (((64 : Nat) : Int) - 8 * ((0 : Nat) + 1)) by decide]
  refine bind_of (x := b ++ b8 x) (iterC_count (fun i => (b ++ (b8 x).take i, ((64 : Nat) : Int) - 8 * ((i : Int) + 1))) 8 _ (by rw [List.take_zero, List.append_nil]) ?_ ?_) rfl
  · intro i hi
    dsimp only
    rw [if_pos (by omega), show ((64 : Nat) : Int) - 8 * ((i : Int) + 1) = ((56 - 8 * i : Nat) : Int) by omega, cnt_nat, Option.bind_some, ← b8_get x i hi, appL_ok _ _ (by simp only [List.length_append, List.length_take, List.length_singleton]; omega) rfl, Option.bind_some, List.append_assoc, ← take_snoc (by omega), wI_of (by omega) (by omega)]
    congr 3
    omega
  · dsimp only
    rw [if_neg (by omega), List.take_of_length_le (by omega)]
theorem shr_step (x : UInt64) (k : Nat) (h : k < 8) : shr64 x (8 * k) / 256 = shr64 x (8 * (k + 1)) ∧ (shr64 x (8 * k) % 256).toUInt8 = (shr64 x (8 * k)).toUInt8 := by
  have hx := x.toNat_lt
  have e : ∀ j, j ≤ 64 → (shr64 x j).toNat = x.toNat / 2 ^ j := fun j hj => by
    unfold shr64
    rw [Nat.min_eq_left hj, UInt64.toNat_ofNat']
    exact Nat.mod_eq_of_lt (Nat.lt_of_le_of_lt (Nat.div_le_self _ _) hx)
  refine ⟨?_, ?_⟩
  · apply UInt64.toNat_inj.1
    rw [UInt64.toNat_div, e _ (by omega), e _ (by omega), show (256 : UInt64).toNat = 2 ^ 8 by rfl, Nat.div_div_eq_div_mul, ← Nat.pow_add]
    congr 2
  · apply UInt8.toNat_inj.1
    rw [UInt64.toNat_toUInt8, UInt64.toNat_toUInt8, UInt64.toNat_mod]
    show x.toNat / 2 ^ (min (8 * k) 64) % 2 ^ 64 % 256 % 256 = _
    rw [Nat.mod_mod]; rfl
theorem rPut_eq (x : UInt64) : ref01_Put x 8 = some (b8 x) := by
  have hm : (1000 : Nat) ≤ most := by decide
  unfold ref01_Put
  rw [show makeL 8 (0 : UInt8) = some (List.replicate 8 0) from makeL_nat 8 _ (by omega), Option.bind_some, show wI (8 - 1) = ((7 : Nat) : Int) - ((0 : Nat) : Int) by decide]
  have h0 : shr64 x (8 * 0) = x := by
    unfold shr64
    rw [show min (8 * 0) 64 = 0 by rfl, Nat.pow_zero, Nat.div_one]; simp
  let O : Nat → List UInt8 := fun k => (List.range 8).map fun j => if 8 - k ≤ j then (shr64 x (56 - 8 * j)).toUInt8 else 0
  have hO : ∀ k, (O k).length = 8 := fun k => by simp [O]
  refine bind_of (x := b8 x) (iterC_count (fun k => (shr64 x (8 * k), O k, ((7 : Nat) : Int) - (k : Int))) 8 _ (by rw [h0]; rfl) ?_ ?_) rfl
  · intro k hk
    have hs := shr_step x k hk
    dsimp only
    rw [if_pos (by omega), show ((7 : Nat) : Int) - (k : Int) = ((7 - k : Nat) : Int) by omega, idx_co (by rw [hO]; omega), Option.bind_some, hs.1, hs.2, Int.toNat_natCast]
    have hset : (O k).set (7 - k) (shr64 x (8 * k)).toUInt8 = O (k + 1) := by
      refine ext_co (by rw [List.length_set, hO, hO]) fun j hj => ?_
      rw [List.length_set, hO] at hj
      have e1 : co ((O k).set (7 - k) (shr64 x (8 * k)).toUInt8) j = if 7 - k = j then (shr64 x (8 * k)).toUInt8 else co (O k) j := by
        simp only [co, List.getD_eq_getElem?_getD, List.getElem?_set]
        by_cases h : 7 - k = j
        · rw [if_pos h, if_pos h, if_pos (by rw [hO]; omega)]; rfl
        · rw [if_neg h, if_neg h]
      rw [e1, co_tab, co_tab, if_pos hj, if_pos hj]
      by_cases h : 7 - k = j
      · rw [if_pos h, if_pos (by omega), show 56 - 8 * j = 8 * k by omega]
      · rw [if_neg h]
        by_cases h2 : 8 - k ≤ j
        · rw [if_pos h2, if_pos (by omega)]
        · rw [if_neg h2, if_neg (by omega)]
    rw [hset]
    congr 4
    rw [wI_of (by omega) (by omega)]; omega
  · dsimp only
    rw [if_neg (by omega)]
    have hend : O 8 = b8 x := by
      refine ext_co (by rw [hO, b8_len]) fun j hj => ?_
      rw [hO] at hj
      rw [co_tab, if_pos hj, if_pos (by omega), b8_get x j hj]
    rw [hend]
def blk5 (k0 : List UInt8) (ks : List (List UInt8)) (nonce : List UInt8) (c : Nat) : List UInt8 := encF k0 ks (nonce ++ b8 (UInt64.ofNat c))
def strm (k0 : List UInt8) (ks : List (List UInt8)) (nonce : List UInt8) (p : Nat) : UInt8 := co (blk5 k0 ks nonce (p / 16)) (p % 16)
def strL (k0 : List UInt8) (ks : List (List UInt8)) (nonce : List UInt8) (at_ n : Nat) : List UInt8 := (List.range n).map fun i => strm k0 ks nonce (at_ + i)
theorem strL_len (k0 : List UInt8) (ks : List (List UInt8)) (nonce : List UInt8) (a n : Nat) : (strL k0 ks nonce a n).length = n := by simp [strL]
theorem co_strL (k0 : List UInt8) (ks : List (List UInt8)) (nonce : List UInt8) (a n i : Nat) (h : i < n) : co (strL k0 ks nonce a n) i = strm k0 ks nonce (a + i) := by rw [strL, co_tab, if_pos h]
structure Good (c : Cip) (k0 : List UInt8) (ks : List (List UInt8)) : Prop where
  eq : c = ⟨true, k0 :: ks, boxT, backT⟩
  h0 : k0.length = 16
  hk : ∀ x ∈ ks, x.length = 16
  hn : ks.length ≤ 100
theorem New_good (key : List UInt8) (n : Nat) (hn : n = 4 ∨ n = 8) (h : key.length = 4 * n) : ∃ c k0 ks, cipher_New true key = some (some c, 0) ∧ Good c k0 ks ∧ keysF key = k0 :: ks := by
  obtain ⟨k0, ks, hK, h0, hks, hsl⟩ := keys_cons key n hn h
  have hN := New_eq key n hn h
  rw [hK] at hN
  exact ⟨_, k0, ks, hN, ⟨rfl, h0, hks, by omega⟩, hK⟩
theorem blk5_len {c : Cip} {k0 : List UInt8} {ks : List (List UInt8)} (G : Good c k0 ks) (nonce : List UInt8) (hn : nonce.length = 8) (i : Nat) : (blk5 k0 ks nonce i).length = 16 :=
  encF_len k0 ks _ G.h0 G.hk (by rw [List.length_append, b8_len, hn])
theorem Bytes_eq {c : Cip} {k0 : List UInt8} {ks : List (List UInt8)} (G : Good c k0 ks) (nonce : List UInt8) (hn : nonce.length = 8) (a n : Nat) (ha : a ≤ 1073741824) (hn2 : n ≤ 1048576) :
    stream_Bytes (some c) nonce (a : Int) (n : Int) = some (strL k0 ks nonce a n, 0) := by
  have hm : (100000000 : Nat) ≤ most := by decide
  unfold stream_Bytes
  rw [if_neg (by simp), if_pos (by omega), if_neg (by omega), if_neg (by omega), if_neg (by omega), if_neg (by omega)]
  rw [show (16 : Int) = ((16 : Nat) : Int) by rfl, divI_nat _ _ (by omega) (by omega), Option.bind_some, remI_nat _ _ (by omega)]
  have hr : a % 16 < 16 := Nat.mod_lt _ (by omega)
  have hw : wI (((a % 16 : Nat) : Int) + (n : Int)) = ((a % 16 + n : Nat) : Int) := wI_add _ _ (by omega)
  have hd : a / 16 ≤ 67108864 := by omega
  have key : ∀ j : Nat, 16 * j + 16 ≤ 2000000 → strL k0 ks nonce (16 * (a / 16)) (16 * j) ++ blk5 k0 ks nonce (a / 16 + j) = strL k0 ks nonce (16 * (a / 16)) (16 * (j + 1)) := fun j hj => by
    have hbl := blk5_len G nonce hn (a / 16 + j)
    refine ext_co (by rw [List.length_append, strL_len, strL_len, hbl]; omega) fun i hi => ?_
    rw [List.length_append, strL_len, hbl] at hi
    rw [co_strL _ _ _ _ _ _ (by omega)]
    by_cases h : i < 16 * j
    · rw [co_left _ _ _ (by rw [strL_len]; exact h), co_strL _ _ _ _ _ _ h]
    · have e1 : co (strL k0 ks nonce (16 * (a / 16)) (16 * j) ++ blk5 k0 ks nonce (a / 16 + j)) i = co (blk5 k0 ks nonce (a / 16 + j)) (i - 16 * j) := by
        simp only [co, List.getD_eq_getElem?_getD]
        rw [List.getElem?_append_right (by rw [strL_len]; omega), strL_len]
      rw [e1, strm, show (16 * (a / 16) + i) / 16 = a / 16 + j by omega, show (16 * (a / 16) + i) % 16 = i - 16 * j by omega]
  refine bind_of (x := .inl (strL k0 ks nonce (16 * (a / 16)) (16 * ((a % 16 + n + 15) / 16)))) (iterC_count (fun j => (strL k0 ks nonce (16 * (a / 16)) (16 * j), ((a / 16 + j : Nat) : Int))) ((a % 16 + n + 15) / 16) _ rfl ?_ ?_) ?_
  · intro j hj
    dsimp only
    rw [Option.bind_some, strL_len, hw, if_pos (by omega), put64q _ _ (by omega), Option.bind_some]
    have hof : UInt64.ofInt ((a / 16 + j : Nat) : Int) = UInt64.ofNat (a / 16 + j) := by
      apply UInt64.toNat_inj.1
      simp [UInt64.ofInt]; omega
    rw [hof, G.eq, Encrypt_eq k0 ks _ G.h0 G.hk G.hn (by rw [List.length_append, b8_len, hn]), Option.bind_some]
    dsimp only
    have hbl := blk5_len G nonce hn (a / 16 + j)
    have hfold : encF k0 ks (nonce ++ b8 (UInt64.ofNat (a / 16 + j))) = blk5 k0 ks nonce (a / 16 + j) := rfl
    rw [if_pos rfl, hfold]
    unfold appL
    rw [if_pos (by rw [strL_len, hbl]; omega), Option.bind_some, key j (by omega), wI_succ _ (by omega)]; rfl
  · dsimp only
    rw [Option.bind_some, strL_len, hw, if_neg (by omega)]
  · rw [Sum.elim_inl]
    by_cases h0 : n = 0
    · subst h0
      rw [if_pos (by rfl)]; rfl
    · rw [if_neg (by omega), Option.bind_some, Option.bind_some, Option.bind_some, hw]
      have h3 : subL3 (strL k0 ks nonce (16 * (a / 16)) (16 * ((a % 16 + n + 15) / 16))) ((a % 16 : Nat) : Int) ((a % 16 + n : Nat) : Int) ((a % 16 + n : Nat) : Int) = some (strL k0 ks nonce a n) := by
        refine subL3_some.2 ⟨⟨by omega, by omega, by omega, by rw [strL_len]; omega⟩, ?_⟩
        rw [Int.toNat_natCast, Int.toNat_natCast]
        refine ext_co (by simp only [List.length_drop, List.length_take, strL_len]; omega) fun i hi => ?_
        simp only [List.length_drop, List.length_take, strL_len] at hi
        rw [co_drop, co_take, if_pos (by omega), co_strL _ _ _ _ _ _ (by omega), co_strL _ _ _ _ _ _ (by omega)]
        congr 1; omega
      rw [h3, Option.bind_some]
theorem xr_comm (a b : List UInt8) : xr a b = xr b a := by
  unfold xr
  rw [Nat.min_comm]
  apply List.map_congr_left
  intro i _
  rw [xor_comm]
theorem SXor_eq {c : Cip} {k0 : List UInt8} {ks : List (List UInt8)} (G : Good c k0 ks) (nonce : List UInt8) (hn : nonce.length = 8) (b : List UInt8) (hb : b.length ≤ 1048576) :
    stream_Xor (some c) nonce b = some (xr (strL k0 ks nonce 0 b.length) b, 0) := by
  have hm : (100000000 : Nat) ≤ most := by decide
  unfold stream_Xor
  have := Bytes_eq G nonce hn 0 b.length (by omega) hb
  rw [show ((0 : Nat) : Int) = 0 by rfl] at this
  rw [this, Option.bind_some]
  dsimp only
  rw [if_pos rfl, wXor_eq _ _ (by rw [strL_len]; omega), Option.bind_some]
end Gk

/- Parts F7b, one behind the other. What is proved: said at the head of each part. No condition beside those said there. -/
import Derived.Test.YtgbiidkinoebgaaRows
import Derived.Orders
import Derived.Deep.Draws
import Derived.Laws.World
import Derived.KernelRfl
import Derived.OrdersIn
import Derived.TacticsIn
import Derived.RangeFuncCalls
import Derived.Deep.LoopGhost
import Derived.Tactics
import Derived.Sort.LoopGhostIn
import Derived.RangeFuncLeaves
import Derived.RangeFuncNested
import Derived.RangeFuncRecord
import Derived.Laws.Sem
import Derived.OwnWalk
import Derived.RangeFuncWrites
import Derived.Laws.IdiomCopy
import Derived.WalkKit
import Derived.ProofKit
import Derived.OpenShut
import Derived.ChangeOld
import Derived.Below
import Derived.Test.YtgbiidkinoebgaaProg
import Derived.MapKept
import Derived.Lib.AppendZerosOnto
import Derived.Laws.CopyRow
import Derived.Laws.Cells
import Derived.Lib.SlBytesConst
import Derived.Lib.MakeNoZero
import Derived.Laws.Externs
import Derived.Test.YtgbiidkinoebgaaZPSealMarks1
import Derived.Test.YtgbiidkinoebgaaZPSealMarks2
import Derived.Test.YtgbiidkinoebgaaZPSealMarks3
/- Printed by gen.py: for each Go function a pure function, and that the Go code comes to it. No condition beside the equation that says what the pure function gives. -/

set_option linter.unusedVariables false
set_option linter.unusedSimpArgs false
namespace Gk
open Go Go.Proofs

/-! (*largesse/hash.state).block -/
noncomputable def hash_block (a0s : List UInt32) (a1p : List UInt8) : Option (List UInt32) :=
((((lenA 8 a0s).bind fun c6 =>
((hash_plan a1p).bind fun r7 =>
((hash_constants ).bind fun r10 =>
((lenA 64 ((List.replicate 64 (0 : UInt32)))).bind fun c32 =>
((lenA 64 r7).bind fun c33 =>
((lenA 64 r10).bind fun c37 =>
((lenA 8 ((List.replicate 8 (0 : UInt32)))).bind fun c41 => some (r7, r10, a0s))))))))).bind fun x1 =>
((iterC (fun s45 : List UInt32 × Int =>
(if s45.2 < 64 then
((lenA 8 s45.1).bind fun c50 =>
((idx s45.1 7).bind fun c51 =>
((idx s45.1 4).bind fun c52 =>
((idx s45.1 5).bind fun c53 =>
((idx s45.1 6).bind fun c54 =>
((lenA 64 x1.2.1).bind fun c55 =>
((idx x1.2.1 s45.2).bind fun c56 =>
((lenA 64 x1.1).bind fun c57 =>
((idx x1.1 s45.2).bind fun c58 =>
((hash_turned c52 6 11 25).bind fun r59 =>
((lenA 8 s45.1).bind fun c63 =>
((idx s45.1 0).bind fun c64 =>
((idx s45.1 1).bind fun c65 =>
((idx s45.1 2).bind fun c66 =>
((hash_turned c64 2 13 22).bind fun r67 =>
((lenA 8 s45.1).bind fun c69 =>
((idx s45.1 0).bind fun c70 =>
((idx s45.1 1).bind fun c71 =>
((idx s45.1 2).bind fun c72 =>
((idx s45.1 3).bind fun c73 =>
((idx s45.1 4).bind fun c74 =>
((idx s45.1 5).bind fun c75 =>
((idx s45.1 6).bind fun c76 =>
((lenA 8 (([(((((c51 + r59) + ((c52 &&& c53) ^^^ (((4294967295 : UInt32) ^^^ c52) &&& c54))) + c56) + c58) + (r67 + (((c64 &&& c65) ^^^ (c64 &&& c66)) ^^^ (c65 &&& c66)))), c70, c71, c72, (c73 + ((((c51 + r59) + ((c52 &&& c53) ^^^ (((4294967295 : UInt32) ^^^ c52) &&& c54))) + c56) + c58)), c74, c75, c76] : List UInt32))).bind fun c78 => some (.inl (([(((((c51 + r59) + ((c52 &&& c53) ^^^ (((4294967295 : UInt32) ^^^ c52) &&& c54))) + c56) + c58) + (r67 + (((c64 &&& c65) ^^^ (c64 &&& c66)) ^^^ (c65 &&& c66)))), c70, c71, c72, (c73 + ((((c51 + r59) + ((c52 &&& c53) ^^^ (((4294967295 : UInt32) ^^^ c52) &&& c54))) + c56) + c58)), c74, c75, c76] : List UInt32), (wI (s45.2 + 1))))))))))))))))))))))))))))
else some (.inr s45.1))) (x1.2.2, 0)).bind fun x45 =>
((iterC (fun s82 : List UInt32 × Int =>
(if s82.2 < 8 then
((lenA 8 s82.1).bind fun c87 =>
((idx s82.1 s82.2).bind fun c88 =>
((lenA 8 x45).bind fun c89 =>
((idx x45 s82.2).bind fun c90 => some (.inl ((s82.1.set (s82.2 : Int).toNat ((c88 + c90))), (wI (s82.2 + 1))))))))
else some (.inr s82.1))) (a0s, 0)).bind fun x82 => some x82)))
set_option maxRecDepth 100000 in
set_option maxHeartbeats 8000000 in
theorem hash_block_calls (a0s : List UInt32) (a1p : List UInt8) (gio0 : Nat) (p1 : Value) (r : List UInt32) (w0 : World) (hio0 : Blk w0 gio0 98 (ac u32 a0s)) (hp1 : By w0 [(bp gio0)] p1 a1p) (H : hash_block a0s a1p = some r) :
    Calls Try.prog 69 [(bp gio0), p1].toArray w0 (fun e w' => e = .returned (.tuple #[]) ∧ ExG [(bp gio0)] w0 w' ∧ Blk w' gio0 98 (ac u32 r)) := by
  have hE : ExG [(bp gio0)] w0 w0 := ExG.refl _ w0
  unfold hash_block at H
  refine calls_W (n := 104) Try.func69 rfl rfl rfl ?_
  refine W_seq ?_
  obtain ⟨x1, H1, H⟩ := Option.bind_eq_some_iff.1 H
  refine W_mid (fun f w => ∃ g4_97 : Nat, ∃ g5_97 : Nat, ∃ g6_97 : Nat, f 0 = (bp gio0) ∧ f 4 = (bp g4_97) ∧ f 5 = (bp g5_97) ∧ f 6 = (bp g6_97) ∧ f 104 = undef ∧ ExG [(bp gio0)] w0 w ∧ Blk w gio0 98 (ac u32 a0s) ∧ NS [(bp gio0)] w0 (bp gio0) ∧ Blk w g4_97 69 (ac u32 x1.1) ∧ NS [(bp gio0)] w0 (bp g4_97) ∧ Blk w g5_97 69 (ac u32 x1.2.1) ∧ NS [(bp gio0)] w0 (bp g5_97) ∧ Blk w g6_97 98 (ac u32 x1.2.2) ∧ NS [(bp gio0)] w0 (bp g6_97) ∧ Nq (bp gio0) (bp g4_97) ∧ Nq (bp gio0) (bp g5_97) ∧ Nq (bp gio0) (bp g6_97) ∧ Nq (bp g4_97) (bp g5_97) ∧ Nq (bp g4_97) (bp g6_97) ∧ Nq (bp g5_97) (bp g6_97)) ?_ ?_
  · refine W_drawTB (B := (World.drew w0).heap.size) [5] [(0, 0), (3, 0), (4, 0), (5, 1)] (.br 1 [] (.br 2 [] (.br 6 [] (.br 7 [(8, 2), (9, 2), (10, 2), (11, 2)] .fin (.br 8 [(7, 2), (9, 2), (10, 2), (11, 2)] .fin .fin)) (.br 7 [] (.br 6 [(8, 2), (9, 2), (10, 2), (11, 2)] .fin (.br 8 [(6, 2), (9, 2), (10, 2), (11, 2)] .fin .fin)) (.br 8 [] (.br 6 [(7, 2), (9, 2), (10, 2), (11, 2)] .fin (.br 7 [(6, 2), (9, 2), (10, 2), (11, 2)] .fin .fin)) .fin))) (.br 6 [] (.br 2 [] (.br 7 [(8, 2), (9, 2), (10, 2), (11, 2)] .fin (.br 8 [(7, 2), (9, 2), (10, 2), (11, 2)] .fin .fin)) (.br 7 [] (.br 2 [(8, 2), (9, 2), (10, 2), (11, 2)] .fin (.br 8 [(2, 2), (9, 2), (10, 2), (11, 2)] .fin .fin)) (.br 8 [] (.br 2 [(7, 2), (9, 2), (10, 2), (11, 2)] .fin (.br 7 [(2, 2), (9, 2), (10, 2), (11, 2)] .fin .fin)) .fin))) (.br 7 [] (.br 2 [] (.br 6 [(8, 2), (9, 2), (10, 2), (11, 2)] .fin (.br 8 [(6, 2), (9, 2), (10, 2), (11, 2)] .fin .fin)) (.br 6 [] (.br 2 [(8, 2), (9, 2), (10, 2), (11, 2)] .fin (.br 8 [(2, 2), (9, 2), (10, 2), (11, 2)] .fin .fin)) (.br 8 [] (.br 2 [(6, 2), (9, 2), (10, 2), (11, 2)] .fin (.br 6 [(2, 2), (9, 2), (10, 2), (11, 2)] .fin .fin)) .fin))) (.br 8 [] (.br 2 [] (.br 6 [(7, 2), (9, 2), (10, 2), (11, 2)] .fin (.br 7 [(6, 2), (9, 2), (10, 2), (11, 2)] .fin .fin)) (.br 6 [] (.br 2 [(7, 2), (9, 2), (10, 2), (11, 2)] .fin (.br 7 [(2, 2), (9, 2), (10, 2), (11, 2)] .fin .fin)) (.br 7 [] (.br 2 [(6, 2), (9, 2), (10, 2), (11, 2)] .fin (.br 6 [(2, 2), (9, 2), (10, 2), (11, 2)] .fin .fin)) .fin))) .fin)))) (.br 6 [] (.br 1 [] (.br 2 [] (.br 7 [(8, 2), (9, 2), (10, 2), (11, 2)] .fin (.br 8 [(7, 2), (9, 2), (10, 2), (11, 2)] .fin .fin)) (.br 7 [] (.br 2 [(8, 2), (9, 2), (10, 2), (11, 2)] .fin (.br 8 [(2, 2), (9, 2), (10, 2), (11, 2)] .fin .fin)) (.br 8 [] (.br 2 [(7, 2), (9, 2), (10, 2), (11, 2)] .fin (.br 7 [(2, 2), (9, 2), (10, 2), (11, 2)] .fin .fin)) .fin))) (.br 7 [] (.br 1 [] (.br 2 [(8, 2), (9, 2), (10, 2), (11, 2)] .fin (.br 8 [(2, 2), (9, 2), (10, 2), (11, 2)] .fin .fin)) (.br 8 [(1, 2), (2, 2), (9, 2), (10, 2), (11, 2)] .fin .fin)) (.br 8 [] (.br 1 [] (.br 2 [(7, 2), (9, 2), (10, 2), (11, 2)] .fin (.br 7 [(2, 2), (9, 2), (10, 2), (11, 2)] .fin .fin)) (.br 7 [(1, 2), (2, 2), (9, 2), (10, 2), (11, 2)] .fin .fin)) .fin))) (.br 7 [] (.br 1 [] (.br 2 [] (.br 6 [(8, 2), (9, 2), (10, 2), (11, 2)] .fin (.br 8 [(6, 2), (9, 2), (10, 2), (11, 2)] .fin .fin)) (.br 6 [] (.br 2 [(8, 2), (9, 2), (10, 2), (11, 2)] .fin (.br 8 [(2, 2), (9, 2), (10, 2), (11, 2)] .fin .fin)) (.br 8 [] (.br 2 [(6, 2), (9, 2), (10, 2), (11, 2)] .fin (.br 6 [(2, 2), (9, 2), (10, 2), (11, 2)] .fin .fin)) .fin))) (.br 6 [] (.br 1 [] (.br 2 [(8, 2), (9, 2), (10, 2), (11, 2)] .fin (.br 8 [(2, 2), (9, 2), (10, 2), (11, 2)] .fin .fin)) (.br 8 [(1, 2), (2, 2), (9, 2), (10, 2), (11, 2)] .fin .fin)) (.br 8 [] (.br 1 [] (.br 2 [(6, 2), (9, 2), (10, 2), (11, 2)] .fin (.br 6 [(2, 2), (9, 2), (10, 2), (11, 2)] .fin .fin)) (.br 6 [(1, 2), (2, 2), (9, 2), (10, 2), (11, 2)] .fin .fin)) .fin))) (.br 8 [] (.br 1 [] (.br 2 [] (.br 6 [(7, 2), (9, 2), (10, 2), (11, 2)] .fin (.br 7 [(6, 2), (9, 2), (10, 2), (11, 2)] .fin .fin)) (.br 6 [] (.br 2 [(7, 2), (9, 2), (10, 2), (11, 2)] .fin (.br 7 [(2, 2), (9, 2), (10, 2), (11, 2)] .fin .fin)) (.br 7 [] (.br 2 [(6, 2), (9, 2), (10, 2), (11, 2)] .fin (.br 6 [(2, 2), (9, 2), (10, 2), (11, 2)] .fin .fin)) .fin))) (.br 6 [] (.br 1 [] (.br 2 [(7, 2), (9, 2), (10, 2), (11, 2)] .fin (.br 7 [(2, 2), (9, 2), (10, 2), (11, 2)] .fin .fin)) (.br 7 [(1, 2), (2, 2), (9, 2), (10, 2), (11, 2)] .fin .fin)) (.br 7 [] (.br 1 [] (.br 2 [(6, 2), (9, 2), (10, 2), (11, 2)] .fin (.br 6 [(2, 2), (9, 2), (10, 2), (11, 2)] .fin .fin)) (.br 6 [(1, 2), (2, 2), (9, 2), (10, 2), (11, 2)] .fin .fin)) .fin))) .fin)))) mixed (by kernel_rfl) (by kernel_rfl) (by kernel_rfl) (by kernel_rfl) ?_
    have x2 := Ext.drew w0
    replace hio0 := hio0.ext x2
    have e3 := hE.trans x2
    have eb4 : EB (World.drew w0).heap.size (World.drew w0) (World.drew w0) := EB.refl _
    have sb5 := hio0
    refine wba rfl rfl rfl (q_move (v := p1) rfl rfl) ?_
    refine wba rfl rfl rfl (q_move (v := (bp gio0)) rfl rfl) ?_
    refine wba rfl rfl rfl (q_nilP rfl rfl) ?_
    obtain ⟨c6, hc6, H1⟩ := Option.bind_eq_some_iff.1 H1
    refine wbq rfl rfl rfl (Qb.of fun w9 h9 => q_loadA (m := 0) rfl A98 rfl (Blk.ebs sb5 (EB.trans eb4 h9)) (seg_self _ _) (lenA_eq hc6)) ?_
    refine wsB_nil ?_
    refine wrB_br ?_ ?_
    · obtain ⟨r7, hr7, H1⟩ := Option.bind_eq_some_iff.1 H1
      refine wbs rfl rfl rfl (stp_call (vs := [p1]) Try.func77 rfl rfl rfl (ar1 rfl) (hash_plan_calls a1p p1 r7 _ (hp1.lift (Lift.exg0 e3)) hr7) ?_)
      rintro _ w7 ⟨rfl, x7⟩
      refine ⟨_, rfl, (EB.ext eb4.1 x7), ?_⟩
      have eb8 := EB.trans eb4 (EB.ext eb4.1 x7)
      replace hio0 := hio0.ext x7
      have e9 := e3.trans x7
      refine wsB_nil ?_
      refine wt_br ?_
      refine wrB_br ?_ ?_
      · obtain ⟨r10, hr10, H1⟩ := Option.bind_eq_some_iff.1 H1
        refine wbs rfl rfl rfl (stp_call (vs := []) Try.func78 rfl rfl rfl (ar0 ) (hash_constants_calls   r10 _  hr10) ?_)
        rintro _ w10 ⟨rfl, x10⟩
        refine ⟨_, rfl, (EB.ext eb8.1 x10), ?_⟩
        have eb11 := EB.trans eb8 (EB.ext eb8.1 x10)
        replace hio0 := hio0.ext x10
        have e12 := e9.trans x10
        refine wsB_nil ?_
        refine wt_br ?_
        refine wrB_br ?_ ?_
        · refine wbs rfl rfl rfl (stp_allocL (z := (ag u32 ((List.replicate 64 (0 : UInt32))))) (cs := (ac u32 ((List.replicate 64 (0 : UInt32))))) [(bp gio0)] rfl Z69 rfl ?_)
          intro g13 w13 o13 n13 g13r l13
          refine ⟨(EB.ext eb11.1 (grown_ext g13r)), ?_⟩
          have x13 := grown_ext g13r
          have eb14 := EB.trans eb11 (EB.ext eb11.1 x13)
          have q15 : Nq (bp gio0) (bp g13) := hio0.nq n13
          replace hio0 := hio0.ext x13
          have n17 := NS.ext e12 n13
          have e16 := e12.trans x13
          refine wsB_nil ?_
          refine wt_br ?_
          refine wrB_br ?_ ?_
          · refine wbs rfl rfl rfl (stp_allocL (z := (ag u32 ((List.replicate 64 (0 : UInt32))))) (cs := (ac u32 ((List.replicate 64 (0 : UInt32))))) [(bp g13), (bp gio0)] rfl Z69 rfl ?_)
            intro g18 w18 o18 n18 g18r l18
            refine ⟨(EB.ext eb14.1 (grown_ext g18r)), ?_⟩
            have x18 := grown_ext g18r
            have eb19 := EB.trans eb14 (EB.ext eb14.1 x18)
            have q20 : Nq (bp g13) (bp g18) := o13.nq n18
            have q21 : Nq (bp gio0) (bp g18) := hio0.nq n18
            replace o13 := o13.ext x18
            replace hio0 := hio0.ext x18
            have n23 := NS.ext e16 n18
            have e22 := e16.trans x18
            refine wbs rfl rfl rfl (stp_allocL (z := (ag u32 ((List.replicate 8 (0 : UInt32))))) (cs := (ac u32 ((List.replicate 8 (0 : UInt32))))) [(bp g18), (bp g13), (bp gio0)] rfl Z98 rfl ?_)
            intro g24 w24 o24 n24 g24r l24
            refine ⟨(EB.ext eb19.1 (grown_ext g24r)), ?_⟩
            have x24 := grown_ext g24r
            have eb25 := EB.trans eb19 (EB.ext eb19.1 x24)
            have q26 : Nq (bp g18) (bp g24) := o18.nq n24
            have q27 : Nq (bp g13) (bp g24) := o13.nq n24
            have q28 : Nq (bp gio0) (bp g24) := hio0.nq n24
            replace o18 := o18.ext x24
            replace o13 := o13.ext x24
            replace hio0 := hio0.ext x24
            have n30 := NS.ext e22 n24
            have e29 := e22.trans x24
            obtain ⟨c32, hc32, H1⟩ := Option.bind_eq_some_iff.1 H1
            obtain ⟨c33, hc33, H1⟩ := Option.bind_eq_some_iff.1 H1
            refine wbm rfl rfl rfl (stp_storeA [(bp g24), (bp g18)] [(bp gio0)] rfl A69 rfl rfl (lenA_eq hc32) (lenA_eq hc33) o13 one_u32 ?_)
            intro w31 o31 g31 l31
            refine ⟨(EB.own eb25.1 g31 (fun k hk => Nat.le_trans eb11.1 (n13 k hk))), ?_⟩
            have eb34 := EB.trans eb25 (EB.own eb25.1 g31 (fun k hk => Nat.le_trans eb11.1 (n13 k hk)))
            replace o24 := o24.other g31 q27.symm
            replace o18 := o18.other g31 q20.symm
            replace hio0 := hio0.other g31 q15
            have e35 := e29.grown g31 n17
            obtain ⟨c37, hc37, H1⟩ := Option.bind_eq_some_iff.1 H1
            refine wbm rfl rfl rfl (stp_storeA [(bp g24)] [(bp g13), (bp gio0)] rfl A69 rfl rfl (lenA_eq hc32) (lenA_eq hc37) o18 one_u32 ?_)
            intro w36 o36 g36 l36
            refine ⟨(EB.own eb34.1 g36 (fun k hk => Nat.le_trans eb14.1 (n18 k hk))), ?_⟩
            have eb38 := EB.trans eb34 (EB.own eb34.1 g36 (fun k hk => Nat.le_trans eb14.1 (n18 k hk)))
            replace o24 := o24.other g36 q26.symm
            replace o31 := o31.other g36 q20
            replace hio0 := hio0.other g36 q21
            have e39 := e35.grown g36 n23
            obtain ⟨c41, hc41, H1⟩ := Option.bind_eq_some_iff.1 H1
            refine wbn rfl (by kernel_rfl) rfl rfl (stp_storeA [] [(bp g18), (bp g13), (bp gio0)] rfl A98 rfl rfl (lenA_eq hc41) (lenA_eq hc6) o24 one_u32 ?_)
            intro w40 o40 g40 l40
            have eb42 := EB.trans eb38 (EB.own eb38.1 g40 (fun k hk => Nat.le_trans eb19.1 (n24 k hk)))
            replace o36 := o36.other g40 q26
            replace o31 := o31.other g40 q27
            replace hio0 := hio0.other g40 q28
            have e43 := e39.grown g40 n30
            refine wsB_nil ?_
            refine wt_fin ?_
            obtain rfl := Option.some.inj H1
            exact ⟨g13, g18, g24, rfl, rfl, rfl, rfl, rfl, e43, hio0, NS.own, o31, n17, o36, n23, o40, n30, q15, q21, q28, q20, q27, q26⟩
          · refine wrB_br ?_ ?_
            · refine wbs rfl rfl rfl (stp_allocL (z := (ag u32 ((List.replicate 8 (0 : UInt32))))) (cs := (ac u32 ((List.replicate 8 (0 : UInt32))))) [(bp g13), (bp gio0)] rfl Z98 rfl ?_)
              intro g18 w18 o18 n18 g18r l18
              refine ⟨(EB.ext eb14.1 (grown_ext g18r)), ?_⟩
              have x18 := grown_ext g18r
              have eb19 := EB.trans eb14 (EB.ext eb14.1 x18)
              have q20 : Nq (bp g13) (bp g18) := o13.nq n18
              have q21 : Nq (bp gio0) (bp g18) := hio0.nq n18
              replace o13 := o13.ext x18
              replace hio0 := hio0.ext x18
              have n23 := NS.ext e16 n18
              have e22 := e16.trans x18
              refine wbs rfl rfl rfl (stp_allocL (z := (ag u32 ((List.replicate 64 (0 : UInt32))))) (cs := (ac u32 ((List.replicate 64 (0 : UInt32))))) [(bp g18), (bp g13), (bp gio0)] rfl Z69 rfl ?_)
              intro g24 w24 o24 n24 g24r l24
              refine ⟨(EB.ext eb19.1 (grown_ext g24r)), ?_⟩
              have x24 := grown_ext g24r
              have eb25 := EB.trans eb19 (EB.ext eb19.1 x24)
              have q26 : Nq (bp g18) (bp g24) := o18.nq n24
              have q27 : Nq (bp g13) (bp g24) := o13.nq n24
              have q28 : Nq (bp gio0) (bp g24) := hio0.nq n24
              replace o18 := o18.ext x24
              replace o13 := o13.ext x24
              replace hio0 := hio0.ext x24
              have n30 := NS.ext e22 n24
              have e29 := e22.trans x24
              obtain ⟨c32, hc32, H1⟩ := Option.bind_eq_some_iff.1 H1
              obtain ⟨c33, hc33, H1⟩ := Option.bind_eq_some_iff.1 H1
              refine wbm rfl rfl rfl (stp_storeA [(bp g24), (bp g18)] [(bp gio0)] rfl A69 rfl rfl (lenA_eq hc32) (lenA_eq hc33) o13 one_u32 ?_)
              intro w31 o31 g31 l31
              refine ⟨(EB.own eb25.1 g31 (fun k hk => Nat.le_trans eb11.1 (n13 k hk))), ?_⟩
              have eb34 := EB.trans eb25 (EB.own eb25.1 g31 (fun k hk => Nat.le_trans eb11.1 (n13 k hk)))
              replace o24 := o24.other g31 q27.symm
              replace o18 := o18.other g31 q20.symm
              replace hio0 := hio0.other g31 q15
              have e35 := e29.grown g31 n17
              obtain ⟨c37, hc37, H1⟩ := Option.bind_eq_some_iff.1 H1
              refine wbm rfl rfl rfl (stp_storeA [] [(bp g18), (bp g13), (bp gio0)] rfl A69 rfl rfl (lenA_eq hc32) (lenA_eq hc37) o24 one_u32 ?_)
              intro w36 o36 g36 l36
              refine ⟨(EB.own eb34.1 g36 (fun k hk => Nat.le_trans eb19.1 (n24 k hk))), ?_⟩
              have eb38 := EB.trans eb34 (EB.own eb34.1 g36 (fun k hk => Nat.le_trans eb19.1 (n24 k hk)))
              replace o18 := o18.other g36 q26
              replace o31 := o31.other g36 q27
              replace hio0 := hio0.other g36 q28
              have e39 := e35.grown g36 n30
              obtain ⟨c41, hc41, H1⟩ := Option.bind_eq_some_iff.1 H1
              refine wbn rfl (by kernel_rfl) rfl rfl (stp_storeA [(bp g24)] [(bp g13), (bp gio0)] rfl A98 rfl rfl (lenA_eq hc41) (lenA_eq hc6) o18 one_u32 ?_)
              intro w40 o40 g40 l40
              have eb42 := EB.trans eb38 (EB.own eb38.1 g40 (fun k hk => Nat.le_trans eb14.1 (n18 k hk)))
              replace o36 := o36.other g40 q26.symm
              replace o31 := o31.other g40 q20
              replace hio0 := hio0.other g40 q21
              have e43 := e39.grown g40 n23
              refine wsB_nil ?_
              refine wt_fin ?_
              obtain rfl := Option.some.inj H1
              exact ⟨g13, g24, g18, rfl, rfl, rfl, rfl, rfl, e43, hio0, NS.own, o31, n17, o36, n30, o40, n23, q15, q28, q21, q27, q20, q26.symm⟩
            · trivial
        · refine wrB_br ?_ ?_
          · refine wbs rfl rfl rfl (stp_allocL (z := (ag u32 ((List.replicate 64 (0 : UInt32))))) (cs := (ac u32 ((List.replicate 64 (0 : UInt32))))) [(bp gio0)] rfl Z69 rfl ?_)
            intro g13 w13 o13 n13 g13r l13
            refine ⟨(EB.ext eb11.1 (grown_ext g13r)), ?_⟩
            have x13 := grown_ext g13r
            have eb14 := EB.trans eb11 (EB.ext eb11.1 x13)
            have q15 : Nq (bp gio0) (bp g13) := hio0.nq n13
            replace hio0 := hio0.ext x13
            have n17 := NS.ext e12 n13
            have e16 := e12.trans x13
            refine wsB_nil ?_
            refine wt_br ?_
            refine wrB_br ?_ ?_
            · refine wbs rfl rfl rfl (stp_allocL (z := (ag u32 ((List.replicate 64 (0 : UInt32))))) (cs := (ac u32 ((List.replicate 64 (0 : UInt32))))) [(bp g13), (bp gio0)] rfl Z69 rfl ?_)
              intro g18 w18 o18 n18 g18r l18
              refine ⟨(EB.ext eb14.1 (grown_ext g18r)), ?_⟩
              have x18 := grown_ext g18r
              have eb19 := EB.trans eb14 (EB.ext eb14.1 x18)
              have q20 : Nq (bp g13) (bp g18) := o13.nq n18
              have q21 : Nq (bp gio0) (bp g18) := hio0.nq n18
              replace o13 := o13.ext x18
              replace hio0 := hio0.ext x18
              have n23 := NS.ext e16 n18
              have e22 := e16.trans x18
              refine wbs rfl rfl rfl (stp_allocL (z := (ag u32 ((List.replicate 8 (0 : UInt32))))) (cs := (ac u32 ((List.replicate 8 (0 : UInt32))))) [(bp g18), (bp g13), (bp gio0)] rfl Z98 rfl ?_)
              intro g24 w24 o24 n24 g24r l24
              refine ⟨(EB.ext eb19.1 (grown_ext g24r)), ?_⟩
              have x24 := grown_ext g24r
              have eb25 := EB.trans eb19 (EB.ext eb19.1 x24)
              have q26 : Nq (bp g18) (bp g24) := o18.nq n24
              have q27 : Nq (bp g13) (bp g24) := o13.nq n24
              have q28 : Nq (bp gio0) (bp g24) := hio0.nq n24
              replace o18 := o18.ext x24
              replace o13 := o13.ext x24
              replace hio0 := hio0.ext x24
              have n30 := NS.ext e22 n24
              have e29 := e22.trans x24
              obtain ⟨c32, hc32, H1⟩ := Option.bind_eq_some_iff.1 H1
              obtain ⟨c33, hc33, H1⟩ := Option.bind_eq_some_iff.1 H1
              refine wbm rfl rfl rfl (stp_storeA [(bp g24)] [(bp g13), (bp gio0)] rfl A69 rfl rfl (lenA_eq hc32) (lenA_eq hc33) o18 one_u32 ?_)
              intro w31 o31 g31 l31
              refine ⟨(EB.own eb25.1 g31 (fun k hk => Nat.le_trans eb14.1 (n18 k hk))), ?_⟩
              have eb34 := EB.trans eb25 (EB.own eb25.1 g31 (fun k hk => Nat.le_trans eb14.1 (n18 k hk)))
              replace o24 := o24.other g31 q26.symm
              replace o13 := o13.other g31 q20
              replace hio0 := hio0.other g31 q21
              have e35 := e29.grown g31 n23
              obtain ⟨c37, hc37, H1⟩ := Option.bind_eq_some_iff.1 H1
              refine wbm rfl rfl rfl (stp_storeA [(bp g24), (bp g18)] [(bp gio0)] rfl A69 rfl rfl (lenA_eq hc32) (lenA_eq hc37) o13 one_u32 ?_)
              intro w36 o36 g36 l36
              refine ⟨(EB.own eb34.1 g36 (fun k hk => Nat.le_trans eb11.1 (n13 k hk))), ?_⟩
              have eb38 := EB.trans eb34 (EB.own eb34.1 g36 (fun k hk => Nat.le_trans eb11.1 (n13 k hk)))
              replace o24 := o24.other g36 q27.symm
              replace o31 := o31.other g36 q20.symm
              replace hio0 := hio0.other g36 q15
              have e39 := e35.grown g36 n17
              obtain ⟨c41, hc41, H1⟩ := Option.bind_eq_some_iff.1 H1
              refine wbn rfl (by kernel_rfl) rfl rfl (stp_storeA [] [(bp g18), (bp g13), (bp gio0)] rfl A98 rfl rfl (lenA_eq hc41) (lenA_eq hc6) o24 one_u32 ?_)
              intro w40 o40 g40 l40
              have eb42 := EB.trans eb38 (EB.own eb38.1 g40 (fun k hk => Nat.le_trans eb19.1 (n24 k hk)))
              replace o31 := o31.other g40 q26
              replace o36 := o36.other g40 q27
              replace hio0 := hio0.other g40 q28
              have e43 := e39.grown g40 n30
              refine wsB_nil ?_
              refine wt_fin ?_
              obtain rfl := Option.some.inj H1
              exact ⟨g18, g13, g24, rfl, rfl, rfl, rfl, rfl, e43, hio0, NS.own, o31, n23, o36, n17, o40, n30, q21, q15, q28, q20.symm, q26, q27⟩
            · refine wrB_br ?_ ?_
              · refine wbs rfl rfl rfl (stp_allocL (z := (ag u32 ((List.replicate 8 (0 : UInt32))))) (cs := (ac u32 ((List.replicate 8 (0 : UInt32))))) [(bp g13), (bp gio0)] rfl Z98 rfl ?_)
                intro g18 w18 o18 n18 g18r l18
                refine ⟨(EB.ext eb14.1 (grown_ext g18r)), ?_⟩
                have x18 := grown_ext g18r
                have eb19 := EB.trans eb14 (EB.ext eb14.1 x18)
                have q20 : Nq (bp g13) (bp g18) := o13.nq n18
                have q21 : Nq (bp gio0) (bp g18) := hio0.nq n18
                replace o13 := o13.ext x18
                replace hio0 := hio0.ext x18
                have n23 := NS.ext e16 n18
                have e22 := e16.trans x18
                refine wbs rfl rfl rfl (stp_allocL (z := (ag u32 ((List.replicate 64 (0 : UInt32))))) (cs := (ac u32 ((List.replicate 64 (0 : UInt32))))) [(bp g18), (bp g13), (bp gio0)] rfl Z69 rfl ?_)
                intro g24 w24 o24 n24 g24r l24
                refine ⟨(EB.ext eb19.1 (grown_ext g24r)), ?_⟩
                have x24 := grown_ext g24r
                have eb25 := EB.trans eb19 (EB.ext eb19.1 x24)
                have q26 : Nq (bp g18) (bp g24) := o18.nq n24
                have q27 : Nq (bp g13) (bp g24) := o13.nq n24
                have q28 : Nq (bp gio0) (bp g24) := hio0.nq n24
                replace o18 := o18.ext x24
                replace o13 := o13.ext x24
                replace hio0 := hio0.ext x24
                have n30 := NS.ext e22 n24
                have e29 := e22.trans x24
                obtain ⟨c32, hc32, H1⟩ := Option.bind_eq_some_iff.1 H1
                obtain ⟨c33, hc33, H1⟩ := Option.bind_eq_some_iff.1 H1
                refine wbm rfl rfl rfl (stp_storeA [] [(bp g18), (bp g13), (bp gio0)] rfl A69 rfl rfl (lenA_eq hc32) (lenA_eq hc33) o24 one_u32 ?_)
                intro w31 o31 g31 l31
                refine ⟨(EB.own eb25.1 g31 (fun k hk => Nat.le_trans eb19.1 (n24 k hk))), ?_⟩
                have eb34 := EB.trans eb25 (EB.own eb25.1 g31 (fun k hk => Nat.le_trans eb19.1 (n24 k hk)))
                replace o18 := o18.other g31 q26
                replace o13 := o13.other g31 q27
                replace hio0 := hio0.other g31 q28
                have e35 := e29.grown g31 n30
                obtain ⟨c37, hc37, H1⟩ := Option.bind_eq_some_iff.1 H1
                refine wbm rfl rfl rfl (stp_storeA [(bp g24), (bp g18)] [(bp gio0)] rfl A69 rfl rfl (lenA_eq hc32) (lenA_eq hc37) o13 one_u32 ?_)
                intro w36 o36 g36 l36
                refine ⟨(EB.own eb34.1 g36 (fun k hk => Nat.le_trans eb11.1 (n13 k hk))), ?_⟩
                have eb38 := EB.trans eb34 (EB.own eb34.1 g36 (fun k hk => Nat.le_trans eb11.1 (n13 k hk)))
                replace o31 := o31.other g36 q27.symm
                replace o18 := o18.other g36 q20.symm
                replace hio0 := hio0.other g36 q15
                have e39 := e35.grown g36 n17
                obtain ⟨c41, hc41, H1⟩ := Option.bind_eq_some_iff.1 H1
                refine wbn rfl (by kernel_rfl) rfl rfl (stp_storeA [(bp g24)] [(bp g13), (bp gio0)] rfl A98 rfl rfl (lenA_eq hc41) (lenA_eq hc6) o18 one_u32 ?_)
                intro w40 o40 g40 l40
                have eb42 := EB.trans eb38 (EB.own eb38.1 g40 (fun k hk => Nat.le_trans eb14.1 (n18 k hk)))
                replace o31 := o31.other g40 q26.symm
                replace o36 := o36.other g40 q20
                replace hio0 := hio0.other g40 q21
                have e43 := e39.grown g40 n23
                refine wsB_nil ?_
                refine wt_fin ?_
                obtain rfl := Option.some.inj H1
                exact ⟨g24, g13, g18, rfl, rfl, rfl, rfl, rfl, e43, hio0, NS.own, o31, n30, o36, n17, o40, n23, q28, q15, q21, q27.symm, q26.symm, q20⟩
              · trivial
          · refine wrB_br ?_ ?_
            · refine wbs rfl rfl rfl (stp_allocL (z := (ag u32 ((List.replicate 8 (0 : UInt32))))) (cs := (ac u32 ((List.replicate 8 (0 : UInt32))))) [(bp gio0)] rfl Z98 rfl ?_)
              intro g13 w13 o13 n13 g13r l13
              refine ⟨(EB.ext eb11.1 (grown_ext g13r)), ?_⟩
              have x13 := grown_ext g13r
              have eb14 := EB.trans eb11 (EB.ext eb11.1 x13)
              have q15 : Nq (bp gio0) (bp g13) := hio0.nq n13
              replace hio0 := hio0.ext x13
              have n17 := NS.ext e12 n13
              have e16 := e12.trans x13
              refine wsB_nil ?_
              refine wt_br ?_
              refine wrB_br ?_ ?_
              · refine wbs rfl rfl rfl (stp_allocL (z := (ag u32 ((List.replicate 64 (0 : UInt32))))) (cs := (ac u32 ((List.replicate 64 (0 : UInt32))))) [(bp g13), (bp gio0)] rfl Z69 rfl ?_)
                intro g18 w18 o18 n18 g18r l18
                refine ⟨(EB.ext eb14.1 (grown_ext g18r)), ?_⟩
                have x18 := grown_ext g18r
                have eb19 := EB.trans eb14 (EB.ext eb14.1 x18)
                have q20 : Nq (bp g13) (bp g18) := o13.nq n18
                have q21 : Nq (bp gio0) (bp g18) := hio0.nq n18
                replace o13 := o13.ext x18
                replace hio0 := hio0.ext x18
                have n23 := NS.ext e16 n18
                have e22 := e16.trans x18
                refine wbs rfl rfl rfl (stp_allocL (z := (ag u32 ((List.replicate 64 (0 : UInt32))))) (cs := (ac u32 ((List.replicate 64 (0 : UInt32))))) [(bp g18), (bp g13), (bp gio0)] rfl Z69 rfl ?_)
                intro g24 w24 o24 n24 g24r l24
                refine ⟨(EB.ext eb19.1 (grown_ext g24r)), ?_⟩
                have x24 := grown_ext g24r
                have eb25 := EB.trans eb19 (EB.ext eb19.1 x24)
                have q26 : Nq (bp g18) (bp g24) := o18.nq n24
                have q27 : Nq (bp g13) (bp g24) := o13.nq n24
                have q28 : Nq (bp gio0) (bp g24) := hio0.nq n24
                replace o18 := o18.ext x24
                replace o13 := o13.ext x24
                replace hio0 := hio0.ext x24
                have n30 := NS.ext e22 n24
                have e29 := e22.trans x24
                obtain ⟨c32, hc32, H1⟩ := Option.bind_eq_some_iff.1 H1
                obtain ⟨c33, hc33, H1⟩ := Option.bind_eq_some_iff.1 H1
                refine wbm rfl rfl rfl (stp_storeA [(bp g24)] [(bp g13), (bp gio0)] rfl A69 rfl rfl (lenA_eq hc32) (lenA_eq hc33) o18 one_u32 ?_)
                intro w31 o31 g31 l31
                refine ⟨(EB.own eb25.1 g31 (fun k hk => Nat.le_trans eb14.1 (n18 k hk))), ?_⟩
                have eb34 := EB.trans eb25 (EB.own eb25.1 g31 (fun k hk => Nat.le_trans eb14.1 (n18 k hk)))
                replace o24 := o24.other g31 q26.symm
                replace o13 := o13.other g31 q20
                replace hio0 := hio0.other g31 q21
                have e35 := e29.grown g31 n23
                obtain ⟨c37, hc37, H1⟩ := Option.bind_eq_some_iff.1 H1
                refine wbm rfl rfl rfl (stp_storeA [] [(bp g18), (bp g13), (bp gio0)] rfl A69 rfl rfl (lenA_eq hc32) (lenA_eq hc37) o24 one_u32 ?_)
                intro w36 o36 g36 l36
                refine ⟨(EB.own eb34.1 g36 (fun k hk => Nat.le_trans eb19.1 (n24 k hk))), ?_⟩
                have eb38 := EB.trans eb34 (EB.own eb34.1 g36 (fun k hk => Nat.le_trans eb19.1 (n24 k hk)))
                replace o31 := o31.other g36 q26
                replace o13 := o13.other g36 q27
                replace hio0 := hio0.other g36 q28
                have e39 := e35.grown g36 n30
                obtain ⟨c41, hc41, H1⟩ := Option.bind_eq_some_iff.1 H1
                refine wbn rfl (by kernel_rfl) rfl rfl (stp_storeA [(bp g24), (bp g18)] [(bp gio0)] rfl A98 rfl rfl (lenA_eq hc41) (lenA_eq hc6) o13 one_u32 ?_)
                intro w40 o40 g40 l40
                have eb42 := EB.trans eb38 (EB.own eb38.1 g40 (fun k hk => Nat.le_trans eb11.1 (n13 k hk)))
                replace o36 := o36.other g40 q27.symm
                replace o31 := o31.other g40 q20.symm
                replace hio0 := hio0.other g40 q15
                have e43 := e39.grown g40 n17
                refine wsB_nil ?_
                refine wt_fin ?_
                obtain rfl := Option.some.inj H1
                exact ⟨g18, g24, g13, rfl, rfl, rfl, rfl, rfl, e43, hio0, NS.own, o31, n23, o36, n30, o40, n17, q21, q28, q15, q26, q20.symm, q27.symm⟩
              · refine wrB_br ?_ ?_
                · refine wbs rfl rfl rfl (stp_allocL (z := (ag u32 ((List.replicate 64 (0 : UInt32))))) (cs := (ac u32 ((List.replicate 64 (0 : UInt32))))) [(bp g13), (bp gio0)] rfl Z69 rfl ?_)
                  intro g18 w18 o18 n18 g18r l18
                  refine ⟨(EB.ext eb14.1 (grown_ext g18r)), ?_⟩
                  have x18 := grown_ext g18r
                  have eb19 := EB.trans eb14 (EB.ext eb14.1 x18)
                  have q20 : Nq (bp g13) (bp g18) := o13.nq n18
                  have q21 : Nq (bp gio0) (bp g18) := hio0.nq n18
                  replace o13 := o13.ext x18
                  replace hio0 := hio0.ext x18
                  have n23 := NS.ext e16 n18
                  have e22 := e16.trans x18
                  refine wbs rfl rfl rfl (stp_allocL (z := (ag u32 ((List.replicate 64 (0 : UInt32))))) (cs := (ac u32 ((List.replicate 64 (0 : UInt32))))) [(bp g18), (bp g13), (bp gio0)] rfl Z69 rfl ?_)
                  intro g24 w24 o24 n24 g24r l24
                  refine ⟨(EB.ext eb19.1 (grown_ext g24r)), ?_⟩
                  have x24 := grown_ext g24r
                  have eb25 := EB.trans eb19 (EB.ext eb19.1 x24)
                  have q26 : Nq (bp g18) (bp g24) := o18.nq n24
                  have q27 : Nq (bp g13) (bp g24) := o13.nq n24
                  have q28 : Nq (bp gio0) (bp g24) := hio0.nq n24
                  replace o18 := o18.ext x24
                  replace o13 := o13.ext x24
                  replace hio0 := hio0.ext x24
                  have n30 := NS.ext e22 n24
                  have e29 := e22.trans x24
                  obtain ⟨c32, hc32, H1⟩ := Option.bind_eq_some_iff.1 H1
                  obtain ⟨c33, hc33, H1⟩ := Option.bind_eq_some_iff.1 H1
                  refine wbm rfl rfl rfl (stp_storeA [] [(bp g18), (bp g13), (bp gio0)] rfl A69 rfl rfl (lenA_eq hc32) (lenA_eq hc33) o24 one_u32 ?_)
                  intro w31 o31 g31 l31
                  refine ⟨(EB.own eb25.1 g31 (fun k hk => Nat.le_trans eb19.1 (n24 k hk))), ?_⟩
                  have eb34 := EB.trans eb25 (EB.own eb25.1 g31 (fun k hk => Nat.le_trans eb19.1 (n24 k hk)))
                  replace o18 := o18.other g31 q26
                  replace o13 := o13.other g31 q27
                  replace hio0 := hio0.other g31 q28
                  have e35 := e29.grown g31 n30
                  obtain ⟨c37, hc37, H1⟩ := Option.bind_eq_some_iff.1 H1
                  refine wbm rfl rfl rfl (stp_storeA [(bp g24)] [(bp g13), (bp gio0)] rfl A69 rfl rfl (lenA_eq hc32) (lenA_eq hc37) o18 one_u32 ?_)
                  intro w36 o36 g36 l36
                  refine ⟨(EB.own eb34.1 g36 (fun k hk => Nat.le_trans eb14.1 (n18 k hk))), ?_⟩
                  have eb38 := EB.trans eb34 (EB.own eb34.1 g36 (fun k hk => Nat.le_trans eb14.1 (n18 k hk)))
                  replace o31 := o31.other g36 q26.symm
                  replace o13 := o13.other g36 q20
                  replace hio0 := hio0.other g36 q21
                  have e39 := e35.grown g36 n23
                  obtain ⟨c41, hc41, H1⟩ := Option.bind_eq_some_iff.1 H1
                  refine wbn rfl (by kernel_rfl) rfl rfl (stp_storeA [(bp g24), (bp g18)] [(bp gio0)] rfl A98 rfl rfl (lenA_eq hc41) (lenA_eq hc6) o13 one_u32 ?_)
                  intro w40 o40 g40 l40
                  have eb42 := EB.trans eb38 (EB.own eb38.1 g40 (fun k hk => Nat.le_trans eb11.1 (n13 k hk)))
                  replace o31 := o31.other g40 q27.symm
                  replace o36 := o36.other g40 q20.symm
                  replace hio0 := hio0.other g40 q15
                  have e43 := e39.grown g40 n17
                  refine wsB_nil ?_
                  refine wt_fin ?_
                  obtain rfl := Option.some.inj H1
                  exact ⟨g24, g18, g13, rfl, rfl, rfl, rfl, rfl, e43, hio0, NS.own, o31, n30, o36, n23, o40, n17, q28, q21, q15, q26.symm, q27.symm, q20.symm⟩
                · trivial
            · trivial
      · refine wrB_br ?_ ?_
        · refine wbs rfl rfl rfl (stp_allocL (z := (ag u32 ((List.replicate 64 (0 : UInt32))))) (cs := (ac u32 ((List.replicate 64 (0 : UInt32))))) [(bp gio0)] rfl Z69 rfl ?_)
          intro g10 w10 o10 n10 g10r l10
          refine ⟨(EB.ext eb8.1 (grown_ext g10r)), ?_⟩
          have x10 := grown_ext g10r
          have eb11 := EB.trans eb8 (EB.ext eb8.1 x10)
          have q12 : Nq (bp gio0) (bp g10) := hio0.nq n10
          replace hio0 := hio0.ext x10
          have n14 := NS.ext e9 n10
          have e13 := e9.trans x10
          refine wsB_nil ?_
          refine wt_br ?_
          refine wrB_br ?_ ?_
          · obtain ⟨r15, hr15, H1⟩ := Option.bind_eq_some_iff.1 H1
            refine wbs rfl rfl rfl (stp_call (vs := []) Try.func78 rfl rfl rfl (ar0 ) (hash_constants_calls   r15 _  hr15) ?_)
            rintro _ w15 ⟨rfl, x15⟩
            refine ⟨_, rfl, (EB.ext eb11.1 x15), ?_⟩
            have eb16 := EB.trans eb11 (EB.ext eb11.1 x15)
            replace o10 := o10.ext x15
            replace hio0 := hio0.ext x15
            have e17 := e13.trans x15
            refine wsB_nil ?_
            refine wt_br ?_
            refine wrB_br ?_ ?_
            · refine wbs rfl rfl rfl (stp_allocL (z := (ag u32 ((List.replicate 64 (0 : UInt32))))) (cs := (ac u32 ((List.replicate 64 (0 : UInt32))))) [(bp g10), (bp gio0)] rfl Z69 rfl ?_)
              intro g18 w18 o18 n18 g18r l18
              refine ⟨(EB.ext eb16.1 (grown_ext g18r)), ?_⟩
              have x18 := grown_ext g18r
              have eb19 := EB.trans eb16 (EB.ext eb16.1 x18)
              have q20 : Nq (bp g10) (bp g18) := o10.nq n18
              have q21 : Nq (bp gio0) (bp g18) := hio0.nq n18
              replace o10 := o10.ext x18
              replace hio0 := hio0.ext x18
              have n23 := NS.ext e17 n18
              have e22 := e17.trans x18
              refine wbs rfl rfl rfl (stp_allocL (z := (ag u32 ((List.replicate 8 (0 : UInt32))))) (cs := (ac u32 ((List.replicate 8 (0 : UInt32))))) [(bp g18), (bp g10), (bp gio0)] rfl Z98 rfl ?_)
              intro g24 w24 o24 n24 g24r l24
              refine ⟨(EB.ext eb19.1 (grown_ext g24r)), ?_⟩
              have x24 := grown_ext g24r
              have eb25 := EB.trans eb19 (EB.ext eb19.1 x24)
              have q26 : Nq (bp g18) (bp g24) := o18.nq n24
              have q27 : Nq (bp g10) (bp g24) := o10.nq n24
              have q28 : Nq (bp gio0) (bp g24) := hio0.nq n24
              replace o18 := o18.ext x24
              replace o10 := o10.ext x24
              replace hio0 := hio0.ext x24
              have n30 := NS.ext e22 n24
              have e29 := e22.trans x24
              obtain ⟨c32, hc32, H1⟩ := Option.bind_eq_some_iff.1 H1
              obtain ⟨c33, hc33, H1⟩ := Option.bind_eq_some_iff.1 H1
              refine wbm rfl rfl rfl (stp_storeA [(bp g24), (bp g18)] [(bp gio0)] rfl A69 rfl rfl (lenA_eq hc32) (lenA_eq hc33) o10 one_u32 ?_)
              intro w31 o31 g31 l31
              refine ⟨(EB.own eb25.1 g31 (fun k hk => Nat.le_trans eb8.1 (n10 k hk))), ?_⟩
              have eb34 := EB.trans eb25 (EB.own eb25.1 g31 (fun k hk => Nat.le_trans eb8.1 (n10 k hk)))
              replace o24 := o24.other g31 q27.symm
              replace o18 := o18.other g31 q20.symm
              replace hio0 := hio0.other g31 q12
              have e35 := e29.grown g31 n14
              obtain ⟨c37, hc37, H1⟩ := Option.bind_eq_some_iff.1 H1
              refine wbm rfl rfl rfl (stp_storeA [(bp g24)] [(bp g10), (bp gio0)] rfl A69 rfl rfl (lenA_eq hc32) (lenA_eq hc37) o18 one_u32 ?_)
              intro w36 o36 g36 l36
              refine ⟨(EB.own eb34.1 g36 (fun k hk => Nat.le_trans eb16.1 (n18 k hk))), ?_⟩
              have eb38 := EB.trans eb34 (EB.own eb34.1 g36 (fun k hk => Nat.le_trans eb16.1 (n18 k hk)))
              replace o24 := o24.other g36 q26.symm
              replace o31 := o31.other g36 q20
              replace hio0 := hio0.other g36 q21
              have e39 := e35.grown g36 n23
              obtain ⟨c41, hc41, H1⟩ := Option.bind_eq_some_iff.1 H1
              refine wbn rfl (by kernel_rfl) rfl rfl (stp_storeA [] [(bp g18), (bp g10), (bp gio0)] rfl A98 rfl rfl (lenA_eq hc41) (lenA_eq hc6) o24 one_u32 ?_)
              intro w40 o40 g40 l40
              have eb42 := EB.trans eb38 (EB.own eb38.1 g40 (fun k hk => Nat.le_trans eb19.1 (n24 k hk)))
              replace o36 := o36.other g40 q26
              replace o31 := o31.other g40 q27
              replace hio0 := hio0.other g40 q28
              have e43 := e39.grown g40 n30
              refine wsB_nil ?_
              refine wt_fin ?_
              obtain rfl := Option.some.inj H1
              exact ⟨g10, g18, g24, rfl, rfl, rfl, rfl, rfl, e43, hio0, NS.own, o31, n14, o36, n23, o40, n30, q12, q21, q28, q20, q27, q26⟩
            · refine wrB_br ?_ ?_
              · refine wbs rfl rfl rfl (stp_allocL (z := (ag u32 ((List.replicate 8 (0 : UInt32))))) (cs := (ac u32 ((List.replicate 8 (0 : UInt32))))) [(bp g10), (bp gio0)] rfl Z98 rfl ?_)
                intro g18 w18 o18 n18 g18r l18
                refine ⟨(EB.ext eb16.1 (grown_ext g18r)), ?_⟩
                have x18 := grown_ext g18r
                have eb19 := EB.trans eb16 (EB.ext eb16.1 x18)
                have q20 : Nq (bp g10) (bp g18) := o10.nq n18
                have q21 : Nq (bp gio0) (bp g18) := hio0.nq n18
                replace o10 := o10.ext x18
                replace hio0 := hio0.ext x18
                have n23 := NS.ext e17 n18
                have e22 := e17.trans x18
                refine wbs rfl rfl rfl (stp_allocL (z := (ag u32 ((List.replicate 64 (0 : UInt32))))) (cs := (ac u32 ((List.replicate 64 (0 : UInt32))))) [(bp g18), (bp g10), (bp gio0)] rfl Z69 rfl ?_)
                intro g24 w24 o24 n24 g24r l24
                refine ⟨(EB.ext eb19.1 (grown_ext g24r)), ?_⟩
                have x24 := grown_ext g24r
                have eb25 := EB.trans eb19 (EB.ext eb19.1 x24)
                have q26 : Nq (bp g18) (bp g24) := o18.nq n24
                have q27 : Nq (bp g10) (bp g24) := o10.nq n24
                have q28 : Nq (bp gio0) (bp g24) := hio0.nq n24
                replace o18 := o18.ext x24
                replace o10 := o10.ext x24
                replace hio0 := hio0.ext x24
                have n30 := NS.ext e22 n24
                have e29 := e22.trans x24
                obtain ⟨c32, hc32, H1⟩ := Option.bind_eq_some_iff.1 H1
                obtain ⟨c33, hc33, H1⟩ := Option.bind_eq_some_iff.1 H1
                refine wbm rfl rfl rfl (stp_storeA [(bp g24), (bp g18)] [(bp gio0)] rfl A69 rfl rfl (lenA_eq hc32) (lenA_eq hc33) o10 one_u32 ?_)
                intro w31 o31 g31 l31
                refine ⟨(EB.own eb25.1 g31 (fun k hk => Nat.le_trans eb8.1 (n10 k hk))), ?_⟩
                have eb34 := EB.trans eb25 (EB.own eb25.1 g31 (fun k hk => Nat.le_trans eb8.1 (n10 k hk)))
                replace o24 := o24.other g31 q27.symm
                replace o18 := o18.other g31 q20.symm
                replace hio0 := hio0.other g31 q12
                have e35 := e29.grown g31 n14
                obtain ⟨c37, hc37, H1⟩ := Option.bind_eq_some_iff.1 H1
                refine wbm rfl rfl rfl (stp_storeA [] [(bp g18), (bp g10), (bp gio0)] rfl A69 rfl rfl (lenA_eq hc32) (lenA_eq hc37) o24 one_u32 ?_)
                intro w36 o36 g36 l36
                refine ⟨(EB.own eb34.1 g36 (fun k hk => Nat.le_trans eb19.1 (n24 k hk))), ?_⟩
                have eb38 := EB.trans eb34 (EB.own eb34.1 g36 (fun k hk => Nat.le_trans eb19.1 (n24 k hk)))
                replace o18 := o18.other g36 q26
                replace o31 := o31.other g36 q27
                replace hio0 := hio0.other g36 q28
                have e39 := e35.grown g36 n30
                obtain ⟨c41, hc41, H1⟩ := Option.bind_eq_some_iff.1 H1
                refine wbn rfl (by kernel_rfl) rfl rfl (stp_storeA [(bp g24)] [(bp g10), (bp gio0)] rfl A98 rfl rfl (lenA_eq hc41) (lenA_eq hc6) o18 one_u32 ?_)
                intro w40 o40 g40 l40
                have eb42 := EB.trans eb38 (EB.own eb38.1 g40 (fun k hk => Nat.le_trans eb16.1 (n18 k hk)))
                replace o36 := o36.other g40 q26.symm
                replace o31 := o31.other g40 q20
                replace hio0 := hio0.other g40 q21
                have e43 := e39.grown g40 n23
                refine wsB_nil ?_
                refine wt_fin ?_
                obtain rfl := Option.some.inj H1
                exact ⟨g10, g24, g18, rfl, rfl, rfl, rfl, rfl, e43, hio0, NS.own, o31, n14, o36, n30, o40, n23, q12, q28, q21, q27, q20, q26.symm⟩
              · trivial
          · refine wrB_br ?_ ?_
            · refine wbs rfl rfl rfl (stp_allocL (z := (ag u32 ((List.replicate 64 (0 : UInt32))))) (cs := (ac u32 ((List.replicate 64 (0 : UInt32))))) [(bp g10), (bp gio0)] rfl Z69 rfl ?_)
              intro g15 w15 o15 n15 g15r l15
              refine ⟨(EB.ext eb11.1 (grown_ext g15r)), ?_⟩
              have x15 := grown_ext g15r
              have eb16 := EB.trans eb11 (EB.ext eb11.1 x15)
              have q17 : Nq (bp g10) (bp g15) := o10.nq n15
              have q18 : Nq (bp gio0) (bp g15) := hio0.nq n15
              replace o10 := o10.ext x15
              replace hio0 := hio0.ext x15
              have n20 := NS.ext e13 n15
              have e19 := e13.trans x15
              refine wsB_nil ?_
              refine wt_br ?_
              refine wrB_br ?_ ?_
              · obtain ⟨r21, hr21, H1⟩ := Option.bind_eq_some_iff.1 H1
                refine wbs rfl rfl rfl (stp_call (vs := []) Try.func78 rfl rfl rfl (ar0 ) (hash_constants_calls   r21 _  hr21) ?_)
                rintro _ w21 ⟨rfl, x21⟩
                refine ⟨_, rfl, (EB.ext eb16.1 x21), ?_⟩
                have eb22 := EB.trans eb16 (EB.ext eb16.1 x21)
                replace o15 := o15.ext x21
                replace o10 := o10.ext x21
                replace hio0 := hio0.ext x21
                have e23 := e19.trans x21
                refine wbs rfl rfl rfl (stp_allocL (z := (ag u32 ((List.replicate 8 (0 : UInt32))))) (cs := (ac u32 ((List.replicate 8 (0 : UInt32))))) [(bp g15), (bp g10), (bp gio0)] rfl Z98 rfl ?_)
                intro g24 w24 o24 n24 g24r l24
                refine ⟨(EB.ext eb22.1 (grown_ext g24r)), ?_⟩
                have x24 := grown_ext g24r
                have eb25 := EB.trans eb22 (EB.ext eb22.1 x24)
                have q26 : Nq (bp g15) (bp g24) := o15.nq n24
                have q27 : Nq (bp g10) (bp g24) := o10.nq n24
                have q28 : Nq (bp gio0) (bp g24) := hio0.nq n24
                replace o15 := o15.ext x24
                replace o10 := o10.ext x24
                replace hio0 := hio0.ext x24
                have n30 := NS.ext e23 n24
                have e29 := e23.trans x24
                obtain ⟨c32, hc32, H1⟩ := Option.bind_eq_some_iff.1 H1
                obtain ⟨c33, hc33, H1⟩ := Option.bind_eq_some_iff.1 H1
                refine wbm rfl rfl rfl (stp_storeA [(bp g24), (bp g15)] [(bp gio0)] rfl A69 rfl rfl (lenA_eq hc32) (lenA_eq hc33) o10 one_u32 ?_)
                intro w31 o31 g31 l31
                refine ⟨(EB.own eb25.1 g31 (fun k hk => Nat.le_trans eb8.1 (n10 k hk))), ?_⟩
                have eb34 := EB.trans eb25 (EB.own eb25.1 g31 (fun k hk => Nat.le_trans eb8.1 (n10 k hk)))
                replace o24 := o24.other g31 q27.symm
                replace o15 := o15.other g31 q17.symm
                replace hio0 := hio0.other g31 q12
                have e35 := e29.grown g31 n14
                obtain ⟨c37, hc37, H1⟩ := Option.bind_eq_some_iff.1 H1
                refine wbm rfl rfl rfl (stp_storeA [(bp g24)] [(bp g10), (bp gio0)] rfl A69 rfl rfl (lenA_eq hc32) (lenA_eq hc37) o15 one_u32 ?_)
                intro w36 o36 g36 l36
                refine ⟨(EB.own eb34.1 g36 (fun k hk => Nat.le_trans eb11.1 (n15 k hk))), ?_⟩
                have eb38 := EB.trans eb34 (EB.own eb34.1 g36 (fun k hk => Nat.le_trans eb11.1 (n15 k hk)))
                replace o24 := o24.other g36 q26.symm
                replace o31 := o31.other g36 q17
                replace hio0 := hio0.other g36 q18
                have e39 := e35.grown g36 n20
                obtain ⟨c41, hc41, H1⟩ := Option.bind_eq_some_iff.1 H1
                refine wbn rfl (by kernel_rfl) rfl rfl (stp_storeA [] [(bp g15), (bp g10), (bp gio0)] rfl A98 rfl rfl (lenA_eq hc41) (lenA_eq hc6) o24 one_u32 ?_)
                intro w40 o40 g40 l40
                have eb42 := EB.trans eb38 (EB.own eb38.1 g40 (fun k hk => Nat.le_trans eb22.1 (n24 k hk)))
                replace o36 := o36.other g40 q26
                replace o31 := o31.other g40 q27
                replace hio0 := hio0.other g40 q28
                have e43 := e39.grown g40 n30
                refine wsB_nil ?_
                refine wt_fin ?_
                obtain rfl := Option.some.inj H1
                exact ⟨g10, g15, g24, rfl, rfl, rfl, rfl, rfl, e43, hio0, NS.own, o31, n14, o36, n20, o40, n30, q12, q18, q28, q17, q27, q26⟩
              · refine wrB_br ?_ ?_
                · refine wbs rfl rfl rfl (stp_allocL (z := (ag u32 ((List.replicate 8 (0 : UInt32))))) (cs := (ac u32 ((List.replicate 8 (0 : UInt32))))) [(bp g15), (bp g10), (bp gio0)] rfl Z98 rfl ?_)
                  intro g21 w21 o21 n21 g21r l21
                  refine ⟨(EB.ext eb16.1 (grown_ext g21r)), ?_⟩
                  have x21 := grown_ext g21r
                  have eb22 := EB.trans eb16 (EB.ext eb16.1 x21)
                  have q23 : Nq (bp g15) (bp g21) := o15.nq n21
                  have q24 : Nq (bp g10) (bp g21) := o10.nq n21
                  have q25 : Nq (bp gio0) (bp g21) := hio0.nq n21
                  replace o15 := o15.ext x21
                  replace o10 := o10.ext x21
                  replace hio0 := hio0.ext x21
                  have n27 := NS.ext e19 n21
                  have e26 := e19.trans x21
                  obtain ⟨r28, hr28, H1⟩ := Option.bind_eq_some_iff.1 H1
                  refine wbs rfl rfl rfl (stp_call (vs := []) Try.func78 rfl rfl rfl (ar0 ) (hash_constants_calls   r28 _  hr28) ?_)
                  rintro _ w28 ⟨rfl, x28⟩
                  refine ⟨_, rfl, (EB.ext eb22.1 x28), ?_⟩
                  have eb29 := EB.trans eb22 (EB.ext eb22.1 x28)
                  replace o21 := o21.ext x28
                  replace o15 := o15.ext x28
                  replace o10 := o10.ext x28
                  replace hio0 := hio0.ext x28
                  have e30 := e26.trans x28
                  obtain ⟨c32, hc32, H1⟩ := Option.bind_eq_some_iff.1 H1
                  obtain ⟨c33, hc33, H1⟩ := Option.bind_eq_some_iff.1 H1
                  refine wbm rfl rfl rfl (stp_storeA [(bp g21), (bp g15)] [(bp gio0)] rfl A69 rfl rfl (lenA_eq hc32) (lenA_eq hc33) o10 one_u32 ?_)
                  intro w31 o31 g31 l31
                  refine ⟨(EB.own eb29.1 g31 (fun k hk => Nat.le_trans eb8.1 (n10 k hk))), ?_⟩
                  have eb34 := EB.trans eb29 (EB.own eb29.1 g31 (fun k hk => Nat.le_trans eb8.1 (n10 k hk)))
                  replace o21 := o21.other g31 q24.symm
                  replace o15 := o15.other g31 q17.symm
                  replace hio0 := hio0.other g31 q12
                  have e35 := e30.grown g31 n14
                  obtain ⟨c37, hc37, H1⟩ := Option.bind_eq_some_iff.1 H1
                  refine wbm rfl rfl rfl (stp_storeA [(bp g21)] [(bp g10), (bp gio0)] rfl A69 rfl rfl (lenA_eq hc32) (lenA_eq hc37) o15 one_u32 ?_)
                  intro w36 o36 g36 l36
                  refine ⟨(EB.own eb34.1 g36 (fun k hk => Nat.le_trans eb11.1 (n15 k hk))), ?_⟩
                  have eb38 := EB.trans eb34 (EB.own eb34.1 g36 (fun k hk => Nat.le_trans eb11.1 (n15 k hk)))
                  replace o21 := o21.other g36 q23.symm
                  replace o31 := o31.other g36 q17
                  replace hio0 := hio0.other g36 q18
                  have e39 := e35.grown g36 n20
                  obtain ⟨c41, hc41, H1⟩ := Option.bind_eq_some_iff.1 H1
                  refine wbn rfl (by kernel_rfl) rfl rfl (stp_storeA [] [(bp g15), (bp g10), (bp gio0)] rfl A98 rfl rfl (lenA_eq hc41) (lenA_eq hc6) o21 one_u32 ?_)
                  intro w40 o40 g40 l40
                  have eb42 := EB.trans eb38 (EB.own eb38.1 g40 (fun k hk => Nat.le_trans eb16.1 (n21 k hk)))
                  replace o36 := o36.other g40 q23
                  replace o31 := o31.other g40 q24
                  replace hio0 := hio0.other g40 q25
                  have e43 := e39.grown g40 n27
                  refine wsB_nil ?_
                  refine wt_fin ?_
                  obtain rfl := Option.some.inj H1
                  exact ⟨g10, g15, g21, rfl, rfl, rfl, rfl, rfl, e43, hio0, NS.own, o31, n14, o36, n20, o40, n27, q12, q18, q25, q17, q24, q23⟩
                · trivial
            · refine wrB_br ?_ ?_
              · refine wbs rfl rfl rfl (stp_allocL (z := (ag u32 ((List.replicate 8 (0 : UInt32))))) (cs := (ac u32 ((List.replicate 8 (0 : UInt32))))) [(bp g10), (bp gio0)] rfl Z98 rfl ?_)
                intro g15 w15 o15 n15 g15r l15
                refine ⟨(EB.ext eb11.1 (grown_ext g15r)), ?_⟩
                have x15 := grown_ext g15r
                have eb16 := EB.trans eb11 (EB.ext eb11.1 x15)
                have q17 : Nq (bp g10) (bp g15) := o10.nq n15
                have q18 : Nq (bp gio0) (bp g15) := hio0.nq n15
                replace o10 := o10.ext x15
                replace hio0 := hio0.ext x15
                have n20 := NS.ext e13 n15
                have e19 := e13.trans x15
                refine wsB_nil ?_
                refine wt_br ?_
                refine wrB_br ?_ ?_
                · obtain ⟨r21, hr21, H1⟩ := Option.bind_eq_some_iff.1 H1
                  refine wbs rfl rfl rfl (stp_call (vs := []) Try.func78 rfl rfl rfl (ar0 ) (hash_constants_calls   r21 _  hr21) ?_)
                  rintro _ w21 ⟨rfl, x21⟩
                  refine ⟨_, rfl, (EB.ext eb16.1 x21), ?_⟩
                  have eb22 := EB.trans eb16 (EB.ext eb16.1 x21)
                  replace o15 := o15.ext x21
                  replace o10 := o10.ext x21
                  replace hio0 := hio0.ext x21
                  have e23 := e19.trans x21
                  refine wbs rfl rfl rfl (stp_allocL (z := (ag u32 ((List.replicate 64 (0 : UInt32))))) (cs := (ac u32 ((List.replicate 64 (0 : UInt32))))) [(bp g15), (bp g10), (bp gio0)] rfl Z69 rfl ?_)
                  intro g24 w24 o24 n24 g24r l24
                  refine ⟨(EB.ext eb22.1 (grown_ext g24r)), ?_⟩
                  have x24 := grown_ext g24r
                  have eb25 := EB.trans eb22 (EB.ext eb22.1 x24)
                  have q26 : Nq (bp g15) (bp g24) := o15.nq n24
                  have q27 : Nq (bp g10) (bp g24) := o10.nq n24
                  have q28 : Nq (bp gio0) (bp g24) := hio0.nq n24
                  replace o15 := o15.ext x24
                  replace o10 := o10.ext x24
                  replace hio0 := hio0.ext x24
                  have n30 := NS.ext e23 n24
                  have e29 := e23.trans x24
                  obtain ⟨c32, hc32, H1⟩ := Option.bind_eq_some_iff.1 H1
                  obtain ⟨c33, hc33, H1⟩ := Option.bind_eq_some_iff.1 H1
                  refine wbm rfl rfl rfl (stp_storeA [(bp g24), (bp g15)] [(bp gio0)] rfl A69 rfl rfl (lenA_eq hc32) (lenA_eq hc33) o10 one_u32 ?_)
                  intro w31 o31 g31 l31
                  refine ⟨(EB.own eb25.1 g31 (fun k hk => Nat.le_trans eb8.1 (n10 k hk))), ?_⟩
                  have eb34 := EB.trans eb25 (EB.own eb25.1 g31 (fun k hk => Nat.le_trans eb8.1 (n10 k hk)))
                  replace o24 := o24.other g31 q27.symm
                  replace o15 := o15.other g31 q17.symm
                  replace hio0 := hio0.other g31 q12
                  have e35 := e29.grown g31 n14
                  obtain ⟨c37, hc37, H1⟩ := Option.bind_eq_some_iff.1 H1
                  refine wbm rfl rfl rfl (stp_storeA [] [(bp g15), (bp g10), (bp gio0)] rfl A69 rfl rfl (lenA_eq hc32) (lenA_eq hc37) o24 one_u32 ?_)
                  intro w36 o36 g36 l36
                  refine ⟨(EB.own eb34.1 g36 (fun k hk => Nat.le_trans eb22.1 (n24 k hk))), ?_⟩
                  have eb38 := EB.trans eb34 (EB.own eb34.1 g36 (fun k hk => Nat.le_trans eb22.1 (n24 k hk)))
                  replace o15 := o15.other g36 q26
                  replace o31 := o31.other g36 q27
                  replace hio0 := hio0.other g36 q28
                  have e39 := e35.grown g36 n30
                  obtain ⟨c41, hc41, H1⟩ := Option.bind_eq_some_iff.1 H1
                  refine wbn rfl (by kernel_rfl) rfl rfl (stp_storeA [(bp g24)] [(bp g10), (bp gio0)] rfl A98 rfl rfl (lenA_eq hc41) (lenA_eq hc6) o15 one_u32 ?_)
                  intro w40 o40 g40 l40
                  have eb42 := EB.trans eb38 (EB.own eb38.1 g40 (fun k hk => Nat.le_trans eb11.1 (n15 k hk)))
                  replace o36 := o36.other g40 q26.symm
                  replace o31 := o31.other g40 q17
                  replace hio0 := hio0.other g40 q18
                  have e43 := e39.grown g40 n20
                  refine wsB_nil ?_
                  refine wt_fin ?_
                  obtain rfl := Option.some.inj H1
                  exact ⟨g10, g24, g15, rfl, rfl, rfl, rfl, rfl, e43, hio0, NS.own, o31, n14, o36, n30, o40, n20, q12, q28, q18, q27, q17, q26.symm⟩
                · refine wrB_br ?_ ?_
                  · refine wbs rfl rfl rfl (stp_allocL (z := (ag u32 ((List.replicate 64 (0 : UInt32))))) (cs := (ac u32 ((List.replicate 64 (0 : UInt32))))) [(bp g15), (bp g10), (bp gio0)] rfl Z69 rfl ?_)
                    intro g21 w21 o21 n21 g21r l21
                    refine ⟨(EB.ext eb16.1 (grown_ext g21r)), ?_⟩
                    have x21 := grown_ext g21r
                    have eb22 := EB.trans eb16 (EB.ext eb16.1 x21)
                    have q23 : Nq (bp g15) (bp g21) := o15.nq n21
                    have q24 : Nq (bp g10) (bp g21) := o10.nq n21
                    have q25 : Nq (bp gio0) (bp g21) := hio0.nq n21
                    replace o15 := o15.ext x21
                    replace o10 := o10.ext x21
                    replace hio0 := hio0.ext x21
                    have n27 := NS.ext e19 n21
                    have e26 := e19.trans x21
                    obtain ⟨r28, hr28, H1⟩ := Option.bind_eq_some_iff.1 H1
                    refine wbs rfl rfl rfl (stp_call (vs := []) Try.func78 rfl rfl rfl (ar0 ) (hash_constants_calls   r28 _  hr28) ?_)
                    rintro _ w28 ⟨rfl, x28⟩
                    refine ⟨_, rfl, (EB.ext eb22.1 x28), ?_⟩
                    have eb29 := EB.trans eb22 (EB.ext eb22.1 x28)
                    replace o21 := o21.ext x28
                    replace o15 := o15.ext x28
                    replace o10 := o10.ext x28
                    replace hio0 := hio0.ext x28
                    have e30 := e26.trans x28
                    obtain ⟨c32, hc32, H1⟩ := Option.bind_eq_some_iff.1 H1
                    obtain ⟨c33, hc33, H1⟩ := Option.bind_eq_some_iff.1 H1
                    refine wbm rfl rfl rfl (stp_storeA [(bp g21), (bp g15)] [(bp gio0)] rfl A69 rfl rfl (lenA_eq hc32) (lenA_eq hc33) o10 one_u32 ?_)
                    intro w31 o31 g31 l31
                    refine ⟨(EB.own eb29.1 g31 (fun k hk => Nat.le_trans eb8.1 (n10 k hk))), ?_⟩
                    have eb34 := EB.trans eb29 (EB.own eb29.1 g31 (fun k hk => Nat.le_trans eb8.1 (n10 k hk)))
                    replace o21 := o21.other g31 q24.symm
                    replace o15 := o15.other g31 q17.symm
                    replace hio0 := hio0.other g31 q12
                    have e35 := e30.grown g31 n14
                    obtain ⟨c37, hc37, H1⟩ := Option.bind_eq_some_iff.1 H1
                    refine wbm rfl rfl rfl (stp_storeA [] [(bp g15), (bp g10), (bp gio0)] rfl A69 rfl rfl (lenA_eq hc32) (lenA_eq hc37) o21 one_u32 ?_)
                    intro w36 o36 g36 l36
                    refine ⟨(EB.own eb34.1 g36 (fun k hk => Nat.le_trans eb16.1 (n21 k hk))), ?_⟩
                    have eb38 := EB.trans eb34 (EB.own eb34.1 g36 (fun k hk => Nat.le_trans eb16.1 (n21 k hk)))
                    replace o15 := o15.other g36 q23
                    replace o31 := o31.other g36 q24
                    replace hio0 := hio0.other g36 q25
                    have e39 := e35.grown g36 n27
                    obtain ⟨c41, hc41, H1⟩ := Option.bind_eq_some_iff.1 H1
                    refine wbn rfl (by kernel_rfl) rfl rfl (stp_storeA [(bp g21)] [(bp g10), (bp gio0)] rfl A98 rfl rfl (lenA_eq hc41) (lenA_eq hc6) o15 one_u32 ?_)
                    intro w40 o40 g40 l40
                    have eb42 := EB.trans eb38 (EB.own eb38.1 g40 (fun k hk => Nat.le_trans eb11.1 (n15 k hk)))
                    replace o36 := o36.other g40 q23.symm
                    replace o31 := o31.other g40 q17
                    replace hio0 := hio0.other g40 q18
                    have e43 := e39.grown g40 n20
                    refine wsB_nil ?_
                    refine wt_fin ?_
                    obtain rfl := Option.some.inj H1
                    exact ⟨g10, g21, g15, rfl, rfl, rfl, rfl, rfl, e43, hio0, NS.own, o31, n14, o36, n27, o40, n20, q12, q25, q18, q24, q17, q23.symm⟩
                  · trivial
              · trivial
        · refine wrB_br ?_ ?_
          · refine wbs rfl rfl rfl (stp_allocL (z := (ag u32 ((List.replicate 64 (0 : UInt32))))) (cs := (ac u32 ((List.replicate 64 (0 : UInt32))))) [(bp gio0)] rfl Z69 rfl ?_)
            intro g10 w10 o10 n10 g10r l10
            refine ⟨(EB.ext eb8.1 (grown_ext g10r)), ?_⟩
            have x10 := grown_ext g10r
            have eb11 := EB.trans eb8 (EB.ext eb8.1 x10)
            have q12 : Nq (bp gio0) (bp g10) := hio0.nq n10
            replace hio0 := hio0.ext x10
            have n14 := NS.ext e9 n10
            have e13 := e9.trans x10
            refine wsB_nil ?_
            refine wt_br ?_
            refine wrB_br ?_ ?_
            · obtain ⟨r15, hr15, H1⟩ := Option.bind_eq_some_iff.1 H1
              refine wbs rfl rfl rfl (stp_call (vs := []) Try.func78 rfl rfl rfl (ar0 ) (hash_constants_calls   r15 _  hr15) ?_)
              rintro _ w15 ⟨rfl, x15⟩
              refine ⟨_, rfl, (EB.ext eb11.1 x15), ?_⟩
              have eb16 := EB.trans eb11 (EB.ext eb11.1 x15)
              replace o10 := o10.ext x15
              replace hio0 := hio0.ext x15
              have e17 := e13.trans x15
              refine wsB_nil ?_
              refine wt_br ?_
              refine wrB_br ?_ ?_
              · refine wbs rfl rfl rfl (stp_allocL (z := (ag u32 ((List.replicate 64 (0 : UInt32))))) (cs := (ac u32 ((List.replicate 64 (0 : UInt32))))) [(bp g10), (bp gio0)] rfl Z69 rfl ?_)
                intro g18 w18 o18 n18 g18r l18
                refine ⟨(EB.ext eb16.1 (grown_ext g18r)), ?_⟩
                have x18 := grown_ext g18r
                have eb19 := EB.trans eb16 (EB.ext eb16.1 x18)
                have q20 : Nq (bp g10) (bp g18) := o10.nq n18
                have q21 : Nq (bp gio0) (bp g18) := hio0.nq n18
                replace o10 := o10.ext x18
                replace hio0 := hio0.ext x18
                have n23 := NS.ext e17 n18
                have e22 := e17.trans x18
                refine wbs rfl rfl rfl (stp_allocL (z := (ag u32 ((List.replicate 8 (0 : UInt32))))) (cs := (ac u32 ((List.replicate 8 (0 : UInt32))))) [(bp g18), (bp g10), (bp gio0)] rfl Z98 rfl ?_)
                intro g24 w24 o24 n24 g24r l24
                refine ⟨(EB.ext eb19.1 (grown_ext g24r)), ?_⟩
                have x24 := grown_ext g24r
                have eb25 := EB.trans eb19 (EB.ext eb19.1 x24)
                have q26 : Nq (bp g18) (bp g24) := o18.nq n24
                have q27 : Nq (bp g10) (bp g24) := o10.nq n24
                have q28 : Nq (bp gio0) (bp g24) := hio0.nq n24
                replace o18 := o18.ext x24
                replace o10 := o10.ext x24
                replace hio0 := hio0.ext x24
                have n30 := NS.ext e22 n24
                have e29 := e22.trans x24
                obtain ⟨c32, hc32, H1⟩ := Option.bind_eq_some_iff.1 H1
                obtain ⟨c33, hc33, H1⟩ := Option.bind_eq_some_iff.1 H1
                refine wbm rfl rfl rfl (stp_storeA [(bp g24)] [(bp g10), (bp gio0)] rfl A69 rfl rfl (lenA_eq hc32) (lenA_eq hc33) o18 one_u32 ?_)
                intro w31 o31 g31 l31
                refine ⟨(EB.own eb25.1 g31 (fun k hk => Nat.le_trans eb16.1 (n18 k hk))), ?_⟩
                have eb34 := EB.trans eb25 (EB.own eb25.1 g31 (fun k hk => Nat.le_trans eb16.1 (n18 k hk)))
                replace o24 := o24.other g31 q26.symm
                replace o10 := o10.other g31 q20
                replace hio0 := hio0.other g31 q21
                have e35 := e29.grown g31 n23
                obtain ⟨c37, hc37, H1⟩ := Option.bind_eq_some_iff.1 H1
                refine wbm rfl rfl rfl (stp_storeA [(bp g24), (bp g18)] [(bp gio0)] rfl A69 rfl rfl (lenA_eq hc32) (lenA_eq hc37) o10 one_u32 ?_)
                intro w36 o36 g36 l36
                refine ⟨(EB.own eb34.1 g36 (fun k hk => Nat.le_trans eb8.1 (n10 k hk))), ?_⟩
                have eb38 := EB.trans eb34 (EB.own eb34.1 g36 (fun k hk => Nat.le_trans eb8.1 (n10 k hk)))
                replace o24 := o24.other g36 q27.symm
                replace o31 := o31.other g36 q20.symm
                replace hio0 := hio0.other g36 q12
                have e39 := e35.grown g36 n14
                obtain ⟨c41, hc41, H1⟩ := Option.bind_eq_some_iff.1 H1
                refine wbn rfl (by kernel_rfl) rfl rfl (stp_storeA [] [(bp g18), (bp g10), (bp gio0)] rfl A98 rfl rfl (lenA_eq hc41) (lenA_eq hc6) o24 one_u32 ?_)
                intro w40 o40 g40 l40
                have eb42 := EB.trans eb38 (EB.own eb38.1 g40 (fun k hk => Nat.le_trans eb19.1 (n24 k hk)))
                replace o31 := o31.other g40 q26
                replace o36 := o36.other g40 q27
                replace hio0 := hio0.other g40 q28
                have e43 := e39.grown g40 n30
                refine wsB_nil ?_
                refine wt_fin ?_
                obtain rfl := Option.some.inj H1
                exact ⟨g18, g10, g24, rfl, rfl, rfl, rfl, rfl, e43, hio0, NS.own, o31, n23, o36, n14, o40, n30, q21, q12, q28, q20.symm, q26, q27⟩
              · refine wrB_br ?_ ?_
                · refine wbs rfl rfl rfl (stp_allocL (z := (ag u32 ((List.replicate 8 (0 : UInt32))))) (cs := (ac u32 ((List.replicate 8 (0 : UInt32))))) [(bp g10), (bp gio0)] rfl Z98 rfl ?_)
                  intro g18 w18 o18 n18 g18r l18
                  refine ⟨(EB.ext eb16.1 (grown_ext g18r)), ?_⟩
                  have x18 := grown_ext g18r
                  have eb19 := EB.trans eb16 (EB.ext eb16.1 x18)
                  have q20 : Nq (bp g10) (bp g18) := o10.nq n18
                  have q21 : Nq (bp gio0) (bp g18) := hio0.nq n18
                  replace o10 := o10.ext x18
                  replace hio0 := hio0.ext x18
                  have n23 := NS.ext e17 n18
                  have e22 := e17.trans x18
                  refine wbs rfl rfl rfl (stp_allocL (z := (ag u32 ((List.replicate 64 (0 : UInt32))))) (cs := (ac u32 ((List.replicate 64 (0 : UInt32))))) [(bp g18), (bp g10), (bp gio0)] rfl Z69 rfl ?_)
                  intro g24 w24 o24 n24 g24r l24
                  refine ⟨(EB.ext eb19.1 (grown_ext g24r)), ?_⟩
                  have x24 := grown_ext g24r
                  have eb25 := EB.trans eb19 (EB.ext eb19.1 x24)
                  have q26 : Nq (bp g18) (bp g24) := o18.nq n24
                  have q27 : Nq (bp g10) (bp g24) := o10.nq n24
                  have q28 : Nq (bp gio0) (bp g24) := hio0.nq n24
                  replace o18 := o18.ext x24
                  replace o10 := o10.ext x24
                  replace hio0 := hio0.ext x24
                  have n30 := NS.ext e22 n24
                  have e29 := e22.trans x24
                  obtain ⟨c32, hc32, H1⟩ := Option.bind_eq_some_iff.1 H1
                  obtain ⟨c33, hc33, H1⟩ := Option.bind_eq_some_iff.1 H1
                  refine wbm rfl rfl rfl (stp_storeA [] [(bp g18), (bp g10), (bp gio0)] rfl A69 rfl rfl (lenA_eq hc32) (lenA_eq hc33) o24 one_u32 ?_)
                  intro w31 o31 g31 l31
                  refine ⟨(EB.own eb25.1 g31 (fun k hk => Nat.le_trans eb19.1 (n24 k hk))), ?_⟩
                  have eb34 := EB.trans eb25 (EB.own eb25.1 g31 (fun k hk => Nat.le_trans eb19.1 (n24 k hk)))
                  replace o18 := o18.other g31 q26
                  replace o10 := o10.other g31 q27
                  replace hio0 := hio0.other g31 q28
                  have e35 := e29.grown g31 n30
                  obtain ⟨c37, hc37, H1⟩ := Option.bind_eq_some_iff.1 H1
                  refine wbm rfl rfl rfl (stp_storeA [(bp g24), (bp g18)] [(bp gio0)] rfl A69 rfl rfl (lenA_eq hc32) (lenA_eq hc37) o10 one_u32 ?_)
                  intro w36 o36 g36 l36
                  refine ⟨(EB.own eb34.1 g36 (fun k hk => Nat.le_trans eb8.1 (n10 k hk))), ?_⟩
                  have eb38 := EB.trans eb34 (EB.own eb34.1 g36 (fun k hk => Nat.le_trans eb8.1 (n10 k hk)))
                  replace o31 := o31.other g36 q27.symm
                  replace o18 := o18.other g36 q20.symm
                  replace hio0 := hio0.other g36 q12
                  have e39 := e35.grown g36 n14
                  obtain ⟨c41, hc41, H1⟩ := Option.bind_eq_some_iff.1 H1
                  refine wbn rfl (by kernel_rfl) rfl rfl (stp_storeA [(bp g24)] [(bp g10), (bp gio0)] rfl A98 rfl rfl (lenA_eq hc41) (lenA_eq hc6) o18 one_u32 ?_)
                  intro w40 o40 g40 l40
                  have eb42 := EB.trans eb38 (EB.own eb38.1 g40 (fun k hk => Nat.le_trans eb16.1 (n18 k hk)))
                  replace o31 := o31.other g40 q26.symm
                  replace o36 := o36.other g40 q20
                  replace hio0 := hio0.other g40 q21
                  have e43 := e39.grown g40 n23
                  refine wsB_nil ?_
                  refine wt_fin ?_
                  obtain rfl := Option.some.inj H1
                  exact ⟨g24, g10, g18, rfl, rfl, rfl, rfl, rfl, e43, hio0, NS.own, o31, n30, o36, n14, o40, n23, q28, q12, q21, q27.symm, q26.symm, q20⟩
                · trivial
            · refine wrB_br ?_ ?_
              · refine wbs rfl rfl rfl (stp_allocL (z := (ag u32 ((List.replicate 64 (0 : UInt32))))) (cs := (ac u32 ((List.replicate 64 (0 : UInt32))))) [(bp g10), (bp gio0)] rfl Z69 rfl ?_)
                intro g15 w15 o15 n15 g15r l15
                refine ⟨(EB.ext eb11.1 (grown_ext g15r)), ?_⟩
                have x15 := grown_ext g15r
                have eb16 := EB.trans eb11 (EB.ext eb11.1 x15)
                have q17 : Nq (bp g10) (bp g15) := o10.nq n15
                have q18 : Nq (bp gio0) (bp g15) := hio0.nq n15
                replace o10 := o10.ext x15
                replace hio0 := hio0.ext x15
                have n20 := NS.ext e13 n15
                have e19 := e13.trans x15
                refine wsB_nil ?_
                refine wt_br ?_
                refine wrB_br ?_ ?_
                · obtain ⟨r21, hr21, H1⟩ := Option.bind_eq_some_iff.1 H1
                  refine wbs rfl rfl rfl (stp_call (vs := []) Try.func78 rfl rfl rfl (ar0 ) (hash_constants_calls   r21 _  hr21) ?_)
                  rintro _ w21 ⟨rfl, x21⟩
                  refine ⟨_, rfl, (EB.ext eb16.1 x21), ?_⟩
                  have eb22 := EB.trans eb16 (EB.ext eb16.1 x21)
                  replace o15 := o15.ext x21
                  replace o10 := o10.ext x21
                  replace hio0 := hio0.ext x21
                  have e23 := e19.trans x21
                  refine wbs rfl rfl rfl (stp_allocL (z := (ag u32 ((List.replicate 8 (0 : UInt32))))) (cs := (ac u32 ((List.replicate 8 (0 : UInt32))))) [(bp g15), (bp g10), (bp gio0)] rfl Z98 rfl ?_)
                  intro g24 w24 o24 n24 g24r l24
                  refine ⟨(EB.ext eb22.1 (grown_ext g24r)), ?_⟩
                  have x24 := grown_ext g24r
                  have eb25 := EB.trans eb22 (EB.ext eb22.1 x24)
                  have q26 : Nq (bp g15) (bp g24) := o15.nq n24
                  have q27 : Nq (bp g10) (bp g24) := o10.nq n24
                  have q28 : Nq (bp gio0) (bp g24) := hio0.nq n24
                  replace o15 := o15.ext x24
                  replace o10 := o10.ext x24
                  replace hio0 := hio0.ext x24
                  have n30 := NS.ext e23 n24
                  have e29 := e23.trans x24
                  obtain ⟨c32, hc32, H1⟩ := Option.bind_eq_some_iff.1 H1
                  obtain ⟨c33, hc33, H1⟩ := Option.bind_eq_some_iff.1 H1
                  refine wbm rfl rfl rfl (stp_storeA [(bp g24)] [(bp g10), (bp gio0)] rfl A69 rfl rfl (lenA_eq hc32) (lenA_eq hc33) o15 one_u32 ?_)
                  intro w31 o31 g31 l31
                  refine ⟨(EB.own eb25.1 g31 (fun k hk => Nat.le_trans eb11.1 (n15 k hk))), ?_⟩
                  have eb34 := EB.trans eb25 (EB.own eb25.1 g31 (fun k hk => Nat.le_trans eb11.1 (n15 k hk)))
                  replace o24 := o24.other g31 q26.symm
                  replace o10 := o10.other g31 q17
                  replace hio0 := hio0.other g31 q18
                  have e35 := e29.grown g31 n20
                  obtain ⟨c37, hc37, H1⟩ := Option.bind_eq_some_iff.1 H1
                  refine wbm rfl rfl rfl (stp_storeA [(bp g24), (bp g15)] [(bp gio0)] rfl A69 rfl rfl (lenA_eq hc32) (lenA_eq hc37) o10 one_u32 ?_)
                  intro w36 o36 g36 l36
                  refine ⟨(EB.own eb34.1 g36 (fun k hk => Nat.le_trans eb8.1 (n10 k hk))), ?_⟩
                  have eb38 := EB.trans eb34 (EB.own eb34.1 g36 (fun k hk => Nat.le_trans eb8.1 (n10 k hk)))
                  replace o24 := o24.other g36 q27.symm
                  replace o31 := o31.other g36 q17.symm
                  replace hio0 := hio0.other g36 q12
                  have e39 := e35.grown g36 n14
                  obtain ⟨c41, hc41, H1⟩ := Option.bind_eq_some_iff.1 H1
                  refine wbn rfl (by kernel_rfl) rfl rfl (stp_storeA [] [(bp g15), (bp g10), (bp gio0)] rfl A98 rfl rfl (lenA_eq hc41) (lenA_eq hc6) o24 one_u32 ?_)
                  intro w40 o40 g40 l40
                  have eb42 := EB.trans eb38 (EB.own eb38.1 g40 (fun k hk => Nat.le_trans eb22.1 (n24 k hk)))
                  replace o31 := o31.other g40 q26
                  replace o36 := o36.other g40 q27
                  replace hio0 := hio0.other g40 q28
                  have e43 := e39.grown g40 n30
                  refine wsB_nil ?_
                  refine wt_fin ?_
                  obtain rfl := Option.some.inj H1
                  exact ⟨g15, g10, g24, rfl, rfl, rfl, rfl, rfl, e43, hio0, NS.own, o31, n20, o36, n14, o40, n30, q18, q12, q28, q17.symm, q26, q27⟩
                · refine wrB_br ?_ ?_
                  · refine wbs rfl rfl rfl (stp_allocL (z := (ag u32 ((List.replicate 8 (0 : UInt32))))) (cs := (ac u32 ((List.replicate 8 (0 : UInt32))))) [(bp g15), (bp g10), (bp gio0)] rfl Z98 rfl ?_)
                    intro g21 w21 o21 n21 g21r l21
                    refine ⟨(EB.ext eb16.1 (grown_ext g21r)), ?_⟩
                    have x21 := grown_ext g21r
                    have eb22 := EB.trans eb16 (EB.ext eb16.1 x21)
                    have q23 : Nq (bp g15) (bp g21) := o15.nq n21
                    have q24 : Nq (bp g10) (bp g21) := o10.nq n21
                    have q25 : Nq (bp gio0) (bp g21) := hio0.nq n21
                    replace o15 := o15.ext x21
                    replace o10 := o10.ext x21
                    replace hio0 := hio0.ext x21
                    have n27 := NS.ext e19 n21
                    have e26 := e19.trans x21
                    obtain ⟨r28, hr28, H1⟩ := Option.bind_eq_some_iff.1 H1
                    refine wbs rfl rfl rfl (stp_call (vs := []) Try.func78 rfl rfl rfl (ar0 ) (hash_constants_calls   r28 _  hr28) ?_)
                    rintro _ w28 ⟨rfl, x28⟩
                    refine ⟨_, rfl, (EB.ext eb22.1 x28), ?_⟩
                    have eb29 := EB.trans eb22 (EB.ext eb22.1 x28)
                    replace o21 := o21.ext x28
                    replace o15 := o15.ext x28
                    replace o10 := o10.ext x28
                    replace hio0 := hio0.ext x28
                    have e30 := e26.trans x28
                    obtain ⟨c32, hc32, H1⟩ := Option.bind_eq_some_iff.1 H1
                    obtain ⟨c33, hc33, H1⟩ := Option.bind_eq_some_iff.1 H1
                    refine wbm rfl rfl rfl (stp_storeA [(bp g21)] [(bp g10), (bp gio0)] rfl A69 rfl rfl (lenA_eq hc32) (lenA_eq hc33) o15 one_u32 ?_)
                    intro w31 o31 g31 l31
                    refine ⟨(EB.own eb29.1 g31 (fun k hk => Nat.le_trans eb11.1 (n15 k hk))), ?_⟩
                    have eb34 := EB.trans eb29 (EB.own eb29.1 g31 (fun k hk => Nat.le_trans eb11.1 (n15 k hk)))
                    replace o21 := o21.other g31 q23.symm
                    replace o10 := o10.other g31 q17
                    replace hio0 := hio0.other g31 q18
                    have e35 := e30.grown g31 n20
                    obtain ⟨c37, hc37, H1⟩ := Option.bind_eq_some_iff.1 H1
                    refine wbm rfl rfl rfl (stp_storeA [(bp g21), (bp g15)] [(bp gio0)] rfl A69 rfl rfl (lenA_eq hc32) (lenA_eq hc37) o10 one_u32 ?_)
                    intro w36 o36 g36 l36
                    refine ⟨(EB.own eb34.1 g36 (fun k hk => Nat.le_trans eb8.1 (n10 k hk))), ?_⟩
                    have eb38 := EB.trans eb34 (EB.own eb34.1 g36 (fun k hk => Nat.le_trans eb8.1 (n10 k hk)))
                    replace o21 := o21.other g36 q24.symm
                    replace o31 := o31.other g36 q17.symm
                    replace hio0 := hio0.other g36 q12
                    have e39 := e35.grown g36 n14
                    obtain ⟨c41, hc41, H1⟩ := Option.bind_eq_some_iff.1 H1
                    refine wbn rfl (by kernel_rfl) rfl rfl (stp_storeA [] [(bp g15), (bp g10), (bp gio0)] rfl A98 rfl rfl (lenA_eq hc41) (lenA_eq hc6) o21 one_u32 ?_)
                    intro w40 o40 g40 l40
                    have eb42 := EB.trans eb38 (EB.own eb38.1 g40 (fun k hk => Nat.le_trans eb16.1 (n21 k hk)))
                    replace o31 := o31.other g40 q23
                    replace o36 := o36.other g40 q24
                    replace hio0 := hio0.other g40 q25
                    have e43 := e39.grown g40 n27
                    refine wsB_nil ?_
                    refine wt_fin ?_
                    obtain rfl := Option.some.inj H1
                    exact ⟨g15, g10, g21, rfl, rfl, rfl, rfl, rfl, e43, hio0, NS.own, o31, n20, o36, n14, o40, n27, q18, q12, q25, q17.symm, q23, q24⟩
                  · trivial
              · refine wrB_br ?_ ?_
                · refine wbs rfl rfl rfl (stp_allocL (z := (ag u32 ((List.replicate 8 (0 : UInt32))))) (cs := (ac u32 ((List.replicate 8 (0 : UInt32))))) [(bp g10), (bp gio0)] rfl Z98 rfl ?_)
                  intro g15 w15 o15 n15 g15r l15
                  refine ⟨(EB.ext eb11.1 (grown_ext g15r)), ?_⟩
                  have x15 := grown_ext g15r
                  have eb16 := EB.trans eb11 (EB.ext eb11.1 x15)
                  have q17 : Nq (bp g10) (bp g15) := o10.nq n15
                  have q18 : Nq (bp gio0) (bp g15) := hio0.nq n15
                  replace o10 := o10.ext x15
                  replace hio0 := hio0.ext x15
                  have n20 := NS.ext e13 n15
                  have e19 := e13.trans x15
                  refine wsB_nil ?_
                  refine wt_br ?_
                  refine wrB_br ?_ ?_
                  · obtain ⟨r21, hr21, H1⟩ := Option.bind_eq_some_iff.1 H1
                    refine wbs rfl rfl rfl (stp_call (vs := []) Try.func78 rfl rfl rfl (ar0 ) (hash_constants_calls   r21 _  hr21) ?_)
                    rintro _ w21 ⟨rfl, x21⟩
                    refine ⟨_, rfl, (EB.ext eb16.1 x21), ?_⟩
                    have eb22 := EB.trans eb16 (EB.ext eb16.1 x21)
                    replace o15 := o15.ext x21
                    replace o10 := o10.ext x21
                    replace hio0 := hio0.ext x21
                    have e23 := e19.trans x21
                    refine wbs rfl rfl rfl (stp_allocL (z := (ag u32 ((List.replicate 64 (0 : UInt32))))) (cs := (ac u32 ((List.replicate 64 (0 : UInt32))))) [(bp g15), (bp g10), (bp gio0)] rfl Z69 rfl ?_)
                    intro g24 w24 o24 n24 g24r l24
                    refine ⟨(EB.ext eb22.1 (grown_ext g24r)), ?_⟩
                    have x24 := grown_ext g24r
                    have eb25 := EB.trans eb22 (EB.ext eb22.1 x24)
                    have q26 : Nq (bp g15) (bp g24) := o15.nq n24
                    have q27 : Nq (bp g10) (bp g24) := o10.nq n24
                    have q28 : Nq (bp gio0) (bp g24) := hio0.nq n24
                    replace o15 := o15.ext x24
                    replace o10 := o10.ext x24
                    replace hio0 := hio0.ext x24
                    have n30 := NS.ext e23 n24
                    have e29 := e23.trans x24
                    obtain ⟨c32, hc32, H1⟩ := Option.bind_eq_some_iff.1 H1
                    obtain ⟨c33, hc33, H1⟩ := Option.bind_eq_some_iff.1 H1
                    refine wbm rfl rfl rfl (stp_storeA [] [(bp g15), (bp g10), (bp gio0)] rfl A69 rfl rfl (lenA_eq hc32) (lenA_eq hc33) o24 one_u32 ?_)
                    intro w31 o31 g31 l31
                    refine ⟨(EB.own eb25.1 g31 (fun k hk => Nat.le_trans eb22.1 (n24 k hk))), ?_⟩
                    have eb34 := EB.trans eb25 (EB.own eb25.1 g31 (fun k hk => Nat.le_trans eb22.1 (n24 k hk)))
                    replace o15 := o15.other g31 q26
                    replace o10 := o10.other g31 q27
                    replace hio0 := hio0.other g31 q28
                    have e35 := e29.grown g31 n30
                    obtain ⟨c37, hc37, H1⟩ := Option.bind_eq_some_iff.1 H1
                    refine wbm rfl rfl rfl (stp_storeA [(bp g24), (bp g15)] [(bp gio0)] rfl A69 rfl rfl (lenA_eq hc32) (lenA_eq hc37) o10 one_u32 ?_)
                    intro w36 o36 g36 l36
                    refine ⟨(EB.own eb34.1 g36 (fun k hk => Nat.le_trans eb8.1 (n10 k hk))), ?_⟩
                    have eb38 := EB.trans eb34 (EB.own eb34.1 g36 (fun k hk => Nat.le_trans eb8.1 (n10 k hk)))
                    replace o31 := o31.other g36 q27.symm
                    replace o15 := o15.other g36 q17.symm
                    replace hio0 := hio0.other g36 q12
                    have e39 := e35.grown g36 n14
                    obtain ⟨c41, hc41, H1⟩ := Option.bind_eq_some_iff.1 H1
                    refine wbn rfl (by kernel_rfl) rfl rfl (stp_storeA [(bp g24)] [(bp g10), (bp gio0)] rfl A98 rfl rfl (lenA_eq hc41) (lenA_eq hc6) o15 one_u32 ?_)
                    intro w40 o40 g40 l40
                    have eb42 := EB.trans eb38 (EB.own eb38.1 g40 (fun k hk => Nat.le_trans eb11.1 (n15 k hk)))
                    replace o31 := o31.other g40 q26.symm
                    replace o36 := o36.other g40 q17
                    replace hio0 := hio0.other g40 q18
                    have e43 := e39.grown g40 n20
                    refine wsB_nil ?_
                    refine wt_fin ?_
                    obtain rfl := Option.some.inj H1
                    exact ⟨g24, g10, g15, rfl, rfl, rfl, rfl, rfl, e43, hio0, NS.own, o31, n30, o36, n14, o40, n20, q28, q12, q18, q27.symm, q26.symm, q17⟩
                  · refine wrB_br ?_ ?_
                    · refine wbs rfl rfl rfl (stp_allocL (z := (ag u32 ((List.replicate 64 (0 : UInt32))))) (cs := (ac u32 ((List.replicate 64 (0 : UInt32))))) [(bp g15), (bp g10), (bp gio0)] rfl Z69 rfl ?_)
                      intro g21 w21 o21 n21 g21r l21
                      refine ⟨(EB.ext eb16.1 (grown_ext g21r)), ?_⟩
                      have x21 := grown_ext g21r
                      have eb22 := EB.trans eb16 (EB.ext eb16.1 x21)
                      have q23 : Nq (bp g15) (bp g21) := o15.nq n21
                      have q24 : Nq (bp g10) (bp g21) := o10.nq n21
                      have q25 : Nq (bp gio0) (bp g21) := hio0.nq n21
                      replace o15 := o15.ext x21
                      replace o10 := o10.ext x21
                      replace hio0 := hio0.ext x21
                      have n27 := NS.ext e19 n21
                      have e26 := e19.trans x21
                      obtain ⟨r28, hr28, H1⟩ := Option.bind_eq_some_iff.1 H1
                      refine wbs rfl rfl rfl (stp_call (vs := []) Try.func78 rfl rfl rfl (ar0 ) (hash_constants_calls   r28 _  hr28) ?_)
                      rintro _ w28 ⟨rfl, x28⟩
                      refine ⟨_, rfl, (EB.ext eb22.1 x28), ?_⟩
                      have eb29 := EB.trans eb22 (EB.ext eb22.1 x28)
                      replace o21 := o21.ext x28
                      replace o15 := o15.ext x28
                      replace o10 := o10.ext x28
                      replace hio0 := hio0.ext x28
                      have e30 := e26.trans x28
                      obtain ⟨c32, hc32, H1⟩ := Option.bind_eq_some_iff.1 H1
                      obtain ⟨c33, hc33, H1⟩ := Option.bind_eq_some_iff.1 H1
                      refine wbm rfl rfl rfl (stp_storeA [] [(bp g15), (bp g10), (bp gio0)] rfl A69 rfl rfl (lenA_eq hc32) (lenA_eq hc33) o21 one_u32 ?_)
                      intro w31 o31 g31 l31
                      refine ⟨(EB.own eb29.1 g31 (fun k hk => Nat.le_trans eb16.1 (n21 k hk))), ?_⟩
                      have eb34 := EB.trans eb29 (EB.own eb29.1 g31 (fun k hk => Nat.le_trans eb16.1 (n21 k hk)))
                      replace o15 := o15.other g31 q23
                      replace o10 := o10.other g31 q24
                      replace hio0 := hio0.other g31 q25
                      have e35 := e30.grown g31 n27
                      obtain ⟨c37, hc37, H1⟩ := Option.bind_eq_some_iff.1 H1
                      refine wbm rfl rfl rfl (stp_storeA [(bp g21), (bp g15)] [(bp gio0)] rfl A69 rfl rfl (lenA_eq hc32) (lenA_eq hc37) o10 one_u32 ?_)
                      intro w36 o36 g36 l36
                      refine ⟨(EB.own eb34.1 g36 (fun k hk => Nat.le_trans eb8.1 (n10 k hk))), ?_⟩
                      have eb38 := EB.trans eb34 (EB.own eb34.1 g36 (fun k hk => Nat.le_trans eb8.1 (n10 k hk)))
                      replace o31 := o31.other g36 q24.symm
                      replace o15 := o15.other g36 q17.symm
                      replace hio0 := hio0.other g36 q12
                      have e39 := e35.grown g36 n14
                      obtain ⟨c41, hc41, H1⟩ := Option.bind_eq_some_iff.1 H1
                      refine wbn rfl (by kernel_rfl) rfl rfl (stp_storeA [(bp g21)] [(bp g10), (bp gio0)] rfl A98 rfl rfl (lenA_eq hc41) (lenA_eq hc6) o15 one_u32 ?_)
                      intro w40 o40 g40 l40
                      have eb42 := EB.trans eb38 (EB.own eb38.1 g40 (fun k hk => Nat.le_trans eb11.1 (n15 k hk)))
                      replace o31 := o31.other g40 q23.symm
                      replace o36 := o36.other g40 q17
                      replace hio0 := hio0.other g40 q18
                      have e43 := e39.grown g40 n20
                      refine wsB_nil ?_
                      refine wt_fin ?_
                      obtain rfl := Option.some.inj H1
                      exact ⟨g21, g10, g15, rfl, rfl, rfl, rfl, rfl, e43, hio0, NS.own, o31, n27, o36, n14, o40, n20, q25, q12, q18, q24.symm, q23.symm, q17⟩
                    · trivial
                · trivial
          · refine wrB_br ?_ ?_
            · refine wbs rfl rfl rfl (stp_allocL (z := (ag u32 ((List.replicate 8 (0 : UInt32))))) (cs := (ac u32 ((List.replicate 8 (0 : UInt32))))) [(bp gio0)] rfl Z98 rfl ?_)
              intro g10 w10 o10 n10 g10r l10
              refine ⟨(EB.ext eb8.1 (grown_ext g10r)), ?_⟩
              have x10 := grown_ext g10r
              have eb11 := EB.trans eb8 (EB.ext eb8.1 x10)
              have q12 : Nq (bp gio0) (bp g10) := hio0.nq n10
              replace hio0 := hio0.ext x10
              have n14 := NS.ext e9 n10
              have e13 := e9.trans x10
              refine wsB_nil ?_
              refine wt_br ?_
              refine wrB_br ?_ ?_
              · obtain ⟨r15, hr15, H1⟩ := Option.bind_eq_some_iff.1 H1
                refine wbs rfl rfl rfl (stp_call (vs := []) Try.func78 rfl rfl rfl (ar0 ) (hash_constants_calls   r15 _  hr15) ?_)
                rintro _ w15 ⟨rfl, x15⟩
                refine ⟨_, rfl, (EB.ext eb11.1 x15), ?_⟩
                have eb16 := EB.trans eb11 (EB.ext eb11.1 x15)
                replace o10 := o10.ext x15
                replace hio0 := hio0.ext x15
                have e17 := e13.trans x15
                refine wsB_nil ?_
                refine wt_br ?_
                refine wrB_br ?_ ?_
                · refine wbs rfl rfl rfl (stp_allocL (z := (ag u32 ((List.replicate 64 (0 : UInt32))))) (cs := (ac u32 ((List.replicate 64 (0 : UInt32))))) [(bp g10), (bp gio0)] rfl Z69 rfl ?_)
                  intro g18 w18 o18 n18 g18r l18
                  refine ⟨(EB.ext eb16.1 (grown_ext g18r)), ?_⟩
                  have x18 := grown_ext g18r
                  have eb19 := EB.trans eb16 (EB.ext eb16.1 x18)
                  have q20 : Nq (bp g10) (bp g18) := o10.nq n18
                  have q21 : Nq (bp gio0) (bp g18) := hio0.nq n18
                  replace o10 := o10.ext x18
                  replace hio0 := hio0.ext x18
                  have n23 := NS.ext e17 n18
                  have e22 := e17.trans x18
                  refine wbs rfl rfl rfl (stp_allocL (z := (ag u32 ((List.replicate 64 (0 : UInt32))))) (cs := (ac u32 ((List.replicate 64 (0 : UInt32))))) [(bp g18), (bp g10), (bp gio0)] rfl Z69 rfl ?_)
                  intro g24 w24 o24 n24 g24r l24
                  refine ⟨(EB.ext eb19.1 (grown_ext g24r)), ?_⟩
                  have x24 := grown_ext g24r
                  have eb25 := EB.trans eb19 (EB.ext eb19.1 x24)
                  have q26 : Nq (bp g18) (bp g24) := o18.nq n24
                  have q27 : Nq (bp g10) (bp g24) := o10.nq n24
                  have q28 : Nq (bp gio0) (bp g24) := hio0.nq n24
                  replace o18 := o18.ext x24
                  replace o10 := o10.ext x24
                  replace hio0 := hio0.ext x24
                  have n30 := NS.ext e22 n24
                  have e29 := e22.trans x24
                  obtain ⟨c32, hc32, H1⟩ := Option.bind_eq_some_iff.1 H1
                  obtain ⟨c33, hc33, H1⟩ := Option.bind_eq_some_iff.1 H1
                  refine wbm rfl rfl rfl (stp_storeA [(bp g24)] [(bp g10), (bp gio0)] rfl A69 rfl rfl (lenA_eq hc32) (lenA_eq hc33) o18 one_u32 ?_)
                  intro w31 o31 g31 l31
                  refine ⟨(EB.own eb25.1 g31 (fun k hk => Nat.le_trans eb16.1 (n18 k hk))), ?_⟩
                  have eb34 := EB.trans eb25 (EB.own eb25.1 g31 (fun k hk => Nat.le_trans eb16.1 (n18 k hk)))
                  replace o24 := o24.other g31 q26.symm
                  replace o10 := o10.other g31 q20
                  replace hio0 := hio0.other g31 q21
                  have e35 := e29.grown g31 n23
                  obtain ⟨c37, hc37, H1⟩ := Option.bind_eq_some_iff.1 H1
                  refine wbm rfl rfl rfl (stp_storeA [] [(bp g18), (bp g10), (bp gio0)] rfl A69 rfl rfl (lenA_eq hc32) (lenA_eq hc37) o24 one_u32 ?_)
                  intro w36 o36 g36 l36
                  refine ⟨(EB.own eb34.1 g36 (fun k hk => Nat.le_trans eb19.1 (n24 k hk))), ?_⟩
                  have eb38 := EB.trans eb34 (EB.own eb34.1 g36 (fun k hk => Nat.le_trans eb19.1 (n24 k hk)))
                  replace o31 := o31.other g36 q26
                  replace o10 := o10.other g36 q27
                  replace hio0 := hio0.other g36 q28
                  have e39 := e35.grown g36 n30
                  obtain ⟨c41, hc41, H1⟩ := Option.bind_eq_some_iff.1 H1
                  refine wbn rfl (by kernel_rfl) rfl rfl (stp_storeA [(bp g24), (bp g18)] [(bp gio0)] rfl A98 rfl rfl (lenA_eq hc41) (lenA_eq hc6) o10 one_u32 ?_)
                  intro w40 o40 g40 l40
                  have eb42 := EB.trans eb38 (EB.own eb38.1 g40 (fun k hk => Nat.le_trans eb8.1 (n10 k hk)))
                  replace o36 := o36.other g40 q27.symm
                  replace o31 := o31.other g40 q20.symm
                  replace hio0 := hio0.other g40 q12
                  have e43 := e39.grown g40 n14
                  refine wsB_nil ?_
                  refine wt_fin ?_
                  obtain rfl := Option.some.inj H1
                  exact ⟨g18, g24, g10, rfl, rfl, rfl, rfl, rfl, e43, hio0, NS.own, o31, n23, o36, n30, o40, n14, q21, q28, q12, q26, q20.symm, q27.symm⟩
                · refine wrB_br ?_ ?_
                  · refine wbs rfl rfl rfl (stp_allocL (z := (ag u32 ((List.replicate 64 (0 : UInt32))))) (cs := (ac u32 ((List.replicate 64 (0 : UInt32))))) [(bp g10), (bp gio0)] rfl Z69 rfl ?_)
                    intro g18 w18 o18 n18 g18r l18
                    refine ⟨(EB.ext eb16.1 (grown_ext g18r)), ?_⟩
                    have x18 := grown_ext g18r
                    have eb19 := EB.trans eb16 (EB.ext eb16.1 x18)
                    have q20 : Nq (bp g10) (bp g18) := o10.nq n18
                    have q21 : Nq (bp gio0) (bp g18) := hio0.nq n18
                    replace o10 := o10.ext x18
                    replace hio0 := hio0.ext x18
                    have n23 := NS.ext e17 n18
                    have e22 := e17.trans x18
                    refine wbs rfl rfl rfl (stp_allocL (z := (ag u32 ((List.replicate 64 (0 : UInt32))))) (cs := (ac u32 ((List.replicate 64 (0 : UInt32))))) [(bp g18), (bp g10), (bp gio0)] rfl Z69 rfl ?_)
                    intro g24 w24 o24 n24 g24r l24
                    refine ⟨(EB.ext eb19.1 (grown_ext g24r)), ?_⟩
                    have x24 := grown_ext g24r
                    have eb25 := EB.trans eb19 (EB.ext eb19.1 x24)
                    have q26 : Nq (bp g18) (bp g24) := o18.nq n24
                    have q27 : Nq (bp g10) (bp g24) := o10.nq n24
                    have q28 : Nq (bp gio0) (bp g24) := hio0.nq n24
                    replace o18 := o18.ext x24
                    replace o10 := o10.ext x24
                    replace hio0 := hio0.ext x24
                    have n30 := NS.ext e22 n24
                    have e29 := e22.trans x24
                    obtain ⟨c32, hc32, H1⟩ := Option.bind_eq_some_iff.1 H1
                    obtain ⟨c33, hc33, H1⟩ := Option.bind_eq_some_iff.1 H1
                    refine wbm rfl rfl rfl (stp_storeA [] [(bp g18), (bp g10), (bp gio0)] rfl A69 rfl rfl (lenA_eq hc32) (lenA_eq hc33) o24 one_u32 ?_)
                    intro w31 o31 g31 l31
                    refine ⟨(EB.own eb25.1 g31 (fun k hk => Nat.le_trans eb19.1 (n24 k hk))), ?_⟩
                    have eb34 := EB.trans eb25 (EB.own eb25.1 g31 (fun k hk => Nat.le_trans eb19.1 (n24 k hk)))
                    replace o18 := o18.other g31 q26
                    replace o10 := o10.other g31 q27
                    replace hio0 := hio0.other g31 q28
                    have e35 := e29.grown g31 n30
                    obtain ⟨c37, hc37, H1⟩ := Option.bind_eq_some_iff.1 H1
                    refine wbm rfl rfl rfl (stp_storeA [(bp g24)] [(bp g10), (bp gio0)] rfl A69 rfl rfl (lenA_eq hc32) (lenA_eq hc37) o18 one_u32 ?_)
                    intro w36 o36 g36 l36
                    refine ⟨(EB.own eb34.1 g36 (fun k hk => Nat.le_trans eb16.1 (n18 k hk))), ?_⟩
                    have eb38 := EB.trans eb34 (EB.own eb34.1 g36 (fun k hk => Nat.le_trans eb16.1 (n18 k hk)))
                    replace o31 := o31.other g36 q26.symm
                    replace o10 := o10.other g36 q20
                    replace hio0 := hio0.other g36 q21
                    have e39 := e35.grown g36 n23
                    obtain ⟨c41, hc41, H1⟩ := Option.bind_eq_some_iff.1 H1
                    refine wbn rfl (by kernel_rfl) rfl rfl (stp_storeA [(bp g24), (bp g18)] [(bp gio0)] rfl A98 rfl rfl (lenA_eq hc41) (lenA_eq hc6) o10 one_u32 ?_)
                    intro w40 o40 g40 l40
                    have eb42 := EB.trans eb38 (EB.own eb38.1 g40 (fun k hk => Nat.le_trans eb8.1 (n10 k hk)))
                    replace o31 := o31.other g40 q27.symm
                    replace o36 := o36.other g40 q20.symm
                    replace hio0 := hio0.other g40 q12
                    have e43 := e39.grown g40 n14
                    refine wsB_nil ?_
                    refine wt_fin ?_
                    obtain rfl := Option.some.inj H1
                    exact ⟨g24, g18, g10, rfl, rfl, rfl, rfl, rfl, e43, hio0, NS.own, o31, n30, o36, n23, o40, n14, q28, q21, q12, q26.symm, q27.symm, q20.symm⟩
                  · trivial
              · refine wrB_br ?_ ?_
                · refine wbs rfl rfl rfl (stp_allocL (z := (ag u32 ((List.replicate 64 (0 : UInt32))))) (cs := (ac u32 ((List.replicate 64 (0 : UInt32))))) [(bp g10), (bp gio0)] rfl Z69 rfl ?_)
                  intro g15 w15 o15 n15 g15r l15
                  refine ⟨(EB.ext eb11.1 (grown_ext g15r)), ?_⟩
                  have x15 := grown_ext g15r
                  have eb16 := EB.trans eb11 (EB.ext eb11.1 x15)
                  have q17 : Nq (bp g10) (bp g15) := o10.nq n15
                  have q18 : Nq (bp gio0) (bp g15) := hio0.nq n15
                  replace o10 := o10.ext x15
                  replace hio0 := hio0.ext x15
                  have n20 := NS.ext e13 n15
                  have e19 := e13.trans x15
                  refine wsB_nil ?_
                  refine wt_br ?_
                  refine wrB_br ?_ ?_
                  · obtain ⟨r21, hr21, H1⟩ := Option.bind_eq_some_iff.1 H1
                    refine wbs rfl rfl rfl (stp_call (vs := []) Try.func78 rfl rfl rfl (ar0 ) (hash_constants_calls   r21 _  hr21) ?_)
                    rintro _ w21 ⟨rfl, x21⟩
                    refine ⟨_, rfl, (EB.ext eb16.1 x21), ?_⟩
                    have eb22 := EB.trans eb16 (EB.ext eb16.1 x21)
                    replace o15 := o15.ext x21
                    replace o10 := o10.ext x21
                    replace hio0 := hio0.ext x21
                    have e23 := e19.trans x21
                    refine wbs rfl rfl rfl (stp_allocL (z := (ag u32 ((List.replicate 64 (0 : UInt32))))) (cs := (ac u32 ((List.replicate 64 (0 : UInt32))))) [(bp g15), (bp g10), (bp gio0)] rfl Z69 rfl ?_)
                    intro g24 w24 o24 n24 g24r l24
                    refine ⟨(EB.ext eb22.1 (grown_ext g24r)), ?_⟩
                    have x24 := grown_ext g24r
                    have eb25 := EB.trans eb22 (EB.ext eb22.1 x24)
                    have q26 : Nq (bp g15) (bp g24) := o15.nq n24
                    have q27 : Nq (bp g10) (bp g24) := o10.nq n24
                    have q28 : Nq (bp gio0) (bp g24) := hio0.nq n24
                    replace o15 := o15.ext x24
                    replace o10 := o10.ext x24
                    replace hio0 := hio0.ext x24
                    have n30 := NS.ext e23 n24
                    have e29 := e23.trans x24
                    obtain ⟨c32, hc32, H1⟩ := Option.bind_eq_some_iff.1 H1
                    obtain ⟨c33, hc33, H1⟩ := Option.bind_eq_some_iff.1 H1
                    refine wbm rfl rfl rfl (stp_storeA [(bp g24)] [(bp g10), (bp gio0)] rfl A69 rfl rfl (lenA_eq hc32) (lenA_eq hc33) o15 one_u32 ?_)
                    intro w31 o31 g31 l31
                    refine ⟨(EB.own eb25.1 g31 (fun k hk => Nat.le_trans eb11.1 (n15 k hk))), ?_⟩
                    have eb34 := EB.trans eb25 (EB.own eb25.1 g31 (fun k hk => Nat.le_trans eb11.1 (n15 k hk)))
                    replace o24 := o24.other g31 q26.symm
                    replace o10 := o10.other g31 q17
                    replace hio0 := hio0.other g31 q18
                    have e35 := e29.grown g31 n20
                    obtain ⟨c37, hc37, H1⟩ := Option.bind_eq_some_iff.1 H1
                    refine wbm rfl rfl rfl (stp_storeA [] [(bp g15), (bp g10), (bp gio0)] rfl A69 rfl rfl (lenA_eq hc32) (lenA_eq hc37) o24 one_u32 ?_)
                    intro w36 o36 g36 l36
                    refine ⟨(EB.own eb34.1 g36 (fun k hk => Nat.le_trans eb22.1 (n24 k hk))), ?_⟩
                    have eb38 := EB.trans eb34 (EB.own eb34.1 g36 (fun k hk => Nat.le_trans eb22.1 (n24 k hk)))
                    replace o31 := o31.other g36 q26
                    replace o10 := o10.other g36 q27
                    replace hio0 := hio0.other g36 q28
                    have e39 := e35.grown g36 n30
                    obtain ⟨c41, hc41, H1⟩ := Option.bind_eq_some_iff.1 H1
                    refine wbn rfl (by kernel_rfl) rfl rfl (stp_storeA [(bp g24), (bp g15)] [(bp gio0)] rfl A98 rfl rfl (lenA_eq hc41) (lenA_eq hc6) o10 one_u32 ?_)
                    intro w40 o40 g40 l40
                    have eb42 := EB.trans eb38 (EB.own eb38.1 g40 (fun k hk => Nat.le_trans eb8.1 (n10 k hk)))
                    replace o36 := o36.other g40 q27.symm
                    replace o31 := o31.other g40 q17.symm
                    replace hio0 := hio0.other g40 q12
                    have e43 := e39.grown g40 n14
                    refine wsB_nil ?_
                    refine wt_fin ?_
                    obtain rfl := Option.some.inj H1
                    exact ⟨g15, g24, g10, rfl, rfl, rfl, rfl, rfl, e43, hio0, NS.own, o31, n20, o36, n30, o40, n14, q18, q28, q12, q26, q17.symm, q27.symm⟩
                  · refine wrB_br ?_ ?_
                    · refine wbs rfl rfl rfl (stp_allocL (z := (ag u32 ((List.replicate 64 (0 : UInt32))))) (cs := (ac u32 ((List.replicate 64 (0 : UInt32))))) [(bp g15), (bp g10), (bp gio0)] rfl Z69 rfl ?_)
                      intro g21 w21 o21 n21 g21r l21
                      refine ⟨(EB.ext eb16.1 (grown_ext g21r)), ?_⟩
                      have x21 := grown_ext g21r
                      have eb22 := EB.trans eb16 (EB.ext eb16.1 x21)
                      have q23 : Nq (bp g15) (bp g21) := o15.nq n21
                      have q24 : Nq (bp g10) (bp g21) := o10.nq n21
                      have q25 : Nq (bp gio0) (bp g21) := hio0.nq n21
                      replace o15 := o15.ext x21
                      replace o10 := o10.ext x21
                      replace hio0 := hio0.ext x21
                      have n27 := NS.ext e19 n21
                      have e26 := e19.trans x21
                      obtain ⟨r28, hr28, H1⟩ := Option.bind_eq_some_iff.1 H1
                      refine wbs rfl rfl rfl (stp_call (vs := []) Try.func78 rfl rfl rfl (ar0 ) (hash_constants_calls   r28 _  hr28) ?_)
                      rintro _ w28 ⟨rfl, x28⟩
                      refine ⟨_, rfl, (EB.ext eb22.1 x28), ?_⟩
                      have eb29 := EB.trans eb22 (EB.ext eb22.1 x28)
                      replace o21 := o21.ext x28
                      replace o15 := o15.ext x28
                      replace o10 := o10.ext x28
                      replace hio0 := hio0.ext x28
                      have e30 := e26.trans x28
                      obtain ⟨c32, hc32, H1⟩ := Option.bind_eq_some_iff.1 H1
                      obtain ⟨c33, hc33, H1⟩ := Option.bind_eq_some_iff.1 H1
                      refine wbm rfl rfl rfl (stp_storeA [(bp g21)] [(bp g10), (bp gio0)] rfl A69 rfl rfl (lenA_eq hc32) (lenA_eq hc33) o15 one_u32 ?_)
                      intro w31 o31 g31 l31
                      refine ⟨(EB.own eb29.1 g31 (fun k hk => Nat.le_trans eb11.1 (n15 k hk))), ?_⟩
                      have eb34 := EB.trans eb29 (EB.own eb29.1 g31 (fun k hk => Nat.le_trans eb11.1 (n15 k hk)))
                      replace o21 := o21.other g31 q23.symm
                      replace o10 := o10.other g31 q17
                      replace hio0 := hio0.other g31 q18
                      have e35 := e30.grown g31 n20
                      obtain ⟨c37, hc37, H1⟩ := Option.bind_eq_some_iff.1 H1
                      refine wbm rfl rfl rfl (stp_storeA [] [(bp g15), (bp g10), (bp gio0)] rfl A69 rfl rfl (lenA_eq hc32) (lenA_eq hc37) o21 one_u32 ?_)
                      intro w36 o36 g36 l36
                      refine ⟨(EB.own eb34.1 g36 (fun k hk => Nat.le_trans eb16.1 (n21 k hk))), ?_⟩
                      have eb38 := EB.trans eb34 (EB.own eb34.1 g36 (fun k hk => Nat.le_trans eb16.1 (n21 k hk)))
                      replace o31 := o31.other g36 q23
                      replace o10 := o10.other g36 q24
                      replace hio0 := hio0.other g36 q25
                      have e39 := e35.grown g36 n27
                      obtain ⟨c41, hc41, H1⟩ := Option.bind_eq_some_iff.1 H1
                      refine wbn rfl (by kernel_rfl) rfl rfl (stp_storeA [(bp g21), (bp g15)] [(bp gio0)] rfl A98 rfl rfl (lenA_eq hc41) (lenA_eq hc6) o10 one_u32 ?_)
                      intro w40 o40 g40 l40
                      have eb42 := EB.trans eb38 (EB.own eb38.1 g40 (fun k hk => Nat.le_trans eb8.1 (n10 k hk)))
                      replace o36 := o36.other g40 q24.symm
                      replace o31 := o31.other g40 q17.symm
                      replace hio0 := hio0.other g40 q12
                      have e43 := e39.grown g40 n14
                      refine wsB_nil ?_
                      refine wt_fin ?_
                      obtain rfl := Option.some.inj H1
                      exact ⟨g15, g21, g10, rfl, rfl, rfl, rfl, rfl, e43, hio0, NS.own, o31, n20, o36, n27, o40, n14, q18, q25, q12, q23, q17.symm, q24.symm⟩
                    · trivial
                · refine wrB_br ?_ ?_
                  · refine wbs rfl rfl rfl (stp_allocL (z := (ag u32 ((List.replicate 64 (0 : UInt32))))) (cs := (ac u32 ((List.replicate 64 (0 : UInt32))))) [(bp g10), (bp gio0)] rfl Z69 rfl ?_)
                    intro g15 w15 o15 n15 g15r l15
                    refine ⟨(EB.ext eb11.1 (grown_ext g15r)), ?_⟩
                    have x15 := grown_ext g15r
                    have eb16 := EB.trans eb11 (EB.ext eb11.1 x15)
                    have q17 : Nq (bp g10) (bp g15) := o10.nq n15
                    have q18 : Nq (bp gio0) (bp g15) := hio0.nq n15
                    replace o10 := o10.ext x15
                    replace hio0 := hio0.ext x15
                    have n20 := NS.ext e13 n15
                    have e19 := e13.trans x15
                    refine wsB_nil ?_
                    refine wt_br ?_
                    refine wrB_br ?_ ?_
                    · obtain ⟨r21, hr21, H1⟩ := Option.bind_eq_some_iff.1 H1
                      refine wbs rfl rfl rfl (stp_call (vs := []) Try.func78 rfl rfl rfl (ar0 ) (hash_constants_calls   r21 _  hr21) ?_)
                      rintro _ w21 ⟨rfl, x21⟩
                      refine ⟨_, rfl, (EB.ext eb16.1 x21), ?_⟩
                      have eb22 := EB.trans eb16 (EB.ext eb16.1 x21)
                      replace o15 := o15.ext x21
                      replace o10 := o10.ext x21
                      replace hio0 := hio0.ext x21
                      have e23 := e19.trans x21
                      refine wbs rfl rfl rfl (stp_allocL (z := (ag u32 ((List.replicate 64 (0 : UInt32))))) (cs := (ac u32 ((List.replicate 64 (0 : UInt32))))) [(bp g15), (bp g10), (bp gio0)] rfl Z69 rfl ?_)
                      intro g24 w24 o24 n24 g24r l24
                      refine ⟨(EB.ext eb22.1 (grown_ext g24r)), ?_⟩
                      have x24 := grown_ext g24r
                      have eb25 := EB.trans eb22 (EB.ext eb22.1 x24)
                      have q26 : Nq (bp g15) (bp g24) := o15.nq n24
                      have q27 : Nq (bp g10) (bp g24) := o10.nq n24
                      have q28 : Nq (bp gio0) (bp g24) := hio0.nq n24
                      replace o15 := o15.ext x24
                      replace o10 := o10.ext x24
                      replace hio0 := hio0.ext x24
                      have n30 := NS.ext e23 n24
                      have e29 := e23.trans x24
                      obtain ⟨c32, hc32, H1⟩ := Option.bind_eq_some_iff.1 H1
                      obtain ⟨c33, hc33, H1⟩ := Option.bind_eq_some_iff.1 H1
                      refine wbm rfl rfl rfl (stp_storeA [] [(bp g15), (bp g10), (bp gio0)] rfl A69 rfl rfl (lenA_eq hc32) (lenA_eq hc33) o24 one_u32 ?_)
                      intro w31 o31 g31 l31
                      refine ⟨(EB.own eb25.1 g31 (fun k hk => Nat.le_trans eb22.1 (n24 k hk))), ?_⟩
                      have eb34 := EB.trans eb25 (EB.own eb25.1 g31 (fun k hk => Nat.le_trans eb22.1 (n24 k hk)))
                      replace o15 := o15.other g31 q26
                      replace o10 := o10.other g31 q27
                      replace hio0 := hio0.other g31 q28
                      have e35 := e29.grown g31 n30
                      obtain ⟨c37, hc37, H1⟩ := Option.bind_eq_some_iff.1 H1
                      refine wbm rfl rfl rfl (stp_storeA [(bp g24)] [(bp g10), (bp gio0)] rfl A69 rfl rfl (lenA_eq hc32) (lenA_eq hc37) o15 one_u32 ?_)
                      intro w36 o36 g36 l36
                      refine ⟨(EB.own eb34.1 g36 (fun k hk => Nat.le_trans eb11.1 (n15 k hk))), ?_⟩
                      have eb38 := EB.trans eb34 (EB.own eb34.1 g36 (fun k hk => Nat.le_trans eb11.1 (n15 k hk)))
                      replace o31 := o31.other g36 q26.symm
                      replace o10 := o10.other g36 q17
                      replace hio0 := hio0.other g36 q18
                      have e39 := e35.grown g36 n20
                      obtain ⟨c41, hc41, H1⟩ := Option.bind_eq_some_iff.1 H1
                      refine wbn rfl (by kernel_rfl) rfl rfl (stp_storeA [(bp g24), (bp g15)] [(bp gio0)] rfl A98 rfl rfl (lenA_eq hc41) (lenA_eq hc6) o10 one_u32 ?_)
                      intro w40 o40 g40 l40
                      have eb42 := EB.trans eb38 (EB.own eb38.1 g40 (fun k hk => Nat.le_trans eb8.1 (n10 k hk)))
                      replace o31 := o31.other g40 q27.symm
                      replace o36 := o36.other g40 q17.symm
                      replace hio0 := hio0.other g40 q12
                      have e43 := e39.grown g40 n14
                      refine wsB_nil ?_
                      refine wt_fin ?_
                      obtain rfl := Option.some.inj H1
                      exact ⟨g24, g15, g10, rfl, rfl, rfl, rfl, rfl, e43, hio0, NS.own, o31, n30, o36, n20, o40, n14, q28, q18, q12, q26.symm, q27.symm, q17.symm⟩
                    · refine wrB_br ?_ ?_
                      · refine wbs rfl rfl rfl (stp_allocL (z := (ag u32 ((List.replicate 64 (0 : UInt32))))) (cs := (ac u32 ((List.replicate 64 (0 : UInt32))))) [(bp g15), (bp g10), (bp gio0)] rfl Z69 rfl ?_)
                        intro g21 w21 o21 n21 g21r l21
                        refine ⟨(EB.ext eb16.1 (grown_ext g21r)), ?_⟩
                        have x21 := grown_ext g21r
                        have eb22 := EB.trans eb16 (EB.ext eb16.1 x21)
                        have q23 : Nq (bp g15) (bp g21) := o15.nq n21
                        have q24 : Nq (bp g10) (bp g21) := o10.nq n21
                        have q25 : Nq (bp gio0) (bp g21) := hio0.nq n21
                        replace o15 := o15.ext x21
                        replace o10 := o10.ext x21
                        replace hio0 := hio0.ext x21
                        have n27 := NS.ext e19 n21
                        have e26 := e19.trans x21
                        obtain ⟨r28, hr28, H1⟩ := Option.bind_eq_some_iff.1 H1
                        refine wbs rfl rfl rfl (stp_call (vs := []) Try.func78 rfl rfl rfl (ar0 ) (hash_constants_calls   r28 _  hr28) ?_)
                        rintro _ w28 ⟨rfl, x28⟩
                        refine ⟨_, rfl, (EB.ext eb22.1 x28), ?_⟩
                        have eb29 := EB.trans eb22 (EB.ext eb22.1 x28)
                        replace o21 := o21.ext x28
                        replace o15 := o15.ext x28
                        replace o10 := o10.ext x28
                        replace hio0 := hio0.ext x28
                        have e30 := e26.trans x28
                        obtain ⟨c32, hc32, H1⟩ := Option.bind_eq_some_iff.1 H1
                        obtain ⟨c33, hc33, H1⟩ := Option.bind_eq_some_iff.1 H1
                        refine wbm rfl rfl rfl (stp_storeA [] [(bp g15), (bp g10), (bp gio0)] rfl A69 rfl rfl (lenA_eq hc32) (lenA_eq hc33) o21 one_u32 ?_)
                        intro w31 o31 g31 l31
                        refine ⟨(EB.own eb29.1 g31 (fun k hk => Nat.le_trans eb16.1 (n21 k hk))), ?_⟩
                        have eb34 := EB.trans eb29 (EB.own eb29.1 g31 (fun k hk => Nat.le_trans eb16.1 (n21 k hk)))
                        replace o15 := o15.other g31 q23
                        replace o10 := o10.other g31 q24
                        replace hio0 := hio0.other g31 q25
                        have e35 := e30.grown g31 n27
                        obtain ⟨c37, hc37, H1⟩ := Option.bind_eq_some_iff.1 H1
                        refine wbm rfl rfl rfl (stp_storeA [(bp g21)] [(bp g10), (bp gio0)] rfl A69 rfl rfl (lenA_eq hc32) (lenA_eq hc37) o15 one_u32 ?_)
                        intro w36 o36 g36 l36
                        refine ⟨(EB.own eb34.1 g36 (fun k hk => Nat.le_trans eb11.1 (n15 k hk))), ?_⟩
                        have eb38 := EB.trans eb34 (EB.own eb34.1 g36 (fun k hk => Nat.le_trans eb11.1 (n15 k hk)))
                        replace o31 := o31.other g36 q23.symm
                        replace o10 := o10.other g36 q17
                        replace hio0 := hio0.other g36 q18
                        have e39 := e35.grown g36 n20
                        obtain ⟨c41, hc41, H1⟩ := Option.bind_eq_some_iff.1 H1
                        refine wbn rfl (by kernel_rfl) rfl rfl (stp_storeA [(bp g21), (bp g15)] [(bp gio0)] rfl A98 rfl rfl (lenA_eq hc41) (lenA_eq hc6) o10 one_u32 ?_)
                        intro w40 o40 g40 l40
                        have eb42 := EB.trans eb38 (EB.own eb38.1 g40 (fun k hk => Nat.le_trans eb8.1 (n10 k hk)))
                        replace o31 := o31.other g40 q24.symm
                        replace o36 := o36.other g40 q17.symm
                        replace hio0 := hio0.other g40 q12
                        have e43 := e39.grown g40 n14
                        refine wsB_nil ?_
                        refine wt_fin ?_
                        obtain rfl := Option.some.inj H1
                        exact ⟨g21, g15, g10, rfl, rfl, rfl, rfl, rfl, e43, hio0, NS.own, o31, n27, o36, n20, o40, n14, q25, q18, q12, q23.symm, q24.symm, q17.symm⟩
                      · trivial
                  · trivial
            · trivial
    · refine wrB_br ?_ ?_
      · refine wbs rfl rfl rfl (stp_allocL (z := (ag u32 ((List.replicate 64 (0 : UInt32))))) (cs := (ac u32 ((List.replicate 64 (0 : UInt32))))) [(bp gio0)] rfl Z69 rfl ?_)
        intro g7 w7 o7 n7 g7r l7
        refine ⟨(EB.ext eb4.1 (grown_ext g7r)), ?_⟩
        have x7 := grown_ext g7r
        have eb8 := EB.trans eb4 (EB.ext eb4.1 x7)
        have q9 : Nq (bp gio0) (bp g7) := hio0.nq n7
        replace hio0 := hio0.ext x7
        have n11 := NS.ext e3 n7
        have e10 := e3.trans x7
        refine wsB_nil ?_
        refine wt_br ?_
        refine wrB_br ?_ ?_
        · obtain ⟨r12, hr12, H1⟩ := Option.bind_eq_some_iff.1 H1
          refine wbs rfl rfl rfl (stp_call (vs := [p1]) Try.func77 rfl rfl rfl (ar1 rfl) (hash_plan_calls a1p p1 r12 _ (hp1.lift (Lift.exg0 e10)) hr12) ?_)
          rintro _ w12 ⟨rfl, x12⟩
          refine ⟨_, rfl, (EB.ext eb8.1 x12), ?_⟩
          have eb13 := EB.trans eb8 (EB.ext eb8.1 x12)
          replace o7 := o7.ext x12
          replace hio0 := hio0.ext x12
          have e14 := e10.trans x12
          refine wsB_nil ?_
          refine wt_br ?_
          refine wrB_br ?_ ?_
          · obtain ⟨r15, hr15, H1⟩ := Option.bind_eq_some_iff.1 H1
            refine wbs rfl rfl rfl (stp_call (vs := []) Try.func78 rfl rfl rfl (ar0 ) (hash_constants_calls   r15 _  hr15) ?_)
            rintro _ w15 ⟨rfl, x15⟩
            refine ⟨_, rfl, (EB.ext eb13.1 x15), ?_⟩
            have eb16 := EB.trans eb13 (EB.ext eb13.1 x15)
            replace o7 := o7.ext x15
            replace hio0 := hio0.ext x15
            have e17 := e14.trans x15
            refine wsB_nil ?_
            refine wt_br ?_
            refine wrB_br ?_ ?_
            · refine wbs rfl rfl rfl (stp_allocL (z := (ag u32 ((List.replicate 64 (0 : UInt32))))) (cs := (ac u32 ((List.replicate 64 (0 : UInt32))))) [(bp g7), (bp gio0)] rfl Z69 rfl ?_)
              intro g18 w18 o18 n18 g18r l18
              refine ⟨(EB.ext eb16.1 (grown_ext g18r)), ?_⟩
              have x18 := grown_ext g18r
              have eb19 := EB.trans eb16 (EB.ext eb16.1 x18)
              have q20 : Nq (bp g7) (bp g18) := o7.nq n18
              have q21 : Nq (bp gio0) (bp g18) := hio0.nq n18
              replace o7 := o7.ext x18
              replace hio0 := hio0.ext x18
              have n23 := NS.ext e17 n18
              have e22 := e17.trans x18
              refine wbs rfl rfl rfl (stp_allocL (z := (ag u32 ((List.replicate 8 (0 : UInt32))))) (cs := (ac u32 ((List.replicate 8 (0 : UInt32))))) [(bp g18), (bp g7), (bp gio0)] rfl Z98 rfl ?_)
              intro g24 w24 o24 n24 g24r l24
              refine ⟨(EB.ext eb19.1 (grown_ext g24r)), ?_⟩
              have x24 := grown_ext g24r
              have eb25 := EB.trans eb19 (EB.ext eb19.1 x24)
              have q26 : Nq (bp g18) (bp g24) := o18.nq n24
              have q27 : Nq (bp g7) (bp g24) := o7.nq n24
              have q28 : Nq (bp gio0) (bp g24) := hio0.nq n24
              replace o18 := o18.ext x24
              replace o7 := o7.ext x24
              replace hio0 := hio0.ext x24
              have n30 := NS.ext e22 n24
              have e29 := e22.trans x24
              obtain ⟨c32, hc32, H1⟩ := Option.bind_eq_some_iff.1 H1
              obtain ⟨c33, hc33, H1⟩ := Option.bind_eq_some_iff.1 H1
              refine wbm rfl rfl rfl (stp_storeA [(bp g24), (bp g18)] [(bp gio0)] rfl A69 rfl rfl (lenA_eq hc32) (lenA_eq hc33) o7 one_u32 ?_)
              intro w31 o31 g31 l31
              refine ⟨(EB.own eb25.1 g31 (fun k hk => Nat.le_trans eb4.1 (n7 k hk))), ?_⟩
              have eb34 := EB.trans eb25 (EB.own eb25.1 g31 (fun k hk => Nat.le_trans eb4.1 (n7 k hk)))
              replace o24 := o24.other g31 q27.symm
              replace o18 := o18.other g31 q20.symm
              replace hio0 := hio0.other g31 q9
              have e35 := e29.grown g31 n11
              obtain ⟨c37, hc37, H1⟩ := Option.bind_eq_some_iff.1 H1
              refine wbm rfl rfl rfl (stp_storeA [(bp g24)] [(bp g7), (bp gio0)] rfl A69 rfl rfl (lenA_eq hc32) (lenA_eq hc37) o18 one_u32 ?_)
              intro w36 o36 g36 l36
              refine ⟨(EB.own eb34.1 g36 (fun k hk => Nat.le_trans eb16.1 (n18 k hk))), ?_⟩
              have eb38 := EB.trans eb34 (EB.own eb34.1 g36 (fun k hk => Nat.le_trans eb16.1 (n18 k hk)))
              replace o24 := o24.other g36 q26.symm
              replace o31 := o31.other g36 q20
              replace hio0 := hio0.other g36 q21
              have e39 := e35.grown g36 n23
              obtain ⟨c41, hc41, H1⟩ := Option.bind_eq_some_iff.1 H1
              refine wbn rfl (by kernel_rfl) rfl rfl (stp_storeA [] [(bp g18), (bp g7), (bp gio0)] rfl A98 rfl rfl (lenA_eq hc41) (lenA_eq hc6) o24 one_u32 ?_)
              intro w40 o40 g40 l40
              have eb42 := EB.trans eb38 (EB.own eb38.1 g40 (fun k hk => Nat.le_trans eb19.1 (n24 k hk)))
              replace o36 := o36.other g40 q26
              replace o31 := o31.other g40 q27
              replace hio0 := hio0.other g40 q28
              have e43 := e39.grown g40 n30
              refine wsB_nil ?_
              refine wt_fin ?_
              obtain rfl := Option.some.inj H1
              exact ⟨g7, g18, g24, rfl, rfl, rfl, rfl, rfl, e43, hio0, NS.own, o31, n11, o36, n23, o40, n30, q9, q21, q28, q20, q27, q26⟩
            · refine wrB_br ?_ ?_
              · refine wbs rfl rfl rfl (stp_allocL (z := (ag u32 ((List.replicate 8 (0 : UInt32))))) (cs := (ac u32 ((List.replicate 8 (0 : UInt32))))) [(bp g7), (bp gio0)] rfl Z98 rfl ?_)
                intro g18 w18 o18 n18 g18r l18
                refine ⟨(EB.ext eb16.1 (grown_ext g18r)), ?_⟩
                have x18 := grown_ext g18r
                have eb19 := EB.trans eb16 (EB.ext eb16.1 x18)
                have q20 : Nq (bp g7) (bp g18) := o7.nq n18
                have q21 : Nq (bp gio0) (bp g18) := hio0.nq n18
                replace o7 := o7.ext x18
                replace hio0 := hio0.ext x18
                have n23 := NS.ext e17 n18
                have e22 := e17.trans x18
                refine wbs rfl rfl rfl (stp_allocL (z := (ag u32 ((List.replicate 64 (0 : UInt32))))) (cs := (ac u32 ((List.replicate 64 (0 : UInt32))))) [(bp g18), (bp g7), (bp gio0)] rfl Z69 rfl ?_)
                intro g24 w24 o24 n24 g24r l24
                refine ⟨(EB.ext eb19.1 (grown_ext g24r)), ?_⟩
                have x24 := grown_ext g24r
                have eb25 := EB.trans eb19 (EB.ext eb19.1 x24)
                have q26 : Nq (bp g18) (bp g24) := o18.nq n24
                have q27 : Nq (bp g7) (bp g24) := o7.nq n24
                have q28 : Nq (bp gio0) (bp g24) := hio0.nq n24
                replace o18 := o18.ext x24
                replace o7 := o7.ext x24
                replace hio0 := hio0.ext x24
                have n30 := NS.ext e22 n24
                have e29 := e22.trans x24
                obtain ⟨c32, hc32, H1⟩ := Option.bind_eq_some_iff.1 H1
                obtain ⟨c33, hc33, H1⟩ := Option.bind_eq_some_iff.1 H1
                refine wbm rfl rfl rfl (stp_storeA [(bp g24), (bp g18)] [(bp gio0)] rfl A69 rfl rfl (lenA_eq hc32) (lenA_eq hc33) o7 one_u32 ?_)
                intro w31 o31 g31 l31
                refine ⟨(EB.own eb25.1 g31 (fun k hk => Nat.le_trans eb4.1 (n7 k hk))), ?_⟩
                have eb34 := EB.trans eb25 (EB.own eb25.1 g31 (fun k hk => Nat.le_trans eb4.1 (n7 k hk)))
                replace o24 := o24.other g31 q27.symm
                replace o18 := o18.other g31 q20.symm
                replace hio0 := hio0.other g31 q9
                have e35 := e29.grown g31 n11
                obtain ⟨c37, hc37, H1⟩ := Option.bind_eq_some_iff.1 H1
                refine wbm rfl rfl rfl (stp_storeA [] [(bp g18), (bp g7), (bp gio0)] rfl A69 rfl rfl (lenA_eq hc32) (lenA_eq hc37) o24 one_u32 ?_)
                intro w36 o36 g36 l36
                refine ⟨(EB.own eb34.1 g36 (fun k hk => Nat.le_trans eb19.1 (n24 k hk))), ?_⟩
                have eb38 := EB.trans eb34 (EB.own eb34.1 g36 (fun k hk => Nat.le_trans eb19.1 (n24 k hk)))
                replace o18 := o18.other g36 q26
                replace o31 := o31.other g36 q27
                replace hio0 := hio0.other g36 q28
                have e39 := e35.grown g36 n30
                obtain ⟨c41, hc41, H1⟩ := Option.bind_eq_some_iff.1 H1
                refine wbn rfl (by kernel_rfl) rfl rfl (stp_storeA [(bp g24)] [(bp g7), (bp gio0)] rfl A98 rfl rfl (lenA_eq hc41) (lenA_eq hc6) o18 one_u32 ?_)
                intro w40 o40 g40 l40
                have eb42 := EB.trans eb38 (EB.own eb38.1 g40 (fun k hk => Nat.le_trans eb16.1 (n18 k hk)))
                replace o36 := o36.other g40 q26.symm
                replace o31 := o31.other g40 q20
                replace hio0 := hio0.other g40 q21
                have e43 := e39.grown g40 n23
                refine wsB_nil ?_
                refine wt_fin ?_
                obtain rfl := Option.some.inj H1
                exact ⟨g7, g24, g18, rfl, rfl, rfl, rfl, rfl, e43, hio0, NS.own, o31, n11, o36, n30, o40, n23, q9, q28, q21, q27, q20, q26.symm⟩
              · trivial
          · refine wrB_br ?_ ?_
            · refine wbs rfl rfl rfl (stp_allocL (z := (ag u32 ((List.replicate 64 (0 : UInt32))))) (cs := (ac u32 ((List.replicate 64 (0 : UInt32))))) [(bp g7), (bp gio0)] rfl Z69 rfl ?_)
              intro g15 w15 o15 n15 g15r l15
              refine ⟨(EB.ext eb13.1 (grown_ext g15r)), ?_⟩
              have x15 := grown_ext g15r
              have eb16 := EB.trans eb13 (EB.ext eb13.1 x15)
              have q17 : Nq (bp g7) (bp g15) := o7.nq n15
              have q18 : Nq (bp gio0) (bp g15) := hio0.nq n15
              replace o7 := o7.ext x15
              replace hio0 := hio0.ext x15
              have n20 := NS.ext e14 n15
              have e19 := e14.trans x15
              refine wsB_nil ?_
              refine wt_br ?_
              refine wrB_br ?_ ?_
              · obtain ⟨r21, hr21, H1⟩ := Option.bind_eq_some_iff.1 H1
                refine wbs rfl rfl rfl (stp_call (vs := []) Try.func78 rfl rfl rfl (ar0 ) (hash_constants_calls   r21 _  hr21) ?_)
                rintro _ w21 ⟨rfl, x21⟩
                refine ⟨_, rfl, (EB.ext eb16.1 x21), ?_⟩
                have eb22 := EB.trans eb16 (EB.ext eb16.1 x21)
                replace o15 := o15.ext x21
                replace o7 := o7.ext x21
                replace hio0 := hio0.ext x21
                have e23 := e19.trans x21
                refine wbs rfl rfl rfl (stp_allocL (z := (ag u32 ((List.replicate 8 (0 : UInt32))))) (cs := (ac u32 ((List.replicate 8 (0 : UInt32))))) [(bp g15), (bp g7), (bp gio0)] rfl Z98 rfl ?_)
                intro g24 w24 o24 n24 g24r l24
                refine ⟨(EB.ext eb22.1 (grown_ext g24r)), ?_⟩
                have x24 := grown_ext g24r
                have eb25 := EB.trans eb22 (EB.ext eb22.1 x24)
                have q26 : Nq (bp g15) (bp g24) := o15.nq n24
                have q27 : Nq (bp g7) (bp g24) := o7.nq n24
                have q28 : Nq (bp gio0) (bp g24) := hio0.nq n24
                replace o15 := o15.ext x24
                replace o7 := o7.ext x24
                replace hio0 := hio0.ext x24
                have n30 := NS.ext e23 n24
                have e29 := e23.trans x24
                obtain ⟨c32, hc32, H1⟩ := Option.bind_eq_some_iff.1 H1
                obtain ⟨c33, hc33, H1⟩ := Option.bind_eq_some_iff.1 H1
                refine wbm rfl rfl rfl (stp_storeA [(bp g24), (bp g15)] [(bp gio0)] rfl A69 rfl rfl (lenA_eq hc32) (lenA_eq hc33) o7 one_u32 ?_)
                intro w31 o31 g31 l31
                refine ⟨(EB.own eb25.1 g31 (fun k hk => Nat.le_trans eb4.1 (n7 k hk))), ?_⟩
                have eb34 := EB.trans eb25 (EB.own eb25.1 g31 (fun k hk => Nat.le_trans eb4.1 (n7 k hk)))
                replace o24 := o24.other g31 q27.symm
                replace o15 := o15.other g31 q17.symm
                replace hio0 := hio0.other g31 q9
                have e35 := e29.grown g31 n11
                obtain ⟨c37, hc37, H1⟩ := Option.bind_eq_some_iff.1 H1
                refine wbm rfl rfl rfl (stp_storeA [(bp g24)] [(bp g7), (bp gio0)] rfl A69 rfl rfl (lenA_eq hc32) (lenA_eq hc37) o15 one_u32 ?_)
                intro w36 o36 g36 l36
                refine ⟨(EB.own eb34.1 g36 (fun k hk => Nat.le_trans eb13.1 (n15 k hk))), ?_⟩
                have eb38 := EB.trans eb34 (EB.own eb34.1 g36 (fun k hk => Nat.le_trans eb13.1 (n15 k hk)))
                replace o24 := o24.other g36 q26.symm
                replace o31 := o31.other g36 q17
                replace hio0 := hio0.other g36 q18
                have e39 := e35.grown g36 n20
                obtain ⟨c41, hc41, H1⟩ := Option.bind_eq_some_iff.1 H1
                refine wbn rfl (by kernel_rfl) rfl rfl (stp_storeA [] [(bp g15), (bp g7), (bp gio0)] rfl A98 rfl rfl (lenA_eq hc41) (lenA_eq hc6) o24 one_u32 ?_)
                intro w40 o40 g40 l40
                have eb42 := EB.trans eb38 (EB.own eb38.1 g40 (fun k hk => Nat.le_trans eb22.1 (n24 k hk)))
                replace o36 := o36.other g40 q26
                replace o31 := o31.other g40 q27
                replace hio0 := hio0.other g40 q28
                have e43 := e39.grown g40 n30
                refine wsB_nil ?_
                refine wt_fin ?_
                obtain rfl := Option.some.inj H1
                exact ⟨g7, g15, g24, rfl, rfl, rfl, rfl, rfl, e43, hio0, NS.own, o31, n11, o36, n20, o40, n30, q9, q18, q28, q17, q27, q26⟩
              · refine wrB_br ?_ ?_
                · refine wbs rfl rfl rfl (stp_allocL (z := (ag u32 ((List.replicate 8 (0 : UInt32))))) (cs := (ac u32 ((List.replicate 8 (0 : UInt32))))) [(bp g15), (bp g7), (bp gio0)] rfl Z98 rfl ?_)
                  intro g21 w21 o21 n21 g21r l21
                  refine ⟨(EB.ext eb16.1 (grown_ext g21r)), ?_⟩
                  have x21 := grown_ext g21r
                  have eb22 := EB.trans eb16 (EB.ext eb16.1 x21)
                  have q23 : Nq (bp g15) (bp g21) := o15.nq n21
                  have q24 : Nq (bp g7) (bp g21) := o7.nq n21
                  have q25 : Nq (bp gio0) (bp g21) := hio0.nq n21
                  replace o15 := o15.ext x21
                  replace o7 := o7.ext x21
                  replace hio0 := hio0.ext x21
                  have n27 := NS.ext e19 n21
                  have e26 := e19.trans x21
                  obtain ⟨r28, hr28, H1⟩ := Option.bind_eq_some_iff.1 H1
                  refine wbs rfl rfl rfl (stp_call (vs := []) Try.func78 rfl rfl rfl (ar0 ) (hash_constants_calls   r28 _  hr28) ?_)
                  rintro _ w28 ⟨rfl, x28⟩
                  refine ⟨_, rfl, (EB.ext eb22.1 x28), ?_⟩
                  have eb29 := EB.trans eb22 (EB.ext eb22.1 x28)
                  replace o21 := o21.ext x28
                  replace o15 := o15.ext x28
                  replace o7 := o7.ext x28
                  replace hio0 := hio0.ext x28
                  have e30 := e26.trans x28
                  obtain ⟨c32, hc32, H1⟩ := Option.bind_eq_some_iff.1 H1
                  obtain ⟨c33, hc33, H1⟩ := Option.bind_eq_some_iff.1 H1
                  refine wbm rfl rfl rfl (stp_storeA [(bp g21), (bp g15)] [(bp gio0)] rfl A69 rfl rfl (lenA_eq hc32) (lenA_eq hc33) o7 one_u32 ?_)
                  intro w31 o31 g31 l31
                  refine ⟨(EB.own eb29.1 g31 (fun k hk => Nat.le_trans eb4.1 (n7 k hk))), ?_⟩
                  have eb34 := EB.trans eb29 (EB.own eb29.1 g31 (fun k hk => Nat.le_trans eb4.1 (n7 k hk)))
                  replace o21 := o21.other g31 q24.symm
                  replace o15 := o15.other g31 q17.symm
                  replace hio0 := hio0.other g31 q9
                  have e35 := e30.grown g31 n11
                  obtain ⟨c37, hc37, H1⟩ := Option.bind_eq_some_iff.1 H1
                  refine wbm rfl rfl rfl (stp_storeA [(bp g21)] [(bp g7), (bp gio0)] rfl A69 rfl rfl (lenA_eq hc32) (lenA_eq hc37) o15 one_u32 ?_)
                  intro w36 o36 g36 l36
                  refine ⟨(EB.own eb34.1 g36 (fun k hk => Nat.le_trans eb13.1 (n15 k hk))), ?_⟩
                  have eb38 := EB.trans eb34 (EB.own eb34.1 g36 (fun k hk => Nat.le_trans eb13.1 (n15 k hk)))
                  replace o21 := o21.other g36 q23.symm
                  replace o31 := o31.other g36 q17
                  replace hio0 := hio0.other g36 q18
                  have e39 := e35.grown g36 n20
                  obtain ⟨c41, hc41, H1⟩ := Option.bind_eq_some_iff.1 H1
                  refine wbn rfl (by kernel_rfl) rfl rfl (stp_storeA [] [(bp g15), (bp g7), (bp gio0)] rfl A98 rfl rfl (lenA_eq hc41) (lenA_eq hc6) o21 one_u32 ?_)
                  intro w40 o40 g40 l40
                  have eb42 := EB.trans eb38 (EB.own eb38.1 g40 (fun k hk => Nat.le_trans eb16.1 (n21 k hk)))
                  replace o36 := o36.other g40 q23
                  replace o31 := o31.other g40 q24
                  replace hio0 := hio0.other g40 q25
                  have e43 := e39.grown g40 n27
                  refine wsB_nil ?_
                  refine wt_fin ?_
                  obtain rfl := Option.some.inj H1
                  exact ⟨g7, g15, g21, rfl, rfl, rfl, rfl, rfl, e43, hio0, NS.own, o31, n11, o36, n20, o40, n27, q9, q18, q25, q17, q24, q23⟩
                · trivial
            · refine wrB_br ?_ ?_
              · refine wbs rfl rfl rfl (stp_allocL (z := (ag u32 ((List.replicate 8 (0 : UInt32))))) (cs := (ac u32 ((List.replicate 8 (0 : UInt32))))) [(bp g7), (bp gio0)] rfl Z98 rfl ?_)
                intro g15 w15 o15 n15 g15r l15
                refine ⟨(EB.ext eb13.1 (grown_ext g15r)), ?_⟩
                have x15 := grown_ext g15r
                have eb16 := EB.trans eb13 (EB.ext eb13.1 x15)
                have q17 : Nq (bp g7) (bp g15) := o7.nq n15
                have q18 : Nq (bp gio0) (bp g15) := hio0.nq n15
                replace o7 := o7.ext x15
                replace hio0 := hio0.ext x15
                have n20 := NS.ext e14 n15
                have e19 := e14.trans x15
                refine wsB_nil ?_
                refine wt_br ?_
                refine wrB_br ?_ ?_
                · obtain ⟨r21, hr21, H1⟩ := Option.bind_eq_some_iff.1 H1
                  refine wbs rfl rfl rfl (stp_call (vs := []) Try.func78 rfl rfl rfl (ar0 ) (hash_constants_calls   r21 _  hr21) ?_)
                  rintro _ w21 ⟨rfl, x21⟩
                  refine ⟨_, rfl, (EB.ext eb16.1 x21), ?_⟩
                  have eb22 := EB.trans eb16 (EB.ext eb16.1 x21)
                  replace o15 := o15.ext x21
                  replace o7 := o7.ext x21
                  replace hio0 := hio0.ext x21
                  have e23 := e19.trans x21
                  refine wbs rfl rfl rfl (stp_allocL (z := (ag u32 ((List.replicate 64 (0 : UInt32))))) (cs := (ac u32 ((List.replicate 64 (0 : UInt32))))) [(bp g15), (bp g7), (bp gio0)] rfl Z69 rfl ?_)
                  intro g24 w24 o24 n24 g24r l24
                  refine ⟨(EB.ext eb22.1 (grown_ext g24r)), ?_⟩
                  have x24 := grown_ext g24r
                  have eb25 := EB.trans eb22 (EB.ext eb22.1 x24)
                  have q26 : Nq (bp g15) (bp g24) := o15.nq n24
                  have q27 : Nq (bp g7) (bp g24) := o7.nq n24
                  have q28 : Nq (bp gio0) (bp g24) := hio0.nq n24
                  replace o15 := o15.ext x24
                  replace o7 := o7.ext x24
                  replace hio0 := hio0.ext x24
                  have n30 := NS.ext e23 n24
                  have e29 := e23.trans x24
                  obtain ⟨c32, hc32, H1⟩ := Option.bind_eq_some_iff.1 H1
                  obtain ⟨c33, hc33, H1⟩ := Option.bind_eq_some_iff.1 H1
                  refine wbm rfl rfl rfl (stp_storeA [(bp g24), (bp g15)] [(bp gio0)] rfl A69 rfl rfl (lenA_eq hc32) (lenA_eq hc33) o7 one_u32 ?_)
                  intro w31 o31 g31 l31
                  refine ⟨(EB.own eb25.1 g31 (fun k hk => Nat.le_trans eb4.1 (n7 k hk))), ?_⟩
                  have eb34 := EB.trans eb25 (EB.own eb25.1 g31 (fun k hk => Nat.le_trans eb4.1 (n7 k hk)))
                  replace o24 := o24.other g31 q27.symm
                  replace o15 := o15.other g31 q17.symm
                  replace hio0 := hio0.other g31 q9
                  have e35 := e29.grown g31 n11
                  obtain ⟨c37, hc37, H1⟩ := Option.bind_eq_some_iff.1 H1
                  refine wbm rfl rfl rfl (stp_storeA [] [(bp g15), (bp g7), (bp gio0)] rfl A69 rfl rfl (lenA_eq hc32) (lenA_eq hc37) o24 one_u32 ?_)
                  intro w36 o36 g36 l36
                  refine ⟨(EB.own eb34.1 g36 (fun k hk => Nat.le_trans eb22.1 (n24 k hk))), ?_⟩
                  have eb38 := EB.trans eb34 (EB.own eb34.1 g36 (fun k hk => Nat.le_trans eb22.1 (n24 k hk)))
                  replace o15 := o15.other g36 q26
                  replace o31 := o31.other g36 q27
                  replace hio0 := hio0.other g36 q28
                  have e39 := e35.grown g36 n30
                  obtain ⟨c41, hc41, H1⟩ := Option.bind_eq_some_iff.1 H1
                  refine wbn rfl (by kernel_rfl) rfl rfl (stp_storeA [(bp g24)] [(bp g7), (bp gio0)] rfl A98 rfl rfl (lenA_eq hc41) (lenA_eq hc6) o15 one_u32 ?_)
                  intro w40 o40 g40 l40
                  have eb42 := EB.trans eb38 (EB.own eb38.1 g40 (fun k hk => Nat.le_trans eb13.1 (n15 k hk)))
                  replace o36 := o36.other g40 q26.symm
                  replace o31 := o31.other g40 q17
                  replace hio0 := hio0.other g40 q18
                  have e43 := e39.grown g40 n20
                  refine wsB_nil ?_
                  refine wt_fin ?_
                  obtain rfl := Option.some.inj H1
                  exact ⟨g7, g24, g15, rfl, rfl, rfl, rfl, rfl, e43, hio0, NS.own, o31, n11, o36, n30, o40, n20, q9, q28, q18, q27, q17, q26.symm⟩
                · refine wrB_br ?_ ?_
                  · refine wbs rfl rfl rfl (stp_allocL (z := (ag u32 ((List.replicate 64 (0 : UInt32))))) (cs := (ac u32 ((List.replicate 64 (0 : UInt32))))) [(bp g15), (bp g7), (bp gio0)] rfl Z69 rfl ?_)
                    intro g21 w21 o21 n21 g21r l21
                    refine ⟨(EB.ext eb16.1 (grown_ext g21r)), ?_⟩
                    have x21 := grown_ext g21r
                    have eb22 := EB.trans eb16 (EB.ext eb16.1 x21)
                    have q23 : Nq (bp g15) (bp g21) := o15.nq n21
                    have q24 : Nq (bp g7) (bp g21) := o7.nq n21
                    have q25 : Nq (bp gio0) (bp g21) := hio0.nq n21
                    replace o15 := o15.ext x21
                    replace o7 := o7.ext x21
                    replace hio0 := hio0.ext x21
                    have n27 := NS.ext e19 n21
                    have e26 := e19.trans x21
                    obtain ⟨r28, hr28, H1⟩ := Option.bind_eq_some_iff.1 H1
                    refine wbs rfl rfl rfl (stp_call (vs := []) Try.func78 rfl rfl rfl (ar0 ) (hash_constants_calls   r28 _  hr28) ?_)
                    rintro _ w28 ⟨rfl, x28⟩
                    refine ⟨_, rfl, (EB.ext eb22.1 x28), ?_⟩
                    have eb29 := EB.trans eb22 (EB.ext eb22.1 x28)
                    replace o21 := o21.ext x28
                    replace o15 := o15.ext x28
                    replace o7 := o7.ext x28
                    replace hio0 := hio0.ext x28
                    have e30 := e26.trans x28
                    obtain ⟨c32, hc32, H1⟩ := Option.bind_eq_some_iff.1 H1
                    obtain ⟨c33, hc33, H1⟩ := Option.bind_eq_some_iff.1 H1
                    refine wbm rfl rfl rfl (stp_storeA [(bp g21), (bp g15)] [(bp gio0)] rfl A69 rfl rfl (lenA_eq hc32) (lenA_eq hc33) o7 one_u32 ?_)
                    intro w31 o31 g31 l31
                    refine ⟨(EB.own eb29.1 g31 (fun k hk => Nat.le_trans eb4.1 (n7 k hk))), ?_⟩
                    have eb34 := EB.trans eb29 (EB.own eb29.1 g31 (fun k hk => Nat.le_trans eb4.1 (n7 k hk)))
                    replace o21 := o21.other g31 q24.symm
                    replace o15 := o15.other g31 q17.symm
                    replace hio0 := hio0.other g31 q9
                    have e35 := e30.grown g31 n11
                    obtain ⟨c37, hc37, H1⟩ := Option.bind_eq_some_iff.1 H1
                    refine wbm rfl rfl rfl (stp_storeA [] [(bp g15), (bp g7), (bp gio0)] rfl A69 rfl rfl (lenA_eq hc32) (lenA_eq hc37) o21 one_u32 ?_)
                    intro w36 o36 g36 l36
                    refine ⟨(EB.own eb34.1 g36 (fun k hk => Nat.le_trans eb16.1 (n21 k hk))), ?_⟩
                    have eb38 := EB.trans eb34 (EB.own eb34.1 g36 (fun k hk => Nat.le_trans eb16.1 (n21 k hk)))
                    replace o15 := o15.other g36 q23
                    replace o31 := o31.other g36 q24
                    replace hio0 := hio0.other g36 q25
                    have e39 := e35.grown g36 n27
                    obtain ⟨c41, hc41, H1⟩ := Option.bind_eq_some_iff.1 H1
                    refine wbn rfl (by kernel_rfl) rfl rfl (stp_storeA [(bp g21)] [(bp g7), (bp gio0)] rfl A98 rfl rfl (lenA_eq hc41) (lenA_eq hc6) o15 one_u32 ?_)
                    intro w40 o40 g40 l40
                    have eb42 := EB.trans eb38 (EB.own eb38.1 g40 (fun k hk => Nat.le_trans eb13.1 (n15 k hk)))
                    replace o36 := o36.other g40 q23.symm
                    replace o31 := o31.other g40 q17
                    replace hio0 := hio0.other g40 q18
                    have e43 := e39.grown g40 n20
                    refine wsB_nil ?_
                    refine wt_fin ?_
                    obtain rfl := Option.some.inj H1
                    exact ⟨g7, g21, g15, rfl, rfl, rfl, rfl, rfl, e43, hio0, NS.own, o31, n11, o36, n27, o40, n20, q9, q25, q18, q24, q17, q23.symm⟩
                  · trivial
              · trivial
        · refine wrB_br ?_ ?_
          · refine wbs rfl rfl rfl (stp_allocL (z := (ag u32 ((List.replicate 64 (0 : UInt32))))) (cs := (ac u32 ((List.replicate 64 (0 : UInt32))))) [(bp g7), (bp gio0)] rfl Z69 rfl ?_)
            intro g12 w12 o12 n12 g12r l12
            refine ⟨(EB.ext eb8.1 (grown_ext g12r)), ?_⟩
            have x12 := grown_ext g12r
            have eb13 := EB.trans eb8 (EB.ext eb8.1 x12)
            have q14 : Nq (bp g7) (bp g12) := o7.nq n12
            have q15 : Nq (bp gio0) (bp g12) := hio0.nq n12
            replace o7 := o7.ext x12
            replace hio0 := hio0.ext x12
            have n17 := NS.ext e10 n12
            have e16 := e10.trans x12
            refine wsB_nil ?_
            refine wt_br ?_
            refine wrB_br ?_ ?_
            · obtain ⟨r18, hr18, H1⟩ := Option.bind_eq_some_iff.1 H1
              refine wbs rfl rfl rfl (stp_call (vs := [p1]) Try.func77 rfl rfl rfl (ar1 rfl) (hash_plan_calls a1p p1 r18 _ (hp1.lift (Lift.exg0 e16)) hr18) ?_)
              rintro _ w18 ⟨rfl, x18⟩
              refine ⟨_, rfl, (EB.ext eb13.1 x18), ?_⟩
              have eb19 := EB.trans eb13 (EB.ext eb13.1 x18)
              replace o12 := o12.ext x18
              replace o7 := o7.ext x18
              replace hio0 := hio0.ext x18
              have e20 := e16.trans x18
              refine wsB_nil ?_
              refine wt_br ?_
              refine wrB_br ?_ ?_
              · obtain ⟨r21, hr21, H1⟩ := Option.bind_eq_some_iff.1 H1
                refine wbs rfl rfl rfl (stp_call (vs := []) Try.func78 rfl rfl rfl (ar0 ) (hash_constants_calls   r21 _  hr21) ?_)
                rintro _ w21 ⟨rfl, x21⟩
                refine ⟨_, rfl, (EB.ext eb19.1 x21), ?_⟩
                have eb22 := EB.trans eb19 (EB.ext eb19.1 x21)
                replace o12 := o12.ext x21
                replace o7 := o7.ext x21
                replace hio0 := hio0.ext x21
                have e23 := e20.trans x21
                refine wbs rfl rfl rfl (stp_allocL (z := (ag u32 ((List.replicate 8 (0 : UInt32))))) (cs := (ac u32 ((List.replicate 8 (0 : UInt32))))) [(bp g12), (bp g7), (bp gio0)] rfl Z98 rfl ?_)
                intro g24 w24 o24 n24 g24r l24
                refine ⟨(EB.ext eb22.1 (grown_ext g24r)), ?_⟩
                have x24 := grown_ext g24r
                have eb25 := EB.trans eb22 (EB.ext eb22.1 x24)
                have q26 : Nq (bp g12) (bp g24) := o12.nq n24
                have q27 : Nq (bp g7) (bp g24) := o7.nq n24
                have q28 : Nq (bp gio0) (bp g24) := hio0.nq n24
                replace o12 := o12.ext x24
                replace o7 := o7.ext x24
                replace hio0 := hio0.ext x24
                have n30 := NS.ext e23 n24
                have e29 := e23.trans x24
                obtain ⟨c32, hc32, H1⟩ := Option.bind_eq_some_iff.1 H1
                obtain ⟨c33, hc33, H1⟩ := Option.bind_eq_some_iff.1 H1
                refine wbm rfl rfl rfl (stp_storeA [(bp g24), (bp g12)] [(bp gio0)] rfl A69 rfl rfl (lenA_eq hc32) (lenA_eq hc33) o7 one_u32 ?_)
                intro w31 o31 g31 l31
                refine ⟨(EB.own eb25.1 g31 (fun k hk => Nat.le_trans eb4.1 (n7 k hk))), ?_⟩
                have eb34 := EB.trans eb25 (EB.own eb25.1 g31 (fun k hk => Nat.le_trans eb4.1 (n7 k hk)))
                replace o24 := o24.other g31 q27.symm
                replace o12 := o12.other g31 q14.symm
                replace hio0 := hio0.other g31 q9
                have e35 := e29.grown g31 n11
                obtain ⟨c37, hc37, H1⟩ := Option.bind_eq_some_iff.1 H1
                refine wbm rfl rfl rfl (stp_storeA [(bp g24)] [(bp g7), (bp gio0)] rfl A69 rfl rfl (lenA_eq hc32) (lenA_eq hc37) o12 one_u32 ?_)
                intro w36 o36 g36 l36
                refine ⟨(EB.own eb34.1 g36 (fun k hk => Nat.le_trans eb8.1 (n12 k hk))), ?_⟩
                have eb38 := EB.trans eb34 (EB.own eb34.1 g36 (fun k hk => Nat.le_trans eb8.1 (n12 k hk)))
                replace o24 := o24.other g36 q26.symm
                replace o31 := o31.other g36 q14
                replace hio0 := hio0.other g36 q15
                have e39 := e35.grown g36 n17
                obtain ⟨c41, hc41, H1⟩ := Option.bind_eq_some_iff.1 H1
                refine wbn rfl (by kernel_rfl) rfl rfl (stp_storeA [] [(bp g12), (bp g7), (bp gio0)] rfl A98 rfl rfl (lenA_eq hc41) (lenA_eq hc6) o24 one_u32 ?_)
                intro w40 o40 g40 l40
                have eb42 := EB.trans eb38 (EB.own eb38.1 g40 (fun k hk => Nat.le_trans eb22.1 (n24 k hk)))
                replace o36 := o36.other g40 q26
                replace o31 := o31.other g40 q27
                replace hio0 := hio0.other g40 q28
                have e43 := e39.grown g40 n30
                refine wsB_nil ?_
                refine wt_fin ?_
                obtain rfl := Option.some.inj H1
                exact ⟨g7, g12, g24, rfl, rfl, rfl, rfl, rfl, e43, hio0, NS.own, o31, n11, o36, n17, o40, n30, q9, q15, q28, q14, q27, q26⟩
              · refine wrB_br ?_ ?_
                · refine wbs rfl rfl rfl (stp_allocL (z := (ag u32 ((List.replicate 8 (0 : UInt32))))) (cs := (ac u32 ((List.replicate 8 (0 : UInt32))))) [(bp g12), (bp g7), (bp gio0)] rfl Z98 rfl ?_)
                  intro g21 w21 o21 n21 g21r l21
                  refine ⟨(EB.ext eb19.1 (grown_ext g21r)), ?_⟩
                  have x21 := grown_ext g21r
                  have eb22 := EB.trans eb19 (EB.ext eb19.1 x21)
                  have q23 : Nq (bp g12) (bp g21) := o12.nq n21
                  have q24 : Nq (bp g7) (bp g21) := o7.nq n21
                  have q25 : Nq (bp gio0) (bp g21) := hio0.nq n21
                  replace o12 := o12.ext x21
                  replace o7 := o7.ext x21
                  replace hio0 := hio0.ext x21
                  have n27 := NS.ext e20 n21
                  have e26 := e20.trans x21
                  obtain ⟨r28, hr28, H1⟩ := Option.bind_eq_some_iff.1 H1
                  refine wbs rfl rfl rfl (stp_call (vs := []) Try.func78 rfl rfl rfl (ar0 ) (hash_constants_calls   r28 _  hr28) ?_)
                  rintro _ w28 ⟨rfl, x28⟩
                  refine ⟨_, rfl, (EB.ext eb22.1 x28), ?_⟩
                  have eb29 := EB.trans eb22 (EB.ext eb22.1 x28)
                  replace o21 := o21.ext x28
                  replace o12 := o12.ext x28
                  replace o7 := o7.ext x28
                  replace hio0 := hio0.ext x28
                  have e30 := e26.trans x28
                  obtain ⟨c32, hc32, H1⟩ := Option.bind_eq_some_iff.1 H1
                  obtain ⟨c33, hc33, H1⟩ := Option.bind_eq_some_iff.1 H1
                  refine wbm rfl rfl rfl (stp_storeA [(bp g21), (bp g12)] [(bp gio0)] rfl A69 rfl rfl (lenA_eq hc32) (lenA_eq hc33) o7 one_u32 ?_)
                  intro w31 o31 g31 l31
                  refine ⟨(EB.own eb29.1 g31 (fun k hk => Nat.le_trans eb4.1 (n7 k hk))), ?_⟩
                  have eb34 := EB.trans eb29 (EB.own eb29.1 g31 (fun k hk => Nat.le_trans eb4.1 (n7 k hk)))
                  replace o21 := o21.other g31 q24.symm
                  replace o12 := o12.other g31 q14.symm
                  replace hio0 := hio0.other g31 q9
                  have e35 := e30.grown g31 n11
                  obtain ⟨c37, hc37, H1⟩ := Option.bind_eq_some_iff.1 H1
                  refine wbm rfl rfl rfl (stp_storeA [(bp g21)] [(bp g7), (bp gio0)] rfl A69 rfl rfl (lenA_eq hc32) (lenA_eq hc37) o12 one_u32 ?_)
                  intro w36 o36 g36 l36
                  refine ⟨(EB.own eb34.1 g36 (fun k hk => Nat.le_trans eb8.1 (n12 k hk))), ?_⟩
                  have eb38 := EB.trans eb34 (EB.own eb34.1 g36 (fun k hk => Nat.le_trans eb8.1 (n12 k hk)))
                  replace o21 := o21.other g36 q23.symm
                  replace o31 := o31.other g36 q14
                  replace hio0 := hio0.other g36 q15
                  have e39 := e35.grown g36 n17
                  obtain ⟨c41, hc41, H1⟩ := Option.bind_eq_some_iff.1 H1
                  refine wbn rfl (by kernel_rfl) rfl rfl (stp_storeA [] [(bp g12), (bp g7), (bp gio0)] rfl A98 rfl rfl (lenA_eq hc41) (lenA_eq hc6) o21 one_u32 ?_)
                  intro w40 o40 g40 l40
                  have eb42 := EB.trans eb38 (EB.own eb38.1 g40 (fun k hk => Nat.le_trans eb19.1 (n21 k hk)))
                  replace o36 := o36.other g40 q23
                  replace o31 := o31.other g40 q24
                  replace hio0 := hio0.other g40 q25
                  have e43 := e39.grown g40 n27
                  refine wsB_nil ?_
                  refine wt_fin ?_
                  obtain rfl := Option.some.inj H1
                  exact ⟨g7, g12, g21, rfl, rfl, rfl, rfl, rfl, e43, hio0, NS.own, o31, n11, o36, n17, o40, n27, q9, q15, q25, q14, q24, q23⟩
                · trivial
            · refine wrB_br ?_ ?_
              · refine wbs rfl rfl rfl (stp_allocL (z := (ag u32 ((List.replicate 8 (0 : UInt32))))) (cs := (ac u32 ((List.replicate 8 (0 : UInt32))))) [(bp g12), (bp g7), (bp gio0)] rfl Z98 rfl ?_)
                intro g18 w18 o18 n18 g18r l18
                refine ⟨(EB.ext eb13.1 (grown_ext g18r)), ?_⟩
                have x18 := grown_ext g18r
                have eb19 := EB.trans eb13 (EB.ext eb13.1 x18)
                have q20 : Nq (bp g12) (bp g18) := o12.nq n18
                have q21 : Nq (bp g7) (bp g18) := o7.nq n18
                have q22 : Nq (bp gio0) (bp g18) := hio0.nq n18
                replace o12 := o12.ext x18
                replace o7 := o7.ext x18
                replace hio0 := hio0.ext x18
                have n24 := NS.ext e16 n18
                have e23 := e16.trans x18
                obtain ⟨r25, hr25, H1⟩ := Option.bind_eq_some_iff.1 H1
                refine wbs rfl rfl rfl (stp_call (vs := [p1]) Try.func77 rfl rfl rfl (ar1 rfl) (hash_plan_calls a1p p1 r25 _ (hp1.lift (Lift.exg0 e23)) hr25) ?_)
                rintro _ w25 ⟨rfl, x25⟩
                refine ⟨_, rfl, (EB.ext eb19.1 x25), ?_⟩
                have eb26 := EB.trans eb19 (EB.ext eb19.1 x25)
                replace o18 := o18.ext x25
                replace o12 := o12.ext x25
                replace o7 := o7.ext x25
                replace hio0 := hio0.ext x25
                have e27 := e23.trans x25
                obtain ⟨r28, hr28, H1⟩ := Option.bind_eq_some_iff.1 H1
                refine wbs rfl rfl rfl (stp_call (vs := []) Try.func78 rfl rfl rfl (ar0 ) (hash_constants_calls   r28 _  hr28) ?_)
                rintro _ w28 ⟨rfl, x28⟩
                refine ⟨_, rfl, (EB.ext eb26.1 x28), ?_⟩
                have eb29 := EB.trans eb26 (EB.ext eb26.1 x28)
                replace o18 := o18.ext x28
                replace o12 := o12.ext x28
                replace o7 := o7.ext x28
                replace hio0 := hio0.ext x28
                have e30 := e27.trans x28
                obtain ⟨c32, hc32, H1⟩ := Option.bind_eq_some_iff.1 H1
                obtain ⟨c33, hc33, H1⟩ := Option.bind_eq_some_iff.1 H1
                refine wbm rfl rfl rfl (stp_storeA [(bp g18), (bp g12)] [(bp gio0)] rfl A69 rfl rfl (lenA_eq hc32) (lenA_eq hc33) o7 one_u32 ?_)
                intro w31 o31 g31 l31
                refine ⟨(EB.own eb29.1 g31 (fun k hk => Nat.le_trans eb4.1 (n7 k hk))), ?_⟩
                have eb34 := EB.trans eb29 (EB.own eb29.1 g31 (fun k hk => Nat.le_trans eb4.1 (n7 k hk)))
                replace o18 := o18.other g31 q21.symm
                replace o12 := o12.other g31 q14.symm
                replace hio0 := hio0.other g31 q9
                have e35 := e30.grown g31 n11
                obtain ⟨c37, hc37, H1⟩ := Option.bind_eq_some_iff.1 H1
                refine wbm rfl rfl rfl (stp_storeA [(bp g18)] [(bp g7), (bp gio0)] rfl A69 rfl rfl (lenA_eq hc32) (lenA_eq hc37) o12 one_u32 ?_)
                intro w36 o36 g36 l36
                refine ⟨(EB.own eb34.1 g36 (fun k hk => Nat.le_trans eb8.1 (n12 k hk))), ?_⟩
                have eb38 := EB.trans eb34 (EB.own eb34.1 g36 (fun k hk => Nat.le_trans eb8.1 (n12 k hk)))
                replace o18 := o18.other g36 q20.symm
                replace o31 := o31.other g36 q14
                replace hio0 := hio0.other g36 q15
                have e39 := e35.grown g36 n17
                obtain ⟨c41, hc41, H1⟩ := Option.bind_eq_some_iff.1 H1
                refine wbn rfl (by kernel_rfl) rfl rfl (stp_storeA [] [(bp g12), (bp g7), (bp gio0)] rfl A98 rfl rfl (lenA_eq hc41) (lenA_eq hc6) o18 one_u32 ?_)
                intro w40 o40 g40 l40
                have eb42 := EB.trans eb38 (EB.own eb38.1 g40 (fun k hk => Nat.le_trans eb13.1 (n18 k hk)))
                replace o36 := o36.other g40 q20
                replace o31 := o31.other g40 q21
                replace hio0 := hio0.other g40 q22
                have e43 := e39.grown g40 n24
                refine wsB_nil ?_
                refine wt_fin ?_
                obtain rfl := Option.some.inj H1
                exact ⟨g7, g12, g18, rfl, rfl, rfl, rfl, rfl, e43, hio0, NS.own, o31, n11, o36, n17, o40, n24, q9, q15, q22, q14, q21, q20⟩
              · trivial
          · refine wrB_br ?_ ?_
            · refine wbs rfl rfl rfl (stp_allocL (z := (ag u32 ((List.replicate 8 (0 : UInt32))))) (cs := (ac u32 ((List.replicate 8 (0 : UInt32))))) [(bp g7), (bp gio0)] rfl Z98 rfl ?_)
              intro g12 w12 o12 n12 g12r l12
              refine ⟨(EB.ext eb8.1 (grown_ext g12r)), ?_⟩
              have x12 := grown_ext g12r
              have eb13 := EB.trans eb8 (EB.ext eb8.1 x12)
              have q14 : Nq (bp g7) (bp g12) := o7.nq n12
              have q15 : Nq (bp gio0) (bp g12) := hio0.nq n12
              replace o7 := o7.ext x12
              replace hio0 := hio0.ext x12
              have n17 := NS.ext e10 n12
              have e16 := e10.trans x12
              refine wsB_nil ?_
              refine wt_br ?_
              refine wrB_br ?_ ?_
              · obtain ⟨r18, hr18, H1⟩ := Option.bind_eq_some_iff.1 H1
                refine wbs rfl rfl rfl (stp_call (vs := [p1]) Try.func77 rfl rfl rfl (ar1 rfl) (hash_plan_calls a1p p1 r18 _ (hp1.lift (Lift.exg0 e16)) hr18) ?_)
                rintro _ w18 ⟨rfl, x18⟩
                refine ⟨_, rfl, (EB.ext eb13.1 x18), ?_⟩
                have eb19 := EB.trans eb13 (EB.ext eb13.1 x18)
                replace o12 := o12.ext x18
                replace o7 := o7.ext x18
                replace hio0 := hio0.ext x18
                have e20 := e16.trans x18
                refine wsB_nil ?_
                refine wt_br ?_
                refine wrB_br ?_ ?_
                · obtain ⟨r21, hr21, H1⟩ := Option.bind_eq_some_iff.1 H1
                  refine wbs rfl rfl rfl (stp_call (vs := []) Try.func78 rfl rfl rfl (ar0 ) (hash_constants_calls   r21 _  hr21) ?_)
                  rintro _ w21 ⟨rfl, x21⟩
                  refine ⟨_, rfl, (EB.ext eb19.1 x21), ?_⟩
                  have eb22 := EB.trans eb19 (EB.ext eb19.1 x21)
                  replace o12 := o12.ext x21
                  replace o7 := o7.ext x21
                  replace hio0 := hio0.ext x21
                  have e23 := e20.trans x21
                  refine wbs rfl rfl rfl (stp_allocL (z := (ag u32 ((List.replicate 64 (0 : UInt32))))) (cs := (ac u32 ((List.replicate 64 (0 : UInt32))))) [(bp g12), (bp g7), (bp gio0)] rfl Z69 rfl ?_)
                  intro g24 w24 o24 n24 g24r l24
                  refine ⟨(EB.ext eb22.1 (grown_ext g24r)), ?_⟩
                  have x24 := grown_ext g24r
                  have eb25 := EB.trans eb22 (EB.ext eb22.1 x24)
                  have q26 : Nq (bp g12) (bp g24) := o12.nq n24
                  have q27 : Nq (bp g7) (bp g24) := o7.nq n24
                  have q28 : Nq (bp gio0) (bp g24) := hio0.nq n24
                  replace o12 := o12.ext x24
                  replace o7 := o7.ext x24
                  replace hio0 := hio0.ext x24
                  have n30 := NS.ext e23 n24
                  have e29 := e23.trans x24
                  obtain ⟨c32, hc32, H1⟩ := Option.bind_eq_some_iff.1 H1
                  obtain ⟨c33, hc33, H1⟩ := Option.bind_eq_some_iff.1 H1
                  refine wbm rfl rfl rfl (stp_storeA [(bp g24), (bp g12)] [(bp gio0)] rfl A69 rfl rfl (lenA_eq hc32) (lenA_eq hc33) o7 one_u32 ?_)
                  intro w31 o31 g31 l31
                  refine ⟨(EB.own eb25.1 g31 (fun k hk => Nat.le_trans eb4.1 (n7 k hk))), ?_⟩
                  have eb34 := EB.trans eb25 (EB.own eb25.1 g31 (fun k hk => Nat.le_trans eb4.1 (n7 k hk)))
                  replace o24 := o24.other g31 q27.symm
                  replace o12 := o12.other g31 q14.symm
                  replace hio0 := hio0.other g31 q9
                  have e35 := e29.grown g31 n11
                  obtain ⟨c37, hc37, H1⟩ := Option.bind_eq_some_iff.1 H1
                  refine wbm rfl rfl rfl (stp_storeA [] [(bp g12), (bp g7), (bp gio0)] rfl A69 rfl rfl (lenA_eq hc32) (lenA_eq hc37) o24 one_u32 ?_)
                  intro w36 o36 g36 l36
                  refine ⟨(EB.own eb34.1 g36 (fun k hk => Nat.le_trans eb22.1 (n24 k hk))), ?_⟩
                  have eb38 := EB.trans eb34 (EB.own eb34.1 g36 (fun k hk => Nat.le_trans eb22.1 (n24 k hk)))
                  replace o12 := o12.other g36 q26
                  replace o31 := o31.other g36 q27
                  replace hio0 := hio0.other g36 q28
                  have e39 := e35.grown g36 n30
                  obtain ⟨c41, hc41, H1⟩ := Option.bind_eq_some_iff.1 H1
                  refine wbn rfl (by kernel_rfl) rfl rfl (stp_storeA [(bp g24)] [(bp g7), (bp gio0)] rfl A98 rfl rfl (lenA_eq hc41) (lenA_eq hc6) o12 one_u32 ?_)
                  intro w40 o40 g40 l40
                  have eb42 := EB.trans eb38 (EB.own eb38.1 g40 (fun k hk => Nat.le_trans eb8.1 (n12 k hk)))
                  replace o36 := o36.other g40 q26.symm
                  replace o31 := o31.other g40 q14
                  replace hio0 := hio0.other g40 q15
                  have e43 := e39.grown g40 n17
                  refine wsB_nil ?_
                  refine wt_fin ?_
                  obtain rfl := Option.some.inj H1
                  exact ⟨g7, g24, g12, rfl, rfl, rfl, rfl, rfl, e43, hio0, NS.own, o31, n11, o36, n30, o40, n17, q9, q28, q15, q27, q14, q26.symm⟩
                · refine wrB_br ?_ ?_
                  · refine wbs rfl rfl rfl (stp_allocL (z := (ag u32 ((List.replicate 64 (0 : UInt32))))) (cs := (ac u32 ((List.replicate 64 (0 : UInt32))))) [(bp g12), (bp g7), (bp gio0)] rfl Z69 rfl ?_)
                    intro g21 w21 o21 n21 g21r l21
                    refine ⟨(EB.ext eb19.1 (grown_ext g21r)), ?_⟩
                    have x21 := grown_ext g21r
                    have eb22 := EB.trans eb19 (EB.ext eb19.1 x21)
                    have q23 : Nq (bp g12) (bp g21) := o12.nq n21
                    have q24 : Nq (bp g7) (bp g21) := o7.nq n21
                    have q25 : Nq (bp gio0) (bp g21) := hio0.nq n21
                    replace o12 := o12.ext x21
                    replace o7 := o7.ext x21
                    replace hio0 := hio0.ext x21
                    have n27 := NS.ext e20 n21
                    have e26 := e20.trans x21
                    obtain ⟨r28, hr28, H1⟩ := Option.bind_eq_some_iff.1 H1
                    refine wbs rfl rfl rfl (stp_call (vs := []) Try.func78 rfl rfl rfl (ar0 ) (hash_constants_calls   r28 _  hr28) ?_)
                    rintro _ w28 ⟨rfl, x28⟩
                    refine ⟨_, rfl, (EB.ext eb22.1 x28), ?_⟩
                    have eb29 := EB.trans eb22 (EB.ext eb22.1 x28)
                    replace o21 := o21.ext x28
                    replace o12 := o12.ext x28
                    replace o7 := o7.ext x28
                    replace hio0 := hio0.ext x28
                    have e30 := e26.trans x28
                    obtain ⟨c32, hc32, H1⟩ := Option.bind_eq_some_iff.1 H1
                    obtain ⟨c33, hc33, H1⟩ := Option.bind_eq_some_iff.1 H1
                    refine wbm rfl rfl rfl (stp_storeA [(bp g21), (bp g12)] [(bp gio0)] rfl A69 rfl rfl (lenA_eq hc32) (lenA_eq hc33) o7 one_u32 ?_)
                    intro w31 o31 g31 l31
                    refine ⟨(EB.own eb29.1 g31 (fun k hk => Nat.le_trans eb4.1 (n7 k hk))), ?_⟩
                    have eb34 := EB.trans eb29 (EB.own eb29.1 g31 (fun k hk => Nat.le_trans eb4.1 (n7 k hk)))
                    replace o21 := o21.other g31 q24.symm
                    replace o12 := o12.other g31 q14.symm
                    replace hio0 := hio0.other g31 q9
                    have e35 := e30.grown g31 n11
                    obtain ⟨c37, hc37, H1⟩ := Option.bind_eq_some_iff.1 H1
                    refine wbm rfl rfl rfl (stp_storeA [] [(bp g12), (bp g7), (bp gio0)] rfl A69 rfl rfl (lenA_eq hc32) (lenA_eq hc37) o21 one_u32 ?_)
                    intro w36 o36 g36 l36
                    refine ⟨(EB.own eb34.1 g36 (fun k hk => Nat.le_trans eb19.1 (n21 k hk))), ?_⟩
                    have eb38 := EB.trans eb34 (EB.own eb34.1 g36 (fun k hk => Nat.le_trans eb19.1 (n21 k hk)))
                    replace o12 := o12.other g36 q23
                    replace o31 := o31.other g36 q24
                    replace hio0 := hio0.other g36 q25
                    have e39 := e35.grown g36 n27
                    obtain ⟨c41, hc41, H1⟩ := Option.bind_eq_some_iff.1 H1
                    refine wbn rfl (by kernel_rfl) rfl rfl (stp_storeA [(bp g21)] [(bp g7), (bp gio0)] rfl A98 rfl rfl (lenA_eq hc41) (lenA_eq hc6) o12 one_u32 ?_)
                    intro w40 o40 g40 l40
                    have eb42 := EB.trans eb38 (EB.own eb38.1 g40 (fun k hk => Nat.le_trans eb8.1 (n12 k hk)))
                    replace o36 := o36.other g40 q23.symm
                    replace o31 := o31.other g40 q14
                    replace hio0 := hio0.other g40 q15
                    have e43 := e39.grown g40 n17
                    refine wsB_nil ?_
                    refine wt_fin ?_
                    obtain rfl := Option.some.inj H1
                    exact ⟨g7, g21, g12, rfl, rfl, rfl, rfl, rfl, e43, hio0, NS.own, o31, n11, o36, n27, o40, n17, q9, q25, q15, q24, q14, q23.symm⟩
                  · trivial
              · refine wrB_br ?_ ?_
                · refine wbs rfl rfl rfl (stp_allocL (z := (ag u32 ((List.replicate 64 (0 : UInt32))))) (cs := (ac u32 ((List.replicate 64 (0 : UInt32))))) [(bp g12), (bp g7), (bp gio0)] rfl Z69 rfl ?_)
                  intro g18 w18 o18 n18 g18r l18
                  refine ⟨(EB.ext eb13.1 (grown_ext g18r)), ?_⟩
                  have x18 := grown_ext g18r
                  have eb19 := EB.trans eb13 (EB.ext eb13.1 x18)
                  have q20 : Nq (bp g12) (bp g18) := o12.nq n18
                  have q21 : Nq (bp g7) (bp g18) := o7.nq n18
                  have q22 : Nq (bp gio0) (bp g18) := hio0.nq n18
                  replace o12 := o12.ext x18
                  replace o7 := o7.ext x18
                  replace hio0 := hio0.ext x18
                  have n24 := NS.ext e16 n18
                  have e23 := e16.trans x18
                  obtain ⟨r25, hr25, H1⟩ := Option.bind_eq_some_iff.1 H1
                  refine wbs rfl rfl rfl (stp_call (vs := [p1]) Try.func77 rfl rfl rfl (ar1 rfl) (hash_plan_calls a1p p1 r25 _ (hp1.lift (Lift.exg0 e23)) hr25) ?_)
                  rintro _ w25 ⟨rfl, x25⟩
                  refine ⟨_, rfl, (EB.ext eb19.1 x25), ?_⟩
                  have eb26 := EB.trans eb19 (EB.ext eb19.1 x25)
                  replace o18 := o18.ext x25
                  replace o12 := o12.ext x25
                  replace o7 := o7.ext x25
                  replace hio0 := hio0.ext x25
                  have e27 := e23.trans x25
                  obtain ⟨r28, hr28, H1⟩ := Option.bind_eq_some_iff.1 H1
                  refine wbs rfl rfl rfl (stp_call (vs := []) Try.func78 rfl rfl rfl (ar0 ) (hash_constants_calls   r28 _  hr28) ?_)
                  rintro _ w28 ⟨rfl, x28⟩
                  refine ⟨_, rfl, (EB.ext eb26.1 x28), ?_⟩
                  have eb29 := EB.trans eb26 (EB.ext eb26.1 x28)
                  replace o18 := o18.ext x28
                  replace o12 := o12.ext x28
                  replace o7 := o7.ext x28
                  replace hio0 := hio0.ext x28
                  have e30 := e27.trans x28
                  obtain ⟨c32, hc32, H1⟩ := Option.bind_eq_some_iff.1 H1
                  obtain ⟨c33, hc33, H1⟩ := Option.bind_eq_some_iff.1 H1
                  refine wbm rfl rfl rfl (stp_storeA [(bp g18), (bp g12)] [(bp gio0)] rfl A69 rfl rfl (lenA_eq hc32) (lenA_eq hc33) o7 one_u32 ?_)
                  intro w31 o31 g31 l31
                  refine ⟨(EB.own eb29.1 g31 (fun k hk => Nat.le_trans eb4.1 (n7 k hk))), ?_⟩
                  have eb34 := EB.trans eb29 (EB.own eb29.1 g31 (fun k hk => Nat.le_trans eb4.1 (n7 k hk)))
                  replace o18 := o18.other g31 q21.symm
                  replace o12 := o12.other g31 q14.symm
                  replace hio0 := hio0.other g31 q9
                  have e35 := e30.grown g31 n11
                  obtain ⟨c37, hc37, H1⟩ := Option.bind_eq_some_iff.1 H1
                  refine wbm rfl rfl rfl (stp_storeA [] [(bp g12), (bp g7), (bp gio0)] rfl A69 rfl rfl (lenA_eq hc32) (lenA_eq hc37) o18 one_u32 ?_)
                  intro w36 o36 g36 l36
                  refine ⟨(EB.own eb34.1 g36 (fun k hk => Nat.le_trans eb13.1 (n18 k hk))), ?_⟩
                  have eb38 := EB.trans eb34 (EB.own eb34.1 g36 (fun k hk => Nat.le_trans eb13.1 (n18 k hk)))
                  replace o12 := o12.other g36 q20
                  replace o31 := o31.other g36 q21
                  replace hio0 := hio0.other g36 q22
                  have e39 := e35.grown g36 n24
                  obtain ⟨c41, hc41, H1⟩ := Option.bind_eq_some_iff.1 H1
                  refine wbn rfl (by kernel_rfl) rfl rfl (stp_storeA [(bp g18)] [(bp g7), (bp gio0)] rfl A98 rfl rfl (lenA_eq hc41) (lenA_eq hc6) o12 one_u32 ?_)
                  intro w40 o40 g40 l40
                  have eb42 := EB.trans eb38 (EB.own eb38.1 g40 (fun k hk => Nat.le_trans eb8.1 (n12 k hk)))
                  replace o36 := o36.other g40 q20.symm
                  replace o31 := o31.other g40 q14
                  replace hio0 := hio0.other g40 q15
                  have e43 := e39.grown g40 n17
                  refine wsB_nil ?_
                  refine wt_fin ?_
                  obtain rfl := Option.some.inj H1
                  exact ⟨g7, g18, g12, rfl, rfl, rfl, rfl, rfl, e43, hio0, NS.own, o31, n11, o36, n24, o40, n17, q9, q22, q15, q21, q14, q20.symm⟩
                · trivial
            · trivial
      · refine wrB_br ?_ ?_
        · refine wbs rfl rfl rfl (stp_allocL (z := (ag u32 ((List.replicate 64 (0 : UInt32))))) (cs := (ac u32 ((List.replicate 64 (0 : UInt32))))) [(bp gio0)] rfl Z69 rfl ?_)
          intro g7 w7 o7 n7 g7r l7
          refine ⟨(EB.ext eb4.1 (grown_ext g7r)), ?_⟩
          have x7 := grown_ext g7r
          have eb8 := EB.trans eb4 (EB.ext eb4.1 x7)
          have q9 : Nq (bp gio0) (bp g7) := hio0.nq n7
          replace hio0 := hio0.ext x7
          have n11 := NS.ext e3 n7
          have e10 := e3.trans x7
          refine wsB_nil ?_
          refine wt_br ?_
          refine wrB_br ?_ ?_
          · obtain ⟨r12, hr12, H1⟩ := Option.bind_eq_some_iff.1 H1
            refine wbs rfl rfl rfl (stp_call (vs := [p1]) Try.func77 rfl rfl rfl (ar1 rfl) (hash_plan_calls a1p p1 r12 _ (hp1.lift (Lift.exg0 e10)) hr12) ?_)
            rintro _ w12 ⟨rfl, x12⟩
            refine ⟨_, rfl, (EB.ext eb8.1 x12), ?_⟩
            have eb13 := EB.trans eb8 (EB.ext eb8.1 x12)
            replace o7 := o7.ext x12
            replace hio0 := hio0.ext x12
            have e14 := e10.trans x12
            refine wsB_nil ?_
            refine wt_br ?_
            refine wrB_br ?_ ?_
            · obtain ⟨r15, hr15, H1⟩ := Option.bind_eq_some_iff.1 H1
              refine wbs rfl rfl rfl (stp_call (vs := []) Try.func78 rfl rfl rfl (ar0 ) (hash_constants_calls   r15 _  hr15) ?_)
              rintro _ w15 ⟨rfl, x15⟩
              refine ⟨_, rfl, (EB.ext eb13.1 x15), ?_⟩
              have eb16 := EB.trans eb13 (EB.ext eb13.1 x15)
              replace o7 := o7.ext x15
              replace hio0 := hio0.ext x15
              have e17 := e14.trans x15
              refine wsB_nil ?_
              refine wt_br ?_
              refine wrB_br ?_ ?_
              · refine wbs rfl rfl rfl (stp_allocL (z := (ag u32 ((List.replicate 64 (0 : UInt32))))) (cs := (ac u32 ((List.replicate 64 (0 : UInt32))))) [(bp g7), (bp gio0)] rfl Z69 rfl ?_)
                intro g18 w18 o18 n18 g18r l18
                refine ⟨(EB.ext eb16.1 (grown_ext g18r)), ?_⟩
                have x18 := grown_ext g18r
                have eb19 := EB.trans eb16 (EB.ext eb16.1 x18)
                have q20 : Nq (bp g7) (bp g18) := o7.nq n18
                have q21 : Nq (bp gio0) (bp g18) := hio0.nq n18
                replace o7 := o7.ext x18
                replace hio0 := hio0.ext x18
                have n23 := NS.ext e17 n18
                have e22 := e17.trans x18
                refine wbs rfl rfl rfl (stp_allocL (z := (ag u32 ((List.replicate 8 (0 : UInt32))))) (cs := (ac u32 ((List.replicate 8 (0 : UInt32))))) [(bp g18), (bp g7), (bp gio0)] rfl Z98 rfl ?_)
                intro g24 w24 o24 n24 g24r l24
                refine ⟨(EB.ext eb19.1 (grown_ext g24r)), ?_⟩
                have x24 := grown_ext g24r
                have eb25 := EB.trans eb19 (EB.ext eb19.1 x24)
                have q26 : Nq (bp g18) (bp g24) := o18.nq n24
                have q27 : Nq (bp g7) (bp g24) := o7.nq n24
                have q28 : Nq (bp gio0) (bp g24) := hio0.nq n24
                replace o18 := o18.ext x24
                replace o7 := o7.ext x24
                replace hio0 := hio0.ext x24
                have n30 := NS.ext e22 n24
                have e29 := e22.trans x24
                obtain ⟨c32, hc32, H1⟩ := Option.bind_eq_some_iff.1 H1
                obtain ⟨c33, hc33, H1⟩ := Option.bind_eq_some_iff.1 H1
                refine wbm rfl rfl rfl (stp_storeA [(bp g24)] [(bp g7), (bp gio0)] rfl A69 rfl rfl (lenA_eq hc32) (lenA_eq hc33) o18 one_u32 ?_)
                intro w31 o31 g31 l31
                refine ⟨(EB.own eb25.1 g31 (fun k hk => Nat.le_trans eb16.1 (n18 k hk))), ?_⟩
                have eb34 := EB.trans eb25 (EB.own eb25.1 g31 (fun k hk => Nat.le_trans eb16.1 (n18 k hk)))
                replace o24 := o24.other g31 q26.symm
                replace o7 := o7.other g31 q20
                replace hio0 := hio0.other g31 q21
                have e35 := e29.grown g31 n23
                obtain ⟨c37, hc37, H1⟩ := Option.bind_eq_some_iff.1 H1
                refine wbm rfl rfl rfl (stp_storeA [(bp g24), (bp g18)] [(bp gio0)] rfl A69 rfl rfl (lenA_eq hc32) (lenA_eq hc37) o7 one_u32 ?_)
                intro w36 o36 g36 l36
                refine ⟨(EB.own eb34.1 g36 (fun k hk => Nat.le_trans eb4.1 (n7 k hk))), ?_⟩
                have eb38 := EB.trans eb34 (EB.own eb34.1 g36 (fun k hk => Nat.le_trans eb4.1 (n7 k hk)))
                replace o24 := o24.other g36 q27.symm
                replace o31 := o31.other g36 q20.symm
                replace hio0 := hio0.other g36 q9
                have e39 := e35.grown g36 n11
                obtain ⟨c41, hc41, H1⟩ := Option.bind_eq_some_iff.1 H1
                refine wbn rfl (by kernel_rfl) rfl rfl (stp_storeA [] [(bp g18), (bp g7), (bp gio0)] rfl A98 rfl rfl (lenA_eq hc41) (lenA_eq hc6) o24 one_u32 ?_)
                intro w40 o40 g40 l40
                have eb42 := EB.trans eb38 (EB.own eb38.1 g40 (fun k hk => Nat.le_trans eb19.1 (n24 k hk)))
                replace o31 := o31.other g40 q26
                replace o36 := o36.other g40 q27
                replace hio0 := hio0.other g40 q28
                have e43 := e39.grown g40 n30
                refine wsB_nil ?_
                refine wt_fin ?_
                obtain rfl := Option.some.inj H1
                exact ⟨g18, g7, g24, rfl, rfl, rfl, rfl, rfl, e43, hio0, NS.own, o31, n23, o36, n11, o40, n30, q21, q9, q28, q20.symm, q26, q27⟩
              · refine wrB_br ?_ ?_
                · refine wbs rfl rfl rfl (stp_allocL (z := (ag u32 ((List.replicate 8 (0 : UInt32))))) (cs := (ac u32 ((List.replicate 8 (0 : UInt32))))) [(bp g7), (bp gio0)] rfl Z98 rfl ?_)
                  intro g18 w18 o18 n18 g18r l18
                  refine ⟨(EB.ext eb16.1 (grown_ext g18r)), ?_⟩
                  have x18 := grown_ext g18r
                  have eb19 := EB.trans eb16 (EB.ext eb16.1 x18)
                  have q20 : Nq (bp g7) (bp g18) := o7.nq n18
                  have q21 : Nq (bp gio0) (bp g18) := hio0.nq n18
                  replace o7 := o7.ext x18
                  replace hio0 := hio0.ext x18
                  have n23 := NS.ext e17 n18
                  have e22 := e17.trans x18
                  refine wbs rfl rfl rfl (stp_allocL (z := (ag u32 ((List.replicate 64 (0 : UInt32))))) (cs := (ac u32 ((List.replicate 64 (0 : UInt32))))) [(bp g18), (bp g7), (bp gio0)] rfl Z69 rfl ?_)
                  intro g24 w24 o24 n24 g24r l24
                  refine ⟨(EB.ext eb19.1 (grown_ext g24r)), ?_⟩
                  have x24 := grown_ext g24r
                  have eb25 := EB.trans eb19 (EB.ext eb19.1 x24)
                  have q26 : Nq (bp g18) (bp g24) := o18.nq n24
                  have q27 : Nq (bp g7) (bp g24) := o7.nq n24
                  have q28 : Nq (bp gio0) (bp g24) := hio0.nq n24
                  replace o18 := o18.ext x24
                  replace o7 := o7.ext x24
                  replace hio0 := hio0.ext x24
                  have n30 := NS.ext e22 n24
                  have e29 := e22.trans x24
                  obtain ⟨c32, hc32, H1⟩ := Option.bind_eq_some_iff.1 H1
                  obtain ⟨c33, hc33, H1⟩ := Option.bind_eq_some_iff.1 H1
                  refine wbm rfl rfl rfl (stp_storeA [] [(bp g18), (bp g7), (bp gio0)] rfl A69 rfl rfl (lenA_eq hc32) (lenA_eq hc33) o24 one_u32 ?_)
                  intro w31 o31 g31 l31
                  refine ⟨(EB.own eb25.1 g31 (fun k hk => Nat.le_trans eb19.1 (n24 k hk))), ?_⟩
                  have eb34 := EB.trans eb25 (EB.own eb25.1 g31 (fun k hk => Nat.le_trans eb19.1 (n24 k hk)))
                  replace o18 := o18.other g31 q26
                  replace o7 := o7.other g31 q27
                  replace hio0 := hio0.other g31 q28
                  have e35 := e29.grown g31 n30
                  obtain ⟨c37, hc37, H1⟩ := Option.bind_eq_some_iff.1 H1
                  refine wbm rfl rfl rfl (stp_storeA [(bp g24), (bp g18)] [(bp gio0)] rfl A69 rfl rfl (lenA_eq hc32) (lenA_eq hc37) o7 one_u32 ?_)
                  intro w36 o36 g36 l36
                  refine ⟨(EB.own eb34.1 g36 (fun k hk => Nat.le_trans eb4.1 (n7 k hk))), ?_⟩
                  have eb38 := EB.trans eb34 (EB.own eb34.1 g36 (fun k hk => Nat.le_trans eb4.1 (n7 k hk)))
                  replace o31 := o31.other g36 q27.symm
                  replace o18 := o18.other g36 q20.symm
                  replace hio0 := hio0.other g36 q9
                  have e39 := e35.grown g36 n11
                  obtain ⟨c41, hc41, H1⟩ := Option.bind_eq_some_iff.1 H1
                  refine wbn rfl (by kernel_rfl) rfl rfl (stp_storeA [(bp g24)] [(bp g7), (bp gio0)] rfl A98 rfl rfl (lenA_eq hc41) (lenA_eq hc6) o18 one_u32 ?_)
                  intro w40 o40 g40 l40
                  have eb42 := EB.trans eb38 (EB.own eb38.1 g40 (fun k hk => Nat.le_trans eb16.1 (n18 k hk)))
                  replace o31 := o31.other g40 q26.symm
                  replace o36 := o36.other g40 q20
                  replace hio0 := hio0.other g40 q21
                  have e43 := e39.grown g40 n23
                  refine wsB_nil ?_
                  refine wt_fin ?_
                  obtain rfl := Option.some.inj H1
                  exact ⟨g24, g7, g18, rfl, rfl, rfl, rfl, rfl, e43, hio0, NS.own, o31, n30, o36, n11, o40, n23, q28, q9, q21, q27.symm, q26.symm, q20⟩
                · trivial
            · refine wrB_br ?_ ?_
              · refine wbs rfl rfl rfl (stp_allocL (z := (ag u32 ((List.replicate 64 (0 : UInt32))))) (cs := (ac u32 ((List.replicate 64 (0 : UInt32))))) [(bp g7), (bp gio0)] rfl Z69 rfl ?_)
                intro g15 w15 o15 n15 g15r l15
                refine ⟨(EB.ext eb13.1 (grown_ext g15r)), ?_⟩
                have x15 := grown_ext g15r
                have eb16 := EB.trans eb13 (EB.ext eb13.1 x15)
                have q17 : Nq (bp g7) (bp g15) := o7.nq n15
                have q18 : Nq (bp gio0) (bp g15) := hio0.nq n15
                replace o7 := o7.ext x15
                replace hio0 := hio0.ext x15
                have n20 := NS.ext e14 n15
                have e19 := e14.trans x15
                refine wsB_nil ?_
                refine wt_br ?_
                refine wrB_br ?_ ?_
                · obtain ⟨r21, hr21, H1⟩ := Option.bind_eq_some_iff.1 H1
                  refine wbs rfl rfl rfl (stp_call (vs := []) Try.func78 rfl rfl rfl (ar0 ) (hash_constants_calls   r21 _  hr21) ?_)
                  rintro _ w21 ⟨rfl, x21⟩
                  refine ⟨_, rfl, (EB.ext eb16.1 x21), ?_⟩
                  have eb22 := EB.trans eb16 (EB.ext eb16.1 x21)
                  replace o15 := o15.ext x21
                  replace o7 := o7.ext x21
                  replace hio0 := hio0.ext x21
                  have e23 := e19.trans x21
                  refine wbs rfl rfl rfl (stp_allocL (z := (ag u32 ((List.replicate 8 (0 : UInt32))))) (cs := (ac u32 ((List.replicate 8 (0 : UInt32))))) [(bp g15), (bp g7), (bp gio0)] rfl Z98 rfl ?_)
                  intro g24 w24 o24 n24 g24r l24
                  refine ⟨(EB.ext eb22.1 (grown_ext g24r)), ?_⟩
                  have x24 := grown_ext g24r
                  have eb25 := EB.trans eb22 (EB.ext eb22.1 x24)
                  have q26 : Nq (bp g15) (bp g24) := o15.nq n24
                  have q27 : Nq (bp g7) (bp g24) := o7.nq n24
                  have q28 : Nq (bp gio0) (bp g24) := hio0.nq n24
                  replace o15 := o15.ext x24
                  replace o7 := o7.ext x24
                  replace hio0 := hio0.ext x24
                  have n30 := NS.ext e23 n24
                  have e29 := e23.trans x24
                  obtain ⟨c32, hc32, H1⟩ := Option.bind_eq_some_iff.1 H1
                  obtain ⟨c33, hc33, H1⟩ := Option.bind_eq_some_iff.1 H1
                  refine wbm rfl rfl rfl (stp_storeA [(bp g24)] [(bp g7), (bp gio0)] rfl A69 rfl rfl (lenA_eq hc32) (lenA_eq hc33) o15 one_u32 ?_)
                  intro w31 o31 g31 l31
                  refine ⟨(EB.own eb25.1 g31 (fun k hk => Nat.le_trans eb13.1 (n15 k hk))), ?_⟩
                  have eb34 := EB.trans eb25 (EB.own eb25.1 g31 (fun k hk => Nat.le_trans eb13.1 (n15 k hk)))
                  replace o24 := o24.other g31 q26.symm
                  replace o7 := o7.other g31 q17
                  replace hio0 := hio0.other g31 q18
                  have e35 := e29.grown g31 n20
                  obtain ⟨c37, hc37, H1⟩ := Option.bind_eq_some_iff.1 H1
                  refine wbm rfl rfl rfl (stp_storeA [(bp g24), (bp g15)] [(bp gio0)] rfl A69 rfl rfl (lenA_eq hc32) (lenA_eq hc37) o7 one_u32 ?_)
                  intro w36 o36 g36 l36
                  refine ⟨(EB.own eb34.1 g36 (fun k hk => Nat.le_trans eb4.1 (n7 k hk))), ?_⟩
                  have eb38 := EB.trans eb34 (EB.own eb34.1 g36 (fun k hk => Nat.le_trans eb4.1 (n7 k hk)))
                  replace o24 := o24.other g36 q27.symm
                  replace o31 := o31.other g36 q17.symm
                  replace hio0 := hio0.other g36 q9
                  have e39 := e35.grown g36 n11
                  obtain ⟨c41, hc41, H1⟩ := Option.bind_eq_some_iff.1 H1
                  refine wbn rfl (by kernel_rfl) rfl rfl (stp_storeA [] [(bp g15), (bp g7), (bp gio0)] rfl A98 rfl rfl (lenA_eq hc41) (lenA_eq hc6) o24 one_u32 ?_)
                  intro w40 o40 g40 l40
                  have eb42 := EB.trans eb38 (EB.own eb38.1 g40 (fun k hk => Nat.le_trans eb22.1 (n24 k hk)))
                  replace o31 := o31.other g40 q26
                  replace o36 := o36.other g40 q27
                  replace hio0 := hio0.other g40 q28
                  have e43 := e39.grown g40 n30
                  refine wsB_nil ?_
                  refine wt_fin ?_
                  obtain rfl := Option.some.inj H1
                  exact ⟨g15, g7, g24, rfl, rfl, rfl, rfl, rfl, e43, hio0, NS.own, o31, n20, o36, n11, o40, n30, q18, q9, q28, q17.symm, q26, q27⟩
                · refine wrB_br ?_ ?_
                  · refine wbs rfl rfl rfl (stp_allocL (z := (ag u32 ((List.replicate 8 (0 : UInt32))))) (cs := (ac u32 ((List.replicate 8 (0 : UInt32))))) [(bp g15), (bp g7), (bp gio0)] rfl Z98 rfl ?_)
                    intro g21 w21 o21 n21 g21r l21
                    refine ⟨(EB.ext eb16.1 (grown_ext g21r)), ?_⟩
                    have x21 := grown_ext g21r
                    have eb22 := EB.trans eb16 (EB.ext eb16.1 x21)
                    have q23 : Nq (bp g15) (bp g21) := o15.nq n21
                    have q24 : Nq (bp g7) (bp g21) := o7.nq n21
                    have q25 : Nq (bp gio0) (bp g21) := hio0.nq n21
                    replace o15 := o15.ext x21
                    replace o7 := o7.ext x21
                    replace hio0 := hio0.ext x21
                    have n27 := NS.ext e19 n21
                    have e26 := e19.trans x21
                    obtain ⟨r28, hr28, H1⟩ := Option.bind_eq_some_iff.1 H1
                    refine wbs rfl rfl rfl (stp_call (vs := []) Try.func78 rfl rfl rfl (ar0 ) (hash_constants_calls   r28 _  hr28) ?_)
                    rintro _ w28 ⟨rfl, x28⟩
                    refine ⟨_, rfl, (EB.ext eb22.1 x28), ?_⟩
                    have eb29 := EB.trans eb22 (EB.ext eb22.1 x28)
                    replace o21 := o21.ext x28
                    replace o15 := o15.ext x28
                    replace o7 := o7.ext x28
                    replace hio0 := hio0.ext x28
                    have e30 := e26.trans x28
                    obtain ⟨c32, hc32, H1⟩ := Option.bind_eq_some_iff.1 H1
                    obtain ⟨c33, hc33, H1⟩ := Option.bind_eq_some_iff.1 H1
                    refine wbm rfl rfl rfl (stp_storeA [(bp g21)] [(bp g7), (bp gio0)] rfl A69 rfl rfl (lenA_eq hc32) (lenA_eq hc33) o15 one_u32 ?_)
                    intro w31 o31 g31 l31
                    refine ⟨(EB.own eb29.1 g31 (fun k hk => Nat.le_trans eb13.1 (n15 k hk))), ?_⟩
                    have eb34 := EB.trans eb29 (EB.own eb29.1 g31 (fun k hk => Nat.le_trans eb13.1 (n15 k hk)))
                    replace o21 := o21.other g31 q23.symm
                    replace o7 := o7.other g31 q17
                    replace hio0 := hio0.other g31 q18
                    have e35 := e30.grown g31 n20
                    obtain ⟨c37, hc37, H1⟩ := Option.bind_eq_some_iff.1 H1
                    refine wbm rfl rfl rfl (stp_storeA [(bp g21), (bp g15)] [(bp gio0)] rfl A69 rfl rfl (lenA_eq hc32) (lenA_eq hc37) o7 one_u32 ?_)
                    intro w36 o36 g36 l36
                    refine ⟨(EB.own eb34.1 g36 (fun k hk => Nat.le_trans eb4.1 (n7 k hk))), ?_⟩
                    have eb38 := EB.trans eb34 (EB.own eb34.1 g36 (fun k hk => Nat.le_trans eb4.1 (n7 k hk)))
                    replace o21 := o21.other g36 q24.symm
                    replace o31 := o31.other g36 q17.symm
                    replace hio0 := hio0.other g36 q9
                    have e39 := e35.grown g36 n11
                    obtain ⟨c41, hc41, H1⟩ := Option.bind_eq_some_iff.1 H1
                    refine wbn rfl (by kernel_rfl) rfl rfl (stp_storeA [] [(bp g15), (bp g7), (bp gio0)] rfl A98 rfl rfl (lenA_eq hc41) (lenA_eq hc6) o21 one_u32 ?_)
                    intro w40 o40 g40 l40
                    have eb42 := EB.trans eb38 (EB.own eb38.1 g40 (fun k hk => Nat.le_trans eb16.1 (n21 k hk)))
                    replace o31 := o31.other g40 q23
                    replace o36 := o36.other g40 q24
                    replace hio0 := hio0.other g40 q25
                    have e43 := e39.grown g40 n27
                    refine wsB_nil ?_
                    refine wt_fin ?_
                    obtain rfl := Option.some.inj H1
                    exact ⟨g15, g7, g21, rfl, rfl, rfl, rfl, rfl, e43, hio0, NS.own, o31, n20, o36, n11, o40, n27, q18, q9, q25, q17.symm, q23, q24⟩
                  · trivial
              · refine wrB_br ?_ ?_
                · refine wbs rfl rfl rfl (stp_allocL (z := (ag u32 ((List.replicate 8 (0 : UInt32))))) (cs := (ac u32 ((List.replicate 8 (0 : UInt32))))) [(bp g7), (bp gio0)] rfl Z98 rfl ?_)
                  intro g15 w15 o15 n15 g15r l15
                  refine ⟨(EB.ext eb13.1 (grown_ext g15r)), ?_⟩
                  have x15 := grown_ext g15r
                  have eb16 := EB.trans eb13 (EB.ext eb13.1 x15)
                  have q17 : Nq (bp g7) (bp g15) := o7.nq n15
                  have q18 : Nq (bp gio0) (bp g15) := hio0.nq n15
                  replace o7 := o7.ext x15
                  replace hio0 := hio0.ext x15
                  have n20 := NS.ext e14 n15
                  have e19 := e14.trans x15
                  refine wsB_nil ?_
                  refine wt_br ?_
                  refine wrB_br ?_ ?_
                  · obtain ⟨r21, hr21, H1⟩ := Option.bind_eq_some_iff.1 H1
                    refine wbs rfl rfl rfl (stp_call (vs := []) Try.func78 rfl rfl rfl (ar0 ) (hash_constants_calls   r21 _  hr21) ?_)
                    rintro _ w21 ⟨rfl, x21⟩
                    refine ⟨_, rfl, (EB.ext eb16.1 x21), ?_⟩
                    have eb22 := EB.trans eb16 (EB.ext eb16.1 x21)
                    replace o15 := o15.ext x21
                    replace o7 := o7.ext x21
                    replace hio0 := hio0.ext x21
                    have e23 := e19.trans x21
                    refine wbs rfl rfl rfl (stp_allocL (z := (ag u32 ((List.replicate 64 (0 : UInt32))))) (cs := (ac u32 ((List.replicate 64 (0 : UInt32))))) [(bp g15), (bp g7), (bp gio0)] rfl Z69 rfl ?_)
                    intro g24 w24 o24 n24 g24r l24
                    refine ⟨(EB.ext eb22.1 (grown_ext g24r)), ?_⟩
                    have x24 := grown_ext g24r
                    have eb25 := EB.trans eb22 (EB.ext eb22.1 x24)
                    have q26 : Nq (bp g15) (bp g24) := o15.nq n24
                    have q27 : Nq (bp g7) (bp g24) := o7.nq n24
                    have q28 : Nq (bp gio0) (bp g24) := hio0.nq n24
                    replace o15 := o15.ext x24
                    replace o7 := o7.ext x24
                    replace hio0 := hio0.ext x24
                    have n30 := NS.ext e23 n24
                    have e29 := e23.trans x24
                    obtain ⟨c32, hc32, H1⟩ := Option.bind_eq_some_iff.1 H1
                    obtain ⟨c33, hc33, H1⟩ := Option.bind_eq_some_iff.1 H1
                    refine wbm rfl rfl rfl (stp_storeA [] [(bp g15), (bp g7), (bp gio0)] rfl A69 rfl rfl (lenA_eq hc32) (lenA_eq hc33) o24 one_u32 ?_)
                    intro w31 o31 g31 l31
                    refine ⟨(EB.own eb25.1 g31 (fun k hk => Nat.le_trans eb22.1 (n24 k hk))), ?_⟩
                    have eb34 := EB.trans eb25 (EB.own eb25.1 g31 (fun k hk => Nat.le_trans eb22.1 (n24 k hk)))
                    replace o15 := o15.other g31 q26
                    replace o7 := o7.other g31 q27
                    replace hio0 := hio0.other g31 q28
                    have e35 := e29.grown g31 n30
                    obtain ⟨c37, hc37, H1⟩ := Option.bind_eq_some_iff.1 H1
                    refine wbm rfl rfl rfl (stp_storeA [(bp g24), (bp g15)] [(bp gio0)] rfl A69 rfl rfl (lenA_eq hc32) (lenA_eq hc37) o7 one_u32 ?_)
                    intro w36 o36 g36 l36
                    refine ⟨(EB.own eb34.1 g36 (fun k hk => Nat.le_trans eb4.1 (n7 k hk))), ?_⟩
                    have eb38 := EB.trans eb34 (EB.own eb34.1 g36 (fun k hk => Nat.le_trans eb4.1 (n7 k hk)))
                    replace o31 := o31.other g36 q27.symm
                    replace o15 := o15.other g36 q17.symm
                    replace hio0 := hio0.other g36 q9
                    have e39 := e35.grown g36 n11
                    obtain ⟨c41, hc41, H1⟩ := Option.bind_eq_some_iff.1 H1
                    refine wbn rfl (by kernel_rfl) rfl rfl (stp_storeA [(bp g24)] [(bp g7), (bp gio0)] rfl A98 rfl rfl (lenA_eq hc41) (lenA_eq hc6) o15 one_u32 ?_)
                    intro w40 o40 g40 l40
                    have eb42 := EB.trans eb38 (EB.own eb38.1 g40 (fun k hk => Nat.le_trans eb13.1 (n15 k hk)))
                    replace o31 := o31.other g40 q26.symm
                    replace o36 := o36.other g40 q17
                    replace hio0 := hio0.other g40 q18
                    have e43 := e39.grown g40 n20
                    refine wsB_nil ?_
                    refine wt_fin ?_
                    obtain rfl := Option.some.inj H1
                    exact ⟨g24, g7, g15, rfl, rfl, rfl, rfl, rfl, e43, hio0, NS.own, o31, n30, o36, n11, o40, n20, q28, q9, q18, q27.symm, q26.symm, q17⟩
                  · refine wrB_br ?_ ?_
                    · refine wbs rfl rfl rfl (stp_allocL (z := (ag u32 ((List.replicate 64 (0 : UInt32))))) (cs := (ac u32 ((List.replicate 64 (0 : UInt32))))) [(bp g15), (bp g7), (bp gio0)] rfl Z69 rfl ?_)
                      intro g21 w21 o21 n21 g21r l21
                      refine ⟨(EB.ext eb16.1 (grown_ext g21r)), ?_⟩
                      have x21 := grown_ext g21r
                      have eb22 := EB.trans eb16 (EB.ext eb16.1 x21)
                      have q23 : Nq (bp g15) (bp g21) := o15.nq n21
                      have q24 : Nq (bp g7) (bp g21) := o7.nq n21
                      have q25 : Nq (bp gio0) (bp g21) := hio0.nq n21
                      replace o15 := o15.ext x21
                      replace o7 := o7.ext x21
                      replace hio0 := hio0.ext x21
                      have n27 := NS.ext e19 n21
                      have e26 := e19.trans x21
                      obtain ⟨r28, hr28, H1⟩ := Option.bind_eq_some_iff.1 H1
                      refine wbs rfl rfl rfl (stp_call (vs := []) Try.func78 rfl rfl rfl (ar0 ) (hash_constants_calls   r28 _  hr28) ?_)
                      rintro _ w28 ⟨rfl, x28⟩
                      refine ⟨_, rfl, (EB.ext eb22.1 x28), ?_⟩
                      have eb29 := EB.trans eb22 (EB.ext eb22.1 x28)
                      replace o21 := o21.ext x28
                      replace o15 := o15.ext x28
                      replace o7 := o7.ext x28
                      replace hio0 := hio0.ext x28
                      have e30 := e26.trans x28
                      obtain ⟨c32, hc32, H1⟩ := Option.bind_eq_some_iff.1 H1
                      obtain ⟨c33, hc33, H1⟩ := Option.bind_eq_some_iff.1 H1
                      refine wbm rfl rfl rfl (stp_storeA [] [(bp g15), (bp g7), (bp gio0)] rfl A69 rfl rfl (lenA_eq hc32) (lenA_eq hc33) o21 one_u32 ?_)
                      intro w31 o31 g31 l31
                      refine ⟨(EB.own eb29.1 g31 (fun k hk => Nat.le_trans eb16.1 (n21 k hk))), ?_⟩
                      have eb34 := EB.trans eb29 (EB.own eb29.1 g31 (fun k hk => Nat.le_trans eb16.1 (n21 k hk)))
                      replace o15 := o15.other g31 q23
                      replace o7 := o7.other g31 q24
                      replace hio0 := hio0.other g31 q25
                      have e35 := e30.grown g31 n27
                      obtain ⟨c37, hc37, H1⟩ := Option.bind_eq_some_iff.1 H1
                      refine wbm rfl rfl rfl (stp_storeA [(bp g21), (bp g15)] [(bp gio0)] rfl A69 rfl rfl (lenA_eq hc32) (lenA_eq hc37) o7 one_u32 ?_)
                      intro w36 o36 g36 l36
                      refine ⟨(EB.own eb34.1 g36 (fun k hk => Nat.le_trans eb4.1 (n7 k hk))), ?_⟩
                      have eb38 := EB.trans eb34 (EB.own eb34.1 g36 (fun k hk => Nat.le_trans eb4.1 (n7 k hk)))
                      replace o31 := o31.other g36 q24.symm
                      replace o15 := o15.other g36 q17.symm
                      replace hio0 := hio0.other g36 q9
                      have e39 := e35.grown g36 n11
                      obtain ⟨c41, hc41, H1⟩ := Option.bind_eq_some_iff.1 H1
                      refine wbn rfl (by kernel_rfl) rfl rfl (stp_storeA [(bp g21)] [(bp g7), (bp gio0)] rfl A98 rfl rfl (lenA_eq hc41) (lenA_eq hc6) o15 one_u32 ?_)
                      intro w40 o40 g40 l40
                      have eb42 := EB.trans eb38 (EB.own eb38.1 g40 (fun k hk => Nat.le_trans eb13.1 (n15 k hk)))
                      replace o31 := o31.other g40 q23.symm
                      replace o36 := o36.other g40 q17
                      replace hio0 := hio0.other g40 q18
                      have e43 := e39.grown g40 n20
                      refine wsB_nil ?_
                      refine wt_fin ?_
                      obtain rfl := Option.some.inj H1
                      exact ⟨g21, g7, g15, rfl, rfl, rfl, rfl, rfl, e43, hio0, NS.own, o31, n27, o36, n11, o40, n20, q25, q9, q18, q24.symm, q23.symm, q17⟩
                    · trivial
                · trivial
          · refine wrB_br ?_ ?_
            · refine wbs rfl rfl rfl (stp_allocL (z := (ag u32 ((List.replicate 64 (0 : UInt32))))) (cs := (ac u32 ((List.replicate 64 (0 : UInt32))))) [(bp g7), (bp gio0)] rfl Z69 rfl ?_)
              intro g12 w12 o12 n12 g12r l12
              refine ⟨(EB.ext eb8.1 (grown_ext g12r)), ?_⟩
              have x12 := grown_ext g12r
              have eb13 := EB.trans eb8 (EB.ext eb8.1 x12)
              have q14 : Nq (bp g7) (bp g12) := o7.nq n12
              have q15 : Nq (bp gio0) (bp g12) := hio0.nq n12
              replace o7 := o7.ext x12
              replace hio0 := hio0.ext x12
              have n17 := NS.ext e10 n12
              have e16 := e10.trans x12
              refine wsB_nil ?_
              refine wt_br ?_
              refine wrB_br ?_ ?_
              · obtain ⟨r18, hr18, H1⟩ := Option.bind_eq_some_iff.1 H1
                refine wbs rfl rfl rfl (stp_call (vs := [p1]) Try.func77 rfl rfl rfl (ar1 rfl) (hash_plan_calls a1p p1 r18 _ (hp1.lift (Lift.exg0 e16)) hr18) ?_)
                rintro _ w18 ⟨rfl, x18⟩
                refine ⟨_, rfl, (EB.ext eb13.1 x18), ?_⟩
                have eb19 := EB.trans eb13 (EB.ext eb13.1 x18)
                replace o12 := o12.ext x18
                replace o7 := o7.ext x18
                replace hio0 := hio0.ext x18
                have e20 := e16.trans x18
                refine wsB_nil ?_
                refine wt_br ?_
                refine wrB_br ?_ ?_
                · obtain ⟨r21, hr21, H1⟩ := Option.bind_eq_some_iff.1 H1
                  refine wbs rfl rfl rfl (stp_call (vs := []) Try.func78 rfl rfl rfl (ar0 ) (hash_constants_calls   r21 _  hr21) ?_)
                  rintro _ w21 ⟨rfl, x21⟩
                  refine ⟨_, rfl, (EB.ext eb19.1 x21), ?_⟩
                  have eb22 := EB.trans eb19 (EB.ext eb19.1 x21)
                  replace o12 := o12.ext x21
                  replace o7 := o7.ext x21
                  replace hio0 := hio0.ext x21
                  have e23 := e20.trans x21
                  refine wbs rfl rfl rfl (stp_allocL (z := (ag u32 ((List.replicate 8 (0 : UInt32))))) (cs := (ac u32 ((List.replicate 8 (0 : UInt32))))) [(bp g12), (bp g7), (bp gio0)] rfl Z98 rfl ?_)
                  intro g24 w24 o24 n24 g24r l24
                  refine ⟨(EB.ext eb22.1 (grown_ext g24r)), ?_⟩
                  have x24 := grown_ext g24r
                  have eb25 := EB.trans eb22 (EB.ext eb22.1 x24)
                  have q26 : Nq (bp g12) (bp g24) := o12.nq n24
                  have q27 : Nq (bp g7) (bp g24) := o7.nq n24
                  have q28 : Nq (bp gio0) (bp g24) := hio0.nq n24
                  replace o12 := o12.ext x24
                  replace o7 := o7.ext x24
                  replace hio0 := hio0.ext x24
                  have n30 := NS.ext e23 n24
                  have e29 := e23.trans x24
                  obtain ⟨c32, hc32, H1⟩ := Option.bind_eq_some_iff.1 H1
                  obtain ⟨c33, hc33, H1⟩ := Option.bind_eq_some_iff.1 H1
                  refine wbm rfl rfl rfl (stp_storeA [(bp g24)] [(bp g7), (bp gio0)] rfl A69 rfl rfl (lenA_eq hc32) (lenA_eq hc33) o12 one_u32 ?_)
                  intro w31 o31 g31 l31
                  refine ⟨(EB.own eb25.1 g31 (fun k hk => Nat.le_trans eb8.1 (n12 k hk))), ?_⟩
                  have eb34 := EB.trans eb25 (EB.own eb25.1 g31 (fun k hk => Nat.le_trans eb8.1 (n12 k hk)))
                  replace o24 := o24.other g31 q26.symm
                  replace o7 := o7.other g31 q14
                  replace hio0 := hio0.other g31 q15
                  have e35 := e29.grown g31 n17
                  obtain ⟨c37, hc37, H1⟩ := Option.bind_eq_some_iff.1 H1
                  refine wbm rfl rfl rfl (stp_storeA [(bp g24), (bp g12)] [(bp gio0)] rfl A69 rfl rfl (lenA_eq hc32) (lenA_eq hc37) o7 one_u32 ?_)
                  intro w36 o36 g36 l36
                  refine ⟨(EB.own eb34.1 g36 (fun k hk => Nat.le_trans eb4.1 (n7 k hk))), ?_⟩
                  have eb38 := EB.trans eb34 (EB.own eb34.1 g36 (fun k hk => Nat.le_trans eb4.1 (n7 k hk)))
                  replace o24 := o24.other g36 q27.symm
                  replace o31 := o31.other g36 q14.symm
                  replace hio0 := hio0.other g36 q9
                  have e39 := e35.grown g36 n11
                  obtain ⟨c41, hc41, H1⟩ := Option.bind_eq_some_iff.1 H1
                  refine wbn rfl (by kernel_rfl) rfl rfl (stp_storeA [] [(bp g12), (bp g7), (bp gio0)] rfl A98 rfl rfl (lenA_eq hc41) (lenA_eq hc6) o24 one_u32 ?_)
                  intro w40 o40 g40 l40
                  have eb42 := EB.trans eb38 (EB.own eb38.1 g40 (fun k hk => Nat.le_trans eb22.1 (n24 k hk)))
                  replace o31 := o31.other g40 q26
                  replace o36 := o36.other g40 q27
                  replace hio0 := hio0.other g40 q28
                  have e43 := e39.grown g40 n30
                  refine wsB_nil ?_
                  refine wt_fin ?_
                  obtain rfl := Option.some.inj H1
                  exact ⟨g12, g7, g24, rfl, rfl, rfl, rfl, rfl, e43, hio0, NS.own, o31, n17, o36, n11, o40, n30, q15, q9, q28, q14.symm, q26, q27⟩
                · refine wrB_br ?_ ?_
                  · refine wbs rfl rfl rfl (stp_allocL (z := (ag u32 ((List.replicate 8 (0 : UInt32))))) (cs := (ac u32 ((List.replicate 8 (0 : UInt32))))) [(bp g12), (bp g7), (bp gio0)] rfl Z98 rfl ?_)
                    intro g21 w21 o21 n21 g21r l21
                    refine ⟨(EB.ext eb19.1 (grown_ext g21r)), ?_⟩
                    have x21 := grown_ext g21r
                    have eb22 := EB.trans eb19 (EB.ext eb19.1 x21)
                    have q23 : Nq (bp g12) (bp g21) := o12.nq n21
                    have q24 : Nq (bp g7) (bp g21) := o7.nq n21
                    have q25 : Nq (bp gio0) (bp g21) := hio0.nq n21
                    replace o12 := o12.ext x21
                    replace o7 := o7.ext x21
                    replace hio0 := hio0.ext x21
                    have n27 := NS.ext e20 n21
                    have e26 := e20.trans x21
                    obtain ⟨r28, hr28, H1⟩ := Option.bind_eq_some_iff.1 H1
                    refine wbs rfl rfl rfl (stp_call (vs := []) Try.func78 rfl rfl rfl (ar0 ) (hash_constants_calls   r28 _  hr28) ?_)
                    rintro _ w28 ⟨rfl, x28⟩
                    refine ⟨_, rfl, (EB.ext eb22.1 x28), ?_⟩
                    have eb29 := EB.trans eb22 (EB.ext eb22.1 x28)
                    replace o21 := o21.ext x28
                    replace o12 := o12.ext x28
                    replace o7 := o7.ext x28
                    replace hio0 := hio0.ext x28
                    have e30 := e26.trans x28
                    obtain ⟨c32, hc32, H1⟩ := Option.bind_eq_some_iff.1 H1
                    obtain ⟨c33, hc33, H1⟩ := Option.bind_eq_some_iff.1 H1
                    refine wbm rfl rfl rfl (stp_storeA [(bp g21)] [(bp g7), (bp gio0)] rfl A69 rfl rfl (lenA_eq hc32) (lenA_eq hc33) o12 one_u32 ?_)
                    intro w31 o31 g31 l31
                    refine ⟨(EB.own eb29.1 g31 (fun k hk => Nat.le_trans eb8.1 (n12 k hk))), ?_⟩
                    have eb34 := EB.trans eb29 (EB.own eb29.1 g31 (fun k hk => Nat.le_trans eb8.1 (n12 k hk)))
                    replace o21 := o21.other g31 q23.symm
                    replace o7 := o7.other g31 q14
                    replace hio0 := hio0.other g31 q15
                    have e35 := e30.grown g31 n17
                    obtain ⟨c37, hc37, H1⟩ := Option.bind_eq_some_iff.1 H1
                    refine wbm rfl rfl rfl (stp_storeA [(bp g21), (bp g12)] [(bp gio0)] rfl A69 rfl rfl (lenA_eq hc32) (lenA_eq hc37) o7 one_u32 ?_)
                    intro w36 o36 g36 l36
                    refine ⟨(EB.own eb34.1 g36 (fun k hk => Nat.le_trans eb4.1 (n7 k hk))), ?_⟩
                    have eb38 := EB.trans eb34 (EB.own eb34.1 g36 (fun k hk => Nat.le_trans eb4.1 (n7 k hk)))
                    replace o21 := o21.other g36 q24.symm
                    replace o31 := o31.other g36 q14.symm
                    replace hio0 := hio0.other g36 q9
                    have e39 := e35.grown g36 n11
                    obtain ⟨c41, hc41, H1⟩ := Option.bind_eq_some_iff.1 H1
                    refine wbn rfl (by kernel_rfl) rfl rfl (stp_storeA [] [(bp g12), (bp g7), (bp gio0)] rfl A98 rfl rfl (lenA_eq hc41) (lenA_eq hc6) o21 one_u32 ?_)
                    intro w40 o40 g40 l40
                    have eb42 := EB.trans eb38 (EB.own eb38.1 g40 (fun k hk => Nat.le_trans eb19.1 (n21 k hk)))
                    replace o31 := o31.other g40 q23
                    replace o36 := o36.other g40 q24
                    replace hio0 := hio0.other g40 q25
                    have e43 := e39.grown g40 n27
                    refine wsB_nil ?_
                    refine wt_fin ?_
                    obtain rfl := Option.some.inj H1
                    exact ⟨g12, g7, g21, rfl, rfl, rfl, rfl, rfl, e43, hio0, NS.own, o31, n17, o36, n11, o40, n27, q15, q9, q25, q14.symm, q23, q24⟩
                  · trivial
              · refine wrB_br ?_ ?_
                · refine wbs rfl rfl rfl (stp_allocL (z := (ag u32 ((List.replicate 8 (0 : UInt32))))) (cs := (ac u32 ((List.replicate 8 (0 : UInt32))))) [(bp g12), (bp g7), (bp gio0)] rfl Z98 rfl ?_)
                  intro g18 w18 o18 n18 g18r l18
                  refine ⟨(EB.ext eb13.1 (grown_ext g18r)), ?_⟩
                  have x18 := grown_ext g18r
                  have eb19 := EB.trans eb13 (EB.ext eb13.1 x18)
                  have q20 : Nq (bp g12) (bp g18) := o12.nq n18
                  have q21 : Nq (bp g7) (bp g18) := o7.nq n18
                  have q22 : Nq (bp gio0) (bp g18) := hio0.nq n18
                  replace o12 := o12.ext x18
                  replace o7 := o7.ext x18
                  replace hio0 := hio0.ext x18
                  have n24 := NS.ext e16 n18
                  have e23 := e16.trans x18
                  obtain ⟨r25, hr25, H1⟩ := Option.bind_eq_some_iff.1 H1
                  refine wbs rfl rfl rfl (stp_call (vs := [p1]) Try.func77 rfl rfl rfl (ar1 rfl) (hash_plan_calls a1p p1 r25 _ (hp1.lift (Lift.exg0 e23)) hr25) ?_)
                  rintro _ w25 ⟨rfl, x25⟩
                  refine ⟨_, rfl, (EB.ext eb19.1 x25), ?_⟩
                  have eb26 := EB.trans eb19 (EB.ext eb19.1 x25)
                  replace o18 := o18.ext x25
                  replace o12 := o12.ext x25
                  replace o7 := o7.ext x25
                  replace hio0 := hio0.ext x25
                  have e27 := e23.trans x25
                  obtain ⟨r28, hr28, H1⟩ := Option.bind_eq_some_iff.1 H1
                  refine wbs rfl rfl rfl (stp_call (vs := []) Try.func78 rfl rfl rfl (ar0 ) (hash_constants_calls   r28 _  hr28) ?_)
                  rintro _ w28 ⟨rfl, x28⟩
                  refine ⟨_, rfl, (EB.ext eb26.1 x28), ?_⟩
                  have eb29 := EB.trans eb26 (EB.ext eb26.1 x28)
                  replace o18 := o18.ext x28
                  replace o12 := o12.ext x28
                  replace o7 := o7.ext x28
                  replace hio0 := hio0.ext x28
                  have e30 := e27.trans x28
                  obtain ⟨c32, hc32, H1⟩ := Option.bind_eq_some_iff.1 H1
                  obtain ⟨c33, hc33, H1⟩ := Option.bind_eq_some_iff.1 H1
                  refine wbm rfl rfl rfl (stp_storeA [(bp g18)] [(bp g7), (bp gio0)] rfl A69 rfl rfl (lenA_eq hc32) (lenA_eq hc33) o12 one_u32 ?_)
                  intro w31 o31 g31 l31
                  refine ⟨(EB.own eb29.1 g31 (fun k hk => Nat.le_trans eb8.1 (n12 k hk))), ?_⟩
                  have eb34 := EB.trans eb29 (EB.own eb29.1 g31 (fun k hk => Nat.le_trans eb8.1 (n12 k hk)))
                  replace o18 := o18.other g31 q20.symm
                  replace o7 := o7.other g31 q14
                  replace hio0 := hio0.other g31 q15
                  have e35 := e30.grown g31 n17
                  obtain ⟨c37, hc37, H1⟩ := Option.bind_eq_some_iff.1 H1
                  refine wbm rfl rfl rfl (stp_storeA [(bp g18), (bp g12)] [(bp gio0)] rfl A69 rfl rfl (lenA_eq hc32) (lenA_eq hc37) o7 one_u32 ?_)
                  intro w36 o36 g36 l36
                  refine ⟨(EB.own eb34.1 g36 (fun k hk => Nat.le_trans eb4.1 (n7 k hk))), ?_⟩
                  have eb38 := EB.trans eb34 (EB.own eb34.1 g36 (fun k hk => Nat.le_trans eb4.1 (n7 k hk)))
                  replace o18 := o18.other g36 q21.symm
                  replace o31 := o31.other g36 q14.symm
                  replace hio0 := hio0.other g36 q9
                  have e39 := e35.grown g36 n11
                  obtain ⟨c41, hc41, H1⟩ := Option.bind_eq_some_iff.1 H1
                  refine wbn rfl (by kernel_rfl) rfl rfl (stp_storeA [] [(bp g12), (bp g7), (bp gio0)] rfl A98 rfl rfl (lenA_eq hc41) (lenA_eq hc6) o18 one_u32 ?_)
                  intro w40 o40 g40 l40
                  have eb42 := EB.trans eb38 (EB.own eb38.1 g40 (fun k hk => Nat.le_trans eb13.1 (n18 k hk)))
                  replace o31 := o31.other g40 q20
                  replace o36 := o36.other g40 q21
                  replace hio0 := hio0.other g40 q22
                  have e43 := e39.grown g40 n24
                  refine wsB_nil ?_
                  refine wt_fin ?_
                  obtain rfl := Option.some.inj H1
                  exact ⟨g12, g7, g18, rfl, rfl, rfl, rfl, rfl, e43, hio0, NS.own, o31, n17, o36, n11, o40, n24, q15, q9, q22, q14.symm, q20, q21⟩
                · trivial
            · refine wrB_br ?_ ?_
              · refine wbs rfl rfl rfl (stp_allocL (z := (ag u32 ((List.replicate 8 (0 : UInt32))))) (cs := (ac u32 ((List.replicate 8 (0 : UInt32))))) [(bp g7), (bp gio0)] rfl Z98 rfl ?_)
                intro g12 w12 o12 n12 g12r l12
                refine ⟨(EB.ext eb8.1 (grown_ext g12r)), ?_⟩
                have x12 := grown_ext g12r
                have eb13 := EB.trans eb8 (EB.ext eb8.1 x12)
                have q14 : Nq (bp g7) (bp g12) := o7.nq n12
                have q15 : Nq (bp gio0) (bp g12) := hio0.nq n12
                replace o7 := o7.ext x12
                replace hio0 := hio0.ext x12
                have n17 := NS.ext e10 n12
                have e16 := e10.trans x12
                refine wsB_nil ?_
                refine wt_br ?_
                refine wrB_br ?_ ?_
                · obtain ⟨r18, hr18, H1⟩ := Option.bind_eq_some_iff.1 H1
                  refine wbs rfl rfl rfl (stp_call (vs := [p1]) Try.func77 rfl rfl rfl (ar1 rfl) (hash_plan_calls a1p p1 r18 _ (hp1.lift (Lift.exg0 e16)) hr18) ?_)
                  rintro _ w18 ⟨rfl, x18⟩
                  refine ⟨_, rfl, (EB.ext eb13.1 x18), ?_⟩
                  have eb19 := EB.trans eb13 (EB.ext eb13.1 x18)
                  replace o12 := o12.ext x18
                  replace o7 := o7.ext x18
                  replace hio0 := hio0.ext x18
                  have e20 := e16.trans x18
                  refine wsB_nil ?_
                  refine wt_br ?_
                  refine wrB_br ?_ ?_
                  · obtain ⟨r21, hr21, H1⟩ := Option.bind_eq_some_iff.1 H1
                    refine wbs rfl rfl rfl (stp_call (vs := []) Try.func78 rfl rfl rfl (ar0 ) (hash_constants_calls   r21 _  hr21) ?_)
                    rintro _ w21 ⟨rfl, x21⟩
                    refine ⟨_, rfl, (EB.ext eb19.1 x21), ?_⟩
                    have eb22 := EB.trans eb19 (EB.ext eb19.1 x21)
                    replace o12 := o12.ext x21
                    replace o7 := o7.ext x21
                    replace hio0 := hio0.ext x21
                    have e23 := e20.trans x21
                    refine wbs rfl rfl rfl (stp_allocL (z := (ag u32 ((List.replicate 64 (0 : UInt32))))) (cs := (ac u32 ((List.replicate 64 (0 : UInt32))))) [(bp g12), (bp g7), (bp gio0)] rfl Z69 rfl ?_)
                    intro g24 w24 o24 n24 g24r l24
                    refine ⟨(EB.ext eb22.1 (grown_ext g24r)), ?_⟩
                    have x24 := grown_ext g24r
                    have eb25 := EB.trans eb22 (EB.ext eb22.1 x24)
                    have q26 : Nq (bp g12) (bp g24) := o12.nq n24
                    have q27 : Nq (bp g7) (bp g24) := o7.nq n24
                    have q28 : Nq (bp gio0) (bp g24) := hio0.nq n24
                    replace o12 := o12.ext x24
                    replace o7 := o7.ext x24
                    replace hio0 := hio0.ext x24
                    have n30 := NS.ext e23 n24
                    have e29 := e23.trans x24
                    obtain ⟨c32, hc32, H1⟩ := Option.bind_eq_some_iff.1 H1
                    obtain ⟨c33, hc33, H1⟩ := Option.bind_eq_some_iff.1 H1
                    refine wbm rfl rfl rfl (stp_storeA [] [(bp g12), (bp g7), (bp gio0)] rfl A69 rfl rfl (lenA_eq hc32) (lenA_eq hc33) o24 one_u32 ?_)
                    intro w31 o31 g31 l31
                    refine ⟨(EB.own eb25.1 g31 (fun k hk => Nat.le_trans eb22.1 (n24 k hk))), ?_⟩
                    have eb34 := EB.trans eb25 (EB.own eb25.1 g31 (fun k hk => Nat.le_trans eb22.1 (n24 k hk)))
                    replace o12 := o12.other g31 q26
                    replace o7 := o7.other g31 q27
                    replace hio0 := hio0.other g31 q28
                    have e35 := e29.grown g31 n30
                    obtain ⟨c37, hc37, H1⟩ := Option.bind_eq_some_iff.1 H1
                    refine wbm rfl rfl rfl (stp_storeA [(bp g24), (bp g12)] [(bp gio0)] rfl A69 rfl rfl (lenA_eq hc32) (lenA_eq hc37) o7 one_u32 ?_)
                    intro w36 o36 g36 l36
                    refine ⟨(EB.own eb34.1 g36 (fun k hk => Nat.le_trans eb4.1 (n7 k hk))), ?_⟩
                    have eb38 := EB.trans eb34 (EB.own eb34.1 g36 (fun k hk => Nat.le_trans eb4.1 (n7 k hk)))
                    replace o31 := o31.other g36 q27.symm
                    replace o12 := o12.other g36 q14.symm
                    replace hio0 := hio0.other g36 q9
                    have e39 := e35.grown g36 n11
                    obtain ⟨c41, hc41, H1⟩ := Option.bind_eq_some_iff.1 H1
                    refine wbn rfl (by kernel_rfl) rfl rfl (stp_storeA [(bp g24)] [(bp g7), (bp gio0)] rfl A98 rfl rfl (lenA_eq hc41) (lenA_eq hc6) o12 one_u32 ?_)
                    intro w40 o40 g40 l40
                    have eb42 := EB.trans eb38 (EB.own eb38.1 g40 (fun k hk => Nat.le_trans eb8.1 (n12 k hk)))
                    replace o31 := o31.other g40 q26.symm
                    replace o36 := o36.other g40 q14
                    replace hio0 := hio0.other g40 q15
                    have e43 := e39.grown g40 n17
                    refine wsB_nil ?_
                    refine wt_fin ?_
                    obtain rfl := Option.some.inj H1
                    exact ⟨g24, g7, g12, rfl, rfl, rfl, rfl, rfl, e43, hio0, NS.own, o31, n30, o36, n11, o40, n17, q28, q9, q15, q27.symm, q26.symm, q14⟩
                  · refine wrB_br ?_ ?_
                    · refine wbs rfl rfl rfl (stp_allocL (z := (ag u32 ((List.replicate 64 (0 : UInt32))))) (cs := (ac u32 ((List.replicate 64 (0 : UInt32))))) [(bp g12), (bp g7), (bp gio0)] rfl Z69 rfl ?_)
                      intro g21 w21 o21 n21 g21r l21
                      refine ⟨(EB.ext eb19.1 (grown_ext g21r)), ?_⟩
                      have x21 := grown_ext g21r
                      have eb22 := EB.trans eb19 (EB.ext eb19.1 x21)
                      have q23 : Nq (bp g12) (bp g21) := o12.nq n21
                      have q24 : Nq (bp g7) (bp g21) := o7.nq n21
                      have q25 : Nq (bp gio0) (bp g21) := hio0.nq n21
                      replace o12 := o12.ext x21
                      replace o7 := o7.ext x21
                      replace hio0 := hio0.ext x21
                      have n27 := NS.ext e20 n21
                      have e26 := e20.trans x21
                      obtain ⟨r28, hr28, H1⟩ := Option.bind_eq_some_iff.1 H1
                      refine wbs rfl rfl rfl (stp_call (vs := []) Try.func78 rfl rfl rfl (ar0 ) (hash_constants_calls   r28 _  hr28) ?_)
                      rintro _ w28 ⟨rfl, x28⟩
                      refine ⟨_, rfl, (EB.ext eb22.1 x28), ?_⟩
                      have eb29 := EB.trans eb22 (EB.ext eb22.1 x28)
                      replace o21 := o21.ext x28
                      replace o12 := o12.ext x28
                      replace o7 := o7.ext x28
                      replace hio0 := hio0.ext x28
                      have e30 := e26.trans x28
                      obtain ⟨c32, hc32, H1⟩ := Option.bind_eq_some_iff.1 H1
                      obtain ⟨c33, hc33, H1⟩ := Option.bind_eq_some_iff.1 H1
                      refine wbm rfl rfl rfl (stp_storeA [] [(bp g12), (bp g7), (bp gio0)] rfl A69 rfl rfl (lenA_eq hc32) (lenA_eq hc33) o21 one_u32 ?_)
                      intro w31 o31 g31 l31
                      refine ⟨(EB.own eb29.1 g31 (fun k hk => Nat.le_trans eb19.1 (n21 k hk))), ?_⟩
                      have eb34 := EB.trans eb29 (EB.own eb29.1 g31 (fun k hk => Nat.le_trans eb19.1 (n21 k hk)))
                      replace o12 := o12.other g31 q23
                      replace o7 := o7.other g31 q24
                      replace hio0 := hio0.other g31 q25
                      have e35 := e30.grown g31 n27
                      obtain ⟨c37, hc37, H1⟩ := Option.bind_eq_some_iff.1 H1
                      refine wbm rfl rfl rfl (stp_storeA [(bp g21), (bp g12)] [(bp gio0)] rfl A69 rfl rfl (lenA_eq hc32) (lenA_eq hc37) o7 one_u32 ?_)
                      intro w36 o36 g36 l36
                      refine ⟨(EB.own eb34.1 g36 (fun k hk => Nat.le_trans eb4.1 (n7 k hk))), ?_⟩
                      have eb38 := EB.trans eb34 (EB.own eb34.1 g36 (fun k hk => Nat.le_trans eb4.1 (n7 k hk)))
                      replace o31 := o31.other g36 q24.symm
                      replace o12 := o12.other g36 q14.symm
                      replace hio0 := hio0.other g36 q9
                      have e39 := e35.grown g36 n11
                      obtain ⟨c41, hc41, H1⟩ := Option.bind_eq_some_iff.1 H1
                      refine wbn rfl (by kernel_rfl) rfl rfl (stp_storeA [(bp g21)] [(bp g7), (bp gio0)] rfl A98 rfl rfl (lenA_eq hc41) (lenA_eq hc6) o12 one_u32 ?_)
                      intro w40 o40 g40 l40
                      have eb42 := EB.trans eb38 (EB.own eb38.1 g40 (fun k hk => Nat.le_trans eb8.1 (n12 k hk)))
                      replace o31 := o31.other g40 q23.symm
                      replace o36 := o36.other g40 q14
                      replace hio0 := hio0.other g40 q15
                      have e43 := e39.grown g40 n17
                      refine wsB_nil ?_
                      refine wt_fin ?_
                      obtain rfl := Option.some.inj H1
                      exact ⟨g21, g7, g12, rfl, rfl, rfl, rfl, rfl, e43, hio0, NS.own, o31, n27, o36, n11, o40, n17, q25, q9, q15, q24.symm, q23.symm, q14⟩
                    · trivial
                · refine wrB_br ?_ ?_
                  · refine wbs rfl rfl rfl (stp_allocL (z := (ag u32 ((List.replicate 64 (0 : UInt32))))) (cs := (ac u32 ((List.replicate 64 (0 : UInt32))))) [(bp g12), (bp g7), (bp gio0)] rfl Z69 rfl ?_)
                    intro g18 w18 o18 n18 g18r l18
                    refine ⟨(EB.ext eb13.1 (grown_ext g18r)), ?_⟩
                    have x18 := grown_ext g18r
                    have eb19 := EB.trans eb13 (EB.ext eb13.1 x18)
                    have q20 : Nq (bp g12) (bp g18) := o12.nq n18
                    have q21 : Nq (bp g7) (bp g18) := o7.nq n18
                    have q22 : Nq (bp gio0) (bp g18) := hio0.nq n18
                    replace o12 := o12.ext x18
                    replace o7 := o7.ext x18
                    replace hio0 := hio0.ext x18
                    have n24 := NS.ext e16 n18
                    have e23 := e16.trans x18
                    obtain ⟨r25, hr25, H1⟩ := Option.bind_eq_some_iff.1 H1
                    refine wbs rfl rfl rfl (stp_call (vs := [p1]) Try.func77 rfl rfl rfl (ar1 rfl) (hash_plan_calls a1p p1 r25 _ (hp1.lift (Lift.exg0 e23)) hr25) ?_)
                    rintro _ w25 ⟨rfl, x25⟩
                    refine ⟨_, rfl, (EB.ext eb19.1 x25), ?_⟩
                    have eb26 := EB.trans eb19 (EB.ext eb19.1 x25)
                    replace o18 := o18.ext x25
                    replace o12 := o12.ext x25
                    replace o7 := o7.ext x25
                    replace hio0 := hio0.ext x25
                    have e27 := e23.trans x25
                    obtain ⟨r28, hr28, H1⟩ := Option.bind_eq_some_iff.1 H1
                    refine wbs rfl rfl rfl (stp_call (vs := []) Try.func78 rfl rfl rfl (ar0 ) (hash_constants_calls   r28 _  hr28) ?_)
                    rintro _ w28 ⟨rfl, x28⟩
                    refine ⟨_, rfl, (EB.ext eb26.1 x28), ?_⟩
                    have eb29 := EB.trans eb26 (EB.ext eb26.1 x28)
                    replace o18 := o18.ext x28
                    replace o12 := o12.ext x28
                    replace o7 := o7.ext x28
                    replace hio0 := hio0.ext x28
                    have e30 := e27.trans x28
                    obtain ⟨c32, hc32, H1⟩ := Option.bind_eq_some_iff.1 H1
                    obtain ⟨c33, hc33, H1⟩ := Option.bind_eq_some_iff.1 H1
                    refine wbm rfl rfl rfl (stp_storeA [] [(bp g12), (bp g7), (bp gio0)] rfl A69 rfl rfl (lenA_eq hc32) (lenA_eq hc33) o18 one_u32 ?_)
                    intro w31 o31 g31 l31
                    refine ⟨(EB.own eb29.1 g31 (fun k hk => Nat.le_trans eb13.1 (n18 k hk))), ?_⟩
                    have eb34 := EB.trans eb29 (EB.own eb29.1 g31 (fun k hk => Nat.le_trans eb13.1 (n18 k hk)))
                    replace o12 := o12.other g31 q20
                    replace o7 := o7.other g31 q21
                    replace hio0 := hio0.other g31 q22
                    have e35 := e30.grown g31 n24
                    obtain ⟨c37, hc37, H1⟩ := Option.bind_eq_some_iff.1 H1
                    refine wbm rfl rfl rfl (stp_storeA [(bp g18), (bp g12)] [(bp gio0)] rfl A69 rfl rfl (lenA_eq hc32) (lenA_eq hc37) o7 one_u32 ?_)
                    intro w36 o36 g36 l36
                    refine ⟨(EB.own eb34.1 g36 (fun k hk => Nat.le_trans eb4.1 (n7 k hk))), ?_⟩
                    have eb38 := EB.trans eb34 (EB.own eb34.1 g36 (fun k hk => Nat.le_trans eb4.1 (n7 k hk)))
                    replace o31 := o31.other g36 q21.symm
                    replace o12 := o12.other g36 q14.symm
                    replace hio0 := hio0.other g36 q9
                    have e39 := e35.grown g36 n11
                    obtain ⟨c41, hc41, H1⟩ := Option.bind_eq_some_iff.1 H1
                    refine wbn rfl (by kernel_rfl) rfl rfl (stp_storeA [(bp g18)] [(bp g7), (bp gio0)] rfl A98 rfl rfl (lenA_eq hc41) (lenA_eq hc6) o12 one_u32 ?_)
                    intro w40 o40 g40 l40
                    have eb42 := EB.trans eb38 (EB.own eb38.1 g40 (fun k hk => Nat.le_trans eb8.1 (n12 k hk)))
                    replace o31 := o31.other g40 q20.symm
                    replace o36 := o36.other g40 q14
                    replace hio0 := hio0.other g40 q15
                    have e43 := e39.grown g40 n17
                    refine wsB_nil ?_
                    refine wt_fin ?_
                    obtain rfl := Option.some.inj H1
                    exact ⟨g18, g7, g12, rfl, rfl, rfl, rfl, rfl, e43, hio0, NS.own, o31, n24, o36, n11, o40, n17, q22, q9, q15, q21.symm, q20.symm, q14⟩
                  · trivial
              · trivial
        · refine wrB_br ?_ ?_
          · refine wbs rfl rfl rfl (stp_allocL (z := (ag u32 ((List.replicate 8 (0 : UInt32))))) (cs := (ac u32 ((List.replicate 8 (0 : UInt32))))) [(bp gio0)] rfl Z98 rfl ?_)
            intro g7 w7 o7 n7 g7r l7
            refine ⟨(EB.ext eb4.1 (grown_ext g7r)), ?_⟩
            have x7 := grown_ext g7r
            have eb8 := EB.trans eb4 (EB.ext eb4.1 x7)
            have q9 : Nq (bp gio0) (bp g7) := hio0.nq n7
            replace hio0 := hio0.ext x7
            have n11 := NS.ext e3 n7
            have e10 := e3.trans x7
            refine wsB_nil ?_
            refine wt_br ?_
            refine wrB_br ?_ ?_
            · obtain ⟨r12, hr12, H1⟩ := Option.bind_eq_some_iff.1 H1
              refine wbs rfl rfl rfl (stp_call (vs := [p1]) Try.func77 rfl rfl rfl (ar1 rfl) (hash_plan_calls a1p p1 r12 _ (hp1.lift (Lift.exg0 e10)) hr12) ?_)
              rintro _ w12 ⟨rfl, x12⟩
              refine ⟨_, rfl, (EB.ext eb8.1 x12), ?_⟩
              have eb13 := EB.trans eb8 (EB.ext eb8.1 x12)
              replace o7 := o7.ext x12
              replace hio0 := hio0.ext x12
              have e14 := e10.trans x12
              refine wsB_nil ?_
              refine wt_br ?_
              refine wrB_br ?_ ?_
              · obtain ⟨r15, hr15, H1⟩ := Option.bind_eq_some_iff.1 H1
                refine wbs rfl rfl rfl (stp_call (vs := []) Try.func78 rfl rfl rfl (ar0 ) (hash_constants_calls   r15 _  hr15) ?_)
                rintro _ w15 ⟨rfl, x15⟩
                refine ⟨_, rfl, (EB.ext eb13.1 x15), ?_⟩
                have eb16 := EB.trans eb13 (EB.ext eb13.1 x15)
                replace o7 := o7.ext x15
                replace hio0 := hio0.ext x15
                have e17 := e14.trans x15
                refine wsB_nil ?_
                refine wt_br ?_
                refine wrB_br ?_ ?_
                · refine wbs rfl rfl rfl (stp_allocL (z := (ag u32 ((List.replicate 64 (0 : UInt32))))) (cs := (ac u32 ((List.replicate 64 (0 : UInt32))))) [(bp g7), (bp gio0)] rfl Z69 rfl ?_)
                  intro g18 w18 o18 n18 g18r l18
                  refine ⟨(EB.ext eb16.1 (grown_ext g18r)), ?_⟩
                  have x18 := grown_ext g18r
                  have eb19 := EB.trans eb16 (EB.ext eb16.1 x18)
                  have q20 : Nq (bp g7) (bp g18) := o7.nq n18
                  have q21 : Nq (bp gio0) (bp g18) := hio0.nq n18
                  replace o7 := o7.ext x18
                  replace hio0 := hio0.ext x18
                  have n23 := NS.ext e17 n18
                  have e22 := e17.trans x18
                  refine wbs rfl rfl rfl (stp_allocL (z := (ag u32 ((List.replicate 64 (0 : UInt32))))) (cs := (ac u32 ((List.replicate 64 (0 : UInt32))))) [(bp g18), (bp g7), (bp gio0)] rfl Z69 rfl ?_)
                  intro g24 w24 o24 n24 g24r l24
                  refine ⟨(EB.ext eb19.1 (grown_ext g24r)), ?_⟩
                  have x24 := grown_ext g24r
                  have eb25 := EB.trans eb19 (EB.ext eb19.1 x24)
                  have q26 : Nq (bp g18) (bp g24) := o18.nq n24
                  have q27 : Nq (bp g7) (bp g24) := o7.nq n24
                  have q28 : Nq (bp gio0) (bp g24) := hio0.nq n24
                  replace o18 := o18.ext x24
                  replace o7 := o7.ext x24
                  replace hio0 := hio0.ext x24
                  have n30 := NS.ext e22 n24
                  have e29 := e22.trans x24
                  obtain ⟨c32, hc32, H1⟩ := Option.bind_eq_some_iff.1 H1
                  obtain ⟨c33, hc33, H1⟩ := Option.bind_eq_some_iff.1 H1
                  refine wbm rfl rfl rfl (stp_storeA [(bp g24)] [(bp g7), (bp gio0)] rfl A69 rfl rfl (lenA_eq hc32) (lenA_eq hc33) o18 one_u32 ?_)
                  intro w31 o31 g31 l31
                  refine ⟨(EB.own eb25.1 g31 (fun k hk => Nat.le_trans eb16.1 (n18 k hk))), ?_⟩
                  have eb34 := EB.trans eb25 (EB.own eb25.1 g31 (fun k hk => Nat.le_trans eb16.1 (n18 k hk)))
                  replace o24 := o24.other g31 q26.symm
                  replace o7 := o7.other g31 q20
                  replace hio0 := hio0.other g31 q21
                  have e35 := e29.grown g31 n23
                  obtain ⟨c37, hc37, H1⟩ := Option.bind_eq_some_iff.1 H1
                  refine wbm rfl rfl rfl (stp_storeA [] [(bp g18), (bp g7), (bp gio0)] rfl A69 rfl rfl (lenA_eq hc32) (lenA_eq hc37) o24 one_u32 ?_)
                  intro w36 o36 g36 l36
                  refine ⟨(EB.own eb34.1 g36 (fun k hk => Nat.le_trans eb19.1 (n24 k hk))), ?_⟩
                  have eb38 := EB.trans eb34 (EB.own eb34.1 g36 (fun k hk => Nat.le_trans eb19.1 (n24 k hk)))
                  replace o31 := o31.other g36 q26
                  replace o7 := o7.other g36 q27
                  replace hio0 := hio0.other g36 q28
                  have e39 := e35.grown g36 n30
                  obtain ⟨c41, hc41, H1⟩ := Option.bind_eq_some_iff.1 H1
                  refine wbn rfl (by kernel_rfl) rfl rfl (stp_storeA [(bp g24), (bp g18)] [(bp gio0)] rfl A98 rfl rfl (lenA_eq hc41) (lenA_eq hc6) o7 one_u32 ?_)
                  intro w40 o40 g40 l40
                  have eb42 := EB.trans eb38 (EB.own eb38.1 g40 (fun k hk => Nat.le_trans eb4.1 (n7 k hk)))
                  replace o36 := o36.other g40 q27.symm
                  replace o31 := o31.other g40 q20.symm
                  replace hio0 := hio0.other g40 q9
                  have e43 := e39.grown g40 n11
                  refine wsB_nil ?_
                  refine wt_fin ?_
                  obtain rfl := Option.some.inj H1
                  exact ⟨g18, g24, g7, rfl, rfl, rfl, rfl, rfl, e43, hio0, NS.own, o31, n23, o36, n30, o40, n11, q21, q28, q9, q26, q20.symm, q27.symm⟩
                · refine wrB_br ?_ ?_
                  · refine wbs rfl rfl rfl (stp_allocL (z := (ag u32 ((List.replicate 64 (0 : UInt32))))) (cs := (ac u32 ((List.replicate 64 (0 : UInt32))))) [(bp g7), (bp gio0)] rfl Z69 rfl ?_)
                    intro g18 w18 o18 n18 g18r l18
                    refine ⟨(EB.ext eb16.1 (grown_ext g18r)), ?_⟩
                    have x18 := grown_ext g18r
                    have eb19 := EB.trans eb16 (EB.ext eb16.1 x18)
                    have q20 : Nq (bp g7) (bp g18) := o7.nq n18
                    have q21 : Nq (bp gio0) (bp g18) := hio0.nq n18
                    replace o7 := o7.ext x18
                    replace hio0 := hio0.ext x18
                    have n23 := NS.ext e17 n18
                    have e22 := e17.trans x18
                    refine wbs rfl rfl rfl (stp_allocL (z := (ag u32 ((List.replicate 64 (0 : UInt32))))) (cs := (ac u32 ((List.replicate 64 (0 : UInt32))))) [(bp g18), (bp g7), (bp gio0)] rfl Z69 rfl ?_)
                    intro g24 w24 o24 n24 g24r l24
                    refine ⟨(EB.ext eb19.1 (grown_ext g24r)), ?_⟩
                    have x24 := grown_ext g24r
                    have eb25 := EB.trans eb19 (EB.ext eb19.1 x24)
                    have q26 : Nq (bp g18) (bp g24) := o18.nq n24
                    have q27 : Nq (bp g7) (bp g24) := o7.nq n24
                    have q28 : Nq (bp gio0) (bp g24) := hio0.nq n24
                    replace o18 := o18.ext x24
                    replace o7 := o7.ext x24
                    replace hio0 := hio0.ext x24
                    have n30 := NS.ext e22 n24
                    have e29 := e22.trans x24
                    obtain ⟨c32, hc32, H1⟩ := Option.bind_eq_some_iff.1 H1
                    obtain ⟨c33, hc33, H1⟩ := Option.bind_eq_some_iff.1 H1
                    refine wbm rfl rfl rfl (stp_storeA [] [(bp g18), (bp g7), (bp gio0)] rfl A69 rfl rfl (lenA_eq hc32) (lenA_eq hc33) o24 one_u32 ?_)
                    intro w31 o31 g31 l31
                    refine ⟨(EB.own eb25.1 g31 (fun k hk => Nat.le_trans eb19.1 (n24 k hk))), ?_⟩
                    have eb34 := EB.trans eb25 (EB.own eb25.1 g31 (fun k hk => Nat.le_trans eb19.1 (n24 k hk)))
                    replace o18 := o18.other g31 q26
                    replace o7 := o7.other g31 q27
                    replace hio0 := hio0.other g31 q28
                    have e35 := e29.grown g31 n30
                    obtain ⟨c37, hc37, H1⟩ := Option.bind_eq_some_iff.1 H1
                    refine wbm rfl rfl rfl (stp_storeA [(bp g24)] [(bp g7), (bp gio0)] rfl A69 rfl rfl (lenA_eq hc32) (lenA_eq hc37) o18 one_u32 ?_)
                    intro w36 o36 g36 l36
                    refine ⟨(EB.own eb34.1 g36 (fun k hk => Nat.le_trans eb16.1 (n18 k hk))), ?_⟩
                    have eb38 := EB.trans eb34 (EB.own eb34.1 g36 (fun k hk => Nat.le_trans eb16.1 (n18 k hk)))
                    replace o31 := o31.other g36 q26.symm
                    replace o7 := o7.other g36 q20
                    replace hio0 := hio0.other g36 q21
                    have e39 := e35.grown g36 n23
                    obtain ⟨c41, hc41, H1⟩ := Option.bind_eq_some_iff.1 H1
                    refine wbn rfl (by kernel_rfl) rfl rfl (stp_storeA [(bp g24), (bp g18)] [(bp gio0)] rfl A98 rfl rfl (lenA_eq hc41) (lenA_eq hc6) o7 one_u32 ?_)
                    intro w40 o40 g40 l40
                    have eb42 := EB.trans eb38 (EB.own eb38.1 g40 (fun k hk => Nat.le_trans eb4.1 (n7 k hk)))
                    replace o31 := o31.other g40 q27.symm
                    replace o36 := o36.other g40 q20.symm
                    replace hio0 := hio0.other g40 q9
                    have e43 := e39.grown g40 n11
                    refine wsB_nil ?_
                    refine wt_fin ?_
                    obtain rfl := Option.some.inj H1
                    exact ⟨g24, g18, g7, rfl, rfl, rfl, rfl, rfl, e43, hio0, NS.own, o31, n30, o36, n23, o40, n11, q28, q21, q9, q26.symm, q27.symm, q20.symm⟩
                  · trivial
              · refine wrB_br ?_ ?_
                · refine wbs rfl rfl rfl (stp_allocL (z := (ag u32 ((List.replicate 64 (0 : UInt32))))) (cs := (ac u32 ((List.replicate 64 (0 : UInt32))))) [(bp g7), (bp gio0)] rfl Z69 rfl ?_)
                  intro g15 w15 o15 n15 g15r l15
                  refine ⟨(EB.ext eb13.1 (grown_ext g15r)), ?_⟩
                  have x15 := grown_ext g15r
                  have eb16 := EB.trans eb13 (EB.ext eb13.1 x15)
                  have q17 : Nq (bp g7) (bp g15) := o7.nq n15
                  have q18 : Nq (bp gio0) (bp g15) := hio0.nq n15
                  replace o7 := o7.ext x15
                  replace hio0 := hio0.ext x15
                  have n20 := NS.ext e14 n15
                  have e19 := e14.trans x15
                  refine wsB_nil ?_
                  refine wt_br ?_
                  refine wrB_br ?_ ?_
                  · obtain ⟨r21, hr21, H1⟩ := Option.bind_eq_some_iff.1 H1
                    refine wbs rfl rfl rfl (stp_call (vs := []) Try.func78 rfl rfl rfl (ar0 ) (hash_constants_calls   r21 _  hr21) ?_)
                    rintro _ w21 ⟨rfl, x21⟩
                    refine ⟨_, rfl, (EB.ext eb16.1 x21), ?_⟩
                    have eb22 := EB.trans eb16 (EB.ext eb16.1 x21)
                    replace o15 := o15.ext x21
                    replace o7 := o7.ext x21
                    replace hio0 := hio0.ext x21
                    have e23 := e19.trans x21
                    refine wbs rfl rfl rfl (stp_allocL (z := (ag u32 ((List.replicate 64 (0 : UInt32))))) (cs := (ac u32 ((List.replicate 64 (0 : UInt32))))) [(bp g15), (bp g7), (bp gio0)] rfl Z69 rfl ?_)
                    intro g24 w24 o24 n24 g24r l24
                    refine ⟨(EB.ext eb22.1 (grown_ext g24r)), ?_⟩
                    have x24 := grown_ext g24r
                    have eb25 := EB.trans eb22 (EB.ext eb22.1 x24)
                    have q26 : Nq (bp g15) (bp g24) := o15.nq n24
                    have q27 : Nq (bp g7) (bp g24) := o7.nq n24
                    have q28 : Nq (bp gio0) (bp g24) := hio0.nq n24
                    replace o15 := o15.ext x24
                    replace o7 := o7.ext x24
                    replace hio0 := hio0.ext x24
                    have n30 := NS.ext e23 n24
                    have e29 := e23.trans x24
                    obtain ⟨c32, hc32, H1⟩ := Option.bind_eq_some_iff.1 H1
                    obtain ⟨c33, hc33, H1⟩ := Option.bind_eq_some_iff.1 H1
                    refine wbm rfl rfl rfl (stp_storeA [(bp g24)] [(bp g7), (bp gio0)] rfl A69 rfl rfl (lenA_eq hc32) (lenA_eq hc33) o15 one_u32 ?_)
                    intro w31 o31 g31 l31
                    refine ⟨(EB.own eb25.1 g31 (fun k hk => Nat.le_trans eb13.1 (n15 k hk))), ?_⟩
                    have eb34 := EB.trans eb25 (EB.own eb25.1 g31 (fun k hk => Nat.le_trans eb13.1 (n15 k hk)))
                    replace o24 := o24.other g31 q26.symm
                    replace o7 := o7.other g31 q17
                    replace hio0 := hio0.other g31 q18
                    have e35 := e29.grown g31 n20
                    obtain ⟨c37, hc37, H1⟩ := Option.bind_eq_some_iff.1 H1
                    refine wbm rfl rfl rfl (stp_storeA [] [(bp g15), (bp g7), (bp gio0)] rfl A69 rfl rfl (lenA_eq hc32) (lenA_eq hc37) o24 one_u32 ?_)
                    intro w36 o36 g36 l36
                    refine ⟨(EB.own eb34.1 g36 (fun k hk => Nat.le_trans eb22.1 (n24 k hk))), ?_⟩
                    have eb38 := EB.trans eb34 (EB.own eb34.1 g36 (fun k hk => Nat.le_trans eb22.1 (n24 k hk)))
                    replace o31 := o31.other g36 q26
                    replace o7 := o7.other g36 q27
                    replace hio0 := hio0.other g36 q28
                    have e39 := e35.grown g36 n30
                    obtain ⟨c41, hc41, H1⟩ := Option.bind_eq_some_iff.1 H1
                    refine wbn rfl (by kernel_rfl) rfl rfl (stp_storeA [(bp g24), (bp g15)] [(bp gio0)] rfl A98 rfl rfl (lenA_eq hc41) (lenA_eq hc6) o7 one_u32 ?_)
                    intro w40 o40 g40 l40
                    have eb42 := EB.trans eb38 (EB.own eb38.1 g40 (fun k hk => Nat.le_trans eb4.1 (n7 k hk)))
                    replace o36 := o36.other g40 q27.symm
                    replace o31 := o31.other g40 q17.symm
                    replace hio0 := hio0.other g40 q9
                    have e43 := e39.grown g40 n11
                    refine wsB_nil ?_
                    refine wt_fin ?_
                    obtain rfl := Option.some.inj H1
                    exact ⟨g15, g24, g7, rfl, rfl, rfl, rfl, rfl, e43, hio0, NS.own, o31, n20, o36, n30, o40, n11, q18, q28, q9, q26, q17.symm, q27.symm⟩
                  · refine wrB_br ?_ ?_
                    · refine wbs rfl rfl rfl (stp_allocL (z := (ag u32 ((List.replicate 64 (0 : UInt32))))) (cs := (ac u32 ((List.replicate 64 (0 : UInt32))))) [(bp g15), (bp g7), (bp gio0)] rfl Z69 rfl ?_)
                      intro g21 w21 o21 n21 g21r l21
                      refine ⟨(EB.ext eb16.1 (grown_ext g21r)), ?_⟩
                      have x21 := grown_ext g21r
                      have eb22 := EB.trans eb16 (EB.ext eb16.1 x21)
                      have q23 : Nq (bp g15) (bp g21) := o15.nq n21
                      have q24 : Nq (bp g7) (bp g21) := o7.nq n21
                      have q25 : Nq (bp gio0) (bp g21) := hio0.nq n21
                      replace o15 := o15.ext x21
                      replace o7 := o7.ext x21
                      replace hio0 := hio0.ext x21
                      have n27 := NS.ext e19 n21
                      have e26 := e19.trans x21
                      obtain ⟨r28, hr28, H1⟩ := Option.bind_eq_some_iff.1 H1
                      refine wbs rfl rfl rfl (stp_call (vs := []) Try.func78 rfl rfl rfl (ar0 ) (hash_constants_calls   r28 _  hr28) ?_)
                      rintro _ w28 ⟨rfl, x28⟩
                      refine ⟨_, rfl, (EB.ext eb22.1 x28), ?_⟩
                      have eb29 := EB.trans eb22 (EB.ext eb22.1 x28)
                      replace o21 := o21.ext x28
                      replace o15 := o15.ext x28
                      replace o7 := o7.ext x28
                      replace hio0 := hio0.ext x28
                      have e30 := e26.trans x28
                      obtain ⟨c32, hc32, H1⟩ := Option.bind_eq_some_iff.1 H1
                      obtain ⟨c33, hc33, H1⟩ := Option.bind_eq_some_iff.1 H1
                      refine wbm rfl rfl rfl (stp_storeA [(bp g21)] [(bp g7), (bp gio0)] rfl A69 rfl rfl (lenA_eq hc32) (lenA_eq hc33) o15 one_u32 ?_)
                      intro w31 o31 g31 l31
                      refine ⟨(EB.own eb29.1 g31 (fun k hk => Nat.le_trans eb13.1 (n15 k hk))), ?_⟩
                      have eb34 := EB.trans eb29 (EB.own eb29.1 g31 (fun k hk => Nat.le_trans eb13.1 (n15 k hk)))
                      replace o21 := o21.other g31 q23.symm
                      replace o7 := o7.other g31 q17
                      replace hio0 := hio0.other g31 q18
                      have e35 := e30.grown g31 n20
                      obtain ⟨c37, hc37, H1⟩ := Option.bind_eq_some_iff.1 H1
                      refine wbm rfl rfl rfl (stp_storeA [] [(bp g15), (bp g7), (bp gio0)] rfl A69 rfl rfl (lenA_eq hc32) (lenA_eq hc37) o21 one_u32 ?_)
                      intro w36 o36 g36 l36
                      refine ⟨(EB.own eb34.1 g36 (fun k hk => Nat.le_trans eb16.1 (n21 k hk))), ?_⟩
                      have eb38 := EB.trans eb34 (EB.own eb34.1 g36 (fun k hk => Nat.le_trans eb16.1 (n21 k hk)))
                      replace o31 := o31.other g36 q23
                      replace o7 := o7.other g36 q24
                      replace hio0 := hio0.other g36 q25
                      have e39 := e35.grown g36 n27
                      obtain ⟨c41, hc41, H1⟩ := Option.bind_eq_some_iff.1 H1
                      refine wbn rfl (by kernel_rfl) rfl rfl (stp_storeA [(bp g21), (bp g15)] [(bp gio0)] rfl A98 rfl rfl (lenA_eq hc41) (lenA_eq hc6) o7 one_u32 ?_)
                      intro w40 o40 g40 l40
                      have eb42 := EB.trans eb38 (EB.own eb38.1 g40 (fun k hk => Nat.le_trans eb4.1 (n7 k hk)))
                      replace o36 := o36.other g40 q24.symm
                      replace o31 := o31.other g40 q17.symm
                      replace hio0 := hio0.other g40 q9
                      have e43 := e39.grown g40 n11
                      refine wsB_nil ?_
                      refine wt_fin ?_
                      obtain rfl := Option.some.inj H1
                      exact ⟨g15, g21, g7, rfl, rfl, rfl, rfl, rfl, e43, hio0, NS.own, o31, n20, o36, n27, o40, n11, q18, q25, q9, q23, q17.symm, q24.symm⟩
                    · trivial
                · refine wrB_br ?_ ?_
                  · refine wbs rfl rfl rfl (stp_allocL (z := (ag u32 ((List.replicate 64 (0 : UInt32))))) (cs := (ac u32 ((List.replicate 64 (0 : UInt32))))) [(bp g7), (bp gio0)] rfl Z69 rfl ?_)
                    intro g15 w15 o15 n15 g15r l15
                    refine ⟨(EB.ext eb13.1 (grown_ext g15r)), ?_⟩
                    have x15 := grown_ext g15r
                    have eb16 := EB.trans eb13 (EB.ext eb13.1 x15)
                    have q17 : Nq (bp g7) (bp g15) := o7.nq n15
                    have q18 : Nq (bp gio0) (bp g15) := hio0.nq n15
                    replace o7 := o7.ext x15
                    replace hio0 := hio0.ext x15
                    have n20 := NS.ext e14 n15
                    have e19 := e14.trans x15
                    refine wsB_nil ?_
                    refine wt_br ?_
                    refine wrB_br ?_ ?_
                    · obtain ⟨r21, hr21, H1⟩ := Option.bind_eq_some_iff.1 H1
                      refine wbs rfl rfl rfl (stp_call (vs := []) Try.func78 rfl rfl rfl (ar0 ) (hash_constants_calls   r21 _  hr21) ?_)
                      rintro _ w21 ⟨rfl, x21⟩
                      refine ⟨_, rfl, (EB.ext eb16.1 x21), ?_⟩
                      have eb22 := EB.trans eb16 (EB.ext eb16.1 x21)
                      replace o15 := o15.ext x21
                      replace o7 := o7.ext x21
                      replace hio0 := hio0.ext x21
                      have e23 := e19.trans x21
                      refine wbs rfl rfl rfl (stp_allocL (z := (ag u32 ((List.replicate 64 (0 : UInt32))))) (cs := (ac u32 ((List.replicate 64 (0 : UInt32))))) [(bp g15), (bp g7), (bp gio0)] rfl Z69 rfl ?_)
                      intro g24 w24 o24 n24 g24r l24
                      refine ⟨(EB.ext eb22.1 (grown_ext g24r)), ?_⟩
                      have x24 := grown_ext g24r
                      have eb25 := EB.trans eb22 (EB.ext eb22.1 x24)
                      have q26 : Nq (bp g15) (bp g24) := o15.nq n24
                      have q27 : Nq (bp g7) (bp g24) := o7.nq n24
                      have q28 : Nq (bp gio0) (bp g24) := hio0.nq n24
                      replace o15 := o15.ext x24
                      replace o7 := o7.ext x24
                      replace hio0 := hio0.ext x24
                      have n30 := NS.ext e23 n24
                      have e29 := e23.trans x24
                      obtain ⟨c32, hc32, H1⟩ := Option.bind_eq_some_iff.1 H1
                      obtain ⟨c33, hc33, H1⟩ := Option.bind_eq_some_iff.1 H1
                      refine wbm rfl rfl rfl (stp_storeA [] [(bp g15), (bp g7), (bp gio0)] rfl A69 rfl rfl (lenA_eq hc32) (lenA_eq hc33) o24 one_u32 ?_)
                      intro w31 o31 g31 l31
                      refine ⟨(EB.own eb25.1 g31 (fun k hk => Nat.le_trans eb22.1 (n24 k hk))), ?_⟩
                      have eb34 := EB.trans eb25 (EB.own eb25.1 g31 (fun k hk => Nat.le_trans eb22.1 (n24 k hk)))
                      replace o15 := o15.other g31 q26
                      replace o7 := o7.other g31 q27
                      replace hio0 := hio0.other g31 q28
                      have e35 := e29.grown g31 n30
                      obtain ⟨c37, hc37, H1⟩ := Option.bind_eq_some_iff.1 H1
                      refine wbm rfl rfl rfl (stp_storeA [(bp g24)] [(bp g7), (bp gio0)] rfl A69 rfl rfl (lenA_eq hc32) (lenA_eq hc37) o15 one_u32 ?_)
                      intro w36 o36 g36 l36
                      refine ⟨(EB.own eb34.1 g36 (fun k hk => Nat.le_trans eb13.1 (n15 k hk))), ?_⟩
                      have eb38 := EB.trans eb34 (EB.own eb34.1 g36 (fun k hk => Nat.le_trans eb13.1 (n15 k hk)))
                      replace o31 := o31.other g36 q26.symm
                      replace o7 := o7.other g36 q17
                      replace hio0 := hio0.other g36 q18
                      have e39 := e35.grown g36 n20
                      obtain ⟨c41, hc41, H1⟩ := Option.bind_eq_some_iff.1 H1
                      refine wbn rfl (by kernel_rfl) rfl rfl (stp_storeA [(bp g24), (bp g15)] [(bp gio0)] rfl A98 rfl rfl (lenA_eq hc41) (lenA_eq hc6) o7 one_u32 ?_)
                      intro w40 o40 g40 l40
                      have eb42 := EB.trans eb38 (EB.own eb38.1 g40 (fun k hk => Nat.le_trans eb4.1 (n7 k hk)))
                      replace o31 := o31.other g40 q27.symm
                      replace o36 := o36.other g40 q17.symm
                      replace hio0 := hio0.other g40 q9
                      have e43 := e39.grown g40 n11
                      refine wsB_nil ?_
                      refine wt_fin ?_
                      obtain rfl := Option.some.inj H1
                      exact ⟨g24, g15, g7, rfl, rfl, rfl, rfl, rfl, e43, hio0, NS.own, o31, n30, o36, n20, o40, n11, q28, q18, q9, q26.symm, q27.symm, q17.symm⟩
                    · refine wrB_br ?_ ?_
                      · refine wbs rfl rfl rfl (stp_allocL (z := (ag u32 ((List.replicate 64 (0 : UInt32))))) (cs := (ac u32 ((List.replicate 64 (0 : UInt32))))) [(bp g15), (bp g7), (bp gio0)] rfl Z69 rfl ?_)
                        intro g21 w21 o21 n21 g21r l21
                        refine ⟨(EB.ext eb16.1 (grown_ext g21r)), ?_⟩
                        have x21 := grown_ext g21r
                        have eb22 := EB.trans eb16 (EB.ext eb16.1 x21)
                        have q23 : Nq (bp g15) (bp g21) := o15.nq n21
                        have q24 : Nq (bp g7) (bp g21) := o7.nq n21
                        have q25 : Nq (bp gio0) (bp g21) := hio0.nq n21
                        replace o15 := o15.ext x21
                        replace o7 := o7.ext x21
                        replace hio0 := hio0.ext x21
                        have n27 := NS.ext e19 n21
                        have e26 := e19.trans x21
                        obtain ⟨r28, hr28, H1⟩ := Option.bind_eq_some_iff.1 H1
                        refine wbs rfl rfl rfl (stp_call (vs := []) Try.func78 rfl rfl rfl (ar0 ) (hash_constants_calls   r28 _  hr28) ?_)
                        rintro _ w28 ⟨rfl, x28⟩
                        refine ⟨_, rfl, (EB.ext eb22.1 x28), ?_⟩
                        have eb29 := EB.trans eb22 (EB.ext eb22.1 x28)
                        replace o21 := o21.ext x28
                        replace o15 := o15.ext x28
                        replace o7 := o7.ext x28
                        replace hio0 := hio0.ext x28
                        have e30 := e26.trans x28
                        obtain ⟨c32, hc32, H1⟩ := Option.bind_eq_some_iff.1 H1
                        obtain ⟨c33, hc33, H1⟩ := Option.bind_eq_some_iff.1 H1
                        refine wbm rfl rfl rfl (stp_storeA [] [(bp g15), (bp g7), (bp gio0)] rfl A69 rfl rfl (lenA_eq hc32) (lenA_eq hc33) o21 one_u32 ?_)
                        intro w31 o31 g31 l31
                        refine ⟨(EB.own eb29.1 g31 (fun k hk => Nat.le_trans eb16.1 (n21 k hk))), ?_⟩
                        have eb34 := EB.trans eb29 (EB.own eb29.1 g31 (fun k hk => Nat.le_trans eb16.1 (n21 k hk)))
                        replace o15 := o15.other g31 q23
                        replace o7 := o7.other g31 q24
                        replace hio0 := hio0.other g31 q25
                        have e35 := e30.grown g31 n27
                        obtain ⟨c37, hc37, H1⟩ := Option.bind_eq_some_iff.1 H1
                        refine wbm rfl rfl rfl (stp_storeA [(bp g21)] [(bp g7), (bp gio0)] rfl A69 rfl rfl (lenA_eq hc32) (lenA_eq hc37) o15 one_u32 ?_)
                        intro w36 o36 g36 l36
                        refine ⟨(EB.own eb34.1 g36 (fun k hk => Nat.le_trans eb13.1 (n15 k hk))), ?_⟩
                        have eb38 := EB.trans eb34 (EB.own eb34.1 g36 (fun k hk => Nat.le_trans eb13.1 (n15 k hk)))
                        replace o31 := o31.other g36 q23.symm
                        replace o7 := o7.other g36 q17
                        replace hio0 := hio0.other g36 q18
                        have e39 := e35.grown g36 n20
                        obtain ⟨c41, hc41, H1⟩ := Option.bind_eq_some_iff.1 H1
                        refine wbn rfl (by kernel_rfl) rfl rfl (stp_storeA [(bp g21), (bp g15)] [(bp gio0)] rfl A98 rfl rfl (lenA_eq hc41) (lenA_eq hc6) o7 one_u32 ?_)
                        intro w40 o40 g40 l40
                        have eb42 := EB.trans eb38 (EB.own eb38.1 g40 (fun k hk => Nat.le_trans eb4.1 (n7 k hk)))
                        replace o31 := o31.other g40 q24.symm
                        replace o36 := o36.other g40 q17.symm
                        replace hio0 := hio0.other g40 q9
                        have e43 := e39.grown g40 n11
                        refine wsB_nil ?_
                        refine wt_fin ?_
                        obtain rfl := Option.some.inj H1
                        exact ⟨g21, g15, g7, rfl, rfl, rfl, rfl, rfl, e43, hio0, NS.own, o31, n27, o36, n20, o40, n11, q25, q18, q9, q23.symm, q24.symm, q17.symm⟩
                      · trivial
                  · trivial
            · refine wrB_br ?_ ?_
              · refine wbs rfl rfl rfl (stp_allocL (z := (ag u32 ((List.replicate 64 (0 : UInt32))))) (cs := (ac u32 ((List.replicate 64 (0 : UInt32))))) [(bp g7), (bp gio0)] rfl Z69 rfl ?_)
                intro g12 w12 o12 n12 g12r l12
                refine ⟨(EB.ext eb8.1 (grown_ext g12r)), ?_⟩
                have x12 := grown_ext g12r
                have eb13 := EB.trans eb8 (EB.ext eb8.1 x12)
                have q14 : Nq (bp g7) (bp g12) := o7.nq n12
                have q15 : Nq (bp gio0) (bp g12) := hio0.nq n12
                replace o7 := o7.ext x12
                replace hio0 := hio0.ext x12
                have n17 := NS.ext e10 n12
                have e16 := e10.trans x12
                refine wsB_nil ?_
                refine wt_br ?_
                refine wrB_br ?_ ?_
                · obtain ⟨r18, hr18, H1⟩ := Option.bind_eq_some_iff.1 H1
                  refine wbs rfl rfl rfl (stp_call (vs := [p1]) Try.func77 rfl rfl rfl (ar1 rfl) (hash_plan_calls a1p p1 r18 _ (hp1.lift (Lift.exg0 e16)) hr18) ?_)
                  rintro _ w18 ⟨rfl, x18⟩
                  refine ⟨_, rfl, (EB.ext eb13.1 x18), ?_⟩
                  have eb19 := EB.trans eb13 (EB.ext eb13.1 x18)
                  replace o12 := o12.ext x18
                  replace o7 := o7.ext x18
                  replace hio0 := hio0.ext x18
                  have e20 := e16.trans x18
                  refine wsB_nil ?_
                  refine wt_br ?_
                  refine wrB_br ?_ ?_
                  · obtain ⟨r21, hr21, H1⟩ := Option.bind_eq_some_iff.1 H1
                    refine wbs rfl rfl rfl (stp_call (vs := []) Try.func78 rfl rfl rfl (ar0 ) (hash_constants_calls   r21 _  hr21) ?_)
                    rintro _ w21 ⟨rfl, x21⟩
                    refine ⟨_, rfl, (EB.ext eb19.1 x21), ?_⟩
                    have eb22 := EB.trans eb19 (EB.ext eb19.1 x21)
                    replace o12 := o12.ext x21
                    replace o7 := o7.ext x21
                    replace hio0 := hio0.ext x21
                    have e23 := e20.trans x21
                    refine wbs rfl rfl rfl (stp_allocL (z := (ag u32 ((List.replicate 64 (0 : UInt32))))) (cs := (ac u32 ((List.replicate 64 (0 : UInt32))))) [(bp g12), (bp g7), (bp gio0)] rfl Z69 rfl ?_)
                    intro g24 w24 o24 n24 g24r l24
                    refine ⟨(EB.ext eb22.1 (grown_ext g24r)), ?_⟩
                    have x24 := grown_ext g24r
                    have eb25 := EB.trans eb22 (EB.ext eb22.1 x24)
                    have q26 : Nq (bp g12) (bp g24) := o12.nq n24
                    have q27 : Nq (bp g7) (bp g24) := o7.nq n24
                    have q28 : Nq (bp gio0) (bp g24) := hio0.nq n24
                    replace o12 := o12.ext x24
                    replace o7 := o7.ext x24
                    replace hio0 := hio0.ext x24
                    have n30 := NS.ext e23 n24
                    have e29 := e23.trans x24
                    obtain ⟨c32, hc32, H1⟩ := Option.bind_eq_some_iff.1 H1
                    obtain ⟨c33, hc33, H1⟩ := Option.bind_eq_some_iff.1 H1
                    refine wbm rfl rfl rfl (stp_storeA [(bp g24)] [(bp g7), (bp gio0)] rfl A69 rfl rfl (lenA_eq hc32) (lenA_eq hc33) o12 one_u32 ?_)
                    intro w31 o31 g31 l31
                    refine ⟨(EB.own eb25.1 g31 (fun k hk => Nat.le_trans eb8.1 (n12 k hk))), ?_⟩
                    have eb34 := EB.trans eb25 (EB.own eb25.1 g31 (fun k hk => Nat.le_trans eb8.1 (n12 k hk)))
                    replace o24 := o24.other g31 q26.symm
                    replace o7 := o7.other g31 q14
                    replace hio0 := hio0.other g31 q15
                    have e35 := e29.grown g31 n17
                    obtain ⟨c37, hc37, H1⟩ := Option.bind_eq_some_iff.1 H1
                    refine wbm rfl rfl rfl (stp_storeA [] [(bp g12), (bp g7), (bp gio0)] rfl A69 rfl rfl (lenA_eq hc32) (lenA_eq hc37) o24 one_u32 ?_)
                    intro w36 o36 g36 l36
                    refine ⟨(EB.own eb34.1 g36 (fun k hk => Nat.le_trans eb22.1 (n24 k hk))), ?_⟩
                    have eb38 := EB.trans eb34 (EB.own eb34.1 g36 (fun k hk => Nat.le_trans eb22.1 (n24 k hk)))
                    replace o31 := o31.other g36 q26
                    replace o7 := o7.other g36 q27
                    replace hio0 := hio0.other g36 q28
                    have e39 := e35.grown g36 n30
                    obtain ⟨c41, hc41, H1⟩ := Option.bind_eq_some_iff.1 H1
                    refine wbn rfl (by kernel_rfl) rfl rfl (stp_storeA [(bp g24), (bp g12)] [(bp gio0)] rfl A98 rfl rfl (lenA_eq hc41) (lenA_eq hc6) o7 one_u32 ?_)
                    intro w40 o40 g40 l40
                    have eb42 := EB.trans eb38 (EB.own eb38.1 g40 (fun k hk => Nat.le_trans eb4.1 (n7 k hk)))
                    replace o36 := o36.other g40 q27.symm
                    replace o31 := o31.other g40 q14.symm
                    replace hio0 := hio0.other g40 q9
                    have e43 := e39.grown g40 n11
                    refine wsB_nil ?_
                    refine wt_fin ?_
                    obtain rfl := Option.some.inj H1
                    exact ⟨g12, g24, g7, rfl, rfl, rfl, rfl, rfl, e43, hio0, NS.own, o31, n17, o36, n30, o40, n11, q15, q28, q9, q26, q14.symm, q27.symm⟩
                  · refine wrB_br ?_ ?_
                    · refine wbs rfl rfl rfl (stp_allocL (z := (ag u32 ((List.replicate 64 (0 : UInt32))))) (cs := (ac u32 ((List.replicate 64 (0 : UInt32))))) [(bp g12), (bp g7), (bp gio0)] rfl Z69 rfl ?_)
                      intro g21 w21 o21 n21 g21r l21
                      refine ⟨(EB.ext eb19.1 (grown_ext g21r)), ?_⟩
                      have x21 := grown_ext g21r
                      have eb22 := EB.trans eb19 (EB.ext eb19.1 x21)
                      have q23 : Nq (bp g12) (bp g21) := o12.nq n21
                      have q24 : Nq (bp g7) (bp g21) := o7.nq n21
                      have q25 : Nq (bp gio0) (bp g21) := hio0.nq n21
                      replace o12 := o12.ext x21
                      replace o7 := o7.ext x21
                      replace hio0 := hio0.ext x21
                      have n27 := NS.ext e20 n21
                      have e26 := e20.trans x21
                      obtain ⟨r28, hr28, H1⟩ := Option.bind_eq_some_iff.1 H1
                      refine wbs rfl rfl rfl (stp_call (vs := []) Try.func78 rfl rfl rfl (ar0 ) (hash_constants_calls   r28 _  hr28) ?_)
                      rintro _ w28 ⟨rfl, x28⟩
                      refine ⟨_, rfl, (EB.ext eb22.1 x28), ?_⟩
                      have eb29 := EB.trans eb22 (EB.ext eb22.1 x28)
                      replace o21 := o21.ext x28
                      replace o12 := o12.ext x28
                      replace o7 := o7.ext x28
                      replace hio0 := hio0.ext x28
                      have e30 := e26.trans x28
                      obtain ⟨c32, hc32, H1⟩ := Option.bind_eq_some_iff.1 H1
                      obtain ⟨c33, hc33, H1⟩ := Option.bind_eq_some_iff.1 H1
                      refine wbm rfl rfl rfl (stp_storeA [(bp g21)] [(bp g7), (bp gio0)] rfl A69 rfl rfl (lenA_eq hc32) (lenA_eq hc33) o12 one_u32 ?_)
                      intro w31 o31 g31 l31
                      refine ⟨(EB.own eb29.1 g31 (fun k hk => Nat.le_trans eb8.1 (n12 k hk))), ?_⟩
                      have eb34 := EB.trans eb29 (EB.own eb29.1 g31 (fun k hk => Nat.le_trans eb8.1 (n12 k hk)))
                      replace o21 := o21.other g31 q23.symm
                      replace o7 := o7.other g31 q14
                      replace hio0 := hio0.other g31 q15
                      have e35 := e30.grown g31 n17
                      obtain ⟨c37, hc37, H1⟩ := Option.bind_eq_some_iff.1 H1
                      refine wbm rfl rfl rfl (stp_storeA [] [(bp g12), (bp g7), (bp gio0)] rfl A69 rfl rfl (lenA_eq hc32) (lenA_eq hc37) o21 one_u32 ?_)
                      intro w36 o36 g36 l36
                      refine ⟨(EB.own eb34.1 g36 (fun k hk => Nat.le_trans eb19.1 (n21 k hk))), ?_⟩
                      have eb38 := EB.trans eb34 (EB.own eb34.1 g36 (fun k hk => Nat.le_trans eb19.1 (n21 k hk)))
                      replace o31 := o31.other g36 q23
                      replace o7 := o7.other g36 q24
                      replace hio0 := hio0.other g36 q25
                      have e39 := e35.grown g36 n27
                      obtain ⟨c41, hc41, H1⟩ := Option.bind_eq_some_iff.1 H1
                      refine wbn rfl (by kernel_rfl) rfl rfl (stp_storeA [(bp g21), (bp g12)] [(bp gio0)] rfl A98 rfl rfl (lenA_eq hc41) (lenA_eq hc6) o7 one_u32 ?_)
                      intro w40 o40 g40 l40
                      have eb42 := EB.trans eb38 (EB.own eb38.1 g40 (fun k hk => Nat.le_trans eb4.1 (n7 k hk)))
                      replace o36 := o36.other g40 q24.symm
                      replace o31 := o31.other g40 q14.symm
                      replace hio0 := hio0.other g40 q9
                      have e43 := e39.grown g40 n11
                      refine wsB_nil ?_
                      refine wt_fin ?_
                      obtain rfl := Option.some.inj H1
                      exact ⟨g12, g21, g7, rfl, rfl, rfl, rfl, rfl, e43, hio0, NS.own, o31, n17, o36, n27, o40, n11, q15, q25, q9, q23, q14.symm, q24.symm⟩
                    · trivial
                · refine wrB_br ?_ ?_
                  · refine wbs rfl rfl rfl (stp_allocL (z := (ag u32 ((List.replicate 64 (0 : UInt32))))) (cs := (ac u32 ((List.replicate 64 (0 : UInt32))))) [(bp g12), (bp g7), (bp gio0)] rfl Z69 rfl ?_)
                    intro g18 w18 o18 n18 g18r l18
                    refine ⟨(EB.ext eb13.1 (grown_ext g18r)), ?_⟩
                    have x18 := grown_ext g18r
                    have eb19 := EB.trans eb13 (EB.ext eb13.1 x18)
                    have q20 : Nq (bp g12) (bp g18) := o12.nq n18
                    have q21 : Nq (bp g7) (bp g18) := o7.nq n18
                    have q22 : Nq (bp gio0) (bp g18) := hio0.nq n18
                    replace o12 := o12.ext x18
                    replace o7 := o7.ext x18
                    replace hio0 := hio0.ext x18
                    have n24 := NS.ext e16 n18
                    have e23 := e16.trans x18
                    obtain ⟨r25, hr25, H1⟩ := Option.bind_eq_some_iff.1 H1
                    refine wbs rfl rfl rfl (stp_call (vs := [p1]) Try.func77 rfl rfl rfl (ar1 rfl) (hash_plan_calls a1p p1 r25 _ (hp1.lift (Lift.exg0 e23)) hr25) ?_)
                    rintro _ w25 ⟨rfl, x25⟩
                    refine ⟨_, rfl, (EB.ext eb19.1 x25), ?_⟩
                    have eb26 := EB.trans eb19 (EB.ext eb19.1 x25)
                    replace o18 := o18.ext x25
                    replace o12 := o12.ext x25
                    replace o7 := o7.ext x25
                    replace hio0 := hio0.ext x25
                    have e27 := e23.trans x25
                    obtain ⟨r28, hr28, H1⟩ := Option.bind_eq_some_iff.1 H1
                    refine wbs rfl rfl rfl (stp_call (vs := []) Try.func78 rfl rfl rfl (ar0 ) (hash_constants_calls   r28 _  hr28) ?_)
                    rintro _ w28 ⟨rfl, x28⟩
                    refine ⟨_, rfl, (EB.ext eb26.1 x28), ?_⟩
                    have eb29 := EB.trans eb26 (EB.ext eb26.1 x28)
                    replace o18 := o18.ext x28
                    replace o12 := o12.ext x28
                    replace o7 := o7.ext x28
                    replace hio0 := hio0.ext x28
                    have e30 := e27.trans x28
                    obtain ⟨c32, hc32, H1⟩ := Option.bind_eq_some_iff.1 H1
                    obtain ⟨c33, hc33, H1⟩ := Option.bind_eq_some_iff.1 H1
                    refine wbm rfl rfl rfl (stp_storeA [(bp g18)] [(bp g7), (bp gio0)] rfl A69 rfl rfl (lenA_eq hc32) (lenA_eq hc33) o12 one_u32 ?_)
                    intro w31 o31 g31 l31
                    refine ⟨(EB.own eb29.1 g31 (fun k hk => Nat.le_trans eb8.1 (n12 k hk))), ?_⟩
                    have eb34 := EB.trans eb29 (EB.own eb29.1 g31 (fun k hk => Nat.le_trans eb8.1 (n12 k hk)))
                    replace o18 := o18.other g31 q20.symm
                    replace o7 := o7.other g31 q14
                    replace hio0 := hio0.other g31 q15
                    have e35 := e30.grown g31 n17
                    obtain ⟨c37, hc37, H1⟩ := Option.bind_eq_some_iff.1 H1
                    refine wbm rfl rfl rfl (stp_storeA [] [(bp g12), (bp g7), (bp gio0)] rfl A69 rfl rfl (lenA_eq hc32) (lenA_eq hc37) o18 one_u32 ?_)
                    intro w36 o36 g36 l36
                    refine ⟨(EB.own eb34.1 g36 (fun k hk => Nat.le_trans eb13.1 (n18 k hk))), ?_⟩
                    have eb38 := EB.trans eb34 (EB.own eb34.1 g36 (fun k hk => Nat.le_trans eb13.1 (n18 k hk)))
                    replace o31 := o31.other g36 q20
                    replace o7 := o7.other g36 q21
                    replace hio0 := hio0.other g36 q22
                    have e39 := e35.grown g36 n24
                    obtain ⟨c41, hc41, H1⟩ := Option.bind_eq_some_iff.1 H1
                    refine wbn rfl (by kernel_rfl) rfl rfl (stp_storeA [(bp g18), (bp g12)] [(bp gio0)] rfl A98 rfl rfl (lenA_eq hc41) (lenA_eq hc6) o7 one_u32 ?_)
                    intro w40 o40 g40 l40
                    have eb42 := EB.trans eb38 (EB.own eb38.1 g40 (fun k hk => Nat.le_trans eb4.1 (n7 k hk)))
                    replace o36 := o36.other g40 q21.symm
                    replace o31 := o31.other g40 q14.symm
                    replace hio0 := hio0.other g40 q9
                    have e43 := e39.grown g40 n11
                    refine wsB_nil ?_
                    refine wt_fin ?_
                    obtain rfl := Option.some.inj H1
                    exact ⟨g12, g18, g7, rfl, rfl, rfl, rfl, rfl, e43, hio0, NS.own, o31, n17, o36, n24, o40, n11, q15, q22, q9, q20, q14.symm, q21.symm⟩
                  · trivial
              · refine wrB_br ?_ ?_
                · refine wbs rfl rfl rfl (stp_allocL (z := (ag u32 ((List.replicate 64 (0 : UInt32))))) (cs := (ac u32 ((List.replicate 64 (0 : UInt32))))) [(bp g7), (bp gio0)] rfl Z69 rfl ?_)
                  intro g12 w12 o12 n12 g12r l12
                  refine ⟨(EB.ext eb8.1 (grown_ext g12r)), ?_⟩
                  have x12 := grown_ext g12r
                  have eb13 := EB.trans eb8 (EB.ext eb8.1 x12)
                  have q14 : Nq (bp g7) (bp g12) := o7.nq n12
                  have q15 : Nq (bp gio0) (bp g12) := hio0.nq n12
                  replace o7 := o7.ext x12
                  replace hio0 := hio0.ext x12
                  have n17 := NS.ext e10 n12
                  have e16 := e10.trans x12
                  refine wsB_nil ?_
                  refine wt_br ?_
                  refine wrB_br ?_ ?_
                  · obtain ⟨r18, hr18, H1⟩ := Option.bind_eq_some_iff.1 H1
                    refine wbs rfl rfl rfl (stp_call (vs := [p1]) Try.func77 rfl rfl rfl (ar1 rfl) (hash_plan_calls a1p p1 r18 _ (hp1.lift (Lift.exg0 e16)) hr18) ?_)
                    rintro _ w18 ⟨rfl, x18⟩
                    refine ⟨_, rfl, (EB.ext eb13.1 x18), ?_⟩
                    have eb19 := EB.trans eb13 (EB.ext eb13.1 x18)
                    replace o12 := o12.ext x18
                    replace o7 := o7.ext x18
                    replace hio0 := hio0.ext x18
                    have e20 := e16.trans x18
                    refine wsB_nil ?_
                    refine wt_br ?_
                    refine wrB_br ?_ ?_
                    · obtain ⟨r21, hr21, H1⟩ := Option.bind_eq_some_iff.1 H1
                      refine wbs rfl rfl rfl (stp_call (vs := []) Try.func78 rfl rfl rfl (ar0 ) (hash_constants_calls   r21 _  hr21) ?_)
                      rintro _ w21 ⟨rfl, x21⟩
                      refine ⟨_, rfl, (EB.ext eb19.1 x21), ?_⟩
                      have eb22 := EB.trans eb19 (EB.ext eb19.1 x21)
                      replace o12 := o12.ext x21
                      replace o7 := o7.ext x21
                      replace hio0 := hio0.ext x21
                      have e23 := e20.trans x21
                      refine wbs rfl rfl rfl (stp_allocL (z := (ag u32 ((List.replicate 64 (0 : UInt32))))) (cs := (ac u32 ((List.replicate 64 (0 : UInt32))))) [(bp g12), (bp g7), (bp gio0)] rfl Z69 rfl ?_)
                      intro g24 w24 o24 n24 g24r l24
                      refine ⟨(EB.ext eb22.1 (grown_ext g24r)), ?_⟩
                      have x24 := grown_ext g24r
                      have eb25 := EB.trans eb22 (EB.ext eb22.1 x24)
                      have q26 : Nq (bp g12) (bp g24) := o12.nq n24
                      have q27 : Nq (bp g7) (bp g24) := o7.nq n24
                      have q28 : Nq (bp gio0) (bp g24) := hio0.nq n24
                      replace o12 := o12.ext x24
                      replace o7 := o7.ext x24
                      replace hio0 := hio0.ext x24
                      have n30 := NS.ext e23 n24
                      have e29 := e23.trans x24
                      obtain ⟨c32, hc32, H1⟩ := Option.bind_eq_some_iff.1 H1
                      obtain ⟨c33, hc33, H1⟩ := Option.bind_eq_some_iff.1 H1
                      refine wbm rfl rfl rfl (stp_storeA [] [(bp g12), (bp g7), (bp gio0)] rfl A69 rfl rfl (lenA_eq hc32) (lenA_eq hc33) o24 one_u32 ?_)
                      intro w31 o31 g31 l31
                      refine ⟨(EB.own eb25.1 g31 (fun k hk => Nat.le_trans eb22.1 (n24 k hk))), ?_⟩
                      have eb34 := EB.trans eb25 (EB.own eb25.1 g31 (fun k hk => Nat.le_trans eb22.1 (n24 k hk)))
                      replace o12 := o12.other g31 q26
                      replace o7 := o7.other g31 q27
                      replace hio0 := hio0.other g31 q28
                      have e35 := e29.grown g31 n30
                      obtain ⟨c37, hc37, H1⟩ := Option.bind_eq_some_iff.1 H1
                      refine wbm rfl rfl rfl (stp_storeA [(bp g24)] [(bp g7), (bp gio0)] rfl A69 rfl rfl (lenA_eq hc32) (lenA_eq hc37) o12 one_u32 ?_)
                      intro w36 o36 g36 l36
                      refine ⟨(EB.own eb34.1 g36 (fun k hk => Nat.le_trans eb8.1 (n12 k hk))), ?_⟩
                      have eb38 := EB.trans eb34 (EB.own eb34.1 g36 (fun k hk => Nat.le_trans eb8.1 (n12 k hk)))
                      replace o31 := o31.other g36 q26.symm
                      replace o7 := o7.other g36 q14
                      replace hio0 := hio0.other g36 q15
                      have e39 := e35.grown g36 n17
                      obtain ⟨c41, hc41, H1⟩ := Option.bind_eq_some_iff.1 H1
                      refine wbn rfl (by kernel_rfl) rfl rfl (stp_storeA [(bp g24), (bp g12)] [(bp gio0)] rfl A98 rfl rfl (lenA_eq hc41) (lenA_eq hc6) o7 one_u32 ?_)
                      intro w40 o40 g40 l40
                      have eb42 := EB.trans eb38 (EB.own eb38.1 g40 (fun k hk => Nat.le_trans eb4.1 (n7 k hk)))
                      replace o31 := o31.other g40 q27.symm
                      replace o36 := o36.other g40 q14.symm
                      replace hio0 := hio0.other g40 q9
                      have e43 := e39.grown g40 n11
                      refine wsB_nil ?_
                      refine wt_fin ?_
                      obtain rfl := Option.some.inj H1
                      exact ⟨g24, g12, g7, rfl, rfl, rfl, rfl, rfl, e43, hio0, NS.own, o31, n30, o36, n17, o40, n11, q28, q15, q9, q26.symm, q27.symm, q14.symm⟩
                    · refine wrB_br ?_ ?_
                      · refine wbs rfl rfl rfl (stp_allocL (z := (ag u32 ((List.replicate 64 (0 : UInt32))))) (cs := (ac u32 ((List.replicate 64 (0 : UInt32))))) [(bp g12), (bp g7), (bp gio0)] rfl Z69 rfl ?_)
                        intro g21 w21 o21 n21 g21r l21
                        refine ⟨(EB.ext eb19.1 (grown_ext g21r)), ?_⟩
                        have x21 := grown_ext g21r
                        have eb22 := EB.trans eb19 (EB.ext eb19.1 x21)
                        have q23 : Nq (bp g12) (bp g21) := o12.nq n21
                        have q24 : Nq (bp g7) (bp g21) := o7.nq n21
                        have q25 : Nq (bp gio0) (bp g21) := hio0.nq n21
                        replace o12 := o12.ext x21
                        replace o7 := o7.ext x21
                        replace hio0 := hio0.ext x21
                        have n27 := NS.ext e20 n21
                        have e26 := e20.trans x21
                        obtain ⟨r28, hr28, H1⟩ := Option.bind_eq_some_iff.1 H1
                        refine wbs rfl rfl rfl (stp_call (vs := []) Try.func78 rfl rfl rfl (ar0 ) (hash_constants_calls   r28 _  hr28) ?_)
                        rintro _ w28 ⟨rfl, x28⟩
                        refine ⟨_, rfl, (EB.ext eb22.1 x28), ?_⟩
                        have eb29 := EB.trans eb22 (EB.ext eb22.1 x28)
                        replace o21 := o21.ext x28
                        replace o12 := o12.ext x28
                        replace o7 := o7.ext x28
                        replace hio0 := hio0.ext x28
                        have e30 := e26.trans x28
                        obtain ⟨c32, hc32, H1⟩ := Option.bind_eq_some_iff.1 H1
                        obtain ⟨c33, hc33, H1⟩ := Option.bind_eq_some_iff.1 H1
                        refine wbm rfl rfl rfl (stp_storeA [] [(bp g12), (bp g7), (bp gio0)] rfl A69 rfl rfl (lenA_eq hc32) (lenA_eq hc33) o21 one_u32 ?_)
                        intro w31 o31 g31 l31
                        refine ⟨(EB.own eb29.1 g31 (fun k hk => Nat.le_trans eb19.1 (n21 k hk))), ?_⟩
                        have eb34 := EB.trans eb29 (EB.own eb29.1 g31 (fun k hk => Nat.le_trans eb19.1 (n21 k hk)))
                        replace o12 := o12.other g31 q23
                        replace o7 := o7.other g31 q24
                        replace hio0 := hio0.other g31 q25
                        have e35 := e30.grown g31 n27
                        obtain ⟨c37, hc37, H1⟩ := Option.bind_eq_some_iff.1 H1
                        refine wbm rfl rfl rfl (stp_storeA [(bp g21)] [(bp g7), (bp gio0)] rfl A69 rfl rfl (lenA_eq hc32) (lenA_eq hc37) o12 one_u32 ?_)
                        intro w36 o36 g36 l36
                        refine ⟨(EB.own eb34.1 g36 (fun k hk => Nat.le_trans eb8.1 (n12 k hk))), ?_⟩
                        have eb38 := EB.trans eb34 (EB.own eb34.1 g36 (fun k hk => Nat.le_trans eb8.1 (n12 k hk)))
                        replace o31 := o31.other g36 q23.symm
                        replace o7 := o7.other g36 q14
                        replace hio0 := hio0.other g36 q15
                        have e39 := e35.grown g36 n17
                        obtain ⟨c41, hc41, H1⟩ := Option.bind_eq_some_iff.1 H1
                        refine wbn rfl (by kernel_rfl) rfl rfl (stp_storeA [(bp g21), (bp g12)] [(bp gio0)] rfl A98 rfl rfl (lenA_eq hc41) (lenA_eq hc6) o7 one_u32 ?_)
                        intro w40 o40 g40 l40
                        have eb42 := EB.trans eb38 (EB.own eb38.1 g40 (fun k hk => Nat.le_trans eb4.1 (n7 k hk)))
                        replace o31 := o31.other g40 q24.symm
                        replace o36 := o36.other g40 q14.symm
                        replace hio0 := hio0.other g40 q9
                        have e43 := e39.grown g40 n11
                        refine wsB_nil ?_
                        refine wt_fin ?_
                        obtain rfl := Option.some.inj H1
                        exact ⟨g21, g12, g7, rfl, rfl, rfl, rfl, rfl, e43, hio0, NS.own, o31, n27, o36, n17, o40, n11, q25, q15, q9, q23.symm, q24.symm, q14.symm⟩
                      · trivial
                  · refine wrB_br ?_ ?_
                    · refine wbs rfl rfl rfl (stp_allocL (z := (ag u32 ((List.replicate 64 (0 : UInt32))))) (cs := (ac u32 ((List.replicate 64 (0 : UInt32))))) [(bp g12), (bp g7), (bp gio0)] rfl Z69 rfl ?_)
                      intro g18 w18 o18 n18 g18r l18
                      refine ⟨(EB.ext eb13.1 (grown_ext g18r)), ?_⟩
                      have x18 := grown_ext g18r
                      have eb19 := EB.trans eb13 (EB.ext eb13.1 x18)
                      have q20 : Nq (bp g12) (bp g18) := o12.nq n18
                      have q21 : Nq (bp g7) (bp g18) := o7.nq n18
                      have q22 : Nq (bp gio0) (bp g18) := hio0.nq n18
                      replace o12 := o12.ext x18
                      replace o7 := o7.ext x18
                      replace hio0 := hio0.ext x18
                      have n24 := NS.ext e16 n18
                      have e23 := e16.trans x18
                      obtain ⟨r25, hr25, H1⟩ := Option.bind_eq_some_iff.1 H1
                      refine wbs rfl rfl rfl (stp_call (vs := [p1]) Try.func77 rfl rfl rfl (ar1 rfl) (hash_plan_calls a1p p1 r25 _ (hp1.lift (Lift.exg0 e23)) hr25) ?_)
                      rintro _ w25 ⟨rfl, x25⟩
                      refine ⟨_, rfl, (EB.ext eb19.1 x25), ?_⟩
                      have eb26 := EB.trans eb19 (EB.ext eb19.1 x25)
                      replace o18 := o18.ext x25
                      replace o12 := o12.ext x25
                      replace o7 := o7.ext x25
                      replace hio0 := hio0.ext x25
                      have e27 := e23.trans x25
                      obtain ⟨r28, hr28, H1⟩ := Option.bind_eq_some_iff.1 H1
                      refine wbs rfl rfl rfl (stp_call (vs := []) Try.func78 rfl rfl rfl (ar0 ) (hash_constants_calls   r28 _  hr28) ?_)
                      rintro _ w28 ⟨rfl, x28⟩
                      refine ⟨_, rfl, (EB.ext eb26.1 x28), ?_⟩
                      have eb29 := EB.trans eb26 (EB.ext eb26.1 x28)
                      replace o18 := o18.ext x28
                      replace o12 := o12.ext x28
                      replace o7 := o7.ext x28
                      replace hio0 := hio0.ext x28
                      have e30 := e27.trans x28
                      obtain ⟨c32, hc32, H1⟩ := Option.bind_eq_some_iff.1 H1
                      obtain ⟨c33, hc33, H1⟩ := Option.bind_eq_some_iff.1 H1
                      refine wbm rfl rfl rfl (stp_storeA [] [(bp g12), (bp g7), (bp gio0)] rfl A69 rfl rfl (lenA_eq hc32) (lenA_eq hc33) o18 one_u32 ?_)
                      intro w31 o31 g31 l31
                      refine ⟨(EB.own eb29.1 g31 (fun k hk => Nat.le_trans eb13.1 (n18 k hk))), ?_⟩
                      have eb34 := EB.trans eb29 (EB.own eb29.1 g31 (fun k hk => Nat.le_trans eb13.1 (n18 k hk)))
                      replace o12 := o12.other g31 q20
                      replace o7 := o7.other g31 q21
                      replace hio0 := hio0.other g31 q22
                      have e35 := e30.grown g31 n24
                      obtain ⟨c37, hc37, H1⟩ := Option.bind_eq_some_iff.1 H1
                      refine wbm rfl rfl rfl (stp_storeA [(bp g18)] [(bp g7), (bp gio0)] rfl A69 rfl rfl (lenA_eq hc32) (lenA_eq hc37) o12 one_u32 ?_)
                      intro w36 o36 g36 l36
                      refine ⟨(EB.own eb34.1 g36 (fun k hk => Nat.le_trans eb8.1 (n12 k hk))), ?_⟩
                      have eb38 := EB.trans eb34 (EB.own eb34.1 g36 (fun k hk => Nat.le_trans eb8.1 (n12 k hk)))
                      replace o31 := o31.other g36 q20.symm
                      replace o7 := o7.other g36 q14
                      replace hio0 := hio0.other g36 q15
                      have e39 := e35.grown g36 n17
                      obtain ⟨c41, hc41, H1⟩ := Option.bind_eq_some_iff.1 H1
                      refine wbn rfl (by kernel_rfl) rfl rfl (stp_storeA [(bp g18), (bp g12)] [(bp gio0)] rfl A98 rfl rfl (lenA_eq hc41) (lenA_eq hc6) o7 one_u32 ?_)
                      intro w40 o40 g40 l40
                      have eb42 := EB.trans eb38 (EB.own eb38.1 g40 (fun k hk => Nat.le_trans eb4.1 (n7 k hk)))
                      replace o31 := o31.other g40 q21.symm
                      replace o36 := o36.other g40 q14.symm
                      replace hio0 := hio0.other g40 q9
                      have e43 := e39.grown g40 n11
                      refine wsB_nil ?_
                      refine wt_fin ?_
                      obtain rfl := Option.some.inj H1
                      exact ⟨g18, g12, g7, rfl, rfl, rfl, rfl, rfl, e43, hio0, NS.own, o31, n24, o36, n17, o40, n11, q22, q15, q9, q20.symm, q21.symm, q14.symm⟩
                    · trivial
                · trivial
          · trivial
  · rintro _ w44 ⟨g4_44, g5_44, g6_44, s0_44, s4_44, s5_44, s6_44, s104_44, hE44, o0_44, n0_44, o1_44, n1_44, o2_44, n2_44, o3_44, n3_44, q0_1_44, q0_2_44, q0_3_44, q1_2_44, q1_3_44, q2_3_44⟩
    refine W_th ?_
    refine W_seq ?_
    refine W_seq ?_
    refine W_reg (by kernel_rfl) ?_
    refine wla rfl rfl (q_move (v := (i64 0)) rfl rfl) ?_
    refine wl_nil ?_
    refine W_th ?_
    obtain ⟨x45, G45, H⟩ := Option.bind_eq_some_iff.1 H
    refine W_mid (fun f w => f 0 = (bp gio0) ∧ f 6 = (bp g6_44) ∧ f 104 = undef ∧ ExG [(bp gio0)] w0 w ∧ Blk w gio0 98 (ac u32 a0s) ∧ NS [(bp gio0)] w0 (bp gio0) ∧ Blk w g6_44 98 (ac u32 x45) ∧ NS [(bp gio0)] w0 (bp g6_44) ∧ Nq (bp gio0) (bp g6_44)) ?_ ?_
    · refine W_block ?_
      refine W_loop (fun s45 f w => f 0 = (bp gio0) ∧ f 4 = (bp g4_44) ∧ f 5 = (bp g5_44) ∧ f 6 = (bp g6_44) ∧ f 17 = (i64 s45.2) ∧ f 104 = undef ∧ ExG [(bp gio0)] w0 w ∧ Blk w gio0 98 (ac u32 a0s) ∧ NS [(bp gio0)] w0 (bp gio0) ∧ Blk w g4_44 69 (ac u32 x1.1) ∧ NS [(bp gio0)] w0 (bp g4_44) ∧ Blk w g5_44 69 (ac u32 x1.2.1) ∧ NS [(bp gio0)] w0 (bp g5_44) ∧ Blk w g6_44 98 (ac u32 s45.1) ∧ NS [(bp gio0)] w0 (bp g6_44) ∧ Nq (bp gio0) (bp g4_44) ∧ Nq (bp gio0) (bp g5_44) ∧ Nq (bp gio0) (bp g6_44) ∧ Nq (bp g4_44) (bp g5_44) ∧ Nq (bp g4_44) (bp g6_44) ∧ Nq (bp g5_44) (bp g6_44)) G45 ?_ ?_
      · exact ⟨s0_44, s4_44, s5_44, s6_44, rfl, s104_44, hE44, o0_44, n0_44, o1_44, n1_44, o2_44, n2_44, o3_44, n3_44, q0_1_44, q0_2_44, q0_3_44, q1_2_44, q1_3_44, q2_3_44⟩
      · rintro s45 _ _ w46 ⟨s0_46, s4_46, s5_46, s6_46, s17_46, s104_46, hE46, o0_46, n0_46, o1_46, n1_46, o2_46, n2_46, o3_46, n3_46, q0_1_46, q0_2_46, q0_3_46, q1_2_46, q1_3_46, q2_3_46⟩ H45 hr45
        refine W_seq ?_
        refine W_reg (by kernel_rfl) ?_
        refine wla rfl rfl (q_ltI rfl s17_46 rfl) ?_
        refine wl_nil ?_
        refine W_th ?_
        refine W_seq ?_
        refine W_cond _ rfl rfl (fun hb47 => ?_) (fun hb47 => ?_)
        · replace H45 := (if_pos (of_decide_eq_true hb47)).symm.trans H45
          refine W_skip ?_
          refine W_th ?_
          refine W_seq ?_
          refine W_block ?_
          refine W_seq ?_
          refine W_reg (by kernel_rfl) ?_
          refine wla rfl rfl (q_move (v := (i64 s45.2)) rfl s17_46) ?_
          refine wla rfl rfl (q_assign (v := (i64 s45.2)) rfl rfl) ?_
          refine wl_nil ?_
          refine W_th ?_
          refine W_seq ?_
          refine W_draw [1, 3, 7, 9, 12, 15, 21, 25] [(0, 0), (1, 1), (2, 0), (3, 1), (6, 0), (7, 1), (8, 0), (9, 1), (10, 0), (11, 0), (12, 1), (13, 0), (14, 0), (15, 1), (16, 0), (17, 0), (19, 0), (20, 0), (21, 1), (23, 0), (24, 0), (25, 1), (4, 2), (5, 0), (18, 0), (22, 0), (26, 0), (27, 0)] mixed (by kernel_rfl) (by kernel_rfl) (by kernel_rfl) (by kernel_rfl) ?_
          have x48 := Ext.drew w46
          replace o0_46 := o0_46.ext x48
          replace o1_46 := o1_46.ext x48
          replace o2_46 := o2_46.ext x48
          replace o3_46 := o3_46.ext x48
          have e49 := hE46.trans x48
          obtain ⟨c50, hc50, H45⟩ := Option.bind_eq_some_iff.1 H45
          obtain ⟨c51, hc51, H45⟩ := Option.bind_eq_some_iff.1 H45
          refine wsa rfl rfl rfl (q_ixA (m := 0) rfl A98 (by exact s6_46) rfl (lenA_eq hc50) hc51) ?_
          refine wsq rfl rfl rfl (q_loadE (m := 0) rfl A98 rfl o3_46 (seg_self _ _) hc51) ?_
          obtain ⟨c52, hc52, H45⟩ := Option.bind_eq_some_iff.1 H45
          refine wsa rfl rfl rfl (q_ixA (m := 0) rfl A98 (by exact s6_46) rfl (lenA_eq hc50) hc52) ?_
          refine wsq rfl rfl rfl (q_loadE (m := 0) rfl A98 rfl o3_46 (seg_self _ _) hc52) ?_
          refine wsa rfl rfl rfl (q_ixA (m := 0) rfl A98 (by exact s6_46) rfl (lenA_eq hc50) hc52) ?_
          refine wsq rfl rfl rfl (q_loadE (m := 0) rfl A98 rfl o3_46 (seg_self _ _) hc52) ?_
          obtain ⟨c53, hc53, H45⟩ := Option.bind_eq_some_iff.1 H45
          refine wsa rfl rfl rfl (q_ixA (m := 0) rfl A98 (by exact s6_46) rfl (lenA_eq hc50) hc53) ?_
          refine wsq rfl rfl rfl (q_loadE (m := 0) rfl A98 rfl o3_46 (seg_self _ _) hc53) ?_
          refine wsa rfl rfl rfl (q_and32 rfl rfl rfl) ?_
          refine wsa rfl rfl rfl (q_ixA (m := 0) rfl A98 (by exact s6_46) rfl (lenA_eq hc50) hc52) ?_
          refine wsq rfl rfl rfl (q_loadE (m := 0) rfl A98 rfl o3_46 (seg_self _ _) hc52) ?_
          refine wsa rfl rfl rfl (q_not32 rfl rfl) ?_
          obtain ⟨c54, hc54, H45⟩ := Option.bind_eq_some_iff.1 H45
          refine wsa rfl rfl rfl (q_ixA (m := 0) rfl A98 (by exact s6_46) rfl (lenA_eq hc50) hc54) ?_
          refine wsq rfl rfl rfl (q_loadE (m := 0) rfl A98 rfl o3_46 (seg_self _ _) hc54) ?_
          refine wsa rfl rfl rfl (q_and32 rfl rfl rfl) ?_
          refine wsa rfl rfl rfl (q_xor32 rfl rfl rfl) ?_
          refine wsa rfl rfl rfl (q_move (v := (i64 s45.2)) rfl rfl) ?_
          obtain ⟨c55, hc55, H45⟩ := Option.bind_eq_some_iff.1 H45
          obtain ⟨c56, hc56, H45⟩ := Option.bind_eq_some_iff.1 H45
          refine wsa rfl rfl rfl (q_ixA (m := 0) rfl A69 (by exact s5_46) rfl (lenA_eq hc55) hc56) ?_
          refine wsq rfl rfl rfl (q_loadE (m := 0) rfl A69 rfl o2_46 (seg_self _ _) hc56) ?_
          refine wsa rfl rfl rfl (q_move (v := (i64 s45.2)) rfl rfl) ?_
          obtain ⟨c57, hc57, H45⟩ := Option.bind_eq_some_iff.1 H45
          obtain ⟨c58, hc58, H45⟩ := Option.bind_eq_some_iff.1 H45
          refine wsa rfl rfl rfl (q_ixA (m := 0) rfl A69 (by exact s4_46) rfl (lenA_eq hc57) hc58) ?_
          refine wsq rfl rfl rfl (q_loadE (m := 0) rfl A69 rfl o1_46 (seg_self _ _) hc58) ?_
          obtain ⟨r59, hr59, H45⟩ := Option.bind_eq_some_iff.1 H45
          refine wss rfl rfl rfl (stp_call (vs := [(u32 c52), (i64 6), (i64 11), (i64 25)]) Try.func79 rfl rfl rfl (ar4 rfl rfl rfl rfl) (hash_turned_calls c52 6 11 25  r59 _  hr59) ?_)
          rintro _ w59 ⟨rfl, x59⟩
          refine ⟨_, rfl, x59, ?_⟩
          replace o0_46 := o0_46.ext x59
          replace o1_46 := o1_46.ext x59
          replace o2_46 := o2_46.ext x59
          replace o3_46 := o3_46.ext x59
          have e60 := e49.trans x59
          refine wsa rfl rfl rfl (q_add32 rfl rfl rfl) ?_
          refine wsa rfl rfl rfl (q_add32 rfl rfl rfl) ?_
          refine wsa rfl rfl rfl (q_add32 rfl rfl rfl) ?_
          refine wsa rfl rfl rfl (q_add32 rfl rfl rfl) ?_
          refine wsa rfl rfl rfl (q_assign (v := (u32 (((((c51 + r59) + ((c52 &&& c53) ^^^ (((4294967295 : UInt32) ^^^ c52) &&& c54))) + c56) + c58)))) rfl rfl) ?_
          refine ws_nil ?_
          refine W_th ?_
          refine W_seq ?_
          refine W_draw [1, 4, 6, 9, 11, 15, 17] [(0, 0), (1, 1), (3, 0), (4, 1), (5, 0), (6, 1), (7, 0), (8, 0), (9, 1), (10, 0), (11, 1), (12, 0), (13, 0), (14, 0), (15, 1), (16, 0), (17, 1), (18, 0), (19, 0), (2, 2), (20, 0), (21, 0)] mixed (by kernel_rfl) (by kernel_rfl) (by kernel_rfl) (by kernel_rfl) ?_
          have x61 := Ext.drew w59
          replace o0_46 := o0_46.ext x61
          replace o1_46 := o1_46.ext x61
          replace o2_46 := o2_46.ext x61
          replace o3_46 := o3_46.ext x61
          have e62 := e60.trans x61
          obtain ⟨c63, hc63, H45⟩ := Option.bind_eq_some_iff.1 H45
          obtain ⟨c64, hc64, H45⟩ := Option.bind_eq_some_iff.1 H45
          refine wsa rfl rfl rfl (q_ixA (m := 0) rfl A98 (by exact s6_46) rfl (lenA_eq hc63) hc64) ?_
          refine wsq rfl rfl rfl (q_loadE (m := 0) rfl A98 rfl o3_46 (seg_self _ _) hc64) ?_
          refine wsa rfl rfl rfl (q_ixA (m := 0) rfl A98 (by exact s6_46) rfl (lenA_eq hc63) hc64) ?_
          refine wsq rfl rfl rfl (q_loadE (m := 0) rfl A98 rfl o3_46 (seg_self _ _) hc64) ?_
          obtain ⟨c65, hc65, H45⟩ := Option.bind_eq_some_iff.1 H45
          refine wsa rfl rfl rfl (q_ixA (m := 0) rfl A98 (by exact s6_46) rfl (lenA_eq hc63) hc65) ?_
          refine wsq rfl rfl rfl (q_loadE (m := 0) rfl A98 rfl o3_46 (seg_self _ _) hc65) ?_
          refine wsa rfl rfl rfl (q_and32 rfl rfl rfl) ?_
          refine wsa rfl rfl rfl (q_ixA (m := 0) rfl A98 (by exact s6_46) rfl (lenA_eq hc63) hc64) ?_
          refine wsq rfl rfl rfl (q_loadE (m := 0) rfl A98 rfl o3_46 (seg_self _ _) hc64) ?_
          obtain ⟨c66, hc66, H45⟩ := Option.bind_eq_some_iff.1 H45
          refine wsa rfl rfl rfl (q_ixA (m := 0) rfl A98 (by exact s6_46) rfl (lenA_eq hc63) hc66) ?_
          refine wsq rfl rfl rfl (q_loadE (m := 0) rfl A98 rfl o3_46 (seg_self _ _) hc66) ?_
          refine wsa rfl rfl rfl (q_and32 rfl rfl rfl) ?_
          refine wsa rfl rfl rfl (q_xor32 rfl rfl rfl) ?_
          refine wsa rfl rfl rfl (q_ixA (m := 0) rfl A98 (by exact s6_46) rfl (lenA_eq hc63) hc65) ?_
          refine wsq rfl rfl rfl (q_loadE (m := 0) rfl A98 rfl o3_46 (seg_self _ _) hc65) ?_
          refine wsa rfl rfl rfl (q_ixA (m := 0) rfl A98 (by exact s6_46) rfl (lenA_eq hc63) hc66) ?_
          refine wsq rfl rfl rfl (q_loadE (m := 0) rfl A98 rfl o3_46 (seg_self _ _) hc66) ?_
          refine wsa rfl rfl rfl (q_and32 rfl rfl rfl) ?_
          refine wsa rfl rfl rfl (q_xor32 rfl rfl rfl) ?_
          obtain ⟨r67, hr67, H45⟩ := Option.bind_eq_some_iff.1 H45
          refine wss rfl rfl rfl (stp_call (vs := [(u32 c64), (i64 2), (i64 13), (i64 22)]) Try.func79 rfl rfl rfl (ar4 rfl rfl rfl rfl) (hash_turned_calls c64 2 13 22  r67 _  hr67) ?_)
          rintro _ w67 ⟨rfl, x67⟩
          refine ⟨_, rfl, x67, ?_⟩
          replace o0_46 := o0_46.ext x67
          replace o1_46 := o1_46.ext x67
          replace o2_46 := o2_46.ext x67
          replace o3_46 := o3_46.ext x67
          have e68 := e62.trans x67
          refine wsa rfl rfl rfl (q_add32 rfl rfl rfl) ?_
          refine wsa rfl rfl rfl (q_assign (v := (u32 ((r67 + (((c64 &&& c65) ^^^ (c64 &&& c66)) ^^^ (c65 &&& c66)))))) rfl rfl) ?_
          refine ws_nil ?_
          refine W_th ?_
          refine W_reg (by kernel_rfl) ?_
          refine wla rfl rfl (q_move (v := (u32 (((((c51 + r59) + ((c52 &&& c53) ^^^ (((4294967295 : UInt32) ^^^ c52) &&& c54))) + c56) + c58)))) rfl rfl) ?_
          refine wla rfl rfl (q_move (v := (u32 ((r67 + (((c64 &&& c65) ^^^ (c64 &&& c66)) ^^^ (c65 &&& c66)))))) rfl rfl) ?_
          refine wla rfl rfl (q_add32 rfl rfl rfl) ?_
          obtain ⟨c69, hc69, H45⟩ := Option.bind_eq_some_iff.1 H45
          obtain ⟨c70, hc70, H45⟩ := Option.bind_eq_some_iff.1 H45
          refine wla rfl rfl (q_ixA (m := 0) rfl A98 (by exact s6_46) rfl (lenA_eq hc69) hc70) ?_
          refine wlq rfl rfl (q_loadE (m := 0) rfl A98 rfl o3_46 (seg_self _ _) hc70) ?_
          obtain ⟨c71, hc71, H45⟩ := Option.bind_eq_some_iff.1 H45
          refine wla rfl rfl (q_ixA (m := 0) rfl A98 (by exact s6_46) rfl (lenA_eq hc69) hc71) ?_
          refine wlq rfl rfl (q_loadE (m := 0) rfl A98 rfl o3_46 (seg_self _ _) hc71) ?_
          obtain ⟨c72, hc72, H45⟩ := Option.bind_eq_some_iff.1 H45
          refine wla rfl rfl (q_ixA (m := 0) rfl A98 (by exact s6_46) rfl (lenA_eq hc69) hc72) ?_
          refine wlq rfl rfl (q_loadE (m := 0) rfl A98 rfl o3_46 (seg_self _ _) hc72) ?_
          obtain ⟨c73, hc73, H45⟩ := Option.bind_eq_some_iff.1 H45
          refine wla rfl rfl (q_ixA (m := 0) rfl A98 (by exact s6_46) rfl (lenA_eq hc69) hc73) ?_
          refine wlq rfl rfl (q_loadE (m := 0) rfl A98 rfl o3_46 (seg_self _ _) hc73) ?_
          refine wla rfl rfl (q_move (v := (u32 (((((c51 + r59) + ((c52 &&& c53) ^^^ (((4294967295 : UInt32) ^^^ c52) &&& c54))) + c56) + c58)))) rfl rfl) ?_
          refine wla rfl rfl (q_add32 rfl rfl rfl) ?_
          obtain ⟨c74, hc74, H45⟩ := Option.bind_eq_some_iff.1 H45
          refine wla rfl rfl (q_ixA (m := 0) rfl A98 (by exact s6_46) rfl (lenA_eq hc69) hc74) ?_
          refine wlq rfl rfl (q_loadE (m := 0) rfl A98 rfl o3_46 (seg_self _ _) hc74) ?_
          obtain ⟨c75, hc75, H45⟩ := Option.bind_eq_some_iff.1 H45
          refine wla rfl rfl (q_ixA (m := 0) rfl A98 (by exact s6_46) rfl (lenA_eq hc69) hc75) ?_
          refine wlq rfl rfl (q_loadE (m := 0) rfl A98 rfl o3_46 (seg_self _ _) hc75) ?_
          obtain ⟨c76, hc76, H45⟩ := Option.bind_eq_some_iff.1 H45
          refine wla rfl rfl (q_ixA (m := 0) rfl A98 (by exact s6_46) rfl (lenA_eq hc69) hc76) ?_
          refine wlq rfl rfl (q_loadE (m := 0) rfl A98 rfl o3_46 (seg_self _ _) hc76) ?_
          refine wla rfl rfl (q_buildAF (l := ([(((((c51 + r59) + ((c52 &&& c53) ^^^ (((4294967295 : UInt32) ^^^ c52) &&& c54))) + c56) + c58) + (r67 + (((c64 &&& c65) ^^^ (c64 &&& c66)) ^^^ (c65 &&& c66)))), c70, c71, c72, (c73 + ((((c51 + r59) + ((c52 &&& c53) ^^^ (((4294967295 : UInt32) ^^^ c52) &&& c54))) + c56) + c58)), c74, c75, c76] : List UInt32)) (us := [(u32 ((((((c51 + r59) + ((c52 &&& c53) ^^^ (((4294967295 : UInt32) ^^^ c52) &&& c54))) + c56) + c58) + (r67 + (((c64 &&& c65) ^^^ (c64 &&& c66)) ^^^ (c65 &&& c66)))))), (u32 c70), (u32 c71), (u32 c72), (u32 ((c73 + ((((c51 + r59) + ((c52 &&& c53) ^^^ (((4294967295 : UInt32) ^^^ c52) &&& c54))) + c56) + c58)))), (u32 c74), (u32 c75), (u32 c76)]) (z := (0 : UInt32)) rfl A98 Z98 (by exact ⟨rfl, rfl, rfl, rfl, rfl, rfl, rfl, rfl, rfl, rfl, rfl, rfl, rfl, rfl, rfl, rfl, trivial⟩) rfl rfl cel_u32) ?_
          obtain ⟨c78, hc78, H45⟩ := Option.bind_eq_some_iff.1 H45
          refine wln rfl rfl (stp_storeA [(bp gio0), (bp g4_44), (bp g5_44)] [] rfl A98 (by exact s6_46) rfl (lenA_eq hc69) (lenA_eq hc78) o3_46 one_u32 ?_)
          intro w77 o77 g77 l77
          replace o0_46 := o0_46.other g77 q0_3_46
          replace o1_46 := o1_46.other g77 q1_3_46
          replace o2_46 := o2_46.other g77 q2_3_46
          have e79 := e68.grown g77 n3_46
          refine wl_nil ?_
          refine bk_n ?_
          refine W_th ?_
          refine W_reg (by kernel_rfl) ?_
          refine wla rfl rfl (q_addI rfl s17_46 rfl) ?_
          refine wla rfl rfl (q_move (v := (i64 ((wI (s45.2 + 1))))) rfl rfl) ?_
          refine wl_nil ?_
          obtain rfl := Option.some.inj H45
          exact ⟨_, rfl, s0_46, s4_46, s5_46, s6_46, rfl, s104_46, e79, o0_46, n0_46, o1_46, n1_46, o2_46, n2_46, o77, n3_46, q0_1_46, q0_2_46, q0_3_46, q1_2_46, q1_3_46, q2_3_46⟩
        · replace H45 := (if_neg (of_decide_eq_false hb47)).symm.trans H45
          refine W_exit ?_
          refine th_x ?_
          obtain rfl := Option.some.inj H45
          obtain rfl := hr45 _ rfl
          refine th_x ?_
          refine bk_x ?_
          exact ⟨s0_46, s6_46, s104_46, hE46, o0_46, n0_46, o3_46, n3_46, q0_3_46⟩
    · rintro _ w81 ⟨s0_81, s6_81, s104_81, hE81, o0_81, n0_81, o1_81, n1_81, q0_1_81⟩
      refine W_th ?_
      refine W_seq ?_
      refine W_reg (by kernel_rfl) ?_
      refine wla rfl rfl (q_move (v := (i64 0)) rfl rfl) ?_
      refine wl_nil ?_
      refine W_th ?_
      obtain ⟨x82, G82, H⟩ := Option.bind_eq_some_iff.1 H
      refine W_mid (fun f w => f 0 = (bp gio0) ∧ f 104 = undef ∧ ExG [(bp gio0)] w0 w ∧ Blk w gio0 98 (ac u32 x82) ∧ NS [(bp gio0)] w0 (bp gio0)) ?_ ?_
      · refine W_block ?_
        refine W_loop (fun s82 f w => f 0 = (bp gio0) ∧ f 6 = (bp g6_44) ∧ f 89 = (i64 s82.2) ∧ f 104 = undef ∧ ExG [(bp gio0)] w0 w ∧ Blk w gio0 98 (ac u32 s82.1) ∧ NS [(bp gio0)] w0 (bp gio0) ∧ Blk w g6_44 98 (ac u32 x45) ∧ NS [(bp gio0)] w0 (bp g6_44) ∧ Nq (bp gio0) (bp g6_44)) G82 ?_ ?_
        · exact ⟨s0_81, s6_81, rfl, s104_81, hE81, o0_81, n0_81, o1_81, n1_81, q0_1_81⟩
        · rintro s82 _ _ w83 ⟨s0_83, s6_83, s89_83, s104_83, hE83, o0_83, n0_83, o1_83, n1_83, q0_1_83⟩ H82 hr82
          refine W_seq ?_
          refine W_reg (by kernel_rfl) ?_
          refine wla rfl rfl (q_ltI rfl s89_83 rfl) ?_
          refine wl_nil ?_
          refine W_th ?_
          refine W_seq ?_
          refine W_cond _ rfl rfl (fun hb84 => ?_) (fun hb84 => ?_)
          · replace H82 := (if_pos (of_decide_eq_true hb84)).symm.trans H82
            refine W_skip ?_
            refine W_th ?_
            refine W_seq ?_
            refine W_block ?_
            refine W_seq ?_
            refine W_reg (by kernel_rfl) ?_
            refine wla rfl rfl (q_move (v := (i64 s82.2)) rfl s89_83) ?_
            refine wla rfl rfl (q_assign (v := (i64 s82.2)) rfl rfl) ?_
            refine wl_nil ?_
            refine W_th ?_
            refine W_draw [4, 7] [(0, 0), (1, 0), (2, 0), (3, 0), (4, 1), (5, 0), (6, 0), (7, 1), (8, 0), (9, 0), (10, 0), (11, 2)] mixed (by kernel_rfl) (by kernel_rfl) (by kernel_rfl) (by kernel_rfl) ?_
            have x85 := Ext.drew w83
            replace o0_83 := o0_83.ext x85
            replace o1_83 := o1_83.ext x85
            have e86 := hE83.trans x85
            refine wsa rfl rfl rfl (q_move (v := (bp gio0)) rfl s0_83) ?_
            refine wsa rfl rfl rfl (q_move (v := (i64 s82.2)) rfl rfl) ?_
            refine wsa rfl rfl rfl (q_nilP rfl rfl) ?_
            obtain ⟨c87, hc87, H82⟩ := Option.bind_eq_some_iff.1 H82
            obtain ⟨c88, hc88, H82⟩ := Option.bind_eq_some_iff.1 H82
            refine wsa rfl rfl rfl (q_ixA (m := 0) rfl A98 rfl rfl (lenA_eq hc87) hc88) ?_
            refine wsq rfl rfl rfl (q_loadE (m := 0) rfl A98 rfl o0_83 (seg_self _ _) hc88) ?_
            refine wsa rfl rfl rfl (q_move (v := (i64 s82.2)) rfl rfl) ?_
            obtain ⟨c89, hc89, H82⟩ := Option.bind_eq_some_iff.1 H82
            obtain ⟨c90, hc90, H82⟩ := Option.bind_eq_some_iff.1 H82
            refine wsa rfl rfl rfl (q_ixA (m := 0) rfl A98 (by exact s6_83) rfl (lenA_eq hc89) hc90) ?_
            refine wsq rfl rfl rfl (q_loadE (m := 0) rfl A98 rfl o1_83 (seg_self _ _) hc90) ?_
            refine wsa rfl rfl rfl (q_add32 rfl rfl rfl) ?_
            refine wsa rfl rfl rfl (q_nilP rfl rfl) ?_
            refine wsa rfl rfl rfl (q_ixA (m := 0) rfl A98 rfl rfl (lenA_eq hc87) hc88) ?_
            refine wsn rfl (by kernel_rfl) rfl rfl (stp_storeX (b := (c88 + c90)) [] [(bp g6_44)] rfl A98 rfl rfl o0_83 hc88 (one_u32 _) ?_)
            intro w91 o91 g91 l91
            replace o1_83 := o1_83.other g91 q0_1_83.symm
            have e92 := e86.grown g91 n0_83
            refine ws_nil ?_
            refine bk_n ?_
            refine W_th ?_
            refine W_reg (by kernel_rfl) ?_
            refine wla rfl rfl (q_addI rfl s89_83 rfl) ?_
            refine wla rfl rfl (q_move (v := (i64 ((wI (s82.2 + 1))))) rfl rfl) ?_
            refine wl_nil ?_
            obtain rfl := Option.some.inj H82
            exact ⟨_, rfl, s0_83, s6_83, rfl, s104_83, e92, o91, n0_83, o1_83, n1_83, q0_1_83⟩
          · replace H82 := (if_neg (of_decide_eq_false hb84)).symm.trans H82
            refine W_exit ?_
            refine th_x ?_
            obtain rfl := Option.some.inj H82
            obtain rfl := hr82 _ rfl
            refine th_x ?_
            refine bk_x ?_
            exact ⟨s0_83, s104_83, hE83, o0_83, n0_83⟩
      · rintro _ w94 ⟨s0_94, s104_94, hE94, o0_94, n0_94⟩
        refine rtn ?_
        obtain rfl := Option.some.inj H
        refine rt0 rfl s104_94 ?_
        exact ⟨rfl, hE94, o0_94⟩

end Gk

/- Parts F7b, Gv, Fk, F7c, Pk, Pl, Gx, Gy, T32a, T32, Fg, Hs, Rc, Ha, Hc, Hd, Fj, Fbr, Ho, Gzb, W32, Ht, X32, Xa, Xb, one behind the other. What is proved: said at the head of each part. No condition beside those said there. -/
import Derived.Test.YtieokakmhlbdlaaRows
import Derived.Orders
import Derived.Deep.Draws
import Derived.Laws.World
import Derived.KernelRfl
import Derived.OrdersIn
import Derived.TacticsIn
import Derived.RangeFuncCalls
import Derived.Deep.LoopGhost
import Derived.Tactics
import Derived.Sort.LoopGhostIn
import Derived.RangeFuncLeaves
import Derived.RangeFuncNested
import Derived.RangeFuncRecord
import Derived.Laws.Sem
import Derived.OwnWalk
import Derived.RangeFuncWrites
import Derived.Laws.IdiomCopy
import Derived.WalkKit
import Derived.ProofKit
import Derived.OpenShut
import Derived.ChangeOld
import Derived.Below
import Derived.Test.YtieokakmhlbdlaaProg
import Derived.MapKept
import Derived.Lib.AppendZerosOnto
import Derived.Laws.CopyRow
import Derived.Laws.Cells
import Derived.Lib.SlBytesConst
import Derived.Test.YtieokakmhlbdlaaZPTallyAdds1
set_option maxRecDepth 100000
set_option maxHeartbeats 8000000
set_option linter.unusedVariables false
set_option linter.unusedSimpArgs false
/- Printed by gen.py: for each Go function a pure function, and that the Go code comes to it. No condition beside the equation that says what the pure function gives. -/
namespace Gk
open Go Go.Proofs
noncomputable def zcd (a0s:List UInt32) (a1p:List UInt8):Option (List UInt32) :=
((((lenA 8 a0s).bind fun c6 =>
((zbe a1p).bind fun r7 =>
((zae ).bind fun r13 =>
((lenA 64 ((List.replicate 64 (0:UInt32)))).bind fun c44 =>
((lenA 64 r7).bind fun c45 =>
((lenA 64 r13).bind fun c49 =>
((lenA 8 ((List.replicate 8 (0:UInt32)))).bind fun c53 => some (r7,r13,a0s))))))))).bind fun x1 =>
((iterC (fun s403:List UInt32×Int =>
(if s403.2<64 then
((lenA 8 s403.1).bind fun c408 =>
((idx s403.1 7).bind fun c409 =>
((idx s403.1 4).bind fun c410 =>
((idx s403.1 5).bind fun c411 =>
((idx s403.1 6).bind fun c412 =>
((lenA 64 x1.2.1).bind fun c413 =>
((idx x1.2.1 s403.2).bind fun c414 =>
((lenA 64 x1.1).bind fun c415 =>
((idx x1.1 s403.2).bind fun c416 =>
((zbb c410 6 11 25).bind fun r417 =>
((lenA 8 s403.1).bind fun c421 =>
((idx s403.1 0).bind fun c422 =>
((idx s403.1 1).bind fun c423 =>
((idx s403.1 2).bind fun c424 =>
((zbb c422 2 13 22).bind fun r425 =>
((lenA 8 s403.1).bind fun c427 =>
((idx s403.1 0).bind fun c428 =>
((idx s403.1 1).bind fun c429 =>
((idx s403.1 2).bind fun c430 =>
((idx s403.1 3).bind fun c431 =>
((idx s403.1 4).bind fun c432 =>
((idx s403.1 5).bind fun c433 =>
((idx s403.1 6).bind fun c434 =>
((lenA 8 (([(((((c409+r417)+((c410 &&& c411)^^^(((4294967295:UInt32)^^^c410) &&& c412)))+c414)+c416)+(r425+(((c422 &&& c423)^^^(c422 &&& c424))^^^(c423 &&& c424)))),c428,c429,c430,(c431+((((c409+r417)+((c410 &&& c411)^^^(((4294967295:UInt32)^^^c410) &&& c412)))+c414)+c416)),c432,c433,c434]:List UInt32))).bind fun c436 => some (.inl (([(((((c409+r417)+((c410 &&& c411)^^^(((4294967295:UInt32)^^^c410) &&& c412)))+c414)+c416)+(r425+(((c422 &&& c423)^^^(c422 &&& c424))^^^(c423 &&& c424)))),c428,c429,c430,(c431+((((c409+r417)+((c410 &&& c411)^^^(((4294967295:UInt32)^^^c410) &&& c412)))+c414)+c416)),c432,c433,c434]:List UInt32),(wI (s403.2+1))))))))))))))))))))))))))))
else some (.inr s403.1))) (x1.2.2,0)).bind fun x403 =>
((iterC (fun s440:List UInt32×Int =>
(if s440.2<8 then
((lenA 8 s440.1).bind fun c445 =>
((idx s440.1 s440.2).bind fun c446 =>
((lenA 8 x403).bind fun c447 =>
((idx x403 s440.2).bind fun c448 => some (.inl ((s440.1.set (s440.2:Int).toNat ((c446+c448))),(wI (s440.2+1))))))))
else some (.inr s440.1))) (a0s,0)).bind fun x440 => some x440)))
theorem hash_block_calls (a0s:List UInt32) (a1p:List UInt8) (gio0:Nat) (p1:Value) (r:List UInt32) (w0:World) (hio0:Blk w0 gio0 91 (ac u32 a0s)) (hp1:By w0 [(bp gio0)] p1 a1p) (H:zcd a0s a1p=some r) :
  Calls Try.prog 57 [(bp gio0),p1].toArray w0 (fun e w'=>e=.returned (.tuple #[])/\ExG [(bp gio0)] w0 w'/\Blk w' gio0 91 (ac u32 r)):=by
 have hE:ExG [(bp gio0)] w0 w0:=ExG.refl _ w0;unfold zcd at H;refine zam (n:=104) Try.func57 rfl rfl rfl ?_;refine W_seq ?_;obtain ⟨x1,H1,H⟩:=bsi H;refine W_mid (fun f w=>∃ g4_455:Nat,∃ g5_455:Nat,∃ g6_455:Nat,f 0=(bp gio0)/\f 4=(bp g4_455)/\f 5=(bp g5_455)/\f 6=(bp g6_455)/\f 104=undef/\ExG [(bp gio0)] w0 w/\Blk w gio0 91 (ac u32 a0s)/\NS [(bp gio0)] w0 (bp gio0)/\Blk w g4_455 109 (ac u32 x1.1)/\NS [(bp gio0)] w0 (bp g4_455)/\Blk w g5_455 109 (ac u32 x1.2.1)/\NS [(bp gio0)] w0 (bp g5_455)/\Blk w g6_455 91 (ac u32 x1.2.2)/\NS [(bp gio0)] w0 (bp g6_455)/\Nq (bp gio0) (bp g4_455)/\Nq (bp gio0) (bp g5_455)/\Nq (bp gio0) (bp g6_455)/\Nq (bp g4_455) (bp g5_455)/\Nq (bp g4_455) (bp g6_455)/\Nq (bp g5_455) (bp g6_455)) ?_ ?_
 ·refine W_drawTB (B:=(World.drew w0).heap.size) [5] [(0,0),(3,0),(4,0),(5,1)] (.br 1 [] (.br 2 [] (.br 6 [] (.br 7 [(8,2),(9,2),(10,2),(11,2)] .fin (.br 8 [(7,2),(9,2),(10,2),(11,2)] .fin .fin)) (.br 7 [] (.br 6 [(8,2),(9,2),(10,2),(11,2)] .fin (.br 8 [(6,2),(9,2),(10,2),(11,2)] .fin .fin)) (.br 8 [] (.br 6 [(7,2),(9,2),(10,2),(11,2)] .fin (.br 7 [(6,2),(9,2),(10,2),(11,2)] .fin .fin)) .fin))) (.br 6 [] (.br 2 [] (.br 7 [(8,2),(9,2),(10,2),(11,2)] .fin (.br 8 [(7,2),(9,2),(10,2),(11,2)] .fin .fin)) (.br 7 [] (.br 2 [(8,2),(9,2),(10,2),(11,2)] .fin (.br 8 [(2,2),(9,2),(10,2),(11,2)] .fin .fin)) (.br 8 [] (.br 2 [(7,2),(9,2),(10,2),(11,2)] .fin (.br 7 [(2,2),(9,2),(10,2),(11,2)] .fin .fin)) .fin))) (.br 7 [] (.br 2 [] (.br 6 [(8,2),(9,2),(10,2),(11,2)] .fin (.br 8 [(6,2),(9,2),(10,2),(11,2)] .fin .fin)) (.br 6 [] (.br 2 [(8,2),(9,2),(10,2),(11,2)] .fin (.br 8 [(2,2),(9,2),(10,2),(11,2)] .fin .fin)) (.br 8 [] (.br 2 [(6,2),(9,2),(10,2),(11,2)] .fin (.br 6 [(2,2),(9,2),(10,2),(11,2)] .fin .fin)) .fin))) (.br 8 [] (.br 2 [] (.br 6 [(7,2),(9,2),(10,2),(11,2)] .fin (.br 7 [(6,2),(9,2),(10,2),(11,2)] .fin .fin)) (.br 6 [] (.br 2 [(7,2),(9,2),(10,2),(11,2)] .fin (.br 7 [(2,2),(9,2),(10,2),(11,2)] .fin .fin)) (.br 7 [] (.br 2 [(6,2),(9,2),(10,2),(11,2)] .fin (.br 6 [(2,2),(9,2),(10,2),(11,2)] .fin .fin)) .fin))) .fin)))) (.br 6 [] (.br 1 [] (.br 2 [] (.br 7 [(8,2),(9,2),(10,2),(11,2)] .fin (.br 8 [(7,2),(9,2),(10,2),(11,2)] .fin .fin)) (.br 7 [] (.br 2 [(8,2),(9,2),(10,2),(11,2)] .fin (.br 8 [(2,2),(9,2),(10,2),(11,2)] .fin .fin)) (.br 8 [] (.br 2 [(7,2),(9,2),(10,2),(11,2)] .fin (.br 7 [(2,2),(9,2),(10,2),(11,2)] .fin .fin)) .fin))) (.br 7 [] (.br 1 [] (.br 2 [(8,2),(9,2),(10,2),(11,2)] .fin (.br 8 [(2,2),(9,2),(10,2),(11,2)] .fin .fin)) (.br 8 [(1,2),(2,2),(9,2),(10,2),(11,2)] .fin .fin)) (.br 8 [] (.br 1 [] (.br 2 [(7,2),(9,2),(10,2),(11,2)] .fin (.br 7 [(2,2),(9,2),(10,2),(11,2)] .fin .fin)) (.br 7 [(1,2),(2,2),(9,2),(10,2),(11,2)] .fin .fin)) .fin))) (.br 7 [] (.br 1 [] (.br 2 [] (.br 6 [(8,2),(9,2),(10,2),(11,2)] .fin (.br 8 [(6,2),(9,2),(10,2),(11,2)] .fin .fin)) (.br 6 [] (.br 2 [(8,2),(9,2),(10,2),(11,2)] .fin (.br 8 [(2,2),(9,2),(10,2),(11,2)] .fin .fin)) (.br 8 [] (.br 2 [(6,2),(9,2),(10,2),(11,2)] .fin (.br 6 [(2,2),(9,2),(10,2),(11,2)] .fin .fin)) .fin))) (.br 6 [] (.br 1 [] (.br 2 [(8,2),(9,2),(10,2),(11,2)] .fin (.br 8 [(2,2),(9,2),(10,2),(11,2)] .fin .fin)) (.br 8 [(1,2),(2,2),(9,2),(10,2),(11,2)] .fin .fin)) (.br 8 [] (.br 1 [] (.br 2 [(6,2),(9,2),(10,2),(11,2)] .fin (.br 6 [(2,2),(9,2),(10,2),(11,2)] .fin .fin)) (.br 6 [(1,2),(2,2),(9,2),(10,2),(11,2)] .fin .fin)) .fin))) (.br 8 [] (.br 1 [] (.br 2 [] (.br 6 [(7,2),(9,2),(10,2),(11,2)] .fin (.br 7 [(6,2),(9,2),(10,2),(11,2)] .fin .fin)) (.br 6 [] (.br 2 [(7,2),(9,2),(10,2),(11,2)] .fin (.br 7 [(2,2),(9,2),(10,2),(11,2)] .fin .fin)) (.br 7 [] (.br 2 [(6,2),(9,2),(10,2),(11,2)] .fin (.br 6 [(2,2),(9,2),(10,2),(11,2)] .fin .fin)) .fin))) (.br 6 [] (.br 1 [] (.br 2 [(7,2),(9,2),(10,2),(11,2)] .fin (.br 7 [(2,2),(9,2),(10,2),(11,2)] .fin .fin)) (.br 7 [(1,2),(2,2),(9,2),(10,2),(11,2)] .fin .fin)) (.br 7 [] (.br 1 [] (.br 2 [(6,2),(9,2),(10,2),(11,2)] .fin (.br 6 [(2,2),(9,2),(10,2),(11,2)] .fin .fin)) (.br 6 [(1,2),(2,2),(9,2),(10,2),(11,2)] .fin .fin)) .fin))) .fin)))) mixed (by kernel_rfl) (by kernel_rfl) (by kernel_rfl) (by kernel_rfl) ?_
  have x2:=Ext.drew w0;replace hio0:=hio0.ext x2;have e3:=hE.trans x2;have eb4:EB (World.drew w0).heap.size (World.drew w0) (World.drew w0):=EB.refl _;have sb5:=hio0;refine wba rfl rfl rfl (zcw (v:=p1) rfl rfl) ?_;refine wba rfl rfl rfl (zcw (v:=(bp gio0)) rfl rfl) ?_;refine wba rfl rfl rfl (zb4 rfl rfl) ?_;obtain ⟨c6,hc6,H1⟩:=bsi H1;refine wbq rfl rfl rfl (Qb.of fun w9 h9=>q_loadA (m:=0) rfl A91 rfl (Blk.ebs sb5 (EB.trans eb4 h9)) (zah _ _) (zad hc6)) ?_;refine zal ?_;refine zax (fun Z Y=>∀ (r7:(List UInt32)) (r13:(List UInt32)) (g19:Nat) (g27:Nat) (g33:Nat) (f:Nat->Value) (w:World),(((lenA 64 ((List.replicate 64 (0:UInt32)))).bind fun c44=>((lenA 64 r7).bind fun c45=>((lenA 64 r13).bind fun c49=>((lenA 8 ((List.replicate 8 (0:UInt32)))).bind fun c53=>some (r7,r13,a0s))))))=some x1->(f 0=(bp gio0)/\f 1=p1/\f 4=(bp g19)/\f 5=(bp g27)/\f 6=(bp g33)/\f 11=p1/\f 12=(ag u32 r7)/\f 13=(ag u32 r13)/\f 14=(bp gio0)/\f 15=(bp gio0)/\f 16=(ag u32 a0s)/\f 104=undef/\ExG [(bp gio0)] w0 w/\Blk w gio0 91 (ac u32 a0s)/\NS [(bp gio0)] w0 (bp gio0)/\Blk w g19 109 (ac u32 ((List.replicate 64 (0:UInt32))))/\NS [(bp gio0)] w0 (bp g19)/\Blk w g27 109 (ac u32 ((List.replicate 64 (0:UInt32))))/\NS [(bp gio0)] w0 (bp g27)/\Blk w g33 91 (ac u32 ((List.replicate 8 (0:UInt32))))/\NS [(bp gio0)] w0 (bp g33)/\Nq (bp gio0) (bp g19)/\Nq (bp gio0) (bp g27)/\Nq (bp gio0) (bp g33)/\Nq (bp g19) (bp g27)/\Nq (bp g19) (bp g33)/\Nq (bp g27) (bp g33))->EB (World.drew w0).heap.size (World.drew w0) w->(∀ k,Hs (bp g19) k->(World.drew w0).heap.size<=k)->(∀ k,Hs (bp g27) k->(World.drew w0).heap.size<=k)->(∀ k,Hs (bp g33) k->(World.drew w0).heap.size<=k)->Y [(9,2),(10,2),(11,2)] f w) ?_ (fun hS41=>?_)
  ·rintro r7 r13 g19 g27 g33 f w52 H1 ⟨s0_40,s1_40,s4_40,s5_40,s6_40,s11_40,s12_40,s13_40,s14_40,s15_40,s16_40,s104_40,hE40,o0_40,n0_40,o1_40,n1_40,o2_40,n2_40,o3_40,n3_40,q0_1_40,q0_2_40,q0_3_40,q1_2_40,q1_3_40,q2_3_40⟩ ebS41 fS41_0 fS41_1 fS41_2;obtain ⟨c44,hc44,H1⟩:=bsi H1;obtain ⟨c45,hc45,H1⟩:=bsi H1;refine wbm rfl rfl rfl (zbp [(bp gio0)] [(bp g27),(bp g33)] rfl A109 (by exact s4_40) (by exact s12_40) (zad hc44) (zad hc45) o1_40 zcj ?_);intro w43 o43 g43 l43;have z:=EB.own ebS41.1 g43 fS41_0;refine ⟨z,?_⟩;have eb46:=EB.trans ebS41 z;replace o2_40:=o2_40.other g43 q1_2_40.symm;have e47:=hE40.grown g43 n1_40;obtain ⟨c49,hc49,H1⟩:=bsi H1;refine wbm rfl rfl rfl (zbp [(bp gio0),(bp g19)] [(bp g33)] rfl A109 (by exact s5_40) (by exact s13_40) (zad hc44) (zad hc49) o2_40 zcj ?_);intro w48 o48 g48 l48;have z:=EB.own eb46.1 g48 fS41_1;refine ⟨z,?_⟩;replace o0_40:=(o0_40.other g43 q0_1_40).other g48 q0_2_40;replace o3_40:=(o3_40.other g43 q1_3_40.symm).other g48 q2_3_40.symm;have e51:=e47.grown g48 n2_40;obtain ⟨c53,hc53,H1⟩:=bsi H1;refine wbn rfl (by kernel_rfl) rfl rfl (zbp [(bp gio0),(bp g19),(bp g27)] [] rfl A91 (by exact s6_40) (by exact s16_40) (zad hc53) (zad hc6) o3_40 zcj ?_);intro w52 o52 g52 l52;replace o0_40:=o0_40.other g52 q0_3_40;replace o43:=(o43.other g48 q1_2_40).other g52 q1_3_40;replace o48:=o48.other g52 q2_3_40;have e55:=e51.grown g52 n3_40;refine zal ?_;refine wt_fin ?_;obtain rfl:=osi H1;exact ⟨g19,g27,g33,s0_40,s4_40,s5_40,s6_40,s104_40,e55,o0_40,n0_40,o43,n1_40,o48,n2_40,o52,n3_40,q0_1_40,q0_2_40,q0_3_40,q1_2_40,q1_3_40,q2_3_40⟩
  refine zax (fun Z Y=>∀ (r7:(List UInt32)) (r13:(List UInt32)) (g19:Nat) (f:Nat->Value) (w:World),(((lenA 64 ((List.replicate 64 (0:UInt32)))).bind fun c44=>((lenA 64 r7).bind fun c45=>((lenA 64 r13).bind fun c49=>((lenA 8 ((List.replicate 8 (0:UInt32)))).bind fun c53=>some (r7,r13,a0s))))))=some x1->(f 0=(bp gio0)/\f 1=p1/\f 4=(bp g19)/\f 11=p1/\f 12=(ag u32 r7)/\f 13=(ag u32 r13)/\f 14=(bp gio0)/\f 15=(bp gio0)/\f 16=(ag u32 a0s)/\f 104=undef/\ExG [(bp gio0)] w0 w/\Blk w gio0 91 (ac u32 a0s)/\NS [(bp gio0)] w0 (bp gio0)/\Blk w g19 109 (ac u32 ((List.replicate 64 (0:UInt32))))/\NS [(bp gio0)] w0 (bp g19)/\Nq (bp gio0) (bp g19))->EB (World.drew w0).heap.size (World.drew w0) w->(∀ k,Hs (bp g19) k->(World.drew w0).heap.size<=k)->Z ((.br 7 [(8,2),(9,2),(10,2),(11,2)] .fin (.br 8 [(7,2),(9,2),(10,2),(11,2)] .fin .fin))) f w) ?_ (fun hS25=>?_)
  ·rintro r7 r13 g19 f w24 H1 ⟨s0_24,s1_24,s4_24,s11_24,s12_24,s13_24,s14_24,s15_24,s16_24,s104_24,hE24,o0_24,n0_24,o1_24,n1_24,q0_1_24⟩ ebS25 fS25_0;refine zak ?_ ?_
   ·refine wbs rfl rfl rfl (sal u32 (List.replicate 64 (0:UInt32)) [(bp gio0),(bp g19)] rfl Z109 ?_);intro g27 w27 o27 n27 g27r l27;have z:=EB.ext ebS25.1 (zaa g27r);refine ⟨z,?_⟩;have x27:=zaa g27r;have eb28:=EB.trans ebS25 (EB.ext ebS25.1 x27);have q29:Nq (bp gio0) (bp g27):=o0_24.nq n27;have q30:Nq (bp g19) (bp g27):=o1_24.nq n27;replace o0_24:=o0_24.ext x27;replace o1_24:=o1_24.ext x27;have n32:=NS.ext hE24 n27;have e31:=hE24.trans x27;refine wbs rfl rfl rfl (sal u32 (List.replicate 8 (0:UInt32)) [(bp g27),(bp gio0),(bp g19)] rfl Z91 ?_);intro g33 w33 o33 n33 g33r l33;have z:=EB.ext eb28.1 (zaa g33r);refine ⟨z,?_⟩;have x33:=zaa g33r;have eb34:=eb28.e x33;have q35:Nq (bp g27) (bp g33):=o27.nq n33;have q36:Nq (bp gio0) (bp g33):=o0_24.nq n33;have q37:Nq (bp g19) (bp g33):=o1_24.nq n33;replace o27:=o27.ext x33;replace o0_24:=o0_24.ext x33;replace o1_24:=o1_24.ext x33;have n39:=NS.ext e31 n33;have e38:=e31.trans x33;exact hS41 r7 r13 g19 g27 g33 _ _ H1 ⟨s0_24,s1_24,s4_24,rfl,rfl,s11_24,s12_24,s13_24,s14_24,s15_24,s16_24,s104_24,e38,o0_24,n0_24,o1_24,n1_24,o27,n32,o33,n39,q0_1_24,q29,q36,q30,q37,q35⟩ eb34 fS25_0 (lt2 ebS25.1 n27) (lt2 eb28.1 n33)
   refine zak ?_ ?_
   ·refine wbs rfl rfl rfl (sal u32 (List.replicate 8 (0:UInt32)) [(bp gio0),(bp g19)] rfl Z91 ?_);intro g56 w56 o56 n56 g56r l56;have z:=EB.ext ebS25.1 (zaa g56r);refine ⟨z,?_⟩;have x56:=zaa g56r;have eb57:=EB.trans ebS25 (EB.ext ebS25.1 x56);have q58:Nq (bp gio0) (bp g56):=o0_24.nq n56;have q59:Nq (bp g19) (bp g56):=o1_24.nq n56;replace o0_24:=o0_24.ext x56;replace o1_24:=o1_24.ext x56;have n61:=NS.ext hE24 n56;have e60:=hE24.trans x56;refine wbs rfl rfl rfl (sal u32 (List.replicate 64 (0:UInt32)) [(bp g56),(bp gio0),(bp g19)] rfl Z109 ?_);intro g62 w62 o62 n62 g62r l62;have z:=EB.ext eb57.1 (zaa g62r);refine ⟨z,?_⟩;have x62:=zaa g62r;have eb63:=eb57.e x62;have q65:Nq (bp g56) (bp g62):=o56.nq n62;have q66:Nq (bp gio0) (bp g62):=o0_24.nq n62;have q67:Nq (bp g19) (bp g62):=o1_24.nq n62;replace o56:=o56.ext x62;replace o0_24:=o0_24.ext x62;replace o1_24:=o1_24.ext x62;have n69:=NS.ext e60 n62;have e68:=e60.trans x62;exact hS41 r7 r13 g19 g62 g56 _ _ H1 ⟨s0_24,s1_24,s4_24,rfl,rfl,s11_24,s12_24,s13_24,s14_24,s15_24,s16_24,s104_24,e68,o0_24,n0_24,o1_24,n1_24,o62,n69,o56,n61,q0_1_24,q66,q58,q67,q59,q65.symm⟩ eb63 fS25_0 (lt2 eb57.1 n62) (lt2 ebS25.1 n56)
   trivial
  refine zax (fun Z Y=>∀ (r7:(List UInt32)) (r13:(List UInt32)) (g70:Nat) (f:Nat->Value) (w:World),(((lenA 64 ((List.replicate 64 (0:UInt32)))).bind fun c44=>((lenA 64 r7).bind fun c45=>((lenA 64 r13).bind fun c49=>((lenA 8 ((List.replicate 8 (0:UInt32)))).bind fun c53=>some (r7,r13,a0s))))))=some x1->(f 0=(bp gio0)/\f 1=p1/\f 5=(bp g70)/\f 11=p1/\f 12=(ag u32 r7)/\f 13=(ag u32 r13)/\f 14=(bp gio0)/\f 15=(bp gio0)/\f 16=(ag u32 a0s)/\f 104=undef/\ExG [(bp gio0)] w0 w/\Blk w gio0 91 (ac u32 a0s)/\NS [(bp gio0)] w0 (bp gio0)/\Blk w g70 109 (ac u32 ((List.replicate 64 (0:UInt32))))/\NS [(bp gio0)] w0 (bp g70)/\Nq (bp gio0) (bp g70))->EB (World.drew w0).heap.size (World.drew w0) w->(∀ k,Hs (bp g70) k->(World.drew w0).heap.size<=k)->Z ((.br 6 [(8,2),(9,2),(10,2),(11,2)] .fin (.br 8 [(6,2),(9,2),(10,2),(11,2)] .fin .fin))) f w) ?_ (fun hS76=>?_)
  ·rintro r7 r13 g70 f w75 H1 ⟨s0_75,s1_75,s5_75,s11_75,s12_75,s13_75,s14_75,s15_75,s16_75,s104_75,hE75,o0_75,n0_75,o1_75,n1_75,q0_1_75⟩ ebS76 fS76_0;refine zak ?_ ?_
   ·refine wbs rfl rfl rfl (sal u32 (List.replicate 64 (0:UInt32)) [(bp gio0),(bp g70)] rfl Z109 ?_);intro g78 w78 o78 n78 g78r l78;have z:=EB.ext ebS76.1 (zaa g78r);refine ⟨z,?_⟩;have x78:=zaa g78r;have eb79:=EB.trans ebS76 (EB.ext ebS76.1 x78);have q80:Nq (bp gio0) (bp g78):=o0_75.nq n78;have q81:Nq (bp g70) (bp g78):=o1_75.nq n78;replace o0_75:=o0_75.ext x78;replace o1_75:=o1_75.ext x78;have n83:=NS.ext hE75 n78;have e82:=hE75.trans x78;refine wbs rfl rfl rfl (sal u32 (List.replicate 8 (0:UInt32)) [(bp g78),(bp gio0),(bp g70)] rfl Z91 ?_);intro g84 w84 o84 n84 g84r l84;have z:=EB.ext eb79.1 (zaa g84r);refine ⟨z,?_⟩;have x84:=zaa g84r;have eb85:=eb79.e x84;have q86:Nq (bp g78) (bp g84):=o78.nq n84;have q87:Nq (bp gio0) (bp g84):=o0_75.nq n84;have q88:Nq (bp g70) (bp g84):=o1_75.nq n84;replace o78:=o78.ext x84;replace o0_75:=o0_75.ext x84;replace o1_75:=o1_75.ext x84;have n90:=NS.ext e82 n84;have e89:=e82.trans x84;exact hS41 r7 r13 g78 g70 g84 _ _ H1 ⟨s0_75,s1_75,rfl,s5_75,rfl,s11_75,s12_75,s13_75,s14_75,s15_75,s16_75,s104_75,e89,o0_75,n0_75,o78,n83,o1_75,n1_75,o84,n90,q80,q0_1_75,q87,q81.symm,q86,q88⟩ eb85 (lt2 ebS76.1 n78) fS76_0 (lt2 eb79.1 n84)
   refine zak ?_ ?_
   ·refine wbs rfl rfl rfl (sal u32 (List.replicate 8 (0:UInt32)) [(bp gio0),(bp g70)] rfl Z91 ?_);intro g91 w91 o91 n91 g91r l91;have z:=EB.ext ebS76.1 (zaa g91r);refine ⟨z,?_⟩;have x91:=zaa g91r;have eb92:=EB.trans ebS76 (EB.ext ebS76.1 x91);have q93:Nq (bp gio0) (bp g91):=o0_75.nq n91;have q94:Nq (bp g70) (bp g91):=o1_75.nq n91;replace o0_75:=o0_75.ext x91;replace o1_75:=o1_75.ext x91;have n96:=NS.ext hE75 n91;have e95:=hE75.trans x91;refine wbs rfl rfl rfl (sal u32 (List.replicate 64 (0:UInt32)) [(bp g91),(bp gio0),(bp g70)] rfl Z109 ?_);intro g97 w97 o97 n97 g97r l97;have z:=EB.ext eb92.1 (zaa g97r);refine ⟨z,?_⟩;have x97:=zaa g97r;have eb98:=eb92.e x97;have q99:Nq (bp g91) (bp g97):=o91.nq n97;have q100:Nq (bp gio0) (bp g97):=o0_75.nq n97;have q101:Nq (bp g70) (bp g97):=o1_75.nq n97;replace o91:=o91.ext x97;replace o0_75:=o0_75.ext x97;replace o1_75:=o1_75.ext x97;have n103:=NS.ext e95 n97;have e102:=e95.trans x97;exact hS41 r7 r13 g97 g70 g91 _ _ H1 ⟨s0_75,s1_75,rfl,s5_75,rfl,s11_75,s12_75,s13_75,s14_75,s15_75,s16_75,s104_75,e102,o0_75,n0_75,o97,n103,o1_75,n1_75,o91,n96,q100,q0_1_75,q93,q101.symm,q99.symm,q94⟩ eb98 (lt2 eb92.1 n97) fS76_0 (lt2 ebS76.1 n91)
   trivial
  refine zax (fun Z Y=>∀ (r7:(List UInt32)) (r13:(List UInt32)) (g104:Nat) (f:Nat->Value) (w:World),(((lenA 64 ((List.replicate 64 (0:UInt32)))).bind fun c44=>((lenA 64 r7).bind fun c45=>((lenA 64 r13).bind fun c49=>((lenA 8 ((List.replicate 8 (0:UInt32)))).bind fun c53=>some (r7,r13,a0s))))))=some x1->(f 0=(bp gio0)/\f 1=p1/\f 6=(bp g104)/\f 11=p1/\f 12=(ag u32 r7)/\f 13=(ag u32 r13)/\f 14=(bp gio0)/\f 15=(bp gio0)/\f 16=(ag u32 a0s)/\f 104=undef/\ExG [(bp gio0)] w0 w/\Blk w gio0 91 (ac u32 a0s)/\NS [(bp gio0)] w0 (bp gio0)/\Blk w g104 91 (ac u32 ((List.replicate 8 (0:UInt32))))/\NS [(bp gio0)] w0 (bp g104)/\Nq (bp gio0) (bp g104))->EB (World.drew w0).heap.size (World.drew w0) w->(∀ k,Hs (bp g104) k->(World.drew w0).heap.size<=k)->Z ((.br 6 [(7,2),(9,2),(10,2),(11,2)] .fin (.br 7 [(6,2),(9,2),(10,2),(11,2)] .fin .fin))) f w) ?_ (fun hS110=>?_)
  ·rintro r7 r13 g104 f w109 H1 ⟨s0_109,s1_109,s6_109,s11_109,s12_109,s13_109,s14_109,s15_109,s16_109,s104_109,hE109,o0_109,n0_109,o1_109,n1_109,q0_1_109⟩ ebS110 fS110_0;refine zak ?_ ?_
   ·refine wbs rfl rfl rfl (sal u32 (List.replicate 64 (0:UInt32)) [(bp gio0),(bp g104)] rfl Z109 ?_);intro g112 w112 o112 n112 g112r l112;have z:=EB.ext ebS110.1 (zaa g112r);refine ⟨z,?_⟩;have x112:=zaa g112r;have eb113:=EB.trans ebS110 (EB.ext ebS110.1 x112);have q114:Nq (bp gio0) (bp g112):=o0_109.nq n112;have q115:Nq (bp g104) (bp g112):=o1_109.nq n112;replace o0_109:=o0_109.ext x112;replace o1_109:=o1_109.ext x112;have n117:=NS.ext hE109 n112;have e116:=hE109.trans x112;refine wbs rfl rfl rfl (sal u32 (List.replicate 64 (0:UInt32)) [(bp g112),(bp gio0),(bp g104)] rfl Z109 ?_);intro g118 w118 o118 n118 g118r l118;have z:=EB.ext eb113.1 (zaa g118r);refine ⟨z,?_⟩;have x118:=zaa g118r;have eb119:=eb113.e x118;have q120:Nq (bp g112) (bp g118):=o112.nq n118;have q121:Nq (bp gio0) (bp g118):=o0_109.nq n118;have q122:Nq (bp g104) (bp g118):=o1_109.nq n118;replace o112:=o112.ext x118;replace o0_109:=o0_109.ext x118;replace o1_109:=o1_109.ext x118;have n124:=NS.ext e116 n118;have e123:=e116.trans x118;exact hS41 r7 r13 g112 g118 g104 _ _ H1 ⟨s0_109,s1_109,rfl,rfl,s6_109,s11_109,s12_109,s13_109,s14_109,s15_109,s16_109,s104_109,e123,o0_109,n0_109,o112,n117,o118,n124,o1_109,n1_109,q114,q121,q0_1_109,q120,q115.symm,q122.symm⟩ eb119 (lt2 ebS110.1 n112) (lt2 eb113.1 n118) fS110_0
   refine zak ?_ ?_
   ·refine wbs rfl rfl rfl (sal u32 (List.replicate 64 (0:UInt32)) [(bp gio0),(bp g104)] rfl Z109 ?_);intro g125 w125 o125 n125 g125r l125;have z:=EB.ext ebS110.1 (zaa g125r);refine ⟨z,?_⟩;have x125:=zaa g125r;have eb126:=EB.trans ebS110 (EB.ext ebS110.1 x125);have q127:Nq (bp gio0) (bp g125):=o0_109.nq n125;have q128:Nq (bp g104) (bp g125):=o1_109.nq n125;replace o0_109:=o0_109.ext x125;replace o1_109:=o1_109.ext x125;have n130:=NS.ext hE109 n125;have e129:=hE109.trans x125;refine wbs rfl rfl rfl (sal u32 (List.replicate 64 (0:UInt32)) [(bp g125),(bp gio0),(bp g104)] rfl Z109 ?_);intro g131 w131 o131 n131 g131r l131;have z:=EB.ext eb126.1 (zaa g131r);refine ⟨z,?_⟩;have x131:=zaa g131r;have eb132:=eb126.e x131;have q133:Nq (bp g125) (bp g131):=o125.nq n131;have q134:Nq (bp gio0) (bp g131):=o0_109.nq n131;have q135:Nq (bp g104) (bp g131):=o1_109.nq n131;replace o125:=o125.ext x131;replace o0_109:=o0_109.ext x131;replace o1_109:=o1_109.ext x131;have n137:=NS.ext e129 n131;have e136:=e129.trans x131;exact hS41 r7 r13 g131 g125 g104 _ _ H1 ⟨s0_109,s1_109,rfl,rfl,s6_109,s11_109,s12_109,s13_109,s14_109,s15_109,s16_109,s104_109,e136,o0_109,n0_109,o131,n137,o125,n130,o1_109,n1_109,q134,q127,q0_1_109,q133.symm,q135.symm,q128.symm⟩ eb132 (lt2 eb126.1 n131) (lt2 ebS110.1 n125) fS110_0
   trivial
  refine zax (fun Z Y=>∀ (r7:(List UInt32)) (r13:(List UInt32)) (f:Nat->Value) (w:World),(((lenA 64 ((List.replicate 64 (0:UInt32)))).bind fun c44=>((lenA 64 r7).bind fun c45=>((lenA 64 r13).bind fun c49=>((lenA 8 ((List.replicate 8 (0:UInt32)))).bind fun c53=>some (r7,r13,a0s))))))=some x1->(f 0=(bp gio0)/\f 1=p1/\f 11=p1/\f 12=(ag u32 r7)/\f 13=(ag u32 r13)/\f 14=(bp gio0)/\f 15=(bp gio0)/\f 16=(ag u32 a0s)/\f 104=undef/\ExG [(bp gio0)] w0 w/\Blk w gio0 91 (ac u32 a0s)/\NS [(bp gio0)] w0 (bp gio0))->EB (World.drew w0).heap.size (World.drew w0) w->Z ((.br 6 [] (.br 7 [(8,2),(9,2),(10,2),(11,2)] .fin (.br 8 [(7,2),(9,2),(10,2),(11,2)] .fin .fin)) (.br 7 [] (.br 6 [(8,2),(9,2),(10,2),(11,2)] .fin (.br 8 [(6,2),(9,2),(10,2),(11,2)] .fin .fin)) (.br 8 [] (.br 6 [(7,2),(9,2),(10,2),(11,2)] .fin (.br 7 [(6,2),(9,2),(10,2),(11,2)] .fin .fin)) .fin)))) f w) ?_ (fun hS17=>?_)
  ·rintro r7 r13 f w16 H1 ⟨s0_16,s1_16,s11_16,s12_16,s13_16,s14_16,s15_16,s16_16,s104_16,hE16,o0_16,n0_16⟩ ebS17;refine zak ?_ ?_
   ·refine wbs rfl rfl rfl (sal u32 (List.replicate 64 (0:UInt32)) [(bp gio0)] rfl Z109 ?_);intro g19 w19 o19 n19 g19r l19;have z:=EB.ext ebS17.1 (zaa g19r);refine ⟨z,?_⟩;have x19:=zaa g19r;have eb20:=EB.trans ebS17 (EB.ext ebS17.1 x19);have q21:Nq (bp gio0) (bp g19):=o0_16.nq n19;replace o0_16:=o0_16.ext x19;have n23:=NS.ext hE16 n19;have e22:=hE16.trans x19;refine zal ?_;refine wt_br ?_;exact hS25 r7 r13 g19 _ _ H1 ⟨s0_16,s1_16,rfl,s11_16,s12_16,s13_16,s14_16,s15_16,s16_16,s104_16,e22,o0_16,n0_16,o19,n23,q21⟩ eb20 (lt2 ebS17.1 n19)
   refine zak ?_ ?_
   ·refine wbs rfl rfl rfl (sal u32 (List.replicate 64 (0:UInt32)) [(bp gio0)] rfl Z109 ?_);intro g70 w70 o70 n70 g70r l70;have z:=EB.ext ebS17.1 (zaa g70r);refine ⟨z,?_⟩;have x70:=zaa g70r;have eb71:=EB.trans ebS17 (EB.ext ebS17.1 x70);have q72:Nq (bp gio0) (bp g70):=o0_16.nq n70;replace o0_16:=o0_16.ext x70;have n74:=NS.ext hE16 n70;have e73:=hE16.trans x70;refine zal ?_;refine wt_br ?_;exact hS76 r7 r13 g70 _ _ H1 ⟨s0_16,s1_16,rfl,s11_16,s12_16,s13_16,s14_16,s15_16,s16_16,s104_16,e73,o0_16,n0_16,o70,n74,q72⟩ eb71 (lt2 ebS17.1 n70)
   refine zak ?_ ?_
   ·refine wbs rfl rfl rfl (sal u32 (List.replicate 8 (0:UInt32)) [(bp gio0)] rfl Z91 ?_);intro g104 w104 o104 n104 g104r l104;have z:=EB.ext ebS17.1 (zaa g104r);refine ⟨z,?_⟩;have x104:=zaa g104r;have eb105:=EB.trans ebS17 (EB.ext ebS17.1 x104);have q106:Nq (bp gio0) (bp g104):=o0_16.nq n104;replace o0_16:=o0_16.ext x104;have n108:=NS.ext hE16 n104;have e107:=hE16.trans x104;refine zal ?_;refine wt_br ?_;exact hS110 r7 r13 g104 _ _ H1 ⟨s0_16,s1_16,rfl,s11_16,s12_16,s13_16,s14_16,s15_16,s16_16,s104_16,e107,o0_16,n0_16,o104,n108,q106⟩ eb105 (lt2 ebS17.1 n104)
   trivial
  refine zax (fun Z Y=>∀ (r7:(List UInt32)) (g138:Nat) (g149:Nat) (f:Nat->Value) (w:World),(((zae ).bind fun r158=>((lenA 64 ((List.replicate 64 (0:UInt32)))).bind fun c44=>((lenA 64 r7).bind fun c45=>((lenA 64 r158).bind fun c49=>((lenA 8 ((List.replicate 8 (0:UInt32)))).bind fun c53=>some (r7,r158,a0s)))))))=some x1->(f 0=(bp gio0)/\f 1=p1/\f 4=(bp g138)/\f 5=(bp g149)/\f 11=p1/\f 12=(ag u32 r7)/\f 14=(bp gio0)/\f 15=(bp gio0)/\f 16=(ag u32 a0s)/\f 104=undef/\ExG [(bp gio0)] w0 w/\Blk w gio0 91 (ac u32 a0s)/\NS [(bp gio0)] w0 (bp gio0)/\Blk w g138 109 (ac u32 ((List.replicate 64 (0:UInt32))))/\NS [(bp gio0)] w0 (bp g138)/\Blk w g149 109 (ac u32 ((List.replicate 64 (0:UInt32))))/\NS [(bp gio0)] w0 (bp g149)/\Nq (bp gio0) (bp g138)/\Nq (bp gio0) (bp g149)/\Nq (bp g138) (bp g149))->EB (World.drew w0).heap.size (World.drew w0) w->(∀ k,Hs (bp g138) k->(World.drew w0).heap.size<=k)->(∀ k,Hs (bp g149) k->(World.drew w0).heap.size<=k)->Z ((.br 2 [(8,2),(9,2),(10,2),(11,2)] .fin (.br 8 [(2,2),(9,2),(10,2),(11,2)] .fin .fin))) f w) ?_ (fun hS156=>?_)
  ·rintro r7 g138 g149 f w155 H1 ⟨s0_155,s1_155,s4_155,s5_155,s11_155,s12_155,s14_155,s15_155,s16_155,s104_155,hE155,o0_155,n0_155,o1_155,n1_155,o2_155,n2_155,q0_1_155,q0_2_155,q1_2_155⟩ ebS156 fS156_0 fS156_1;refine zak ?_ ?_
   ·obtain ⟨r158,hr158,H1⟩:=bsi H1;refine wbs rfl rfl rfl (zab (vs:=[]) Try.func73 rfl rfl rfl (ar0 ) (zac   r158 _  hr158) ?_);rintro _ w158 ⟨rfl,x158⟩;refine ⟨_,rfl,(EB.ext ebS156.1 x158),?_⟩;have eb159:=EB.trans ebS156 (EB.ext ebS156.1 x158);replace o0_155:=o0_155.ext x158;replace o1_155:=o1_155.ext x158;replace o2_155:=o2_155.ext x158;have e160:=hE155.trans x158;refine wbs rfl rfl rfl (sal u32 (List.replicate 8 (0:UInt32)) [(bp gio0),(bp g138),(bp g149)] rfl Z91 ?_);intro g161 w161 o161 n161 g161r l161;have z:=EB.ext eb159.1 (zaa g161r);refine ⟨z,?_⟩;have x161:=zaa g161r;have eb162:=eb159.e x161;have q163:Nq (bp gio0) (bp g161):=o0_155.nq n161;have q164:Nq (bp g138) (bp g161):=o1_155.nq n161;have q165:Nq (bp g149) (bp g161):=o2_155.nq n161;replace o0_155:=o0_155.ext x161;replace o1_155:=o1_155.ext x161;replace o2_155:=o2_155.ext x161;have n167:=NS.ext e160 n161;have e166:=e160.trans x161;exact hS41 r7 r158 g138 g149 g161 _ _ H1 ⟨s0_155,s1_155,s4_155,s5_155,rfl,s11_155,s12_155,rfl,s14_155,s15_155,s16_155,s104_155,e166,o0_155,n0_155,o1_155,n1_155,o2_155,n2_155,o161,n167,q0_1_155,q0_2_155,q163,q1_2_155,q164,q165⟩ eb162 fS156_0 fS156_1 (lt2 eb159.1 n161)
   refine zak ?_ ?_
   ·refine wbs rfl rfl rfl (sal u32 (List.replicate 8 (0:UInt32)) [(bp gio0),(bp g138),(bp g149)] rfl Z91 ?_);intro g168 w168 o168 n168 g168r l168;have z:=EB.ext ebS156.1 (zaa g168r);refine ⟨z,?_⟩;have x168:=zaa g168r;have eb169:=EB.trans ebS156 (EB.ext ebS156.1 x168);have q170:Nq (bp gio0) (bp g168):=o0_155.nq n168;have q171:Nq (bp g138) (bp g168):=o1_155.nq n168;have q172:Nq (bp g149) (bp g168):=o2_155.nq n168;have n174:=NS.ext hE155 n168;have e173:=hE155.trans x168;obtain ⟨r175,hr175,H1⟩:=bsi H1;refine wbs rfl rfl rfl (zab (vs:=[]) Try.func73 rfl rfl rfl (ar0 ) (zac   r175 _  hr175) ?_);rintro _ w175 ⟨rfl,x175⟩;refine ⟨_,rfl,(EB.ext eb169.1 x175),?_⟩;have eb176:=eb169.e x175;replace o168:=o168.ext x175;replace o0_155:=(o0_155.ext x168).ext x175;replace o1_155:=(o1_155.ext x168).ext x175;replace o2_155:=(o2_155.ext x168).ext x175;have e177:=e173.trans x175;exact hS41 r7 r175 g138 g149 g168 _ _ H1 ⟨s0_155,s1_155,s4_155,s5_155,rfl,s11_155,s12_155,rfl,s14_155,s15_155,s16_155,s104_155,e177,o0_155,n0_155,o1_155,n1_155,o2_155,n2_155,o168,n174,q0_1_155,q0_2_155,q170,q1_2_155,q171,q172⟩ eb176 fS156_0 fS156_1 (lt2 ebS156.1 n168)
   trivial
  refine zax (fun Z Y=>∀ (r7:(List UInt32)) (g138:Nat) (g178:Nat) (f:Nat->Value) (w:World),(((zae ).bind fun r187=>((lenA 64 ((List.replicate 64 (0:UInt32)))).bind fun c44=>((lenA 64 r7).bind fun c45=>((lenA 64 r187).bind fun c49=>((lenA 8 ((List.replicate 8 (0:UInt32)))).bind fun c53=>some (r7,r187,a0s)))))))=some x1->(f 0=(bp gio0)/\f 1=p1/\f 4=(bp g138)/\f 6=(bp g178)/\f 11=p1/\f 12=(ag u32 r7)/\f 14=(bp gio0)/\f 15=(bp gio0)/\f 16=(ag u32 a0s)/\f 104=undef/\ExG [(bp gio0)] w0 w/\Blk w gio0 91 (ac u32 a0s)/\NS [(bp gio0)] w0 (bp gio0)/\Blk w g138 109 (ac u32 ((List.replicate 64 (0:UInt32))))/\NS [(bp gio0)] w0 (bp g138)/\Blk w g178 91 (ac u32 ((List.replicate 8 (0:UInt32))))/\NS [(bp gio0)] w0 (bp g178)/\Nq (bp gio0) (bp g138)/\Nq (bp gio0) (bp g178)/\Nq (bp g138) (bp g178))->EB (World.drew w0).heap.size (World.drew w0) w->(∀ k,Hs (bp g138) k->(World.drew w0).heap.size<=k)->(∀ k,Hs (bp g178) k->(World.drew w0).heap.size<=k)->Z ((.br 2 [(7,2),(9,2),(10,2),(11,2)] .fin (.br 7 [(2,2),(9,2),(10,2),(11,2)] .fin .fin))) f w) ?_ (fun hS185=>?_)
  ·rintro r7 g138 g178 f w184 H1 ⟨s0_184,s1_184,s4_184,s6_184,s11_184,s12_184,s14_184,s15_184,s16_184,s104_184,hE184,o0_184,n0_184,o1_184,n1_184,o2_184,n2_184,q0_1_184,q0_2_184,q1_2_184⟩ ebS185 fS185_0 fS185_1;refine zak ?_ ?_
   ·obtain ⟨r187,hr187,H1⟩:=bsi H1;refine wbs rfl rfl rfl (zab (vs:=[]) Try.func73 rfl rfl rfl (ar0 ) (zac   r187 _  hr187) ?_);rintro _ w187 ⟨rfl,x187⟩;refine ⟨_,rfl,(EB.ext ebS185.1 x187),?_⟩;have eb188:=EB.trans ebS185 (EB.ext ebS185.1 x187);replace o0_184:=o0_184.ext x187;replace o1_184:=o1_184.ext x187;replace o2_184:=o2_184.ext x187;have e189:=hE184.trans x187;refine wbs rfl rfl rfl (sal u32 (List.replicate 64 (0:UInt32)) [(bp gio0),(bp g138),(bp g178)] rfl Z109 ?_);intro g190 w190 o190 n190 g190r l190;have z:=EB.ext eb188.1 (zaa g190r);refine ⟨z,?_⟩;have x190:=zaa g190r;have eb191:=eb188.e x190;have q192:Nq (bp gio0) (bp g190):=o0_184.nq n190;have q193:Nq (bp g138) (bp g190):=o1_184.nq n190;have q194:Nq (bp g178) (bp g190):=o2_184.nq n190;replace o0_184:=o0_184.ext x190;replace o1_184:=o1_184.ext x190;replace o2_184:=o2_184.ext x190;have n196:=NS.ext e189 n190;have e195:=e189.trans x190;exact hS41 r7 r187 g138 g190 g178 _ _ H1 ⟨s0_184,s1_184,s4_184,rfl,s6_184,s11_184,s12_184,rfl,s14_184,s15_184,s16_184,s104_184,e195,o0_184,n0_184,o1_184,n1_184,o190,n196,o2_184,n2_184,q0_1_184,q192,q0_2_184,q193,q1_2_184,q194.symm⟩ eb191 fS185_0 (lt2 eb188.1 n190) fS185_1
   refine zak ?_ ?_
   ·refine wbs rfl rfl rfl (sal u32 (List.replicate 64 (0:UInt32)) [(bp gio0),(bp g138),(bp g178)] rfl Z109 ?_);intro g197 w197 o197 n197 g197r l197;have z:=EB.ext ebS185.1 (zaa g197r);refine ⟨z,?_⟩;have x197:=zaa g197r;have eb198:=EB.trans ebS185 (EB.ext ebS185.1 x197);have q199:Nq (bp gio0) (bp g197):=o0_184.nq n197;have q200:Nq (bp g138) (bp g197):=o1_184.nq n197;have q201:Nq (bp g178) (bp g197):=o2_184.nq n197;have n203:=NS.ext hE184 n197;have e202:=hE184.trans x197;obtain ⟨r204,hr204,H1⟩:=bsi H1;refine wbs rfl rfl rfl (zab (vs:=[]) Try.func73 rfl rfl rfl (ar0 ) (zac   r204 _  hr204) ?_);rintro _ w204 ⟨rfl,x204⟩;refine ⟨_,rfl,(EB.ext eb198.1 x204),?_⟩;have eb205:=eb198.e x204;replace o197:=o197.ext x204;replace o0_184:=(o0_184.ext x197).ext x204;replace o1_184:=(o1_184.ext x197).ext x204;replace o2_184:=(o2_184.ext x197).ext x204;have e206:=e202.trans x204;exact hS41 r7 r204 g138 g197 g178 _ _ H1 ⟨s0_184,s1_184,s4_184,rfl,s6_184,s11_184,s12_184,rfl,s14_184,s15_184,s16_184,s104_184,e206,o0_184,n0_184,o1_184,n1_184,o197,n203,o2_184,n2_184,q0_1_184,q199,q0_2_184,q200,q1_2_184,q201.symm⟩ eb205 fS185_0 (lt2 ebS185.1 n197) fS185_1
   trivial
  refine zax (fun Z Y=>∀ (r7:(List UInt32)) (g138:Nat) (f:Nat->Value) (w:World),(((zae ).bind fun r146=>((lenA 64 ((List.replicate 64 (0:UInt32)))).bind fun c44=>((lenA 64 r7).bind fun c45=>((lenA 64 r146).bind fun c49=>((lenA 8 ((List.replicate 8 (0:UInt32)))).bind fun c53=>some (r7,r146,a0s)))))))=some x1->(f 0=(bp gio0)/\f 1=p1/\f 4=(bp g138)/\f 11=p1/\f 12=(ag u32 r7)/\f 14=(bp gio0)/\f 15=(bp gio0)/\f 16=(ag u32 a0s)/\f 104=undef/\ExG [(bp gio0)] w0 w/\Blk w gio0 91 (ac u32 a0s)/\NS [(bp gio0)] w0 (bp gio0)/\Blk w g138 109 (ac u32 ((List.replicate 64 (0:UInt32))))/\NS [(bp gio0)] w0 (bp g138)/\Nq (bp gio0) (bp g138))->EB (World.drew w0).heap.size (World.drew w0) w->(∀ k,Hs (bp g138) k->(World.drew w0).heap.size<=k)->Z ((.br 2 [] (.br 7 [(8,2),(9,2),(10,2),(11,2)] .fin (.br 8 [(7,2),(9,2),(10,2),(11,2)] .fin .fin)) (.br 7 [] (.br 2 [(8,2),(9,2),(10,2),(11,2)] .fin (.br 8 [(2,2),(9,2),(10,2),(11,2)] .fin .fin)) (.br 8 [] (.br 2 [(7,2),(9,2),(10,2),(11,2)] .fin (.br 7 [(2,2),(9,2),(10,2),(11,2)] .fin .fin)) .fin)))) f w) ?_ (fun hS144=>?_)
  ·rintro r7 g138 f w143 H1 ⟨s0_143,s1_143,s4_143,s11_143,s12_143,s14_143,s15_143,s16_143,s104_143,hE143,o0_143,n0_143,o1_143,n1_143,q0_1_143⟩ ebS144 fS144_0;refine zak ?_ ?_
   ·obtain ⟨r146,hr146,H1⟩:=bsi H1;refine wbs rfl rfl rfl (zab (vs:=[]) Try.func73 rfl rfl rfl (ar0 ) (zac   r146 _  hr146) ?_);rintro _ w146 ⟨rfl,x146⟩;refine ⟨_,rfl,(EB.ext ebS144.1 x146),?_⟩;have eb147:=EB.trans ebS144 (EB.ext ebS144.1 x146);replace o0_143:=o0_143.ext x146;replace o1_143:=o1_143.ext x146;have e148:=hE143.trans x146;refine zal ?_;refine wt_br ?_;exact hS25 r7 r146 g138 _ _ H1 ⟨s0_143,s1_143,s4_143,s11_143,s12_143,rfl,s14_143,s15_143,s16_143,s104_143,e148,o0_143,n0_143,o1_143,n1_143,q0_1_143⟩ eb147 fS144_0
   refine zak ?_ ?_
   ·refine wbs rfl rfl rfl (sal u32 (List.replicate 64 (0:UInt32)) [(bp gio0),(bp g138)] rfl Z109 ?_);intro g149 w149 o149 n149 g149r l149;have z:=EB.ext ebS144.1 (zaa g149r);refine ⟨z,?_⟩;have x149:=zaa g149r;have eb150:=EB.trans ebS144 (EB.ext ebS144.1 x149);have q151:Nq (bp gio0) (bp g149):=o0_143.nq n149;have q152:Nq (bp g138) (bp g149):=o1_143.nq n149;replace o0_143:=o0_143.ext x149;replace o1_143:=o1_143.ext x149;have n154:=NS.ext hE143 n149;have e153:=hE143.trans x149;refine zal ?_;refine wt_br ?_;exact hS156 r7 g138 g149 _ _ H1 ⟨s0_143,s1_143,s4_143,rfl,s11_143,s12_143,s14_143,s15_143,s16_143,s104_143,e153,o0_143,n0_143,o1_143,n1_143,o149,n154,q0_1_143,q151,q152⟩ eb150 fS144_0 (lt2 ebS144.1 n149)
   refine zak ?_ ?_
   ·refine wbs rfl rfl rfl (sal u32 (List.replicate 8 (0:UInt32)) [(bp gio0),(bp g138)] rfl Z91 ?_);intro g178 w178 o178 n178 g178r l178;have z:=EB.ext ebS144.1 (zaa g178r);refine ⟨z,?_⟩;have x178:=zaa g178r;have eb179:=EB.trans ebS144 (EB.ext ebS144.1 x178);have q180:Nq (bp gio0) (bp g178):=o0_143.nq n178;have q181:Nq (bp g138) (bp g178):=o1_143.nq n178;replace o0_143:=o0_143.ext x178;replace o1_143:=o1_143.ext x178;have n183:=NS.ext hE143 n178;have e182:=hE143.trans x178;refine zal ?_;refine wt_br ?_;exact hS185 r7 g138 g178 _ _ H1 ⟨s0_143,s1_143,s4_143,rfl,s11_143,s12_143,s14_143,s15_143,s16_143,s104_143,e182,o0_143,n0_143,o1_143,n1_143,o178,n183,q0_1_143,q180,q181⟩ eb179 fS144_0 (lt2 ebS144.1 n178)
   trivial
  refine zax (fun Z Y=>∀ (r7:(List UInt32)) (g207:Nat) (g224:Nat) (f:Nat->Value) (w:World),(((zae ).bind fun r233=>((lenA 64 ((List.replicate 64 (0:UInt32)))).bind fun c44=>((lenA 64 r7).bind fun c45=>((lenA 64 r233).bind fun c49=>((lenA 8 ((List.replicate 8 (0:UInt32)))).bind fun c53=>some (r7,r233,a0s)))))))=some x1->(f 0=(bp gio0)/\f 1=p1/\f 5=(bp g207)/\f 6=(bp g224)/\f 11=p1/\f 12=(ag u32 r7)/\f 14=(bp gio0)/\f 15=(bp gio0)/\f 16=(ag u32 a0s)/\f 104=undef/\ExG [(bp gio0)] w0 w/\Blk w gio0 91 (ac u32 a0s)/\NS [(bp gio0)] w0 (bp gio0)/\Blk w g207 109 (ac u32 ((List.replicate 64 (0:UInt32))))/\NS [(bp gio0)] w0 (bp g207)/\Blk w g224 91 (ac u32 ((List.replicate 8 (0:UInt32))))/\NS [(bp gio0)] w0 (bp g224)/\Nq (bp gio0) (bp g207)/\Nq (bp gio0) (bp g224)/\Nq (bp g207) (bp g224))->EB (World.drew w0).heap.size (World.drew w0) w->(∀ k,Hs (bp g207) k->(World.drew w0).heap.size<=k)->(∀ k,Hs (bp g224) k->(World.drew w0).heap.size<=k)->Z ((.br 2 [(6,2),(9,2),(10,2),(11,2)] .fin (.br 6 [(2,2),(9,2),(10,2),(11,2)] .fin .fin))) f w) ?_ (fun hS231=>?_)
  ·rintro r7 g207 g224 f w230 H1 ⟨s0_230,s1_230,s5_230,s6_230,s11_230,s12_230,s14_230,s15_230,s16_230,s104_230,hE230,o0_230,n0_230,o1_230,n1_230,o2_230,n2_230,q0_1_230,q0_2_230,q1_2_230⟩ ebS231 fS231_0 fS231_1;refine zak ?_ ?_
   ·obtain ⟨r233,hr233,H1⟩:=bsi H1;refine wbs rfl rfl rfl (zab (vs:=[]) Try.func73 rfl rfl rfl (ar0 ) (zac   r233 _  hr233) ?_);rintro _ w233 ⟨rfl,x233⟩;refine ⟨_,rfl,(EB.ext ebS231.1 x233),?_⟩;have eb234:=EB.trans ebS231 (EB.ext ebS231.1 x233);replace o0_230:=o0_230.ext x233;replace o1_230:=o1_230.ext x233;replace o2_230:=o2_230.ext x233;have e235:=hE230.trans x233;refine wbs rfl rfl rfl (sal u32 (List.replicate 64 (0:UInt32)) [(bp gio0),(bp g207),(bp g224)] rfl Z109 ?_);intro g236 w236 o236 n236 g236r l236;have z:=EB.ext eb234.1 (zaa g236r);refine ⟨z,?_⟩;have x236:=zaa g236r;have eb237:=eb234.e x236;have q238:Nq (bp gio0) (bp g236):=o0_230.nq n236;have q239:Nq (bp g207) (bp g236):=o1_230.nq n236;have q240:Nq (bp g224) (bp g236):=o2_230.nq n236;replace o0_230:=o0_230.ext x236;replace o1_230:=o1_230.ext x236;replace o2_230:=o2_230.ext x236;have n242:=NS.ext e235 n236;have e241:=e235.trans x236;exact hS41 r7 r233 g236 g207 g224 _ _ H1 ⟨s0_230,s1_230,rfl,s5_230,s6_230,s11_230,s12_230,rfl,s14_230,s15_230,s16_230,s104_230,e241,o0_230,n0_230,o236,n242,o1_230,n1_230,o2_230,n2_230,q238,q0_1_230,q0_2_230,q239.symm,q240.symm,q1_2_230⟩ eb237 (lt2 eb234.1 n236) fS231_0 fS231_1
   refine zak ?_ ?_
   ·refine wbs rfl rfl rfl (sal u32 (List.replicate 64 (0:UInt32)) [(bp gio0),(bp g207),(bp g224)] rfl Z109 ?_);intro g243 w243 o243 n243 g243r l243;have z:=EB.ext ebS231.1 (zaa g243r);refine ⟨z,?_⟩;have x243:=zaa g243r;have eb244:=EB.trans ebS231 (EB.ext ebS231.1 x243);have q245:Nq (bp gio0) (bp g243):=o0_230.nq n243;have q246:Nq (bp g207) (bp g243):=o1_230.nq n243;have q247:Nq (bp g224) (bp g243):=o2_230.nq n243;have n249:=NS.ext hE230 n243;have e248:=hE230.trans x243;obtain ⟨r250,hr250,H1⟩:=bsi H1;refine wbs rfl rfl rfl (zab (vs:=[]) Try.func73 rfl rfl rfl (ar0 ) (zac   r250 _  hr250) ?_);rintro _ w250 ⟨rfl,x250⟩;refine ⟨_,rfl,(EB.ext eb244.1 x250),?_⟩;have eb251:=eb244.e x250;replace o243:=o243.ext x250;replace o0_230:=(o0_230.ext x243).ext x250;replace o1_230:=(o1_230.ext x243).ext x250;replace o2_230:=(o2_230.ext x243).ext x250;have e252:=e248.trans x250;exact hS41 r7 r250 g243 g207 g224 _ _ H1 ⟨s0_230,s1_230,rfl,s5_230,s6_230,s11_230,s12_230,rfl,s14_230,s15_230,s16_230,s104_230,e252,o0_230,n0_230,o243,n249,o1_230,n1_230,o2_230,n2_230,q245,q0_1_230,q0_2_230,q246.symm,q247.symm,q1_2_230⟩ eb251 (lt2 ebS231.1 n243) fS231_0 fS231_1
   trivial
  refine zax (fun Z Y=>∀ (r7:(List UInt32)) (g207:Nat) (f:Nat->Value) (w:World),(((zae ).bind fun r215=>((lenA 64 ((List.replicate 64 (0:UInt32)))).bind fun c44=>((lenA 64 r7).bind fun c45=>((lenA 64 r215).bind fun c49=>((lenA 8 ((List.replicate 8 (0:UInt32)))).bind fun c53=>some (r7,r215,a0s)))))))=some x1->(f 0=(bp gio0)/\f 1=p1/\f 5=(bp g207)/\f 11=p1/\f 12=(ag u32 r7)/\f 14=(bp gio0)/\f 15=(bp gio0)/\f 16=(ag u32 a0s)/\f 104=undef/\ExG [(bp gio0)] w0 w/\Blk w gio0 91 (ac u32 a0s)/\NS [(bp gio0)] w0 (bp gio0)/\Blk w g207 109 (ac u32 ((List.replicate 64 (0:UInt32))))/\NS [(bp gio0)] w0 (bp g207)/\Nq (bp gio0) (bp g207))->EB (World.drew w0).heap.size (World.drew w0) w->(∀ k,Hs (bp g207) k->(World.drew w0).heap.size<=k)->Z ((.br 2 [] (.br 6 [(8,2),(9,2),(10,2),(11,2)] .fin (.br 8 [(6,2),(9,2),(10,2),(11,2)] .fin .fin)) (.br 6 [] (.br 2 [(8,2),(9,2),(10,2),(11,2)] .fin (.br 8 [(2,2),(9,2),(10,2),(11,2)] .fin .fin)) (.br 8 [] (.br 2 [(6,2),(9,2),(10,2),(11,2)] .fin (.br 6 [(2,2),(9,2),(10,2),(11,2)] .fin .fin)) .fin)))) f w) ?_ (fun hS213=>?_)
  ·rintro r7 g207 f w212 H1 ⟨s0_212,s1_212,s5_212,s11_212,s12_212,s14_212,s15_212,s16_212,s104_212,hE212,o0_212,n0_212,o1_212,n1_212,q0_1_212⟩ ebS213 fS213_0;refine zak ?_ ?_
   ·obtain ⟨r215,hr215,H1⟩:=bsi H1;refine wbs rfl rfl rfl (zab (vs:=[]) Try.func73 rfl rfl rfl (ar0 ) (zac   r215 _  hr215) ?_);rintro _ w215 ⟨rfl,x215⟩;refine ⟨_,rfl,(EB.ext ebS213.1 x215),?_⟩;have eb216:=EB.trans ebS213 (EB.ext ebS213.1 x215);replace o0_212:=o0_212.ext x215;replace o1_212:=o1_212.ext x215;have e217:=hE212.trans x215;refine zal ?_;refine wt_br ?_;exact hS76 r7 r215 g207 _ _ H1 ⟨s0_212,s1_212,s5_212,s11_212,s12_212,rfl,s14_212,s15_212,s16_212,s104_212,e217,o0_212,n0_212,o1_212,n1_212,q0_1_212⟩ eb216 fS213_0
   refine zak ?_ ?_
   ·refine wbs rfl rfl rfl (sal u32 (List.replicate 64 (0:UInt32)) [(bp gio0),(bp g207)] rfl Z109 ?_);intro g218 w218 o218 n218 g218r l218;have z:=EB.ext ebS213.1 (zaa g218r);refine ⟨z,?_⟩;have x218:=zaa g218r;have eb219:=EB.trans ebS213 (EB.ext ebS213.1 x218);have q220:Nq (bp gio0) (bp g218):=o0_212.nq n218;have q221:Nq (bp g207) (bp g218):=o1_212.nq n218;replace o0_212:=o0_212.ext x218;replace o1_212:=o1_212.ext x218;have n223:=NS.ext hE212 n218;have e222:=hE212.trans x218;refine zal ?_;refine wt_br ?_;exact hS156 r7 g218 g207 _ _ H1 ⟨s0_212,s1_212,rfl,s5_212,s11_212,s12_212,s14_212,s15_212,s16_212,s104_212,e222,o0_212,n0_212,o218,n223,o1_212,n1_212,q220,q0_1_212,q221.symm⟩ eb219 (lt2 ebS213.1 n218) fS213_0
   refine zak ?_ ?_
   ·refine wbs rfl rfl rfl (sal u32 (List.replicate 8 (0:UInt32)) [(bp gio0),(bp g207)] rfl Z91 ?_);intro g224 w224 o224 n224 g224r l224;have z:=EB.ext ebS213.1 (zaa g224r);refine ⟨z,?_⟩;have x224:=zaa g224r;have eb225:=EB.trans ebS213 (EB.ext ebS213.1 x224);have q226:Nq (bp gio0) (bp g224):=o0_212.nq n224;have q227:Nq (bp g207) (bp g224):=o1_212.nq n224;replace o0_212:=o0_212.ext x224;replace o1_212:=o1_212.ext x224;have n229:=NS.ext hE212 n224;have e228:=hE212.trans x224;refine zal ?_;refine wt_br ?_;exact hS231 r7 g207 g224 _ _ H1 ⟨s0_212,s1_212,s5_212,rfl,s11_212,s12_212,s14_212,s15_212,s16_212,s104_212,e228,o0_212,n0_212,o1_212,n1_212,o224,n229,q0_1_212,q226,q227⟩ eb225 fS213_0 (lt2 ebS213.1 n224)
   trivial
  refine zax (fun Z Y=>∀ (r7:(List UInt32)) (g253:Nat) (f:Nat->Value) (w:World),(((zae ).bind fun r261=>((lenA 64 ((List.replicate 64 (0:UInt32)))).bind fun c44=>((lenA 64 r7).bind fun c45=>((lenA 64 r261).bind fun c49=>((lenA 8 ((List.replicate 8 (0:UInt32)))).bind fun c53=>some (r7,r261,a0s)))))))=some x1->(f 0=(bp gio0)/\f 1=p1/\f 6=(bp g253)/\f 11=p1/\f 12=(ag u32 r7)/\f 14=(bp gio0)/\f 15=(bp gio0)/\f 16=(ag u32 a0s)/\f 104=undef/\ExG [(bp gio0)] w0 w/\Blk w gio0 91 (ac u32 a0s)/\NS [(bp gio0)] w0 (bp gio0)/\Blk w g253 91 (ac u32 ((List.replicate 8 (0:UInt32))))/\NS [(bp gio0)] w0 (bp g253)/\Nq (bp gio0) (bp g253))->EB (World.drew w0).heap.size (World.drew w0) w->(∀ k,Hs (bp g253) k->(World.drew w0).heap.size<=k)->Z ((.br 2 [] (.br 6 [(7,2),(9,2),(10,2),(11,2)] .fin (.br 7 [(6,2),(9,2),(10,2),(11,2)] .fin .fin)) (.br 6 [] (.br 2 [(7,2),(9,2),(10,2),(11,2)] .fin (.br 7 [(2,2),(9,2),(10,2),(11,2)] .fin .fin)) (.br 7 [] (.br 2 [(6,2),(9,2),(10,2),(11,2)] .fin (.br 6 [(2,2),(9,2),(10,2),(11,2)] .fin .fin)) .fin)))) f w) ?_ (fun hS259=>?_)
  ·rintro r7 g253 f w258 H1 ⟨s0_258,s1_258,s6_258,s11_258,s12_258,s14_258,s15_258,s16_258,s104_258,hE258,o0_258,n0_258,o1_258,n1_258,q0_1_258⟩ ebS259 fS259_0;refine zak ?_ ?_
   ·obtain ⟨r261,hr261,H1⟩:=bsi H1;refine wbs rfl rfl rfl (zab (vs:=[]) Try.func73 rfl rfl rfl (ar0 ) (zac   r261 _  hr261) ?_);rintro _ w261 ⟨rfl,x261⟩;refine ⟨_,rfl,(EB.ext ebS259.1 x261),?_⟩;have eb262:=EB.trans ebS259 (EB.ext ebS259.1 x261);replace o0_258:=o0_258.ext x261;replace o1_258:=o1_258.ext x261;have e263:=hE258.trans x261;refine zal ?_;refine wt_br ?_;exact hS110 r7 r261 g253 _ _ H1 ⟨s0_258,s1_258,s6_258,s11_258,s12_258,rfl,s14_258,s15_258,s16_258,s104_258,e263,o0_258,n0_258,o1_258,n1_258,q0_1_258⟩ eb262 fS259_0
   refine zak ?_ ?_
   ·refine wbs rfl rfl rfl (sal u32 (List.replicate 64 (0:UInt32)) [(bp gio0),(bp g253)] rfl Z109 ?_);intro g264 w264 o264 n264 g264r l264;have z:=EB.ext ebS259.1 (zaa g264r);refine ⟨z,?_⟩;have x264:=zaa g264r;have eb265:=EB.trans ebS259 (EB.ext ebS259.1 x264);have q266:Nq (bp gio0) (bp g264):=o0_258.nq n264;have q267:Nq (bp g253) (bp g264):=o1_258.nq n264;replace o0_258:=o0_258.ext x264;replace o1_258:=o1_258.ext x264;have n269:=NS.ext hE258 n264;have e268:=hE258.trans x264;refine zal ?_;refine wt_br ?_;exact hS185 r7 g264 g253 _ _ H1 ⟨s0_258,s1_258,rfl,s6_258,s11_258,s12_258,s14_258,s15_258,s16_258,s104_258,e268,o0_258,n0_258,o264,n269,o1_258,n1_258,q266,q0_1_258,q267.symm⟩ eb265 (lt2 ebS259.1 n264) fS259_0
   refine zak ?_ ?_
   ·refine wbs rfl rfl rfl (sal u32 (List.replicate 64 (0:UInt32)) [(bp gio0),(bp g253)] rfl Z109 ?_);intro g270 w270 o270 n270 g270r l270;have z:=EB.ext ebS259.1 (zaa g270r);refine ⟨z,?_⟩;have x270:=zaa g270r;have eb271:=EB.trans ebS259 (EB.ext ebS259.1 x270);have q272:Nq (bp gio0) (bp g270):=o0_258.nq n270;have q273:Nq (bp g253) (bp g270):=o1_258.nq n270;replace o0_258:=o0_258.ext x270;replace o1_258:=o1_258.ext x270;have n275:=NS.ext hE258 n270;have e274:=hE258.trans x270;refine zal ?_;refine wt_br ?_;exact hS231 r7 g270 g253 _ _ H1 ⟨s0_258,s1_258,rfl,s6_258,s11_258,s12_258,s14_258,s15_258,s16_258,s104_258,e274,o0_258,n0_258,o270,n275,o1_258,n1_258,q272,q0_1_258,q273.symm⟩ eb271 (lt2 ebS259.1 n270) fS259_0
   trivial
  refine zax (fun Z Y=>∀ (r7:(List UInt32)) (f:Nat->Value) (w:World),(((zae ).bind fun r13=>((lenA 64 ((List.replicate 64 (0:UInt32)))).bind fun c44=>((lenA 64 r7).bind fun c45=>((lenA 64 r13).bind fun c49=>((lenA 8 ((List.replicate 8 (0:UInt32)))).bind fun c53=>some (r7,r13,a0s)))))))=some x1->(f 0=(bp gio0)/\f 1=p1/\f 11=p1/\f 12=(ag u32 r7)/\f 14=(bp gio0)/\f 15=(bp gio0)/\f 16=(ag u32 a0s)/\f 104=undef/\ExG [(bp gio0)] w0 w/\Blk w gio0 91 (ac u32 a0s)/\NS [(bp gio0)] w0 (bp gio0))->EB (World.drew w0).heap.size (World.drew w0) w->Z ((.br 2 [] (.br 6 [] (.br 7 [(8,2),(9,2),(10,2),(11,2)] .fin (.br 8 [(7,2),(9,2),(10,2),(11,2)] .fin .fin)) (.br 7 [] (.br 6 [(8,2),(9,2),(10,2),(11,2)] .fin (.br 8 [(6,2),(9,2),(10,2),(11,2)] .fin .fin)) (.br 8 [] (.br 6 [(7,2),(9,2),(10,2),(11,2)] .fin (.br 7 [(6,2),(9,2),(10,2),(11,2)] .fin .fin)) .fin))) (.br 6 [] (.br 2 [] (.br 7 [(8,2),(9,2),(10,2),(11,2)] .fin (.br 8 [(7,2),(9,2),(10,2),(11,2)] .fin .fin)) (.br 7 [] (.br 2 [(8,2),(9,2),(10,2),(11,2)] .fin (.br 8 [(2,2),(9,2),(10,2),(11,2)] .fin .fin)) (.br 8 [] (.br 2 [(7,2),(9,2),(10,2),(11,2)] .fin (.br 7 [(2,2),(9,2),(10,2),(11,2)] .fin .fin)) .fin))) (.br 7 [] (.br 2 [] (.br 6 [(8,2),(9,2),(10,2),(11,2)] .fin (.br 8 [(6,2),(9,2),(10,2),(11,2)] .fin .fin)) (.br 6 [] (.br 2 [(8,2),(9,2),(10,2),(11,2)] .fin (.br 8 [(2,2),(9,2),(10,2),(11,2)] .fin .fin)) (.br 8 [] (.br 2 [(6,2),(9,2),(10,2),(11,2)] .fin (.br 6 [(2,2),(9,2),(10,2),(11,2)] .fin .fin)) .fin))) (.br 8 [] (.br 2 [] (.br 6 [(7,2),(9,2),(10,2),(11,2)] .fin (.br 7 [(6,2),(9,2),(10,2),(11,2)] .fin .fin)) (.br 6 [] (.br 2 [(7,2),(9,2),(10,2),(11,2)] .fin (.br 7 [(2,2),(9,2),(10,2),(11,2)] .fin .fin)) (.br 7 [] (.br 2 [(6,2),(9,2),(10,2),(11,2)] .fin (.br 6 [(2,2),(9,2),(10,2),(11,2)] .fin .fin)) .fin))) .fin))))) f w) ?_ (fun hS11=>?_)
  ·rintro r7 f w10 H1 ⟨s0_10,s1_10,s11_10,s12_10,s14_10,s15_10,s16_10,s104_10,hE10,o0_10,n0_10⟩ ebS11;refine zak ?_ ?_
   ·obtain ⟨r13,hr13,H1⟩:=bsi H1;refine wbs rfl rfl rfl (zab (vs:=[]) Try.func73 rfl rfl rfl (ar0 ) (zac   r13 _  hr13) ?_);rintro _ w13 ⟨rfl,x13⟩;refine ⟨_,rfl,(EB.ext ebS11.1 x13),?_⟩;have eb14:=EB.trans ebS11 (EB.ext ebS11.1 x13);replace o0_10:=o0_10.ext x13;have e15:=hE10.trans x13;refine zal ?_;refine wt_br ?_;exact hS17 r7 r13 _ _ H1 ⟨s0_10,s1_10,s11_10,s12_10,rfl,s14_10,s15_10,s16_10,s104_10,e15,o0_10,n0_10⟩ eb14
   refine zak ?_ ?_
   ·refine wbs rfl rfl rfl (sal u32 (List.replicate 64 (0:UInt32)) [(bp gio0)] rfl Z109 ?_);intro g138 w138 o138 n138 g138r l138;have z:=EB.ext ebS11.1 (zaa g138r);refine ⟨z,?_⟩;have x138:=zaa g138r;have eb139:=EB.trans ebS11 (EB.ext ebS11.1 x138);have q140:Nq (bp gio0) (bp g138):=o0_10.nq n138;replace o0_10:=o0_10.ext x138;have n142:=NS.ext hE10 n138;have e141:=hE10.trans x138;refine zal ?_;refine wt_br ?_;exact hS144 r7 g138 _ _ H1 ⟨s0_10,s1_10,rfl,s11_10,s12_10,s14_10,s15_10,s16_10,s104_10,e141,o0_10,n0_10,o138,n142,q140⟩ eb139 (lt2 ebS11.1 n138)
   refine zak ?_ ?_
   ·refine wbs rfl rfl rfl (sal u32 (List.replicate 64 (0:UInt32)) [(bp gio0)] rfl Z109 ?_);intro g207 w207 o207 n207 g207r l207;have z:=EB.ext ebS11.1 (zaa g207r);refine ⟨z,?_⟩;have x207:=zaa g207r;have eb208:=EB.trans ebS11 (EB.ext ebS11.1 x207);have q209:Nq (bp gio0) (bp g207):=o0_10.nq n207;replace o0_10:=o0_10.ext x207;have n211:=NS.ext hE10 n207;have e210:=hE10.trans x207;refine zal ?_;refine wt_br ?_;exact hS213 r7 g207 _ _ H1 ⟨s0_10,s1_10,rfl,s11_10,s12_10,s14_10,s15_10,s16_10,s104_10,e210,o0_10,n0_10,o207,n211,q209⟩ eb208 (lt2 ebS11.1 n207)
   refine zak ?_ ?_
   ·refine wbs rfl rfl rfl (sal u32 (List.replicate 8 (0:UInt32)) [(bp gio0)] rfl Z91 ?_);intro g253 w253 o253 n253 g253r l253;have z:=EB.ext ebS11.1 (zaa g253r);refine ⟨z,?_⟩;have x253:=zaa g253r;have eb254:=EB.trans ebS11 (EB.ext ebS11.1 x253);have q255:Nq (bp gio0) (bp g253):=o0_10.nq n253;replace o0_10:=o0_10.ext x253;have n257:=NS.ext hE10 n253;have e256:=hE10.trans x253;refine zal ?_;refine wt_br ?_;exact hS259 r7 g253 _ _ H1 ⟨s0_10,s1_10,rfl,s11_10,s12_10,s14_10,s15_10,s16_10,s104_10,e256,o0_10,n0_10,o253,n257,q255⟩ eb254 (lt2 ebS11.1 n253)
   trivial
  refine zax (fun Z Y=>∀ (g276:Nat) (g287:Nat) (f:Nat->Value) (w:World),(((zbe a1p).bind fun r296=>((zae ).bind fun r158=>((lenA 64 ((List.replicate 64 (0:UInt32)))).bind fun c44=>((lenA 64 r296).bind fun c45=>((lenA 64 r158).bind fun c49=>((lenA 8 ((List.replicate 8 (0:UInt32)))).bind fun c53=>some (r296,r158,a0s))))))))=some x1->(f 0=(bp gio0)/\f 1=p1/\f 4=(bp g276)/\f 5=(bp g287)/\f 11=p1/\f 14=(bp gio0)/\f 15=(bp gio0)/\f 16=(ag u32 a0s)/\f 104=undef/\ExG [(bp gio0)] w0 w/\Blk w gio0 91 (ac u32 a0s)/\NS [(bp gio0)] w0 (bp gio0)/\Blk w g276 109 (ac u32 ((List.replicate 64 (0:UInt32))))/\NS [(bp gio0)] w0 (bp g276)/\Blk w g287 109 (ac u32 ((List.replicate 64 (0:UInt32))))/\NS [(bp gio0)] w0 (bp g287)/\Nq (bp gio0) (bp g276)/\Nq (bp gio0) (bp g287)/\Nq (bp g276) (bp g287))->EB (World.drew w0).heap.size (World.drew w0) w->(∀ k,Hs (bp g276) k->(World.drew w0).heap.size<=k)->(∀ k,Hs (bp g287) k->(World.drew w0).heap.size<=k)->Z ((.br 1 [] (.br 2 [(8,2),(9,2),(10,2),(11,2)] .fin (.br 8 [(2,2),(9,2),(10,2),(11,2)] .fin .fin)) (.br 8 [(1,2),(2,2),(9,2),(10,2),(11,2)] .fin .fin))) f w) ?_ (fun hS294=>?_)
  ·rintro g276 g287 f w293 H1 ⟨s0_293,s1_293,s4_293,s5_293,s11_293,s14_293,s15_293,s16_293,s104_293,hE293,o0_293,n0_293,o1_293,n1_293,o2_293,n2_293,q0_1_293,q0_2_293,q1_2_293⟩ ebS294 fS294_0 fS294_1;refine zak ?_ ?_
   ·obtain ⟨r296,hr296,H1⟩:=bsi H1;refine wbs rfl rfl rfl (zab (vs:=[p1]) Try.func72 rfl rfl rfl (ar1 (by exact s11_293)) (zao a1p p1 r296 _ (hp1.lift (Lift.exg0 hE293)) hr296) ?_);rintro _ w296 ⟨rfl,x296⟩;refine ⟨_,rfl,(EB.ext ebS294.1 x296),?_⟩;have eb297:=EB.trans ebS294 (EB.ext ebS294.1 x296);replace o0_293:=o0_293.ext x296;replace o1_293:=o1_293.ext x296;replace o2_293:=o2_293.ext x296;have e298:=hE293.trans x296;refine zal ?_;refine wt_br ?_;exact hS156 r296 g276 g287 _ _ H1 ⟨s0_293,s1_293,s4_293,s5_293,s11_293,rfl,s14_293,s15_293,s16_293,s104_293,e298,o0_293,n0_293,o1_293,n1_293,o2_293,n2_293,q0_1_293,q0_2_293,q1_2_293⟩ eb297 fS294_0 fS294_1
   refine zak ?_ ?_
   ·refine wbs rfl rfl rfl (sal u32 (List.replicate 8 (0:UInt32)) [(bp gio0),(bp g276),(bp g287)] rfl Z91 ?_);intro g299 w299 o299 n299 g299r l299;have z:=EB.ext ebS294.1 (zaa g299r);refine ⟨z,?_⟩;have x299:=zaa g299r;have eb300:=EB.trans ebS294 (EB.ext ebS294.1 x299);have q301:Nq (bp gio0) (bp g299):=o0_293.nq n299;have q302:Nq (bp g276) (bp g299):=o1_293.nq n299;have q303:Nq (bp g287) (bp g299):=o2_293.nq n299;have n305:=NS.ext hE293 n299;have e304:=hE293.trans x299;obtain ⟨r306,hr306,H1⟩:=bsi H1;refine wbs rfl rfl rfl (zab (vs:=[p1]) Try.func72 rfl rfl rfl (ar1 (by exact s11_293)) (zao a1p p1 r306 _ (hp1.lift (Lift.exg0 e304)) hr306) ?_);rintro _ w306 ⟨rfl,x306⟩;refine ⟨_,rfl,(EB.ext eb300.1 x306),?_⟩;have eb307:=eb300.e x306;replace o0_293:=(o0_293.ext x299).ext x306;replace o1_293:=(o1_293.ext x299).ext x306;replace o2_293:=(o2_293.ext x299).ext x306;have e308:=e304.trans x306;obtain ⟨r309,hr309,H1⟩:=bsi H1;refine wbs rfl rfl rfl (zab (vs:=[]) Try.func73 rfl rfl rfl (ar0 ) (zac   r309 _  hr309) ?_);rintro _ w309 ⟨rfl,x309⟩;refine ⟨_,rfl,(EB.ext eb307.1 x309),?_⟩;have eb310:=eb307.e x309;replace o299:=(o299.ext x306).ext x309;replace o0_293:=o0_293.ext x309;replace o1_293:=o1_293.ext x309;replace o2_293:=o2_293.ext x309;have e311:=e308.trans x309;exact hS41 r306 r309 g276 g287 g299 _ _ H1 ⟨s0_293,s1_293,s4_293,s5_293,rfl,s11_293,rfl,rfl,s14_293,s15_293,s16_293,s104_293,e311,o0_293,n0_293,o1_293,n1_293,o2_293,n2_293,o299,n305,q0_1_293,q0_2_293,q301,q1_2_293,q302,q303⟩ eb310 fS294_0 fS294_1 (lt2 ebS294.1 n299)
   trivial
  refine zax (fun Z Y=>∀ (g276:Nat) (g312:Nat) (f:Nat->Value) (w:World),(((zbe a1p).bind fun r321=>((zae ).bind fun r187=>((lenA 64 ((List.replicate 64 (0:UInt32)))).bind fun c44=>((lenA 64 r321).bind fun c45=>((lenA 64 r187).bind fun c49=>((lenA 8 ((List.replicate 8 (0:UInt32)))).bind fun c53=>some (r321,r187,a0s))))))))=some x1->(f 0=(bp gio0)/\f 1=p1/\f 4=(bp g276)/\f 6=(bp g312)/\f 11=p1/\f 14=(bp gio0)/\f 15=(bp gio0)/\f 16=(ag u32 a0s)/\f 104=undef/\ExG [(bp gio0)] w0 w/\Blk w gio0 91 (ac u32 a0s)/\NS [(bp gio0)] w0 (bp gio0)/\Blk w g276 109 (ac u32 ((List.replicate 64 (0:UInt32))))/\NS [(bp gio0)] w0 (bp g276)/\Blk w g312 91 (ac u32 ((List.replicate 8 (0:UInt32))))/\NS [(bp gio0)] w0 (bp g312)/\Nq (bp gio0) (bp g276)/\Nq (bp gio0) (bp g312)/\Nq (bp g276) (bp g312))->EB (World.drew w0).heap.size (World.drew w0) w->(∀ k,Hs (bp g276) k->(World.drew w0).heap.size<=k)->(∀ k,Hs (bp g312) k->(World.drew w0).heap.size<=k)->Z ((.br 1 [] (.br 2 [(7,2),(9,2),(10,2),(11,2)] .fin (.br 7 [(2,2),(9,2),(10,2),(11,2)] .fin .fin)) (.br 7 [(1,2),(2,2),(9,2),(10,2),(11,2)] .fin .fin))) f w) ?_ (fun hS319=>?_)
  ·rintro g276 g312 f w318 H1 ⟨s0_318,s1_318,s4_318,s6_318,s11_318,s14_318,s15_318,s16_318,s104_318,hE318,o0_318,n0_318,o1_318,n1_318,o2_318,n2_318,q0_1_318,q0_2_318,q1_2_318⟩ ebS319 fS319_0 fS319_1;refine zak ?_ ?_
   ·obtain ⟨r321,hr321,H1⟩:=bsi H1;refine wbs rfl rfl rfl (zab (vs:=[p1]) Try.func72 rfl rfl rfl (ar1 (by exact s11_318)) (zao a1p p1 r321 _ (hp1.lift (Lift.exg0 hE318)) hr321) ?_);rintro _ w321 ⟨rfl,x321⟩;refine ⟨_,rfl,(EB.ext ebS319.1 x321),?_⟩;have eb322:=EB.trans ebS319 (EB.ext ebS319.1 x321);replace o0_318:=o0_318.ext x321;replace o1_318:=o1_318.ext x321;replace o2_318:=o2_318.ext x321;have e323:=hE318.trans x321;refine zal ?_;refine wt_br ?_;exact hS185 r321 g276 g312 _ _ H1 ⟨s0_318,s1_318,s4_318,s6_318,s11_318,rfl,s14_318,s15_318,s16_318,s104_318,e323,o0_318,n0_318,o1_318,n1_318,o2_318,n2_318,q0_1_318,q0_2_318,q1_2_318⟩ eb322 fS319_0 fS319_1
   refine zak ?_ ?_
   ·refine wbs rfl rfl rfl (sal u32 (List.replicate 64 (0:UInt32)) [(bp gio0),(bp g276),(bp g312)] rfl Z109 ?_);intro g324 w324 o324 n324 g324r l324;have z:=EB.ext ebS319.1 (zaa g324r);refine ⟨z,?_⟩;have x324:=zaa g324r;have eb325:=EB.trans ebS319 (EB.ext ebS319.1 x324);have q326:Nq (bp gio0) (bp g324):=o0_318.nq n324;have q327:Nq (bp g276) (bp g324):=o1_318.nq n324;have q328:Nq (bp g312) (bp g324):=o2_318.nq n324;have n330:=NS.ext hE318 n324;have e329:=hE318.trans x324;obtain ⟨r331,hr331,H1⟩:=bsi H1;refine wbs rfl rfl rfl (zab (vs:=[p1]) Try.func72 rfl rfl rfl (ar1 (by exact s11_318)) (zao a1p p1 r331 _ (hp1.lift (Lift.exg0 e329)) hr331) ?_);rintro _ w331 ⟨rfl,x331⟩;refine ⟨_,rfl,(EB.ext eb325.1 x331),?_⟩;have eb332:=eb325.e x331;replace o0_318:=(o0_318.ext x324).ext x331;replace o1_318:=(o1_318.ext x324).ext x331;replace o2_318:=(o2_318.ext x324).ext x331;have e333:=e329.trans x331;obtain ⟨r334,hr334,H1⟩:=bsi H1;refine wbs rfl rfl rfl (zab (vs:=[]) Try.func73 rfl rfl rfl (ar0 ) (zac   r334 _  hr334) ?_);rintro _ w334 ⟨rfl,x334⟩;refine ⟨_,rfl,(EB.ext eb332.1 x334),?_⟩;have eb335:=eb332.e x334;replace o324:=(o324.ext x331).ext x334;replace o0_318:=o0_318.ext x334;replace o1_318:=o1_318.ext x334;replace o2_318:=o2_318.ext x334;have e336:=e333.trans x334;exact hS41 r331 r334 g276 g324 g312 _ _ H1 ⟨s0_318,s1_318,s4_318,rfl,s6_318,s11_318,rfl,rfl,s14_318,s15_318,s16_318,s104_318,e336,o0_318,n0_318,o1_318,n1_318,o324,n330,o2_318,n2_318,q0_1_318,q326,q0_2_318,q327,q1_2_318,q328.symm⟩ eb335 fS319_0 (lt2 ebS319.1 n324) fS319_1
   trivial
  refine zax (fun Z Y=>∀ (g276:Nat) (f:Nat->Value) (w:World),(((zbe a1p).bind fun r284=>((zae ).bind fun r146=>((lenA 64 ((List.replicate 64 (0:UInt32)))).bind fun c44=>((lenA 64 r284).bind fun c45=>((lenA 64 r146).bind fun c49=>((lenA 8 ((List.replicate 8 (0:UInt32)))).bind fun c53=>some (r284,r146,a0s))))))))=some x1->(f 0=(bp gio0)/\f 1=p1/\f 4=(bp g276)/\f 11=p1/\f 14=(bp gio0)/\f 15=(bp gio0)/\f 16=(ag u32 a0s)/\f 104=undef/\ExG [(bp gio0)] w0 w/\Blk w gio0 91 (ac u32 a0s)/\NS [(bp gio0)] w0 (bp gio0)/\Blk w g276 109 (ac u32 ((List.replicate 64 (0:UInt32))))/\NS [(bp gio0)] w0 (bp g276)/\Nq (bp gio0) (bp g276))->EB (World.drew w0).heap.size (World.drew w0) w->(∀ k,Hs (bp g276) k->(World.drew w0).heap.size<=k)->Z ((.br 1 [] (.br 2 [] (.br 7 [(8,2),(9,2),(10,2),(11,2)] .fin (.br 8 [(7,2),(9,2),(10,2),(11,2)] .fin .fin)) (.br 7 [] (.br 2 [(8,2),(9,2),(10,2),(11,2)] .fin (.br 8 [(2,2),(9,2),(10,2),(11,2)] .fin .fin)) (.br 8 [] (.br 2 [(7,2),(9,2),(10,2),(11,2)] .fin (.br 7 [(2,2),(9,2),(10,2),(11,2)] .fin .fin)) .fin))) (.br 7 [] (.br 1 [] (.br 2 [(8,2),(9,2),(10,2),(11,2)] .fin (.br 8 [(2,2),(9,2),(10,2),(11,2)] .fin .fin)) (.br 8 [(1,2),(2,2),(9,2),(10,2),(11,2)] .fin .fin)) (.br 8 [] (.br 1 [] (.br 2 [(7,2),(9,2),(10,2),(11,2)] .fin (.br 7 [(2,2),(9,2),(10,2),(11,2)] .fin .fin)) (.br 7 [(1,2),(2,2),(9,2),(10,2),(11,2)] .fin .fin)) .fin)))) f w) ?_ (fun hS282=>?_)
  ·rintro g276 f w281 H1 ⟨s0_281,s1_281,s4_281,s11_281,s14_281,s15_281,s16_281,s104_281,hE281,o0_281,n0_281,o1_281,n1_281,q0_1_281⟩ ebS282 fS282_0;refine zak ?_ ?_
   ·obtain ⟨r284,hr284,H1⟩:=bsi H1;refine wbs rfl rfl rfl (zab (vs:=[p1]) Try.func72 rfl rfl rfl (ar1 (by exact s11_281)) (zao a1p p1 r284 _ (hp1.lift (Lift.exg0 hE281)) hr284) ?_);rintro _ w284 ⟨rfl,x284⟩;refine ⟨_,rfl,(EB.ext ebS282.1 x284),?_⟩;have eb285:=EB.trans ebS282 (EB.ext ebS282.1 x284);replace o0_281:=o0_281.ext x284;replace o1_281:=o1_281.ext x284;have e286:=hE281.trans x284;refine zal ?_;refine wt_br ?_;exact hS144 r284 g276 _ _ H1 ⟨s0_281,s1_281,s4_281,s11_281,rfl,s14_281,s15_281,s16_281,s104_281,e286,o0_281,n0_281,o1_281,n1_281,q0_1_281⟩ eb285 fS282_0
   refine zak ?_ ?_
   ·refine wbs rfl rfl rfl (sal u32 (List.replicate 64 (0:UInt32)) [(bp gio0),(bp g276)] rfl Z109 ?_);intro g287 w287 o287 n287 g287r l287;have z:=EB.ext ebS282.1 (zaa g287r);refine ⟨z,?_⟩;have x287:=zaa g287r;have eb288:=EB.trans ebS282 (EB.ext ebS282.1 x287);have q289:Nq (bp gio0) (bp g287):=o0_281.nq n287;have q290:Nq (bp g276) (bp g287):=o1_281.nq n287;replace o0_281:=o0_281.ext x287;replace o1_281:=o1_281.ext x287;have n292:=NS.ext hE281 n287;have e291:=hE281.trans x287;refine zal ?_;refine wt_br ?_;exact hS294 g276 g287 _ _ H1 ⟨s0_281,s1_281,s4_281,rfl,s11_281,s14_281,s15_281,s16_281,s104_281,e291,o0_281,n0_281,o1_281,n1_281,o287,n292,q0_1_281,q289,q290⟩ eb288 fS282_0 (lt2 ebS282.1 n287)
   refine zak ?_ ?_
   ·refine wbs rfl rfl rfl (sal u32 (List.replicate 8 (0:UInt32)) [(bp gio0),(bp g276)] rfl Z91 ?_);intro g312 w312 o312 n312 g312r l312;have z:=EB.ext ebS282.1 (zaa g312r);refine ⟨z,?_⟩;have x312:=zaa g312r;have eb313:=EB.trans ebS282 (EB.ext ebS282.1 x312);have q314:Nq (bp gio0) (bp g312):=o0_281.nq n312;have q315:Nq (bp g276) (bp g312):=o1_281.nq n312;replace o0_281:=o0_281.ext x312;replace o1_281:=o1_281.ext x312;have n317:=NS.ext hE281 n312;have e316:=hE281.trans x312;refine zal ?_;refine wt_br ?_;exact hS319 g276 g312 _ _ H1 ⟨s0_281,s1_281,s4_281,rfl,s11_281,s14_281,s15_281,s16_281,s104_281,e316,o0_281,n0_281,o1_281,n1_281,o312,n317,q0_1_281,q314,q315⟩ eb313 fS282_0 (lt2 ebS282.1 n312)
   trivial
  refine zax (fun Z Y=>∀ (g337:Nat) (g354:Nat) (f:Nat->Value) (w:World),(((zbe a1p).bind fun r363=>((zae ).bind fun r233=>((lenA 64 ((List.replicate 64 (0:UInt32)))).bind fun c44=>((lenA 64 r363).bind fun c45=>((lenA 64 r233).bind fun c49=>((lenA 8 ((List.replicate 8 (0:UInt32)))).bind fun c53=>some (r363,r233,a0s))))))))=some x1->(f 0=(bp gio0)/\f 1=p1/\f 5=(bp g337)/\f 6=(bp g354)/\f 11=p1/\f 14=(bp gio0)/\f 15=(bp gio0)/\f 16=(ag u32 a0s)/\f 104=undef/\ExG [(bp gio0)] w0 w/\Blk w gio0 91 (ac u32 a0s)/\NS [(bp gio0)] w0 (bp gio0)/\Blk w g337 109 (ac u32 ((List.replicate 64 (0:UInt32))))/\NS [(bp gio0)] w0 (bp g337)/\Blk w g354 91 (ac u32 ((List.replicate 8 (0:UInt32))))/\NS [(bp gio0)] w0 (bp g354)/\Nq (bp gio0) (bp g337)/\Nq (bp gio0) (bp g354)/\Nq (bp g337) (bp g354))->EB (World.drew w0).heap.size (World.drew w0) w->(∀ k,Hs (bp g337) k->(World.drew w0).heap.size<=k)->(∀ k,Hs (bp g354) k->(World.drew w0).heap.size<=k)->Z ((.br 1 [] (.br 2 [(6,2),(9,2),(10,2),(11,2)] .fin (.br 6 [(2,2),(9,2),(10,2),(11,2)] .fin .fin)) (.br 6 [(1,2),(2,2),(9,2),(10,2),(11,2)] .fin .fin))) f w) ?_ (fun hS361=>?_)
  ·rintro g337 g354 f w360 H1 ⟨s0_360,s1_360,s5_360,s6_360,s11_360,s14_360,s15_360,s16_360,s104_360,hE360,o0_360,n0_360,o1_360,n1_360,o2_360,n2_360,q0_1_360,q0_2_360,q1_2_360⟩ ebS361 fS361_0 fS361_1;refine zak ?_ ?_
   ·obtain ⟨r363,hr363,H1⟩:=bsi H1;refine wbs rfl rfl rfl (zab (vs:=[p1]) Try.func72 rfl rfl rfl (ar1 (by exact s11_360)) (zao a1p p1 r363 _ (hp1.lift (Lift.exg0 hE360)) hr363) ?_);rintro _ w363 ⟨rfl,x363⟩;refine ⟨_,rfl,(EB.ext ebS361.1 x363),?_⟩;have eb364:=EB.trans ebS361 (EB.ext ebS361.1 x363);replace o0_360:=o0_360.ext x363;replace o1_360:=o1_360.ext x363;replace o2_360:=o2_360.ext x363;have e365:=hE360.trans x363;refine zal ?_;refine wt_br ?_;exact hS231 r363 g337 g354 _ _ H1 ⟨s0_360,s1_360,s5_360,s6_360,s11_360,rfl,s14_360,s15_360,s16_360,s104_360,e365,o0_360,n0_360,o1_360,n1_360,o2_360,n2_360,q0_1_360,q0_2_360,q1_2_360⟩ eb364 fS361_0 fS361_1
   refine zak ?_ ?_
   ·refine wbs rfl rfl rfl (sal u32 (List.replicate 64 (0:UInt32)) [(bp gio0),(bp g337),(bp g354)] rfl Z109 ?_);intro g366 w366 o366 n366 g366r l366;have z:=EB.ext ebS361.1 (zaa g366r);refine ⟨z,?_⟩;have x366:=zaa g366r;have eb367:=EB.trans ebS361 (EB.ext ebS361.1 x366);have q368:Nq (bp gio0) (bp g366):=o0_360.nq n366;have q369:Nq (bp g337) (bp g366):=o1_360.nq n366;have q370:Nq (bp g354) (bp g366):=o2_360.nq n366;have n372:=NS.ext hE360 n366;have e371:=hE360.trans x366;obtain ⟨r373,hr373,H1⟩:=bsi H1;refine wbs rfl rfl rfl (zab (vs:=[p1]) Try.func72 rfl rfl rfl (ar1 (by exact s11_360)) (zao a1p p1 r373 _ (hp1.lift (Lift.exg0 e371)) hr373) ?_);rintro _ w373 ⟨rfl,x373⟩;refine ⟨_,rfl,(EB.ext eb367.1 x373),?_⟩;have eb374:=eb367.e x373;replace o0_360:=(o0_360.ext x366).ext x373;replace o1_360:=(o1_360.ext x366).ext x373;replace o2_360:=(o2_360.ext x366).ext x373;have e375:=e371.trans x373;obtain ⟨r376,hr376,H1⟩:=bsi H1;refine wbs rfl rfl rfl (zab (vs:=[]) Try.func73 rfl rfl rfl (ar0 ) (zac   r376 _  hr376) ?_);rintro _ w376 ⟨rfl,x376⟩;refine ⟨_,rfl,(EB.ext eb374.1 x376),?_⟩;have eb377:=eb374.e x376;replace o366:=(o366.ext x373).ext x376;replace o0_360:=o0_360.ext x376;replace o1_360:=o1_360.ext x376;replace o2_360:=o2_360.ext x376;have e378:=e375.trans x376;exact hS41 r373 r376 g366 g337 g354 _ _ H1 ⟨s0_360,s1_360,rfl,s5_360,s6_360,s11_360,rfl,rfl,s14_360,s15_360,s16_360,s104_360,e378,o0_360,n0_360,o366,n372,o1_360,n1_360,o2_360,n2_360,q368,q0_1_360,q0_2_360,q369.symm,q370.symm,q1_2_360⟩ eb377 (lt2 ebS361.1 n366) fS361_0 fS361_1
   trivial
  refine zax (fun Z Y=>∀ (g337:Nat) (f:Nat->Value) (w:World),(((zbe a1p).bind fun r345=>((zae ).bind fun r215=>((lenA 64 ((List.replicate 64 (0:UInt32)))).bind fun c44=>((lenA 64 r345).bind fun c45=>((lenA 64 r215).bind fun c49=>((lenA 8 ((List.replicate 8 (0:UInt32)))).bind fun c53=>some (r345,r215,a0s))))))))=some x1->(f 0=(bp gio0)/\f 1=p1/\f 5=(bp g337)/\f 11=p1/\f 14=(bp gio0)/\f 15=(bp gio0)/\f 16=(ag u32 a0s)/\f 104=undef/\ExG [(bp gio0)] w0 w/\Blk w gio0 91 (ac u32 a0s)/\NS [(bp gio0)] w0 (bp gio0)/\Blk w g337 109 (ac u32 ((List.replicate 64 (0:UInt32))))/\NS [(bp gio0)] w0 (bp g337)/\Nq (bp gio0) (bp g337))->EB (World.drew w0).heap.size (World.drew w0) w->(∀ k,Hs (bp g337) k->(World.drew w0).heap.size<=k)->Z ((.br 1 [] (.br 2 [] (.br 6 [(8,2),(9,2),(10,2),(11,2)] .fin (.br 8 [(6,2),(9,2),(10,2),(11,2)] .fin .fin)) (.br 6 [] (.br 2 [(8,2),(9,2),(10,2),(11,2)] .fin (.br 8 [(2,2),(9,2),(10,2),(11,2)] .fin .fin)) (.br 8 [] (.br 2 [(6,2),(9,2),(10,2),(11,2)] .fin (.br 6 [(2,2),(9,2),(10,2),(11,2)] .fin .fin)) .fin))) (.br 6 [] (.br 1 [] (.br 2 [(8,2),(9,2),(10,2),(11,2)] .fin (.br 8 [(2,2),(9,2),(10,2),(11,2)] .fin .fin)) (.br 8 [(1,2),(2,2),(9,2),(10,2),(11,2)] .fin .fin)) (.br 8 [] (.br 1 [] (.br 2 [(6,2),(9,2),(10,2),(11,2)] .fin (.br 6 [(2,2),(9,2),(10,2),(11,2)] .fin .fin)) (.br 6 [(1,2),(2,2),(9,2),(10,2),(11,2)] .fin .fin)) .fin)))) f w) ?_ (fun hS343=>?_)
  ·rintro g337 f w342 H1 ⟨s0_342,s1_342,s5_342,s11_342,s14_342,s15_342,s16_342,s104_342,hE342,o0_342,n0_342,o1_342,n1_342,q0_1_342⟩ ebS343 fS343_0;refine zak ?_ ?_
   ·obtain ⟨r345,hr345,H1⟩:=bsi H1;refine wbs rfl rfl rfl (zab (vs:=[p1]) Try.func72 rfl rfl rfl (ar1 (by exact s11_342)) (zao a1p p1 r345 _ (hp1.lift (Lift.exg0 hE342)) hr345) ?_);rintro _ w345 ⟨rfl,x345⟩;refine ⟨_,rfl,(EB.ext ebS343.1 x345),?_⟩;have eb346:=EB.trans ebS343 (EB.ext ebS343.1 x345);replace o0_342:=o0_342.ext x345;replace o1_342:=o1_342.ext x345;have e347:=hE342.trans x345;refine zal ?_;refine wt_br ?_;exact hS213 r345 g337 _ _ H1 ⟨s0_342,s1_342,s5_342,s11_342,rfl,s14_342,s15_342,s16_342,s104_342,e347,o0_342,n0_342,o1_342,n1_342,q0_1_342⟩ eb346 fS343_0
   refine zak ?_ ?_
   ·refine wbs rfl rfl rfl (sal u32 (List.replicate 64 (0:UInt32)) [(bp gio0),(bp g337)] rfl Z109 ?_);intro g348 w348 o348 n348 g348r l348;have z:=EB.ext ebS343.1 (zaa g348r);refine ⟨z,?_⟩;have x348:=zaa g348r;have eb349:=EB.trans ebS343 (EB.ext ebS343.1 x348);have q350:Nq (bp gio0) (bp g348):=o0_342.nq n348;have q351:Nq (bp g337) (bp g348):=o1_342.nq n348;replace o0_342:=o0_342.ext x348;replace o1_342:=o1_342.ext x348;have n353:=NS.ext hE342 n348;have e352:=hE342.trans x348;refine zal ?_;refine wt_br ?_;exact hS294 g348 g337 _ _ H1 ⟨s0_342,s1_342,rfl,s5_342,s11_342,s14_342,s15_342,s16_342,s104_342,e352,o0_342,n0_342,o348,n353,o1_342,n1_342,q350,q0_1_342,q351.symm⟩ eb349 (lt2 ebS343.1 n348) fS343_0
   refine zak ?_ ?_
   ·refine wbs rfl rfl rfl (sal u32 (List.replicate 8 (0:UInt32)) [(bp gio0),(bp g337)] rfl Z91 ?_);intro g354 w354 o354 n354 g354r l354;have z:=EB.ext ebS343.1 (zaa g354r);refine ⟨z,?_⟩;have x354:=zaa g354r;have eb355:=EB.trans ebS343 (EB.ext ebS343.1 x354);have q356:Nq (bp gio0) (bp g354):=o0_342.nq n354;have q357:Nq (bp g337) (bp g354):=o1_342.nq n354;replace o0_342:=o0_342.ext x354;replace o1_342:=o1_342.ext x354;have n359:=NS.ext hE342 n354;have e358:=hE342.trans x354;refine zal ?_;refine wt_br ?_;exact hS361 g337 g354 _ _ H1 ⟨s0_342,s1_342,s5_342,rfl,s11_342,s14_342,s15_342,s16_342,s104_342,e358,o0_342,n0_342,o1_342,n1_342,o354,n359,q0_1_342,q356,q357⟩ eb355 fS343_0 (lt2 ebS343.1 n354)
   trivial
  refine zax (fun Z Y=>∀ (g379:Nat) (f:Nat->Value) (w:World),(((zbe a1p).bind fun r387=>((zae ).bind fun r261=>((lenA 64 ((List.replicate 64 (0:UInt32)))).bind fun c44=>((lenA 64 r387).bind fun c45=>((lenA 64 r261).bind fun c49=>((lenA 8 ((List.replicate 8 (0:UInt32)))).bind fun c53=>some (r387,r261,a0s))))))))=some x1->(f 0=(bp gio0)/\f 1=p1/\f 6=(bp g379)/\f 11=p1/\f 14=(bp gio0)/\f 15=(bp gio0)/\f 16=(ag u32 a0s)/\f 104=undef/\ExG [(bp gio0)] w0 w/\Blk w gio0 91 (ac u32 a0s)/\NS [(bp gio0)] w0 (bp gio0)/\Blk w g379 91 (ac u32 ((List.replicate 8 (0:UInt32))))/\NS [(bp gio0)] w0 (bp g379)/\Nq (bp gio0) (bp g379))->EB (World.drew w0).heap.size (World.drew w0) w->(∀ k,Hs (bp g379) k->(World.drew w0).heap.size<=k)->Z ((.br 1 [] (.br 2 [] (.br 6 [(7,2),(9,2),(10,2),(11,2)] .fin (.br 7 [(6,2),(9,2),(10,2),(11,2)] .fin .fin)) (.br 6 [] (.br 2 [(7,2),(9,2),(10,2),(11,2)] .fin (.br 7 [(2,2),(9,2),(10,2),(11,2)] .fin .fin)) (.br 7 [] (.br 2 [(6,2),(9,2),(10,2),(11,2)] .fin (.br 6 [(2,2),(9,2),(10,2),(11,2)] .fin .fin)) .fin))) (.br 6 [] (.br 1 [] (.br 2 [(7,2),(9,2),(10,2),(11,2)] .fin (.br 7 [(2,2),(9,2),(10,2),(11,2)] .fin .fin)) (.br 7 [(1,2),(2,2),(9,2),(10,2),(11,2)] .fin .fin)) (.br 7 [] (.br 1 [] (.br 2 [(6,2),(9,2),(10,2),(11,2)] .fin (.br 6 [(2,2),(9,2),(10,2),(11,2)] .fin .fin)) (.br 6 [(1,2),(2,2),(9,2),(10,2),(11,2)] .fin .fin)) .fin)))) f w) ?_ (fun hS385=>?_)
  ·rintro g379 f w384 H1 ⟨s0_384,s1_384,s6_384,s11_384,s14_384,s15_384,s16_384,s104_384,hE384,o0_384,n0_384,o1_384,n1_384,q0_1_384⟩ ebS385 fS385_0;refine zak ?_ ?_
   ·obtain ⟨r387,hr387,H1⟩:=bsi H1;refine wbs rfl rfl rfl (zab (vs:=[p1]) Try.func72 rfl rfl rfl (ar1 (by exact s11_384)) (zao a1p p1 r387 _ (hp1.lift (Lift.exg0 hE384)) hr387) ?_);rintro _ w387 ⟨rfl,x387⟩;refine ⟨_,rfl,(EB.ext ebS385.1 x387),?_⟩;have eb388:=EB.trans ebS385 (EB.ext ebS385.1 x387);replace o0_384:=o0_384.ext x387;replace o1_384:=o1_384.ext x387;have e389:=hE384.trans x387;refine zal ?_;refine wt_br ?_;exact hS259 r387 g379 _ _ H1 ⟨s0_384,s1_384,s6_384,s11_384,rfl,s14_384,s15_384,s16_384,s104_384,e389,o0_384,n0_384,o1_384,n1_384,q0_1_384⟩ eb388 fS385_0
   refine zak ?_ ?_
   ·refine wbs rfl rfl rfl (sal u32 (List.replicate 64 (0:UInt32)) [(bp gio0),(bp g379)] rfl Z109 ?_);intro g390 w390 o390 n390 g390r l390;have z:=EB.ext ebS385.1 (zaa g390r);refine ⟨z,?_⟩;have x390:=zaa g390r;have eb391:=EB.trans ebS385 (EB.ext ebS385.1 x390);have q392:Nq (bp gio0) (bp g390):=o0_384.nq n390;have q393:Nq (bp g379) (bp g390):=o1_384.nq n390;replace o0_384:=o0_384.ext x390;replace o1_384:=o1_384.ext x390;have n395:=NS.ext hE384 n390;have e394:=hE384.trans x390;refine zal ?_;refine wt_br ?_;exact hS319 g390 g379 _ _ H1 ⟨s0_384,s1_384,rfl,s6_384,s11_384,s14_384,s15_384,s16_384,s104_384,e394,o0_384,n0_384,o390,n395,o1_384,n1_384,q392,q0_1_384,q393.symm⟩ eb391 (lt2 ebS385.1 n390) fS385_0
   refine zak ?_ ?_
   ·refine wbs rfl rfl rfl (sal u32 (List.replicate 64 (0:UInt32)) [(bp gio0),(bp g379)] rfl Z109 ?_);intro g396 w396 o396 n396 g396r l396;have z:=EB.ext ebS385.1 (zaa g396r);refine ⟨z,?_⟩;have x396:=zaa g396r;have eb397:=EB.trans ebS385 (EB.ext ebS385.1 x396);have q398:Nq (bp gio0) (bp g396):=o0_384.nq n396;have q399:Nq (bp g379) (bp g396):=o1_384.nq n396;replace o0_384:=o0_384.ext x396;replace o1_384:=o1_384.ext x396;have n401:=NS.ext hE384 n396;have e400:=hE384.trans x396;refine zal ?_;refine wt_br ?_;exact hS361 g396 g379 _ _ H1 ⟨s0_384,s1_384,rfl,s6_384,s11_384,s14_384,s15_384,s16_384,s104_384,e400,o0_384,n0_384,o396,n401,o1_384,n1_384,q398,q0_1_384,q399.symm⟩ eb397 (lt2 ebS385.1 n396) fS385_0
   trivial
  refine zak ?_ ?_
  ·obtain ⟨r7,hr7,H1⟩:=bsi H1;refine wbs rfl rfl rfl (zab (vs:=[p1]) Try.func72 rfl rfl rfl (ar1 rfl) (zao a1p p1 r7 _ (hp1.lift (Lift.exg0 e3)) hr7) ?_);rintro _ w7 ⟨rfl,x7⟩;refine ⟨_,rfl,(EB.ext eb4.1 x7),?_⟩;have eb8:=eb4.e x7;replace hio0:=hio0.ext x7;have e9:=e3.trans x7;refine zal ?_;refine wt_br ?_;exact hS11 r7 _ _ H1 ⟨rfl,rfl,rfl,rfl,rfl,rfl,rfl,rfl,e9,hio0,NS.own⟩ eb8
  refine zak ?_ ?_
  ·refine wbs rfl rfl rfl (sal u32 (List.replicate 64 (0:UInt32)) [(bp gio0)] rfl Z109 ?_);intro g276 w276 o276 n276 g276r l276;have z:=EB.ext eb4.1 (zaa g276r);refine ⟨z,?_⟩;have x276:=zaa g276r;have eb277:=eb4.e x276;have q278:Nq (bp gio0) (bp g276):=hio0.nq n276;replace hio0:=hio0.ext x276;have n280:=NS.ext e3 n276;have e279:=e3.trans x276;refine zal ?_;refine wt_br ?_;exact hS282 g276 _ _ H1 ⟨rfl,rfl,rfl,rfl,rfl,rfl,rfl,rfl,e279,hio0,NS.own,o276,n280,q278⟩ eb277 (lt2 eb4.1 n276)
  refine zak ?_ ?_
  ·refine wbs rfl rfl rfl (sal u32 (List.replicate 64 (0:UInt32)) [(bp gio0)] rfl Z109 ?_);intro g337 w337 o337 n337 g337r l337;have z:=EB.ext eb4.1 (zaa g337r);refine ⟨z,?_⟩;have x337:=zaa g337r;have eb338:=eb4.e x337;have q339:Nq (bp gio0) (bp g337):=hio0.nq n337;replace hio0:=hio0.ext x337;have n341:=NS.ext e3 n337;have e340:=e3.trans x337;refine zal ?_;refine wt_br ?_;exact hS343 g337 _ _ H1 ⟨rfl,rfl,rfl,rfl,rfl,rfl,rfl,rfl,e340,hio0,NS.own,o337,n341,q339⟩ eb338 (lt2 eb4.1 n337)
  refine zak ?_ ?_
  ·refine wbs rfl rfl rfl (sal u32 (List.replicate 8 (0:UInt32)) [(bp gio0)] rfl Z91 ?_);intro g379 w379 o379 n379 g379r l379;have z:=EB.ext eb4.1 (zaa g379r);refine ⟨z,?_⟩;have x379:=zaa g379r;have eb380:=eb4.e x379;have q381:Nq (bp gio0) (bp g379):=hio0.nq n379;replace hio0:=hio0.ext x379;have n383:=NS.ext e3 n379;have e382:=e3.trans x379;refine zal ?_;refine wt_br ?_;exact hS385 g379 _ _ H1 ⟨rfl,rfl,rfl,rfl,rfl,rfl,rfl,rfl,e382,hio0,NS.own,o379,n383,q381⟩ eb380 (lt2 eb4.1 n379)
  trivial
 rintro _ w402 ⟨g4_402,g5_402,g6_402,s0_402,s4_402,s5_402,s6_402,s104_402,hE402,o0_402,n0_402,o1_402,n1_402,o2_402,n2_402,o3_402,n3_402,q0_1_402,q0_2_402,q0_3_402,q1_2_402,q1_3_402,q2_3_402⟩;refine W_th<|W_seq<|W_seq<|W_rg<|mv (i64 0) rfl rfl<|wnt<|?_;obtain ⟨x403,G403,H⟩:=bsi H;refine W_mid (fun f w=>f 0=(bp gio0)/\f 6=(bp g6_402)/\f 104=undef/\ExG [(bp gio0)] w0 w/\Blk w gio0 91 (ac u32 a0s)/\NS [(bp gio0)] w0 (bp gio0)/\Blk w g6_402 91 (ac u32 x403)/\NS [(bp gio0)] w0 (bp g6_402)/\Nq (bp gio0) (bp g6_402)) ?_ ?_
 ·refine zag ?_;refine zca (fun s403 f w=>f 0=(bp gio0)/\f 4=(bp g4_402)/\f 5=(bp g5_402)/\f 6=(bp g6_402)/\f 17=(i64 s403.2)/\f 104=undef/\ExG [(bp gio0)] w0 w/\Blk w gio0 91 (ac u32 a0s)/\NS [(bp gio0)] w0 (bp gio0)/\Blk w g4_402 109 (ac u32 x1.1)/\NS [(bp gio0)] w0 (bp g4_402)/\Blk w g5_402 109 (ac u32 x1.2.1)/\NS [(bp gio0)] w0 (bp g5_402)/\Blk w g6_402 91 (ac u32 s403.1)/\NS [(bp gio0)] w0 (bp g6_402)/\Nq (bp gio0) (bp g4_402)/\Nq (bp gio0) (bp g5_402)/\Nq (bp gio0) (bp g6_402)/\Nq (bp g4_402) (bp g5_402)/\Nq (bp g4_402) (bp g6_402)/\Nq (bp g5_402) (bp g6_402)) G403 ?_ ?_
  ·exact ⟨s0_402,s4_402,s5_402,s6_402,rfl,s104_402,hE402,o0_402,n0_402,o1_402,n1_402,o2_402,n2_402,o3_402,n3_402,q0_1_402,q0_2_402,q0_3_402,q1_2_402,q1_3_402,q2_3_402⟩
  rintro s403 _ _ w404 ⟨s0_404,s4_404,s5_404,s6_404,s17_404,s104_404,hE404,o0_404,n0_404,o1_404,n1_404,o2_404,n2_404,o3_404,n3_404,q0_1_404,q0_2_404,q0_3_404,q1_2_404,q1_3_404,q2_3_404⟩ H403 hr403;refine W_seq<|W_rg<|wa rfl (q_ltI rfl s17_404 rfl)<|wnt<|W_seq<|?_;refine wci H403 rfl rfl (fun H403=>?_) (fun H403=>?_)
  ·refine zar<|W_th<|W_seq<|zag<|W_seq<|W_rg<|mv (i64 s403.2) rfl s17_404<|av (i64 s403.2) rfl rfl<|?_;refine wnt<|W_seq<|?_;refine W_draw [1,3,7,9,12,15,21,25] [(0,0),(1,1),(2,0),(3,1),(6,0),(7,1),(8,0),(9,1),(10,0),(11,0),(12,1),(13,0),(14,0),(15,1),(16,0),(17,0),(19,0),(20,0),(21,1),(23,0),(24,0),(25,1),(4,2),(5,0),(18,0),(22,0),(26,0),(27,0)] mixed (by kernel_rfl) (by kernel_rfl) (by kernel_rfl) (by kernel_rfl) ?_;have x406:=Ext.drew w404;replace o0_404:=o0_404.ext x406;replace o1_404:=o1_404.ext x406;replace o2_404:=o2_404.ext x406;replace o3_404:=o3_404.ext x406;have e407:=hE404.trans x406;obtain ⟨c408,hc408,H403⟩:=bsi H403;obtain ⟨c409,hc409,H403⟩:=bsi H403;refine sa rfl rfl (q_ixA (m:=0) rfl A91 (by exact s6_404) rfl (zad hc408) hc409)<|sq rfl rfl (zas (m:=0) rfl A91 rfl o3_404 (zah _ _) hc409)<|?_;obtain ⟨c410,hc410,H403⟩:=bsi H403;refine sa rfl rfl (q_ixA (m:=0) rfl A91 (by exact s6_404) rfl (zad hc408) hc410)<|sq rfl rfl (zas (m:=0) rfl A91 rfl o3_404 (zah _ _) hc410)<|sa rfl rfl (q_ixA (m:=0) rfl A91 (by exact s6_404) rfl (zad hc408) hc410)<|sq rfl rfl (zas (m:=0) rfl A91 rfl o3_404 (zah _ _) hc410)<|?_;obtain ⟨c411,hc411,H403⟩:=bsi H403;refine sa rfl rfl (q_ixA (m:=0) rfl A91 (by exact s6_404) rfl (zad hc408) hc411)<|sq rfl rfl (zas (m:=0) rfl A91 rfl o3_404 (zah _ _) hc411)<|sa rfl rfl (q_and32 rfl rfl rfl)<|sa rfl rfl (q_ixA (m:=0) rfl A91 (by exact s6_404) rfl (zad hc408) hc410)<|sq rfl rfl (zas (m:=0) rfl A91 rfl o3_404 (zah _ _) hc410)<|sa rfl rfl (q_not32 rfl rfl)<|?_;obtain ⟨c412,hc412,H403⟩:=bsi H403;refine sa rfl rfl (q_ixA (m:=0) rfl A91 (by exact s6_404) rfl (zad hc408) hc412)<|sq rfl rfl (zas (m:=0) rfl A91 rfl o3_404 (zah _ _) hc412)<|sa rfl rfl (q_and32 rfl rfl rfl)<|sa rfl rfl (zc5 rfl rfl rfl)<|sv (i64 s403.2) rfl rfl rfl<|?_;obtain ⟨c413,hc413,H403⟩:=bsi H403;obtain ⟨c414,hc414,H403⟩:=bsi H403;refine sa rfl rfl (q_ixA (m:=0) rfl A109 (by exact s5_404) rfl (zad hc413) hc414)<|sq rfl rfl (zas (m:=0) rfl A109 rfl o2_404 (zah _ _) hc414)<|sv (i64 s403.2) rfl rfl rfl<|?_;obtain ⟨c415,hc415,H403⟩:=bsi H403
   obtain ⟨c416,hc416,H403⟩:=bsi H403;refine sa rfl rfl (q_ixA (m:=0) rfl A109 (by exact s4_404) rfl (zad hc415) hc416)<|sq rfl rfl (zas (m:=0) rfl A109 rfl o1_404 (zah _ _) hc416)<|?_;obtain ⟨r417,hr417,H403⟩:=bsi H403;refine wss rfl rfl rfl (zab (vs:=[(u32 c410),(i64 6),(i64 11),(i64 25)]) Try.func74 rfl rfl rfl (ar4 rfl rfl rfl rfl) (zc0 c410 6 11 25  r417 _  hr417) ?_);rintro _ w417 ⟨rfl,x417⟩;refine ⟨_,rfl,x417,?_⟩;have e418:=e407.trans x417;refine sa rfl rfl (zci rfl rfl rfl)<|sa rfl rfl (zci rfl rfl rfl)<|sa rfl rfl (zci rfl rfl rfl)<|sa rfl rfl (zci rfl rfl rfl)<|sa rfl rfl (za6 (v:=(u32 (((((c409+r417)+((c410 &&& c411)^^^(((4294967295:UInt32)^^^c410) &&& c412)))+c414)+c416)))) rfl rfl)<|?_;refine zcs ?_;refine W_th<|W_seq<|?_;refine W_draw [1,4,6,9,11,15,17] [(0,0),(1,1),(3,0),(4,1),(5,0),(6,1),(7,0),(8,0),(9,1),(10,0),(11,1),(12,0),(13,0),(14,0),(15,1),(16,0),(17,1),(18,0),(19,0),(2,2),(20,0),(21,0)] mixed (by kernel_rfl) (by kernel_rfl) (by kernel_rfl) (by kernel_rfl) ?_;have x419:=Ext.drew w417;replace o0_404:=(o0_404.ext x417).ext x419;replace o1_404:=(o1_404.ext x417).ext x419;replace o2_404:=(o2_404.ext x417).ext x419;replace o3_404:=(o3_404.ext x417).ext x419;have e420:=e418.trans x419;obtain ⟨c421,hc421,H403⟩:=bsi H403;obtain ⟨c422,hc422,H403⟩:=bsi H403;refine sa rfl rfl (q_ixA (m:=0) rfl A91 (by exact s6_404) rfl (zad hc421) hc422)<|sq rfl rfl (zas (m:=0) rfl A91 rfl o3_404 (zah _ _) hc422)<|sa rfl rfl (q_ixA (m:=0) rfl A91 (by exact s6_404) rfl (zad hc421) hc422)<|sq rfl rfl (zas (m:=0) rfl A91 rfl o3_404 (zah _ _) hc422)<|?_;obtain ⟨c423,hc423,H403⟩:=bsi H403;refine sa rfl rfl (q_ixA (m:=0) rfl A91 (by exact s6_404) rfl (zad hc421) hc423)<|sq rfl rfl (zas (m:=0) rfl A91 rfl o3_404 (zah _ _) hc423)<|sa rfl rfl (q_and32 rfl rfl rfl)<|sa rfl rfl (q_ixA (m:=0) rfl A91 (by exact s6_404) rfl (zad hc421) hc422)<|sq rfl rfl (zas (m:=0) rfl A91 rfl o3_404 (zah _ _) hc422)<|?_;obtain ⟨c424,hc424,H403⟩:=bsi H403;refine sa rfl rfl (q_ixA (m:=0) rfl A91 (by exact s6_404) rfl (zad hc421) hc424)<|sq rfl rfl (zas (m:=0) rfl A91 rfl o3_404 (zah _ _) hc424)<|sa rfl rfl (q_and32 rfl rfl rfl)<|sa rfl rfl (zc5 rfl rfl rfl)<|sa rfl rfl (q_ixA (m:=0) rfl A91 (by exact s6_404) rfl (zad hc421) hc423)<|?_
   refine sq rfl rfl (zas (m:=0) rfl A91 rfl o3_404 (zah _ _) hc423)<|sa rfl rfl (q_ixA (m:=0) rfl A91 (by exact s6_404) rfl (zad hc421) hc424)<|sq rfl rfl (zas (m:=0) rfl A91 rfl o3_404 (zah _ _) hc424)<|sa rfl rfl (q_and32 rfl rfl rfl)<|sa rfl rfl (zc5 rfl rfl rfl)<|?_;obtain ⟨r425,hr425,H403⟩:=bsi H403;refine wss rfl rfl rfl (zab (vs:=[(u32 c422),(i64 2),(i64 13),(i64 22)]) Try.func74 rfl rfl rfl (ar4 rfl rfl rfl rfl) (zc0 c422 2 13 22  r425 _  hr425) ?_);rintro _ w425 ⟨rfl,x425⟩;refine ⟨_,rfl,x425,?_⟩;replace o0_404:=o0_404.ext x425;replace o1_404:=o1_404.ext x425;replace o2_404:=o2_404.ext x425;replace o3_404:=o3_404.ext x425;have e426:=e420.trans x425;refine sa rfl rfl (zci rfl rfl rfl)<|sa rfl rfl (za6 (v:=(u32 ((r425+(((c422 &&& c423)^^^(c422 &&& c424))^^^(c423 &&& c424)))))) rfl rfl)<|?_;refine zcs ?_;refine W_th<|W_rg<|mv (u32 (((((c409+r417)+((c410 &&& c411)^^^(((4294967295:UInt32)^^^c410) &&& c412)))+c414)+c416))) rfl rfl<|mv (u32 ((r425+(((c422 &&& c423)^^^(c422 &&& c424))^^^(c423 &&& c424))))) rfl rfl<|wa rfl (zci rfl rfl rfl)<|?_;obtain ⟨c427,hc427,H403⟩:=bsi H403;obtain ⟨c428,hc428,H403⟩:=bsi H403;refine wa rfl (q_ixA (m:=0) rfl A91 (by exact s6_404) rfl (zad hc427) hc428)<|wq rfl (zas (m:=0) rfl A91 rfl o3_404 (zah _ _) hc428)<|?_;obtain ⟨c429,hc429,H403⟩:=bsi H403;refine wa rfl (q_ixA (m:=0) rfl A91 (by exact s6_404) rfl (zad hc427) hc429)<|wq rfl (zas (m:=0) rfl A91 rfl o3_404 (zah _ _) hc429)<|?_;obtain ⟨c430,hc430,H403⟩:=bsi H403;refine wa rfl (q_ixA (m:=0) rfl A91 (by exact s6_404) rfl (zad hc427) hc430)<|wq rfl (zas (m:=0) rfl A91 rfl o3_404 (zah _ _) hc430)<|?_;obtain ⟨c431,hc431,H403⟩:=bsi H403;refine wa rfl (q_ixA (m:=0) rfl A91 (by exact s6_404) rfl (zad hc427) hc431)<|wq rfl (zas (m:=0) rfl A91 rfl o3_404 (zah _ _) hc431)<|mv (u32 (((((c409+r417)+((c410 &&& c411)^^^(((4294967295:UInt32)^^^c410) &&& c412)))+c414)+c416))) rfl rfl<|wa rfl (zci rfl rfl rfl)<|?_;obtain ⟨c432,hc432,H403⟩:=bsi H403;refine wa rfl (q_ixA (m:=0) rfl A91 (by exact s6_404) rfl (zad hc427) hc432)<|wq rfl (zas (m:=0) rfl A91 rfl o3_404 (zah _ _) hc432)<|?_;obtain ⟨c433,hc433,H403⟩:=bsi H403;refine wa rfl (q_ixA (m:=0) rfl A91 (by exact s6_404) rfl (zad hc427) hc433) ?_
   refine wq rfl (zas (m:=0) rfl A91 rfl o3_404 (zah _ _) hc433) ?_;obtain ⟨c434,hc434,H403⟩:=bsi H403;refine wa rfl (q_ixA (m:=0) rfl A91 (by exact s6_404) rfl (zad hc427) hc434)<|wq rfl (zas (m:=0) rfl A91 rfl o3_404 (zah _ _) hc434)<|wa rfl (q_buildAF (l:=([(((((c409+r417)+((c410 &&& c411)^^^(((4294967295:UInt32)^^^c410) &&& c412)))+c414)+c416)+(r425+(((c422 &&& c423)^^^(c422 &&& c424))^^^(c423 &&& c424)))),c428,c429,c430,(c431+((((c409+r417)+((c410 &&& c411)^^^(((4294967295:UInt32)^^^c410) &&& c412)))+c414)+c416)),c432,c433,c434]:List UInt32)) (us:=[(u32 ((((((c409+r417)+((c410 &&& c411)^^^(((4294967295:UInt32)^^^c410) &&& c412)))+c414)+c416)+(r425+(((c422 &&& c423)^^^(c422 &&& c424))^^^(c423 &&& c424)))))),(u32 c428),(u32 c429),(u32 c430),(u32 ((c431+((((c409+r417)+((c410 &&& c411)^^^(((4294967295:UInt32)^^^c410) &&& c412)))+c414)+c416)))),(u32 c432),(u32 c433),(u32 c434)]) (z:=(0:UInt32)) rfl A91 Z91 (by exact ⟨rfl,rfl,rfl,rfl,rfl,rfl,rfl,rfl,rfl,rfl,rfl,rfl,rfl,rfl,rfl,rfl,trivial⟩) rfl rfl cel_u32)<|?_;obtain ⟨c436,hc436,H403⟩:=bsi H403;refine wln rfl rfl (zbp [(bp gio0),(bp g4_402),(bp g5_402)] [] rfl A91 (by exact s6_404) rfl (zad hc427) (zad hc436) o3_404 zcj ?_);intro w435 o435 g435 l435;replace o0_404:=o0_404.other g435 q0_3_404;replace o1_404:=o1_404.other g435 q1_3_404;replace o2_404:=o2_404.other g435 q2_3_404;have e437:=e426.grown g435 n3_404;refine zap<|bk_n<|W_th<|W_rg<|wa rfl (za2 rfl s17_404 rfl)<|mv (i64 ((wI (s403.2+1)))) rfl rfl<|zap<|?_;obtain rfl:=osi H403;exact ⟨_,rfl,s0_404,s4_404,s5_404,s6_404,rfl,s104_404,e437,o0_404,n0_404,o1_404,n1_404,o2_404,n2_404,o435,n3_404,q0_1_404,q0_2_404,q0_3_404,q1_2_404,q1_3_404,q2_3_404⟩
  refine zbt<|th_x<|?_;obtain rfl:=osi H403;obtain rfl:=hr403 _ rfl;refine th_x<|bk_x<|?_;exact ⟨s0_404,s6_404,s104_404,hE404,o0_404,n0_404,o3_404,n3_404,q0_3_404⟩
 rintro _ w439 ⟨s0_439,s6_439,s104_439,hE439,o0_439,n0_439,o1_439,n1_439,q0_1_439⟩;refine W_th<|W_seq<|W_rg<|mv (i64 0) rfl rfl<|wnt<|?_;obtain ⟨x440,G440,H⟩:=bsi H;refine W_mid (fun f w=>f 0=(bp gio0)/\f 104=undef/\ExG [(bp gio0)] w0 w/\Blk w gio0 91 (ac u32 x440)/\NS [(bp gio0)] w0 (bp gio0)) ?_ ?_
 ·refine zag ?_;refine zca (fun s440 f w=>f 0=(bp gio0)/\f 6=(bp g6_402)/\f 89=(i64 s440.2)/\f 104=undef/\ExG [(bp gio0)] w0 w/\Blk w gio0 91 (ac u32 s440.1)/\NS [(bp gio0)] w0 (bp gio0)/\Blk w g6_402 91 (ac u32 x403)/\NS [(bp gio0)] w0 (bp g6_402)/\Nq (bp gio0) (bp g6_402)) G440 ?_ ?_
  ·exact ⟨s0_439,s6_439,rfl,s104_439,hE439,o0_439,n0_439,o1_439,n1_439,q0_1_439⟩
  rintro s440 _ _ w441 ⟨s0_441,s6_441,s89_441,s104_441,hE441,o0_441,n0_441,o1_441,n1_441,q0_1_441⟩ H440 hr440;refine W_seq<|W_rg<|wa rfl (q_ltI rfl s89_441 rfl)<|wnt<|W_seq<|?_;refine wci H440 rfl rfl (fun H440=>?_) (fun H440=>?_)
  ·refine zar<|W_th<|W_seq<|zag<|W_seq<|W_rg<|mv (i64 s440.2) rfl s89_441<|av (i64 s440.2) rfl rfl<|?_;refine wnt ?_;refine W_draw [4,7] [(0,0),(1,0),(2,0),(3,0),(4,1),(5,0),(6,0),(7,1),(8,0),(9,0),(10,0),(11,2)] mixed (by kernel_rfl) (by kernel_rfl) (by kernel_rfl) (by kernel_rfl) ?_;have x443:=Ext.drew w441;replace o0_441:=o0_441.ext x443;replace o1_441:=o1_441.ext x443;have e444:=hE441.trans x443;refine sv (bp gio0) rfl rfl s0_441<|sv (i64 s440.2) rfl rfl rfl<|sa rfl rfl (zb4 rfl rfl)<|?_;obtain ⟨c445,hc445,H440⟩:=bsi H440;obtain ⟨c446,hc446,H440⟩:=bsi H440;refine sa rfl rfl (q_ixA (m:=0) rfl A91 rfl rfl (zad hc445) hc446)<|sq rfl rfl (zas (m:=0) rfl A91 rfl o0_441 (zah _ _) hc446)<|sv (i64 s440.2) rfl rfl rfl<|?_;obtain ⟨c447,hc447,H440⟩:=bsi H440;obtain ⟨c448,hc448,H440⟩:=bsi H440;refine sa rfl rfl (q_ixA (m:=0) rfl A91 (by exact s6_441) rfl (zad hc447) hc448)<|sq rfl rfl (zas (m:=0) rfl A91 rfl o1_441 (zah _ _) hc448)<|sa rfl rfl (zci rfl rfl rfl)<|sa rfl rfl (zb4 rfl rfl)<|sa rfl rfl (q_ixA (m:=0) rfl A91 rfl rfl (zad hc445) hc446)<|?_;refine wsn rfl (by kernel_rfl) rfl rfl (stp_storeX (b:=(c446+c448)) [] [(bp g6_402)] rfl A91 rfl rfl o0_441 hc446 (zcj _) ?_);intro w449 o449 g449 l449;replace o1_441:=o1_441.other g449 q0_1_441.symm;have e450:=e444.grown g449 n0_441;refine zcs ?_;refine bk_n<|W_th<|W_rg<|wa rfl (za2 rfl s89_441 rfl)<|mv (i64 ((wI (s440.2+1)))) rfl rfl<|zap<|?_;obtain rfl:=osi H440;exact ⟨_,rfl,s0_441,s6_441,rfl,s104_441,e450,o449,n0_441,o1_441,n1_441,q0_1_441⟩
  refine zbt<|th_x<|?_;obtain rfl:=osi H440;obtain rfl:=hr440 _ rfl;refine th_x<|bk_x<|?_;exact ⟨s0_441,s104_441,hE441,o0_441,n0_441⟩
 rintro _ w452 ⟨s0_452,s104_452,hE452,o0_452,n0_452⟩;refine rtn ?_;obtain rfl:=osi H;refine rt0 rfl s104_452 ?_;exact ⟨rfl,hE452,o0_452⟩
end Gk

/- A range over a function whose iterator may draw an order of evaluation: what a round needs then stays behind a draw, too. No condition. -/
namespace Gk
open Go Go.RowKit
def SeqD {α:Type} (P:Program) (gf:Nat) (lb:Array Value) (encs:α->Array Value) (Kp:World->World->Prop) (S:List α->Prop) (N:Nat) (w:World):Prop :=
 ∀ (l:Nat) (J:List α->World->Prop) (W:World),Below w.heap.size w W->(∀ pre W,J pre W->J pre W.drew) →
  (∀ pre x W1,J pre W1->pre.length<N->YieldAt Fence.wide 0 P l (encs x) W1 fun e W'=>e=.returned (.bool true)/\J (pre ++ [x]) W'/\Kp W1 W') →
  J [] W->CallsIn Fence.wide 1 P gf (#[.func (.yield l) #[] #[]] ++ lb) W fun e W'=>(∃ v,e=.returned v)/\∃ xs,S xs/\J xs W'
def RoundD {α:Type} (B:Nat) (Kp:World->World->Prop) (I:List α->World->Prop) (xs:List α) (W:World):Exit->(Nat->Value)->World->Prop
 | .normal,_,W'=>KeepsFrom B W W'/\Kp W W'/\I xs W'
 | _,_,_=>False
theorem Tn.alloc {B:Nat} (w:World) (o:Obj):Tn B w (w.alloc o):=⟨none,World.grownBy_alloc w o none,fun _ e=>by cases e⟩
theorem Tn.putO {B:Nat} {w:World} {l:Nat} {o:Obj} (h:w.heap[l]?=some o) (hc:o.isCells=false) (hB:B<=l) (o':Obj):Tn B w (w.putObj l o') :=
 ⟨some l,grownBy_putObj' w l o',fun r e=>by cases e;exact ⟨hB,o,h,hc⟩⟩
section
variable {P : Program} {n : Nat} {Q : Exit → (Nat → Value) → World → Prop} {f : Nat → Value} {w : World}
theorem params1 {n:Nat} {F:Nat->Value} {p:Nat} {a:Value} (hm:F n=undef) (hp:Nat.blt p n=true) :
  ({ tmps:=((#[p]:Array Tmp).zip #[a]).foldl (fun t (p,v)=>t.setIfInBounds p v) (fr n F).tmps,defers:=[] }:Act)=fr n (upd F p a):=by
 have h1:=zcg n F (some p) a hp
 have e:(fr n F).defers=[]:=by show dec (F n)=[];rw [hm];rfl
 simp only [updO] at h1
 rw [← h1]
 simp [Act.put,e]
theorem tmps_clear {n:Nat} (f:Nat->Value):(fr n (upd f n undef)).tmps=(fr n f).tmps:=by
 apply Array.ext_getElem?
 intro i
 by_cases hi:i<n
 ·rw [fr_get n _ i hi,fr_get n _ i hi,upd_ne f _ (by omega)]
 ·rw [fr_none n _ i (by omega),fr_none n _ i (by omega)]
theorem upd_clear {n:Nat} {f:Nat->Value} (hm:f n=undef):upd f n undef=f:=by
 funext t
 by_cases h:t=n
 ·subst h;rw [upd_eq,hm]
 ·rw [upd_ne f _ h]
theorem mark_one {n:Nat} {f:Nat->Value} (hm:f n=undef) (D:Nat):fr n (upd f n (bp D))={ fr n f with defers:={ target:=.collected D,args:=#[] } :: (fr n f).defers }:=(fr_mark n f D hm).symm
theorem W_rangeD {α:Type} {g:Operand} {p:Tmp} {assign body:Code} {mk:Nat->Value} (hm:∀ D,fr n (upd f n (mk D))={ fr n f with defers:={ target:=.collected D,args:=#[] } :: (fr n f).defers }) (hog:okO n g=true) {gf:Nat} {lb:Array Value} (hg:ev f g=.func (.func gf) #[] lb)
  (eg:∀ args w,(callFunc gf args).run P w=.ok (.enter gf args) w)
  {ea:α->Value} {Kp:World->World->Prop} {S:List α->Prop} {N:Nat} (hseq:SeqD P gf lb (fun x=>#[ea x]) Kp S N w)
  (hKt:∀ {A B C:World},Kp A B->Kp B C->Kp A C) (hKb:∀ (W:World) (l:Nat) (o o':Obj),w.heap.size<=l->W.heap[l]?=some o->o.isCells=false->Kp W (W.putObj l o')) (hp:Nat.blt p n=true)
  (I:List α->World->Prop) (hI:∀ s W W',Tn w.heap.size W W'->I s W->I s W') (hD:∀ s W,I s W->I s W.drew) (h0:I [] w) (fa:α->Nat->Value)
  (hassign:∀ (l:Nat) (x:α) (W1:World) (K:(Nat->Value)->World->Prop),K (fa x) W1->W (ro:=some l) P n assign (Th K (fun _ _ _=>False)) (upd (upd f n undef) p (ea x)) W1)
  (hbody:∀ (l:Nat) (pre:List α) (x:α) (W1:World),I pre W1->pre.length<N->W (ro:=some l) P n body (RoundD w.heap.size Kp I (pre ++ [x]) W1) (fa x) W1)
  (hdone:∀ (D:Nat) (xs:List α) (W1:World),w.heap.size<=D->S xs->I xs W1->W1.heap[D]?=some (.deferred (some []))->Q .normal (upd f n (mk D)) W1) :
  W (ro:=none) P n (.rangeFunc g #[p] assign body) Q f w:=by
 unfold W
 refine (wpIn_wide (n:=0)).2 ((wpIn_wide (n:=2)).1 ?_)
 refine wpIn_rangeFunc ?_
 intro fn hfn
 obtain ⟨rc,hrc⟩:∃ rc:LoopState->Loop,rc=fun st=>{ state:=st,pending:=none,fn,tmps:=(fr n f).tmps,params:=#[p],assign,body,defers:=w.heap.size }:=⟨_,rfl⟩
 have hent:=run_enterLoop_outer (P:=P) (w:=w) fn (fr n f).tmps #[p] assign body
 have eR:({ state:=.ready,pending:=none,fn,tmps:=(fr n f).tmps,params:=#[p],assign,body,defers:=w.heap.size }:Loop)=rc .ready:=by rw [hrc]
 rw [eR] at hent
 generalize hA:w.alloc (.deferred (some []))=WA at hent
 generalize hB:WA.alloc (.loop (rc .ready))=WB at hent
 have sA:WA.heap.size=w.heap.size+1:=by rw [← hA];simp
 have sB:WB.heap.size=w.heap.size+2:=by rw [← hB];simp [sA]
 have tA:Tn w.heap.size w WA:=by rw [← hA];exact Tn.alloc _ _
 have tB:Tn w.heap.size WA WB:=by rw [← hB];exact Tn.alloc _ _
 have hL:WB.heap[w.heap.size+1]?=some (.loop (rc .ready)):=by
  have:=zcr WA (.loop (rc .ready))
  rwa [sA,hB] at this
 have hK:WB.heap[w.heap.size]?=some (.deferred (some [])):=by
  have h1:=zcr w (.deferred (some []))
  rw [hA] at h1
  have h2:=zb5 WA (.loop (rc .ready)) w.heap.size (by omega)
  rw [hB] at h2
  exact h2.trans h1
 have hbel:Below w.heap.size w WB:=by
  have h1:=(Below.refl w.heap.size w).alloc (Nat.le_refl _) (.deferred (some []))
  rw [hA] at h1
  have h2:=h1.alloc (by omega) (.loop (rc .ready))
  rwa [hB] at h2
 refine ⟨w.heap.size+1,[{ target:=.collected w.heap.size,args:=#[] }],WB,{ target:=.fn (.func gf) lb,args:=#[.func (.yield (w.heap.size+1)) #[] #[]] },WB,gf,#[.func (.yield (w.heap.size+1)) #[] #[]] ++ lb,WB,hent,?_,?_,?_,fun _=>by decide,?_⟩
 ·have hgv:(fr n f).eval g=.func (.func gf) #[] lb:=by rw [fr_eval n f g hog];exact hg
  simp only [resolve,hgv]
  simp [go_sem]
 ·intro f' _;trivial
 ·simp [invoke,go_sem,eg]
 refine (hseq (w.heap.size+1) (fun pre X=>I pre X/\X.heap[w.heap.size+1]?=some (.loop (rc .ready))/\X.heap[w.heap.size]?=some (.deferred (some []))) WB hbel (fun pre X h=>⟨hD pre X h.1,h.2.1,h.2.2⟩) ?_ ⟨hI _ _ _ tB (hI _ _ _ tA h0),hL,hK⟩).mono ?_
 ·rintro pre x X ⟨hi,hl,hk⟩ hlen
  have hlt:=zan hl
  have hy:=run_yield (P:=P) (args:=#[ea x]) hl (by rw [hrc];rfl)
  have hbr:=run_beginRound (P:=P) hl (by rw [hrc])
  generalize hX2:X.putObj (w.heap.size+1) (.loop { rc .ready with state:=.busy })=X2 at hbr
  have hl2:X2.heap[w.heap.size+1]?=some (.loop { rc .ready with state:=.busy }):=by rw [← hX2];exact World.putObj_heap_same hlt
  have hk2:X2.heap[w.heap.size]?=some (.deferred (some [])):=by rw [← hX2];exact (World.putObj_heap_other (by omega)).trans hk
  have hw2:Kp X X2:=by rw [← hX2];exact hKb _ _ _ _ (by omega) hl rfl
  have hi2:I pre X2:=by rw [← hX2];exact hI _ _ _ (Tn.putO hl rfl (by omega) _) hi
  refine ⟨_,_,_,_,hy,?_⟩
  have hfn':Fence.wide.fn (rc .ready).fn:=trivial
  refine roundIn_of_wpIn hfn' ?_
  have hpar:({ tmps:=((rc .ready).params.zip #[ea x]).foldl (fun t (p,v)=>t.setIfInBounds p v) (rc .ready).tmps,defers:=[] }:Act)=fr n (upd (upd f n undef) p (ea x)):=by
   rw [hrc,← tmps_clear f];exact params1 (upd_eq f n undef) hp
  rw [hpar]
  have hasg:=hassign (w.heap.size+1) x X (fun f' X'=>∃ X2,(Instr.beginRound (w.heap.size+1)).run P X'=.ok () X2/\body.wpIn (Fence.wide.inRound (w.heap.size+1)) 0 P (roundPost P (w.heap.size+1) fun e W'=>e=.returned (.bool true)/\(I (pre ++ [x]) W'/\W'.heap[w.heap.size+1]?=some (.loop (rc .ready))/\W'.heap[w.heap.size]?=some (.deferred (some [])))/\Kp X W') (fr n f') X2) ⟨X2,hbr,?_⟩
  ·have e1:(rc .ready).assign=assign:=by rw [hrc]
   have e2:(rc .ready).body=body:=by rw [hrc]
   rw [e1,e2]
   refine wpIn_mono hasg ?_
   rintro e a X' ⟨f',rfl,q⟩
   cases e <;> exact q
  ·refine wpIn_mono (hbody (w.heap.size+1) pre x X2 hi2 hlen) ?_
   rintro e a X3 ⟨f',rfl,q⟩
   cases e <;> first | exact q.elim | skip
   obtain ⟨k3,kp3,hi3⟩:=q
   have hl3:=k3.same _ _ (by omega) hl2 rfl
   have hk3:=k3.same _ _ (Nat.le_refl _) hk2 rfl
   have her:=run_endRound (P:=P) none hl3
   have e3:({ ({ rc .ready with state:=.busy }:Loop) with state:=if (none:Option Code).isNone then .ready else .done,pending:=none }:Loop)=rc .ready:=by rw [hrc];rfl
   rw [e3] at her
   refine ⟨_,_,her,rfl,⟨hI _ _ _ (Tn.putO hl3 rfl (by omega) _) hi3,World.putObj_heap_same (zan hl3),(World.putObj_heap_other (by omega)).trans hk3⟩,hKt (hKt hw2 kp3) (hKb _ _ _ _ (by omega) hl3 rfl)⟩
 ·rintro e X ⟨⟨v,rfl⟩,xs,hS,hi,hl,hk⟩
  have hend:=run_endLoop (P:=P) hl (by rw [hrc];simp)
  have hp0:(rc .ready).pending=none:=by rw [hrc]
  rw [hp0] at hend
  refine ⟨none,_,hend,?_⟩
  refine ⟨_,(hm w.heap.size).symm,hdone w.heap.size xs _ (Nat.le_refl _) hS (hI _ _ _ (Tn.putO hl rfl (by omega) _) hi) ((World.putObj_heap_other (by omega)).trans hk)⟩
theorem W_rangeDG {α α' σ:Type} {mk:Nat->Value} {π:α'->α} {xs:List α} {fstep:σ->α->Option σ} {s0 r:σ} {g:Operand} {p:Tmp} {assign body:Code} (hfold:rangeL fstep xs s0=some r)
  (hm:∀ D,fr n (upd f n (mk D))={ fr n f with defers:={ target:=.collected D,args:=#[] } :: (fr n f).defers }) (hog:okO n g=true) {gf:Nat} {lb:Array Value} (hg:ev f g=.func (.func gf) #[] lb)
  (eg:∀ args w,(callFunc gf args).run P w=.ok (.enter gf args) w)
  {ea:α'->Value} {Rd:World->Prop} {S:List α'->Prop} {N:Nat} (hN:N=xs.length) (hseq:SeqD P gf lb (fun x=>#[ea x]) (Keep Rd) S N w) (hS:∀ ys,S ys->ys.map π=xs) (hmem:∀ x,π x∈xs)
  (hRdT:∀ W W',Tn w.heap.size W W'->Rd W->Rd W') (hp:Nat.blt p n=true)
  (I:σ->World->Prop) (hI:∀ s W W',Tn w.heap.size W W'->I s W->I s W') (hD:∀ s W,I s W->I s W.drew) (h0:I s0 w) (ga:α'->(Nat->Value)->Nat->Value)
  (hassign:∀ (l:Nat) (x:α') (W1:World) (K:(Nat->Value)->World->Prop),K (ga x (upd (upd f n undef) p (ea x))) W1->W (ro:=some l) P n assign (Th K (fun _ _ _=>False)) (upd (upd f n undef) p (ea x)) W1)
  (hbody:∀ (l:Nat) (x:α') (s s':σ) (W1:World),I s W1->fstep s (π x)=some s'->W (ro:=some l) P n body (RoundK w.heap.size Rd (I s') W1) (ga x (upd (upd f n undef) p (ea x))) W1)
  (hdone:∀ (D:Nat) (W1:World),w.heap.size<=D->I r W1->W1.heap[D]?=some (.deferred (some []))->Q .normal (upd f n (mk D)) W1) :
  W (ro:=none) P n (.rangeFunc g #[p] assign body) Q f w:=by
 obtain ⟨hall,hxs⟩:=rangeL_some hfold
 refine W_rangeD hm hog hg eg hseq (fun h k=>h.trans k) ?_ hp (fun pre W=>∃ s,(pre.map π).foldlM fstep s0=some s/\I s W) ?_ ?_ ⟨s0,rfl,h0⟩ (fun x=>ga x (upd (upd f n undef) p (ea x))) hassign ?_ ?_
 ·intro W l o o' hl ho hc
  have hg:=grownBy_putObj' W l o'
  exact ⟨hg.size,fun h=>hRdT _ _ ⟨some l,hg,fun r e=>by cases e;exact ⟨hl,o,ho,hc⟩⟩ h⟩
 ·rintro pre W W' t ⟨s,hs,h⟩
  exact ⟨s,hs,hI _ _ _ t h⟩
 ·rintro pre W ⟨s,hs,h⟩
  exact ⟨s,hs,hD _ _ h⟩
 ·rintro l pre x W1 ⟨s,hs,h⟩ hl
  obtain ⟨s2,h2⟩:=hall ((pre ++ [x]).map π) (by simp;omega) (fun y hy=>by
   obtain ⟨z,_,rfl⟩:=List.mem_map.1 hy
   exact hmem z)
  have h3:fstep s (π x)=some s2:=by
   rw [List.map_append,foldlM_app,hs] at h2
   simpa using h2
  refine wpIn_mono (hbody l x s s2 W1 h h3) ?_
  rintro e a w' ⟨f',rfl,q⟩
  refine ⟨f',rfl,?_⟩
  cases e <;> first | exact q.elim | exact ⟨q.1,⟨q.1.size,fun _=>q.2.1⟩,s2,h2,q.2.2⟩
 ·rintro D ys W1 hD hSy ⟨s,hs,h⟩ hK
  rw [hS ys hSy,hxs] at hs
  obtain rfl:=Option.some.inj hs
  exact hdone D W1 hD h hK
theorem W_rangeDS {α α' σ:Type} {π:α'->α} {xs:List α} {fstep:σ->α->Option σ} {s0 r:σ} {g:Operand} {p:Tmp} {assign body:Code} (hfold:rangeL fstep xs s0=some r)
  (hm:f n=undef) (hog:okO n g=true) {gf:Nat} {lb:Array Value} (hg:ev f g=.func (.func gf) #[] lb)
  (eg:∀ args w,(callFunc gf args).run P w=.ok (.enter gf args) w)
  {ea:α'->Value} {Rd:World->Prop} {S:List α'->Prop} {N:Nat} (hN:N=xs.length) (hseq:SeqD P gf lb (fun x=>#[ea x]) (Keep Rd) S N w) (hS:∀ ys,S ys->ys.map π=xs) (hmem:∀ x,π x∈xs)
  (hRdT:∀ W W',Tn w.heap.size W W'->Rd W->Rd W') (hp:Nat.blt p n=true)
  (I:σ->World->Prop) (hI:∀ s W W',Tn w.heap.size W W'->I s W->I s W') (hD:∀ s W,I s W->I s W.drew) (h0:I s0 w) (ga:α'->(Nat->Value)->Nat->Value)
  (hassign:∀ (l:Nat) (x:α') (W1:World) (K:(Nat->Value)->World->Prop),K (ga x (upd f p (ea x))) W1->W (ro:=some l) P n assign (Th K (fun _ _ _=>False)) (upd f p (ea x)) W1)
  (hbody:∀ (l:Nat) (x:α') (s s':σ) (W1:World),I s W1->fstep s (π x)=some s'->W (ro:=some l) P n body (RoundK w.heap.size Rd (I s') W1) (ga x (upd f p (ea x))) W1)
  (hdone:∀ (D:Nat) (W1:World),w.heap.size<=D->I r W1->W1.heap[D]?=some (.deferred (some []))->Q .normal (upd f n (bp D)) W1) :
  W (ro:=none) P n (.rangeFunc g #[p] assign body) Q f w:=by
 have hc:=upd_clear hm
 refine W_rangeDG (mk:=bp) hfold (mark_one hm) hog hg eg hN hseq hS hmem hRdT hp I hI hD h0 ga ?_ ?_ hdone
 ·rw [hc];exact hassign
 ·rw [hc];exact hbody
end
def zau {α:Type} (l:List α) (n:Nat):List (Int×List α):=(List.range ((l.length+n - 1) / n)).map fun j=>(((j * n:Nat):Int),(l.drop (j * n)).take n)
abbrev ChEl {α:Type} (l:List α) (n:Nat):={x:Int×List α // subL3 l x.1 (x.1+(x.2.length:Int)) (x.1+(x.2.length:Int))=some x.2/\x∈zau l n}
theorem chunksI_lt {α:Type} {l:List α} {n j:Nat} (hn:1<=n):j<(zau l n).length ↔ j * n<l.length:=by
 simp only [zau,List.length_map,List.length_range]
 rw [Nat.lt_div_iff_mul_lt (by omega)]
 constructor
 ·intro h;omega
 ·intro h;omega
theorem chunksI_at {α:Type} {l:List α} {n j:Nat} (hn:1<=n) (h:j * n<l.length):(zau l n)[j]?=some (((j * n:Nat):Int),(l.drop (j * n)).take n):=by
 have:=(chunksI_lt (l:=l) hn).2 h
 simp only [zau,List.length_map,List.length_range] at this
 simp [zau,this]
theorem chunksI_sub {α:Type} {l:List α} {n j:Nat} (h:j * n<l.length):subL3 l ((j * n:Nat):Int) (((j * n:Nat):Int)+(((l.drop (j * n)).take n).length:Int)) (((j * n:Nat):Int)+(((l.drop (j * n)).take n).length:Int))=some ((l.drop (j * n)).take n):=by
 refine subL3_some.2 ⟨?_,?_⟩
 ·simp only [List.length_take,List.length_drop];omega
 ·have e:(((j * n:Nat):Int)+(((l.drop (j * n)).take n).length:Int)).toNat=j * n+((l.drop (j * n)).take n).length:=by omega
  rw [e,Int.toNat_natCast,List.drop_take,Nat.add_sub_cancel_left]
  simp [List.take_take]
end Gk

/- slices.Chunk over bytes and over rows: what it hands back, and its iterator's contract. (Printed by genXFk.py.) No condition. -/
namespace Gk
open Go Go.Proofs Go.RowKit
theorem run_yieldcall1 {P:Program} {o:Oper} {f:Nat->Value} {w:World} {l:Nat} {x y:Operand} {ts:Array TypeId} {a:Value} {r:Next} (ho:o.op=.call ⟨.value x,#[y],ts⟩) (hx:ev f x=.func (.yield l) #[] #[]) (hy:ev f y=a)
  (h:(Instr.yield l #[a]).run P w=.ok r w):(execOp (ev f) o).run P w=.ok r w:=by
 simp [execOp,ho,hx,hy,resolve,invoke,Deferred.ofValue,h]
theorem Chunk_bytes_calls (v:Value) (hv:v.cells=#[v]) (n:Int) (hn:1<=n) (w:World):Calls Try.prog 56 [v,i64 n].toArray w fun e w' =>
  ∃ g1 g2,e=.returned (.func (.func 71) #[] #[bp g1,bp g2])/\Nw w (bp g1)/\Nw w (bp g2)/\Nq (bp g1) (bp g2)/\Blk w' g1 22 #[v]/\Blk w' g2 3 #[i64 n]/\Ext w w':=by
 refine zam (n:=9) Try.func56 rfl rfl rfl ?_;refine W_seq<|W_rg<|?_;refine wls rfl rfl (stp_box (v:=v) rfl rfl ?_);intro w1 hb1 hg1;rw [hv] at hb1;refine wls rfl rfl (stp_box (v:=i64 n) rfl rfl ?_);intro w2 hb2 hg2;have hb1':Blk w2 w.heap.size 22 #[v]:=hb1.ext (zaa hg2);have hs1:w.heap.size<w1.heap.size:=hb1.lt;refine av .nilFunc rfl rfl<|wnt<|W_seq<|W_seq<|W_rg<|wq rfl (zay (u:=i64 n) rfl Try.isAgg3 rfl hb2 rfl)<|wa rfl (q_ltI rfl rfl rfl)<|wnt<|?_;refine zbj false rfl ?_ (fun h=>by cases h) (fun _=>?_)
 ·exact congrArg Value.bool (decide_eq_false (by omega))
 refine zar<|W_th<|W_seq<|W_rg<|wa rfl (q_mkfuncN (vs:=[bp w.heap.size,bp w1.heap.size]) rfl (ar2 rfl rfl))<|av (.func (.func 71) #[] [bp w.heap.size,bp w1.heap.size].toArray) rfl rfl<|wnt<|W_ret<|?_;refine rt1 (.func (.func 71) #[] [bp w.heap.size,bp w1.heap.size].toArray) rfl rfl rfl rfl ?_;refine ⟨w.heap.size,w1.heap.size,rfl,Nw.bp w,?_,?_,hb1',hb2,(zaa hg1).trans (zaa hg2)⟩
 ·intro k hk;have:=hs_bp hk;omega
 intro k h1 h2;have:=hs_bp h1;have:=hs_bp h2;omega
def zat (l:List (UInt8)) (n:Int) (g1 g2:Nat) (v:Value) (w:World):Prop:=Blk w g1 22 #[v]/\Blk w g2 3 #[i64 n]/\By w [] v l
theorem zat.tn {l:List (UInt8)} {n:Int} {g1 g2 B:Nat} {v:Value} {W W':World} (t:Tn B W W') (h:zat l n g1 g2 v W):zat l n g1 g2 v W':=⟨h.1.tn t,h.2.1.tn t,h.2.2.lift (t.lift _)⟩
theorem zat.ext {l:List (UInt8)} {n:Int} {g1 g2:Nat} {v:Value} {W W':World} (t:Ext W W') (h:zat l n g1 g2 v W):zat l n g1 g2 v W':=⟨h.1.ext t,h.2.1.ext t,h.2.2.lift (Lift.ext t _)⟩
theorem zat.below {l:List (UInt8)} {n:Int} {g1 g2:Nat} {v:Value} {W W':World} (t:Below W.heap.size W W') (h:zat l n g1 g2 v W):zat l n g1 g2 v W' :=
 ⟨(t.block g1 h.1.lt).trans h.1,(t.block g2 h.2.1.lt).trans h.2.1,h.2.2.lift ⟨fun k o ho _ _=>(t.block k (zan ho)).trans ho,fun _ _ _=>trivial⟩⟩
/-- slices.Chunk's iterator over []byte. -/
theorem chunk_bytes (l : List (UInt8)) (n : Nat) (hn : 1 <= n) (v : Value) (g1 g2 : Nat) (w : World) (hrd : zat l (n : Int) g1 g2 v w) (hlen : l.length + n < 9223372036854775808) :
  SeqD Try.prog 71 #[bp g1, bp g2] (fun x : ChEl l n => #[subW v x.1.1.toNat (x.1.1 + (x.1.2.length : Int)).toNat (x.1.1 + (x.1.2.length : Int)).toNat]) (Keep (zat l (n : Int) g1 g2 v)) (fun ys => ys.map (·.1) = zau l n) (zau l n).length w := by
 intro lp J W0 hW hJd hY h0; have hrd0 : zat l (n : Int) g1 g2 v W0 := hrd.below hW; refine callsIn_wide.2 ?_
 show Calls Try.prog 71 [Value.func (.yield lp) #[] #[], bp g1, bp g2].toArray W0 _
 refine zam (n := 31) Try.func71 rfl rfl rfl ?_; refine W_seq <| W_rg <| av (i64 0) rfl rfl <| wnt <| zag <| ?_; refine W_loopG (fun k f w => f 31 = undef /\ f 0 = .func (.yield lp) #[] #[] /\ f 1 = bp g1 /\ f 2 = bp g2 /\ k <= (zau l n).length /\ f 4 = i64 ((((zau l n).length - k) * n : Nat) : Int) /\ (∃ ys : List (ChEl l n), ys.map (·.1) = (zau l n).take ((zau l n).length - k) /\ J ys w) /\ zat l (n : Int) g1 g2 v w) (zau l n).length ?_ ?_
 ·exact ⟨rfl, rfl, rfl, rfl, Nat.le_refl _, by rw [Nat.sub_self, Nat.zero_mul]; rfl, ⟨[], by simp, h0⟩, hrd0⟩
 rintro k f w1 ⟨hm, s0, s1, s2, hk, s4, ⟨ys, hys, hJ⟩, hrd1⟩; obtain ⟨hB1, hB2, hl1⟩ := hrd1
 generalize hj : (zau l n).length - k = j at *
 refine W_seq <| W_seq <| W_rg <| mv (i64 ((j * n : Nat) : Int)) rfl s4 <| wq rfl (zay (u := v) rfl Try.isAgg22 s1 hB1 rfl) <| wa rfl (q_len rfl T22.sl rfl hl1) <| wa rfl (q_ltI rfl rfl rfl) <| wnt <| ?_; refine zbj _ rfl rfl (fun hb => ?_) (fun hb => ?_)
 ·have hlt : j * n < l.length := by have := of_decide_eq_true hb; omega
  have hjk : j < (zau l n).length := (chunksI_lt hn).2 hlt; have e1 := chunksI_at hn hlt; have e2 := chunksI_sub (n := n) hlt
  generalize hc : (l.drop (j * n)).take n = c at *
  have hcl : c.length = min n (l.length - j * n) := by rw [← hc]; simp
  refine zar <| W_th <| W_seq <| zag <| W_seq <| ?_; refine W_draw [0, 1] [(0, 1), (1, 1), (2, 0), (3, 0), (4, 0), (5, 0), (6, 0)] mixed (by kernel_rfl) (by kernel_rfl) (by kernel_rfl) (by kernel_rfl) ?_; have xd := Ext.drew w1; have hJ2 := hJd ys w1 hJ; have hrd2 : zat l (n : Int) g1 g2 v (World.drew w1) := zat.ext xd ⟨hB1, hB2, hl1⟩
  generalize World.drew w1 = w2 at *
  obtain ⟨hB1', hB2', hl2⟩ := hrd2; refine sq rfl rfl (zay (u := i64 (n : Int)) rfl Try.isAgg3 s2 hB2' rfl) <| sq rfl rfl (zay (u := v) rfl Try.isAgg22 s1 hB1' rfl) <| sv (i64 ((j * n : Nat) : Int)) rfl rfl s4 <| ?_
  have hsub : subL l ((j * n : Nat) : Int) (l.length : Int) = some (l.drop (j * n)) := by
   refine subL_some.2 ⟨by omega, ?_⟩; rw [Int.toNat_natCast, Int.toNat_natCast, List.take_of_length_le (Nat.le_refl _)]
  refine sa rfl rfl (zcf (a := ((j * n : Nat) : Int)) (b := (l.length : Int)) rfl T22 rfl hl2 rfl rfl hsub) <| sa rfl rfl (q_len rfl T22.sl rfl (SlK.cut hl2 hsub)) <| ?_
  have hmin : (if ((l.drop (j * n)).length : Int) < (n : Int) then ((l.drop (j * n)).length : Int) else (n : Int)) = (c.length : Int) := by
   rw [hcl, List.length_drop]; split <;> omega
  refine sa rfl rfl (q_minI (a := (n : Int)) (b := ((l.drop (j * n)).length : Int)) rfl rfl rfl) ?_; rw [hmin]; refine sa rfl rfl (za6 (v := i64 (c.length : Int)) rfl rfl) ?_; refine zcs ?_; refine W_th <| W_seq <| W_rg <| ?_; have hadd : wI (((j * n : Nat) : Int) + (c.length : Int)) = ((j * n : Nat) : Int) + (c.length : Int) := wI_of (by omega) (by omega); refine mv (.func (.yield lp) #[] #[]) rfl s0 <| wq rfl (zay (u := v) rfl Try.isAgg22 s1 hB1' rfl) <| mv (i64 ((j * n : Nat) : Int)) rfl s4 <| mv (i64 ((j * n : Nat) : Int)) rfl s4 <| mv (i64 (c.length : Int)) rfl rfl <| wa rfl (za2 (a := ((j * n : Nat) : Int)) (b := (c.length : Int)) rfl rfl rfl) <| mv (i64 ((j * n : Nat) : Int)) rfl s4 <| mv (i64 (c.length : Int)) rfl rfl <| ?_; refine wa rfl (za2 (a := ((j * n : Nat) : Int)) (b := (c.length : Int)) rfl rfl rfl) ?_; rw [hadd]; refine wa rfl (q_slice3 (a := ((j * n : Nat) : Int)) (b := ((j * n : Nat) : Int) + (c.length : Int)) (c := ((j * n : Nat) : Int) + (c.length : Int)) rfl T22 rfl hl2 rfl rfl rfl e2) ?_
  have hyl : ys.length < (zau l n).length := by
   have := congrArg List.length hys; rw [List.length_map, List.length_take] at this
   omega
  obtain ⟨fn, tmps, assign, body, hy, hR⟩ := hY ys ⟨(((j * n : Nat) : Int), c), e2, List.mem_of_getElem? e1⟩ w2 hJ2 hyl; refine wl_yield rfl (run_yieldcall1 rfl rfl rfl hy) (hR.mono ?_); rintro e w3 ⟨rfl, hJ3, hk3⟩; refine ⟨_, rfl, ?_⟩; refine wa rfl (q_not (b := true) rfl rfl) <| wnt <| ?_; refine zbj false rfl rfl (fun h => by cases h) (fun _ => ?_); refine zar <| bk_n <| W_th <| W_rg <| ?_; have hrd3 : zat l (n : Int) g1 g2 v w3 := hk3.2 ⟨hB1', hB2', hl2⟩; refine mv (i64 ((j * n : Nat) : Int)) rfl s4 <| wq rfl (zay (u := i64 (n : Int)) rfl Try.isAgg3 s2 hrd3.2.1 rfl) <| wa rfl (za2 (a := ((j * n : Nat) : Int)) (b := (n : Int)) rfl rfl rfl) <| ?_
  have e3 : wI (((j * n : Nat) : Int) + (n : Int)) = (((j + 1) * n : Nat) : Int) := by
   rw [wI_of (by omega) (by omega), Nat.succ_mul]; omega
  rw [e3]; refine wla rfl rfl (za6 (v := i64 (((j + 1) * n : Nat) : Int)) rfl rfl) ?_; refine zap ?_; refine ⟨k - 1, by omega, hm, s0, s1, s2, by omega, ?_, ⟨_, ?_, hJ3⟩, hrd3⟩
  ·rw [show (zau l n).length - (k - 1) = j + 1 by omega]; rfl
  rw [show (zau l n).length - (k - 1) = j + 1 by omega, List.take_add_one, e1, List.map_append, hys]; rfl
 have hge : ¬ j * n < l.length := by have := of_decide_eq_false hb; omega
 have hjk : ¬ j < (zau l n).length := fun h => hge ((chunksI_lt hn).1 h)
 refine zbt <| th_x <| th_x <| bk_x <| ?_; refine rtn (rt0 rfl hm ?_); refine ⟨⟨_, rfl⟩, ys, ?_, hJ⟩
 show ys.map (·.1) = zau l n
 rw [hys]; exact List.take_of_length_le (by omega)
end Gk

/- Printed by gen.py: for each Go function a pure function, and that the Go code comes to it. No condition beside the equation that says what the pure function gives. -/
namespace Gk
open Go Go.Proofs
noncomputable def zcl (a0parts:List (List UInt8)):Option (List UInt8) :=
((zaq a0parts).bind fun r1 =>
((appL r1 (([(128:UInt8)]:List UInt8))).bind fun c6 =>
((remI ((c6.length:Int)) 64).bind fun c9 =>
((remI ((wI (120 - c9))) 64).bind fun c10 =>
((makeL c10 (0:UInt8)).bind fun c12 =>
((appL c6 c12).bind fun c13 =>
((za9 c13 (shl64 ((UInt64.ofInt ((r1.length:Int)))) 3)).bind fun r16 =>
((zcv ).bind fun r20 =>
((lenA 8 ((List.replicate 8 (0:UInt32)))).bind fun c28 =>
((lenA 8 r20).bind fun c29 =>
((lim (r16.length+64)).bind fun lim41 =>
((rangeL (fun (s41:List UInt32) (y41:Int×List UInt8) =>
((zcd s41 y41.2).bind fun r45 => some r45)) (zau r16 64) r20).bind fun x41 =>
((lenA 8 x41).bind fun c49 =>
((iterC (fun s50:List UInt8×Int =>
(if s50.2<8 then
((lenA 8 x41).bind fun c53 =>
((idx x41 s50.2).bind fun c54 =>
((za8 s50.1 c54).bind fun r55 => some (.inl (r55,(wI (s50.2+1)))))))
else some (.inr s50.1))) (([]:List UInt8),0)).bind fun x50 => some x50))))))))))))))
theorem zb2 (a0parts:List (List UInt8)) (p0:Value) (r:List UInt8) (w0:World) (hp0:Rw w0 [] p0 a0parts) (H:zcl a0parts=some r) :
  Calls Try.prog 36 [p0].toArray w0 (fun e w'=>∃ u0:Value,e=.returned u0/\Ext w0 w'/\Nw w0 u0/\OwK (Sc u8) w' [] 5 u0 r):=by
 have hE:Ext w0 w0:=Ext.refl w0;unfold zcl at H;refine zam (n:=44) Try.func36 rfl rfl rfl ?_;refine W_seq<|W_rg<|av (.slice none 0 0) rfl rfl<|wnt<|W_seq<|W_rg<|mv p0 rfl rfl<|?_;obtain ⟨r1,hr1,H⟩:=bsi H;refine wls rfl rfl (zab (vs:=[p0]) Try.func53 rfl rfl rfl (ar1 rfl) (zb9 a0parts p0 r1 _ (hp0.lift (le_ hE)) hr1) ?_);rintro _ w1 ⟨v1,rfl,x1,n1_0,o1_0⟩;refine ⟨_,rfl,?_⟩;have o1:OwK (Sc u8) w1 (v1 :: []) 5 v1 r1:=OwK.scal o1_0 _;have n3:=Nw.ext hE n1_0;have e2:=hE.trans x1;refine av v1 rfl rfl<|wnt<|W_seq<|W_rg<|mv v1 rfl rfl<|wa rfl (q_len rfl T22.sl rfl (o1.rd (Sc.stab _)))<|av (i64 ((r1.length:Int))) rfl rfl<|wnt<|?_;refine W_seq<|W_rg<|mv v1 rfl rfl<|?_;refine wls rfl rfl (zb8 (L:=[v1]) (R:=(Sc u8)) [(u8 128)] ([(128:UInt8)]:List UInt8) rfl T22 rfl (by exact ⟨rfl,(cst8 (128:UInt8) rfl),trivial⟩) rfl (litC u8 (oneC_u8) (us:=[(u8 128)]) (l:=([(128:UInt8)]:List UInt8)) rfl) rfl (litS u8 (us:=[(u8 128)]) (l:=([(128:UInt8)]:List UInt8)) rfl) ?_);intro v4 w4 o4 n4 g4 l4;have x4:=zaa g4;have i4:By w4 [v1] v4 (([(128:UInt8)]:List UInt8)):=OwK.slk (Sc.stab _) _ o4 (fun k hk=>(Old.cons (Old.nil _) o1.lt) k (n4 k hk)) (fun _ h=>h.2);replace o1:=o1.extL (Sc.stab _) x4 (le_ x4);have e5:=e2.trans x4;obtain ⟨c6,hc6,H⟩:=bsi H;refine wls rfl rfl (zb1 (R:=(Sc u8)) (v:=v1) (u:=v4) (Sc.stab _) [] [] rfl T22 rfl rfl o1 i4 (fun _ _ h=>h) hc6 oc_u8 ?_);intro v6 w6 o6 g6 nx6 l6;have e7:=e5.grown g6 n3;have n8:=Nw.nxt e5 n3 nx6;refine av v6 rfl rfl<|wnt<|W_seq<|W_rg<|mv v6 rfl rfl<|mv v6 rfl rfl<|wa rfl (q_len rfl T22.sl rfl (o6.rd (Sc.stab _)))<|?_;obtain ⟨c9,hc9,H⟩:=bsi H;refine wa rfl (q_remI rfl rfl rfl hc9)<|wa rfl (zby rfl rfl rfl)<|?_;obtain ⟨c10,hc10,H⟩:=bsi H;refine wa rfl (q_remI rfl rfl rfl hc10) ?_;obtain ⟨c12,hc12,H⟩:=bsi H;obtain ⟨c13,hc13,H⟩:=bsi H;refine wls rfl rfl (stp_appz (R:=(Sc u8)) (v:=v6) (Sc.stab _) [] [] rfl T22 Try.underlying3 rfl rfl rfl o6 hc12 (fun _ _=>rfl) hc13 ?_);intro v12 w12 o12 g12 nx12 l12;have e14:=e7.grown g12 n8
 refine av v12 rfl rfl<|wnt<|W_seq<|W_rg<|mv v12 rfl rfl<|mv (i64 ((r1.length:Int))) rfl rfl<|wa rfl (q_cvt64I rfl rfl rfl rfl)<|wa rfl (q_shl64 3 rfl rfl rfl rfl)<|?_;obtain ⟨r16,hr16,H⟩:=bsi H;refine wls rfl rfl (zab (vs:=[v12,(u64 ((shl64 ((UInt64.ofInt ((r1.length:Int)))) 3)))]) Try.func54 rfl rfl rfl (ar2 rfl rfl) (word_Put_uint64_calls c13 (shl64 ((UInt64.ofInt ((r1.length:Int)))) 3) v12 r16 _ (o12.rd (Sc.stab _)) hr16) ?_);rintro _ w16 ⟨v16,rfl,x16,n16_0,o16_0⟩;refine ⟨_,rfl,?_⟩;have o16:OwK (Sc u8) w16 (v16 :: [v12]) 5 v16 r16:=OwK.scal o16_0 _;have n19:=Nw.ext e14 n16_0;have e18:=e14.trans x16;refine av v16 rfl rfl<|wnt<|W_seq<|W_rg<|?_;obtain ⟨r20,hr20,H⟩:=bsi H;refine wls rfl rfl (zab (vs:=[]) Try.func55 rfl rfl rfl (ar0 ) (hash_first_calls   r20 _  hr20) ?_);rintro _ w20 ⟨rfl,x20⟩;refine ⟨_,rfl,?_⟩;replace o16:=o16.extL (Sc.stab _) x20 (le_ x20);have e21:=e18.trans x20;refine wls rfl rfl (sal u32 (List.replicate 8 (0:UInt32)) [v16,v12] rfl Z91 ?_);intro g22 w22 o22 n22 g22r l22;have x22:=zaa g22r;have q23:Nq v16 (bp g22):=o16.nq n22;have n26:=Nw.ext e21 n22;have e25:=e21.trans x22;obtain ⟨c28,hc28,H⟩:=bsi H;obtain ⟨c29,hc29,H⟩:=bsi H;refine wln rfl rfl (zbp [] [v16,v12] rfl A91 rfl rfl (zad hc28) (zad hc29) o22 zcj ?_);intro w27 o27 g27 l27;replace o16:=(o16.extL (Sc.stab _) x22 (Lift.call _ x22 n22)).other (Sc.stab _) g27 q23 l27;have e30:=e25.grown g27 n26;refine wnt<|W_seq<|W_seq<|W_rg<|mv v16 rfl rfl<|?_;refine wls rfl rfl (zab (vs:=[v16,i64 64]) Try.func56 rfl rfl rfl (ar2 rfl rfl) (Chunk_bytes_calls v16 (cells_own o16) 64 (by decide) _) ?_);rintro _ w31 ⟨g31a,g31b,rfl,nA31,nB31,qAB31,hA31,hB31,x31⟩;refine ⟨_,rfl,?_⟩;have q32:Nq (bp g22) (bp g31a):=o27.nq nA31;have q33:Nq (bp g22) (bp g31b):=o27.nq nB31;have q34:Nq v16 (bp g31a):=o16.nq nA31
 have q35:Nq v16 (bp g31b):=o16.nq nB31;replace o27:=o27.ext x31;replace o16:=o16.extL (Sc.stab _) x31 (Lift.call2 _ x31 nA31 nB31);have n38:=Nw.ext e30 nA31;have n39:=Nw.ext e30 nB31;have e40:=e30.trans x31;refine wnt<|zag<|?_;obtain ⟨lim41,hl41,H⟩:=bsi H;obtain ⟨x41,G41,H⟩:=bsi H;refine W_rangeDS (π:=fun x:ChEl r16 64=>x.1) (xs:=zau r16 64) (ea:=fun x=>subW v16 x.1.1.toNat (x.1.1+(x.1.2.length:Int)).toNat (x.1.1+(x.1.2.length:Int)).toNat) (Rd:=zat r16 64 g31a g31b v16) (gf:=71) (lb:=#[(bp g31a),(bp g31b)]) G41 rfl rfl rfl (enters Try.func71 rfl rfl) rfl (chunk_bytes r16 64 (by decide) v16 g31a g31b _ ⟨hA31,hB31,(o16.rd (Sc.stab _))⟩ (lim_lt hl41)) (fun ys h=>h) (fun x=>x.2.2) (fun _ _ t h=>zat.tn t h) rfl (fun s41 w=>Ext w0 w/\OwK (Sc u8) w [v16,(bp g22),(bp g31a),(bp g31b)] 5 v16 r16/\Nw w0 v16/\Blk w g22 91 (ac u32 s41)/\Nw w0 (bp g22)/\Blk w g31a 22 #[v16]/\Nw w0 (bp g31a)/\Blk w g31b 3 #[(i64 64)]/\Nw w0 (bp g31b)/\Nq v16 (bp g22)/\Nq v16 (bp g31a)/\Nq v16 (bp g31b)/\Nq (bp g22) (bp g31a)/\Nq (bp g22) (bp g31b)/\Nq (bp g31a) (bp g31b)) ?_ ?_ ⟨e40,(o16.weak (Sc.stab _) (fun _ h=>⟨h.2.2.2.1,h.2.2.1,h.1,h.2.1,trivial⟩)),n19,o27,n26,hA31,n38,hB31,n39,q23,q34,q35,q32,q33,qAB31⟩ (fun x f=>upd (f) 6 (subW v16 x.1.1.toNat (x.1.1+(x.1.2.length:Int)).toNat (x.1.1+(x.1.2.length:Int)).toNat)) ?_ ?_ ?_
 ·rintro s41 W W' t ⟨hE42,o0_42,n0_42,o1_42,n1_42,o2_42,n2_42,o3_42,n3_42,q0_1_42,q0_2_42,q0_3_42,q1_2_42,q1_3_42,q2_3_42⟩;exact ⟨(hE42.tn t e40.size),(o0_42.tn (Sc.stab _) t),n0_42,(o1_42.tn t),n1_42,(o2_42.tn t),n2_42,(o3_42.tn t),n3_42,q0_1_42,q0_2_42,q0_3_42,q1_2_42,q1_3_42,q2_3_42⟩
 ·rintro s41 W ⟨hE43,o0_43,n0_43,o1_43,n1_43,o2_43,n2_43,o3_43,n3_43,q0_1_43,q0_2_43,q0_3_43,q1_2_43,q1_3_43,q2_3_43⟩;have t:=Ext.drew W;exact ⟨(hE43.trans t),(o0_43.extL (Sc.stab _) t (le_ t)),n0_43,(o1_43.ext t),n1_43,(o2_43.ext t),n2_43,(o3_43.ext t),n3_43,q0_1_43,q0_2_43,q0_3_43,q1_2_43,q1_3_43,q2_3_43⟩
 ·intro l x W1 K hK;refine W_rg<|av (subW v16 x.1.1.toNat (x.1.1+(x.1.2.length:Int)).toNat (x.1.1+(x.1.2.length:Int)).toNat) rfl rfl<|zap<|?_;exact hK
 ·rintro l ⟨y41,hy41⟩ s41 sp41 w44 ⟨hE44,o0_44,n0_44,o1_44,n1_44,o2_44,n2_44,o3_44,n3_44,q0_1_44,q0_2_44,q0_3_44,q1_2_44,q1_3_44,q2_3_44⟩ H41;have kf41:=KeepsFrom.refl w31.heap.size w44;refine zag<|W_rg<|mv (subW v16 y41.1.toNat (y41.1+(y41.2.length:Int)).toNat (y41.1+(y41.2.length:Int)).toNat) rfl rfl<|?_;obtain ⟨r45,hr45,H41⟩:=bsi H41;refine wls rfl rfl (zab (vs:=[(bp g22),(subW v16 y41.1.toNat (y41.1+(y41.2.length:Int)).toNat (y41.1+(y41.2.length:Int)).toNat)]) Try.func57 rfl rfl rfl (ar2 rfl rfl) (hash_block_calls s41 y41.2 g22 (subW v16 y41.1.toNat (y41.1+(y41.2.length:Int)).toNat (y41.1+(y41.2.length:Int)).toNat) r45 _ o1_44 (SlK.cut3 (L:=[(bp g22)]) (OwK.slk (Sc.stab _) [(bp g22)] o0_44 (fun k hk=>⟨q0_1_44 k hk,trivial⟩) (fun _ h=>⟨h.2.1,trivial⟩)) hy41.1) hr45) ?_);rintro _ w45 ⟨rfl,x45,hb45_0⟩;refine ⟨_,rfl,?_⟩;have lx45:=Lift.ownX [v16] [(bp g31a),(bp g31b)] x45;have k46:=kf41.ownX x45 o1_44.cl;replace o0_44:=o0_44.otherX (Sc.stab _) x45 q0_1_44 lx45;replace o2_44:=o2_44.otherX x45 q1_2_44.symm;replace o3_44:=o3_44.otherX x45 q1_3_44.symm;have e47:=hE44.grownX x45 n1_44;refine zap<|bk_n<|?_;obtain rfl:=osi H41;exact ⟨k46,⟨o2_44,o3_44,(o0_44.rd (Sc.stab _))⟩,e47,o0_44,n0_44,hb45_0,n1_44,o2_44,n2_44,o3_44,n3_44,q0_1_44,q0_2_44,q0_3_44,q1_2_44,q1_3_44,q2_3_44⟩
 intro D41 w48 hD41 ⟨hE48,o0_48,n0_48,o1_48,n1_48,o2_48,n2_48,o3_48,n3_48,q0_1_48,q0_2_48,q0_3_48,q1_2_48,q1_3_48,q2_3_48⟩ hK41;have hd41:=Nat.le_trans e40.size hD41;have kd41:=KeepsFrom.refl 0 w48;refine bk_n<|W_th<|W_seq<|W_rg<|av (.slice none 0 0) rfl rfl<|wnt<|W_seq<|W_seq<|?_;refine W_rg ?_;obtain ⟨c49,hc49,H⟩:=bsi H;refine wq rfl (q_loadA (m:=0) rfl A91 rfl o1_48 (zah _ _) (zad hc49))<|mv (i64 0) rfl rfl<|wnt<|?_;obtain ⟨x50,G50,H⟩:=bsi H;refine W_mid (fun f w=>∃ v7_63:Value,f 7=v7_63/\f 44=(bp D41)/\Ext w0 w/\KeepsFrom 0 w48 w/\OwK (Sc u8) w [v7_63] 5 v7_63 x50/\Nw w0 v7_63) ?_ ?_
 ·refine zag ?_;refine zca (fun s50 f w=>∃ v7_60:Value,f 7=v7_60/\f 35=(ag u32 x41)/\f 36=(i64 s50.2)/\f 44=(bp D41)/\Ext w0 w/\KeepsFrom 0 w48 w/\OwK (Sc u8) w [v7_60] 5 v7_60 s50.1/\Nw w0 v7_60) G50 ?_ ?_
  ·exact ⟨(.slice none 0 0),rfl,rfl,rfl,rfl,hE48,kd41,(OwK.nil _ _ _ _),(Nw.nil _)⟩
  rintro s50 _ _ w51 ⟨v7_51,s7_51,s35_51,s36_51,s44_51,hE51,k0_51,o0_51,n0_51⟩ H50 hr50;refine W_seq<|W_rg<|wa rfl (q_ltI rfl s36_51 rfl)<|wnt<|W_seq<|?_;refine wci H50 rfl rfl (fun H50=>?_) (fun H50=>?_)
  ·refine zar<|W_th<|W_seq<|zag<|W_seq<|W_rg<|?_;obtain ⟨c53,hc53,H50⟩:=bsi H50;obtain ⟨c54,hc54,H50⟩:=bsi H50;refine wa rfl (q_index rfl A91 (by exact s35_51) (by exact s36_51) (zad hc53) hc54)<|av (u32 c54) rfl rfl<|wnt<|W_rg<|mv v7_51 rfl s7_51<|mv (u32 c54) rfl rfl<|?_;obtain ⟨r55,hr55,H50⟩:=bsi H50;refine wls rfl rfl (zab (vs:=[v7_51,(u32 c54)]) Try.func58 rfl rfl rfl (ar2 rfl rfl) (word_Put_uint32_calls s50.1 c54 v7_51 r55 _ (o0_51.rd (Sc.stab _)) hr55) ?_);rintro _ w55 ⟨v55,rfl,x55,n55_0,o55_0⟩;refine ⟨_,rfl,?_⟩;have o55:OwK (Sc u8) w55 (v55 :: [v7_51]) 5 v55 r55:=OwK.scal o55_0 _;have k57:=k0_51.ext x55;have n59:=Nw.ext hE51 n55_0;have e58:=hE51.trans x55;refine av v55 rfl rfl<|zap<|bk_n<|W_th<|W_rg<|wa rfl (za2 rfl s36_51 rfl)<|mv (i64 ((wI (s50.2+1)))) rfl rfl<|zap<|?_;obtain rfl:=osi H50;exact ⟨_,rfl,v55,rfl,s35_51,rfl,s44_51,e58,k57,(o55.weak (Sc.stab _) (fun _ h=>⟨h.1,trivial⟩)),n59⟩
  refine zbt<|th_x<|?_;obtain rfl:=osi H50;obtain rfl:=hr50 _ rfl;refine th_x<|bk_x<|?_;exact ⟨v7_51,s7_51,s44_51,hE51,k0_51,o0_51,n0_51⟩
 rintro _ w61 ⟨v7_61,s7_61,s44_61,hE61,k0_61,o0_61,n0_61⟩;refine W_th<|W_seq<|W_rg<|mv v7_61 rfl s7_61<|av v7_61 rfl rfl<|wnt<|W_ret<|?_;obtain rfl:=osi H;have hk62:=k0_61.same D41 _ (Nat.zero_le _) hK41 rfl;have t62:=Tn.put hk62 hd41 (.deferred none);refine rtm1 v7_61 rfl rfl rfl s44_61 hk62 ?_;exact ⟨v7_61,rfl,(hE61.tn t62 (Nat.le_refl _)),n0_61,((o0_61.tn (Sc.stab _) t62).weak (Sc.stab _) (fun _ _=>trivial))⟩
end Gk

/- Words and the sum of bytes (chapters 1 and 7), in plain Lean. No condition but lengths. -/
namespace Gk
open Gf
theorem Bits32_eq:zav=some 32:=by
 unfold zav
 rw [zbr.2 ⟨33,by kernel_rfl⟩];rfl
theorem Bits64_eq:za1=some 64:=by
 unfold za1
 rw [zbr.2 ⟨65,by kernel_rfl⟩];rfl
def rot (x:UInt32) (k:Nat):UInt32:=shr32 x k ||| shl32 x (32 - k)
theorem zc4 (x:UInt32) (k:Nat) (h0:0<k) (h1:k<32):zai x (-(k:Int))=some (rot x k):=by
 unfold zai
 rw [Bits32_eq,obs]
 have e1:remI (-(k:Int)) 32=some (-(k:Int)):=by
  unfold remI;rw [if_neg (by decide),Int.neg_tmod,Int.tmod_eq_emod_of_nonneg (by omega),Int.emod_eq_of_lt (by omega) (by omega)]
 rw [e1,obs,wI_of (by omega) (by omega)]
 rw [show -(k:Int)+32=((32 - k:Nat):Int) by omega,show (32:Int)=((32:Nat):Int) by rfl,remI_nat _ _ (by omega),Nat.mod_eq_of_lt (by omega),obs,if_neg (by omega),cnt_nat,obs,
  wI_of (by omega) (by omega),show ((32:Nat):Int) - ((32 - k:Nat):Int)=(k:Int) by omega,cnt_nat,obs,UInt32.or_comm];rfl
theorem turned_eq (x:UInt32) (a b c:Nat) (ha:0<a/\a<32) (hb:0<b/\b<32) (hc:0<c/\c<32):zbb x a b c=some ((rot x a^^^rot x b)^^^rot x c):=by
 unfold zbb
 rw [wI_of (by omega) (by omega),wI_of (by omega) (by omega),wI_of (by omega) (by omega),Int.zero_sub,Int.zero_sub,Int.zero_sub,zc4 _ _ ha.1 ha.2,zc4 _ _ hb.1 hb.2,zc4 _ _ hc.1 hc.2];rfl
def be4 (a b c d:UInt8):UInt32:=((shl32 a.toUInt32 24 ||| shl32 b.toUInt32 16) ||| shl32 c.toUInt32 8) ||| d.toUInt32
def be (p:List UInt8) (i:Nat):UInt32:=be4 (co p i) (co p (i+1)) (co p (i+2)) (co p (i+3))
theorem or_add (a b k:Nat) (h:b<2 ^ k):(a * 2 ^ k) ||| b=a * 2 ^ k+b:=by
 rw [← Nat.shiftLeft_eq,Nat.shiftLeft_add_eq_or_of_lt h]
theorem be4_nat (a b c d:UInt8):(be4 a b c d).toNat=((a.toNat * 256+b.toNat) * 256+c.toNat) * 256+d.toNat:=by
 have ha:=a.toNat_lt;have hb:=b.toNat_lt;have hc:=c.toNat_lt;have hd:=d.toNat_lt
 simp only [be4,shl32,UInt32.toNat_or,UInt32.toNat_ofNat',UInt8.toNat_toUInt32]
 rw [Nat.mod_eq_of_lt (by simp;omega),Nat.mod_eq_of_lt (by simp;omega),Nat.mod_eq_of_lt (by simp;omega)]
 simp only [show min 24 32=24 by rfl,show min 16 32=16 by rfl,show min 8 32=8 by rfl]
 rw [or_add a.toNat (b.toNat * 2 ^ 16) 24 (by omega),show a.toNat * 2 ^ 24+b.toNat * 2 ^ 16=(a.toNat * 256+b.toNat) * 2 ^ 16 by omega,or_add _ (c.toNat * 2 ^ 8) 16 (by omega),
  show (a.toNat * 256+b.toNat) * 2 ^ 16+c.toNat * 2 ^ 8=((a.toNat * 256+b.toNat) * 256+c.toNat) * 2 ^ 8 by omega,or_add _ d.toNat 8 (by omega)]
theorem or64 (x:UInt64) (y:UInt8) (h:x.toNat<2 ^ 48):(shl64 x 8 ||| y.toUInt64).toNat=x.toNat * 256+y.toNat:=by
 have hy:=y.toNat_lt
 simp only [shl64,UInt64.toNat_or,UInt64.toNat_ofNat',UInt8.toNat_toUInt64,show min 8 64=8 by rfl]
 rw [Nat.mod_eq_of_lt (by omega),or_add _ _ 8 (by omega)]
theorem Get_eq (b:List UInt8) (h:4<=b.length) (hm:b.length<=most):zbd b=some (be b 0,true):=by
 obtain ⟨b0,b1,b2,b3,t,rfl⟩:∃ b0 b1 b2 b3 t,b=b0 :: b1 :: b2 :: b3 :: t:=by
  match b,h with
  | b0 :: b1 :: b2 :: b3 :: t,_=>exact ⟨b0,b1,b2,b3,t,rfl⟩
 unfold zbd
 rw [Bits32_eq,obs,show divI 32 8=some 4 by decide,obs,if_neg (by simp only [List.length_cons] at h ⊢;omega)]
 have e:subL (b0 :: b1 :: b2 :: b3 :: t) 0 4=some [b0,b1,b2,b3]:=by
  have:=subL_nat (b0 :: b1 :: b2 :: b3 :: t) 0 4 (by omega) (by simp)
  simpa using this
 rw [e,obs]
 let z:UInt64:=((shl64 (shl64 (shl64 (shl64 0 8 ||| b0.toUInt64) 8 ||| b1.toUInt64) 8 ||| b2.toUInt64) 8) ||| b3.toUInt64)
 rw [zbr.2 ⟨5,show _=some z by kernel_rfl⟩,obs]
 have ha:=b0.toNat_lt;have hb:=b1.toNat_lt;have hc:=b2.toNat_lt;have hd:=b3.toNat_lt
 have h1:=or64 0 b0 (by decide)
 have h2:=or64 (shl64 0 8 ||| b0.toUInt64) b1 (by rw [h1];simp;omega)
 have h3:=or64 (shl64 (shl64 0 8 ||| b0.toUInt64) 8 ||| b1.toUInt64) b2 (by rw [h2,h1];simp;omega)
 have h4:=or64 (shl64 (shl64 (shl64 0 8 ||| b0.toUInt64) 8 ||| b1.toUInt64) 8 ||| b2.toUInt64) b3 (by rw [h3,h2,h1];simp;omega)
 have:z.toUInt32=be (b0 :: b1 :: b2 :: b3 :: t) 0:=by
  apply UInt32.toNat_inj.1
  show z.toUInt32.toNat=(be4 b0 b1 b2 b3).toNat
  rw [be4_nat,UInt64.toNat_toUInt32,show z.toNat=_ from h4,h3,h2,h1]
  simp only [UInt64.toNat_zero,Nat.zero_mul,Nat.zero_add]
  omega
 rw [this]
theorem put_loop {X:Type} {body:List UInt8×Int->Option ((List UInt8×Int)⊕List UInt8)} (F:Nat->UInt8) (n:Nat) (b:List UInt8) (hb:b.length+n<=most)
  (h1:∀ (l:List UInt8) (j:Nat),j<n->l.length+1<=most->body (l,8 * (j:Int))=some (.inl (l ++ [F j],8 * (j:Int) - 8))) (h2:∀ l,body (l,-8)=some (.inr l)) :
  iterC body (b,8 * (n:Int) - 8)=some (b ++ ((List.range n).map F).reverse):=by
 induction n generalizing b with
 | zero=>rw [zcy];simp [h2]
 | succ n ih =>
  rw [zcy,show 8 * ((n+1:Nat):Int) - 8=8 * (n:Int) by omega,h1 b n (by omega) (by omega),obs]
  simp only []
  rw [ih (b ++ [F n]) (by simp only [List.length_append,List.length_singleton];omega) (fun l j hj hl=>h1 l j (by omega) hl)]
  simp [List.range_succ]
def by4 (x:UInt32):List UInt8:=[(shr32 x 24).toUInt8,(shr32 x 16).toUInt8,(shr32 x 8).toUInt8,x.toUInt8]
def by8 (x:UInt64):List UInt8:=((List.range 8).map fun j=>(shr64 x (8 * j)).toUInt8).reverse
theorem by8_len (x:UInt64):(by8 x).length=8:=by simp [by8]
theorem Clone_eq (b:List UInt8) (h:b.length<=most):zaf b=some b:=by
 unfold zaf;exact appL_nil b h
theorem appL_one (l:List UInt8) (x:UInt8) (h:l.length+1<=most):appL l [x]=some (l ++ [x]):=by
 unfold appL;rw [if_pos (by simpa using h)]
theorem shr32_zero (x:UInt32):shr32 x 0=x:=by simp [shr32]
theorem Put32_eq (b:List UInt8) (x:UInt32) (h:b.length+4<=most):za8 b x=some (b ++ by4 x):=by
 unfold za8
 rw [Clone_eq b (by omega),obs,Bits32_eq,obs,show wI (32 - 8)=8 * ((4:Nat):Int) - 8 by decide]
 rw [put_loop (X:=UInt8) (fun j=>(shr32 x (8 * j)).toUInt8) 4 b h]
 ·simp [List.range,List.range.loop,by4,shr32_zero]
 ·intro l j hj hl
  rw [if_pos (by simp only [];omega)]
  simp only []
  rw [show 8 * (j:Int)=((8 * j:Nat):Int) by omega,cnt_nat,obs,appL_one l _ hl,obs,wI_of (by omega) (by omega)]
 ·intro l;rw [if_neg (by simp only [];omega)]
theorem Put64_eq (b:List UInt8) (x:UInt64) (h:b.length+8<=most):za9 b x=some (b ++ by8 x):=by
 unfold za9
 rw [Clone_eq b (by omega),obs,Bits64_eq,obs,show wI (64 - 8)=8 * ((8:Nat):Int) - 8 by decide]
 rw [put_loop (X:=UInt8) (fun j=>(shr64 x (8 * j)).toUInt8) 8 b h]
 ·rfl
 ·intro l j hj hl
  rw [if_pos (by simp only [];omega)]
  simp only []
  rw [show 8 * (j:Int)=((8 * j:Nat):Int) by omega,cnt_nat,obs,appL_one l _ hl,obs,wI_of (by omega) (by omega)]
 ·intro l;rw [if_neg (by simp only [];omega)]
def kL:List UInt32:=[0x428a2f98,0x71374491,0xb5c0fbcf,0xe9b5dba5,0x3956c25b,0x59f111f1,0x923f82a4,0xab1c5ed5,
 0xd807aa98,0x12835b01,0x243185be,0x550c7dc3,0x72be5d74,0x80deb1fe,0x9bdc06a7,0xc19bf174,
 0xe49b69c1,0xefbe4786,0x0fc19dc6,0x240ca1cc,0x2de92c6f,0x4a7484aa,0x5cb0a9dc,0x76f988da,
 0x983e5152,0xa831c66d,0xb00327c8,0xbf597fc7,0xc6e00bf3,0xd5a79147,0x06ca6351,0x14292967,
 0x27b70a85,0x2e1b2138,0x4d2c6dfc,0x53380d13,0x650a7354,0x766a0abb,0x81c2c92e,0x92722c85,
 0xa2bfe8a1,0xa81a664b,0xc24b8b70,0xc76c51a3,0xd192e819,0xd6990624,0xf40e3585,0x106aa070,
 0x19a4c116,0x1e376c08,0x2748774c,0x34b0bcb5,0x391c0cb3,0x4ed8aa4a,0x5b9cca4f,0x682e6ff3,
 0x748f82ee,0x78a5636f,0x84c87814,0x8cc70208,0x90befffa,0xa4506ceb,0xbef9a3f7,0xc67178f2]
def hL:List UInt32:=[0x6a09e667,0xbb67ae85,0x3c6ef372,0xa54ff53a,0x510e527f,0x9b05688c,0x1f83d9ab,0x5be0cd19]
theorem constants_eq:zae=some kL:=by unfold zae;kernel_rfl
theorem first_eq:zcv=some hL:=by unfold zcv;kernel_rfl
def w0 (l:List UInt32) (i:Nat):UInt32:=l.getD i 0
theorem idx_w0 {l:List UInt32} {i:Nat} (h:i<l.length):idx l (i:Int)=some (w0 l i):=by
 rw [idx_nat,w0,List.getD_eq_getElem?_getD,List.getElem?_eq_getElem h];rfl
theorem zbi {α:Type} {n:Nat} {l:List α} (h:l.length=n):lenA n l=some ():=by unfold lenA;rw [if_pos h]
def nxt (p:List UInt8) (w:List UInt32):UInt32 :=
 if w.length<16 then be p (4 * w.length) else
  ((w0 w (w.length - 16)+w0 w (w.length - 7))+((rot (w0 w (w.length - 15)) 7^^^rot (w0 w (w.length - 15)) 18)^^^shr32 (w0 w (w.length - 15)) 3))+((rot (w0 w (w.length - 2)) 17^^^rot (w0 w (w.length - 2)) 19)^^^shr32 (w0 w (w.length - 2)) 10)
def sched (p:List UInt8):Nat->List UInt32
 | 0=>[]
 | n+1=>sched p n ++ [nxt p (sched p n)]
theorem zbc (p:List UInt8):∀ n,(sched p n).length=n
 | 0=>rfl
 | n+1=>by simp [sched,zbc p n]
def wTo (p:List UInt8) (i:Nat):List UInt32:=sched p i ++ List.replicate (64 - i) 0
theorem wTo_len (p:List UInt8) (i:Nat) (h:i<=64):(wTo p i).length=64:=by simp [wTo,zbc];omega
theorem wTo_get (p:List UInt8) (i j:Nat) (h:j<i):w0 (wTo p i) j=w0 (sched p i) j:=by
 simp only [w0,wTo,List.getD_eq_getElem?_getD];rw [List.getElem?_append_left (by rw [zbc];exact h)]
theorem wTo_set (p:List UInt8) (i:Nat) (h:i<64):(wTo p i).set i (nxt p (sched p i))=wTo p (i+1):=by
 unfold wTo
 obtain ⟨m,hm⟩:∃ m,64 - i=m+1:=⟨63 - i,by omega⟩
 rw [List.set_append_right _ _ (by rw [zbc];exact Nat.le_refl _),zbc,Nat.sub_self,hm,List.replicate_succ,List.set_cons_zero,show 64 - (i+1)=m by omega]
 simp [sched]
theorem drop_co (p:List UInt8) (i:Nat):be (p.drop i) 0=be p i:=by
 simp only [be,co_drop];rfl
theorem plan_eq (p:List UInt8) (h:p.length=64):zbe p=some (sched p 64):=by
 unfold zbe
 refine zc6 (zch (fun i=>(wTo p i,(i:Int))) 64 (wTo p 64) rfl ?_ ?_) ?_
 rotate_left 2
 ·rw [zbi (wTo_len p 64 (by omega)),obs,zbi (by simp),obs]
  simp [wTo,zbi (zbc p 64)]
 ·intro i hi
  have hl:=wTo_len p i (by omega)
  simp only []
  rw [if_pos (by omega)]
  by_cases h16:i<16
  ·rw [if_pos (by omega),wI_of (by omega) (by omega),show 4 * (i:Int)=((4 * i:Nat):Int) by omega,subL_nat _ _ _ (by omega) (by omega),obs,List.take_length,
    Get_eq _ (by simp;omega) (by have:=h257;simp;omega),obs,zbi hl,obs,idx_w0 (by omega),obs,drop_co,zcp _ (by omega),Int.toNat_natCast]
   have:be p (4 * i)=nxt p (sched p i):=by unfold nxt;rw [zbc,if_pos h16]
   rw [this,wTo_set p i hi]
  ·rw [if_neg (by omega),zbi hl,obs,wI_of (by omega) (by omega),wI_of (by omega) (by omega),wI_of (by omega) (by omega),wI_of (by omega) (by omega),
    show (i:Int) - 15=((i - 15:Nat):Int) by omega,show (i:Int) - 2=((i - 2:Nat):Int) by omega,show (i:Int) - 16=((i - 16:Nat):Int) by omega,show (i:Int) - 7=((i - 7:Nat):Int) by omega,
    idx_w0 (by omega),obs,idx_w0 (by omega),obs,obs,idx_w0 (by omega),obs,idx_w0 (by omega),obs,
    show (-7:Int)=-((7:Nat):Int) by rfl,zc4 _ 7 (by omega) (by omega),obs,show (-18:Int)=-((18:Nat):Int) by rfl,zc4 _ 18 (by omega) (by omega),obs,
    show (-17:Int)=-((17:Nat):Int) by rfl,zc4 _ 17 (by omega) (by omega),obs,show (-19:Int)=-((19:Nat):Int) by rfl,zc4 _ 19 (by omega) (by omega),obs,
    idx_w0 (by omega),obs,zcp _ (by omega),Int.toNat_natCast,wTo_get _ _ _ (by omega),wTo_get _ _ _ (by omega),wTo_get _ _ _ (by omega),wTo_get _ _ _ (by omega)]
   rw [← wTo_set p i hi]
   unfold nxt;rw [zbc,if_neg h16]
 ·simp only [];rw [if_neg (by omega)]
def rnd (k w:UInt32) (t:List UInt32):List UInt32 :=
 let a:=(((w0 t 7+((rot (w0 t 4) 6^^^rot (w0 t 4) 11)^^^rot (w0 t 4) 25))+((w0 t 4 &&& w0 t 5)^^^(((4294967295:UInt32)^^^w0 t 4) &&& w0 t 6)))+k)+w
 [a+(((rot (w0 t 0) 2^^^rot (w0 t 0) 13)^^^rot (w0 t 0) 22)+(((w0 t 0 &&& w0 t 1)^^^(w0 t 0 &&& w0 t 2))^^^(w0 t 1 &&& w0 t 2))),w0 t 0,w0 t 1,w0 t 2,w0 t 3+a,w0 t 4,w0 t 5,w0 t 6]
def rnds (w:List UInt32) (s:List UInt32):Nat->List UInt32
 | 0=>s
 | n+1=>rnd (w0 kL n) (w0 w n) (rnds w s n)
theorem rnds_len (w s:List UInt32) (h:s.length=8):∀ n,(rnds w s n).length=8
 | 0=>h
 | n+1=>rfl
def addW (s t:List UInt32):List UInt32:=[w0 s 0+w0 t 0,w0 s 1+w0 t 1,w0 s 2+w0 t 2,w0 s 3+w0 t 3,w0 s 4+w0 t 4,w0 s 5+w0 t 5,w0 s 6+w0 t 6,w0 s 7+w0 t 7]
def blk (s:List UInt32) (p:List UInt8):List UInt32:=addW s (rnds (sched p 64) s 64)
theorem eight {s:List UInt32} (h:s.length=8):∃ a b c d e f g i,s=[a,b,c,d,e,f,g,i]:=by
 match s,h with
 | [a,b,c,d,e,f,g,i],_=>exact ⟨a,b,c,d,e,f,g,i,rfl⟩
theorem idx_at {l:List UInt32} (i:Nat) (h:i<l.length) (k:Int) (e:k=(i:Int)):idx l k=some (w0 l i):=by rw [e,idx_w0 h]
theorem add_loop (s t:List UInt32) (hs:s.length=8) (ht:t.length=8):iterC (fun s82:List UInt32×Int =>
  (if s82.2<8 then
  ((lenA 8 s82.1).bind fun c87 =>
  ((idx s82.1 s82.2).bind fun c88 =>
  ((lenA 8 t).bind fun c89 =>
  ((idx t s82.2).bind fun c90 =>
  some (.inl ((s82.1.set (s82.2:Int).toNat ((c88+c90))),(wI (s82.2+1))))))))
  else
  some (.inr s82.1))) (s,0)=some (addW s t):=by
 obtain ⟨a,b,c,d,e,f,g,i,rfl⟩:=eight hs
 obtain ⟨a',b',c',d',e',f',g',i',rfl⟩:=eight ht
 exact zbr.2 ⟨9,by kernel_rfl⟩
theorem block_eq (s:List UInt32) (p:List UInt8) (hs:s.length=8) (hp:p.length=64):zcd s p=some (blk s p):=by
 unfold zcd
 simp only [zbi hs,plan_eq p hp,constants_eq,zbi (zbc p 64),zbi (show kL.length=64 from rfl),zbi (List.length_replicate),obs]
 refine zc6 (zch (fun i=>(rnds (sched p 64) s i,(i:Int))) 64 (rnds (sched p 64) s 64) rfl ?_ ?_) ?_
 rotate_left 2
 ·rw [add_loop s _ hs (rnds_len _ _ hs _)];rfl
 ·intro i hi
  have hl:=rnds_len (sched p 64) s hs i
  simp only []
  rw [if_pos (by omega)]
  have e0:=idx_at (l:=rnds (sched p 64) s i) 0 (by omega) 0 rfl
  have e1:=idx_at (l:=rnds (sched p 64) s i) 1 (by omega) 1 rfl
  have e2:=idx_at (l:=rnds (sched p 64) s i) 2 (by omega) 2 rfl
  have e3:=idx_at (l:=rnds (sched p 64) s i) 3 (by omega) 3 rfl
  have e4:=idx_at (l:=rnds (sched p 64) s i) 4 (by omega) 4 rfl
  have e5:=idx_at (l:=rnds (sched p 64) s i) 5 (by omega) 5 rfl
  have e6:=idx_at (l:=rnds (sched p 64) s i) 6 (by omega) 6 rfl
  have e7:=idx_at (l:=rnds (sched p 64) s i) 7 (by omega) 7 rfl
  simp only [zbi hl,e0,e1,e2,e3,e4,e5,e6,e7,obs,zbi (zbc p 64),zbi (show kL.length=64 from rfl),idx_w0 (show i<(sched p 64).length by rw [zbc];exact hi),idx_w0 (show i<kL.length from hi),
   show ∀ x,zbb x 6 11 25=some ((rot x 6^^^rot x 11)^^^rot x 25) from fun x=>turned_eq x 6 11 25 (by decide) (by decide) (by decide),
   show ∀ x,zbb x 2 13 22=some ((rot x 2^^^rot x 13)^^^rot x 22) from fun x=>turned_eq x 2 13 22 (by decide) (by decide) (by decide),zcp i (by omega),
   zbi (List.length_cons.trans (congrArg (·+1) (show [_,_,_,_,_,_,_].length=7 from rfl)))]
  rfl
 ·simp only [];rw [if_neg (by omega)]
end Gk

/- The sum of bytes, whole, in plain Lean. No condition but lengths. -/
namespace Gk
open Gf
def padN (n:Nat):Nat:=(120 - (n+1) % 64) % 64
def padL (b:List UInt8):List UInt8:=(b ++ [128]) ++ List.replicate (padN b.length) 0
def padded (b:List UInt8):List UInt8:=padL b ++ by8 (UInt64.ofInt (b.length:Int) * 8)
def nbl (n:Nat):Nat:=(n+9+padN n) / 64
theorem nbl_eq (n:Nat):n+9+padN n=64 * nbl n:=by unfold nbl padN;omega
theorem padL_len (b:List UInt8):(padL b).length=b.length+1+padN b.length:=by simp only [padL,List.length_append,List.length_singleton,List.length_replicate]
theorem padded_len (b:List UInt8):(padded b).length=64 * nbl b.length:=by
 rw [← nbl_eq];simp only [padded,List.length_append,padL_len,by8_len];omega
def pcS (m:List UInt8) (j:Nat):List UInt8:=(m.drop (64 * j)).take 64
def shaS (m:List UInt8):Nat->List UInt32
 | 0=>hL
 | j+1=>blk (shaS m j) (pcS m j)
theorem shaS_len (m:List UInt8):∀ j,(shaS m j).length=8
 | 0=>rfl
 | j+1=>rfl
def sha (b:List UInt8):List UInt8:=(shaS (padded b) (nbl b.length)).flatMap by4
theorem flat4_len (x:List UInt32):(x.flatMap by4).length=4 * x.length:=by
 induction x with
 | nil=>rfl
 | cons a x ih=>rw [List.flatMap_cons,List.length_append,ih,List.length_cons];simp only [by4,List.length_cons,List.length_nil];omega
theorem sha_len (b:List UInt8):(sha b).length=32:=by rw [sha,flat4_len,shaS_len]
theorem w0_take {x:List UInt32} {i:Nat} (h:i<x.length):x.take (i+1)=x.take i ++ [w0 x i]:=by
 rw [List.take_add_one,List.getElem?_eq_getElem h,w0,List.getD_eq_getElem?_getD,List.getElem?_eq_getElem h];rfl
theorem out_loop (x:List UInt32) (hx:x.length=8) {body:List UInt8×Int->Option ((List UInt8×Int)⊕List UInt8)}
  (h1:∀ (l:List UInt8) (i:Nat),i<8->l.length<=32->body (l,(i:Int))=some (.inl (l ++ by4 (w0 x i),((i+1:Nat):Int)))) (h2:∀ l,body (l,8)=some (.inr l)) :
  iterC body ([],0)=some (x.flatMap by4):=by
 refine zch (fun i=>((x.take i).flatMap by4,(i:Int))) 8 _ (by simp) ?_ ?_
 ·intro i hi
  rw [h1 _ i hi (by rw [flat4_len,List.length_take];omega),w0_take (by omega)]
  simp
 ·rw [show ((8:Nat):Int)=8 by rfl,h2,List.take_of_length_le (by omega)]
theorem shl3 (x:UInt64):shl64 x 3=x * 8:=by
 apply UInt64.toNat_inj.1
 simp [shl64,UInt64.toNat_mul]
theorem zc7 (parts:List (List UInt8)) (h:parts.flatten.length<=1000000) (hl:parts.length<=1000000):zcl parts=some (sha parts.flatten):=by
 have hm:(1000000:Nat)+200<=most:=by decide
 unfold zcl
 rw [Concat_eq parts (by omega) (by omega),obs]
 generalize hb:parts.flatten=b at *
 have hp:padN b.length<64:=Nat.mod_lt _ (by decide)
 rw [appL_one b 128 (by omega),obs,List.length_append,List.length_singleton,show (64:Int)=((64:Nat):Int) by rfl,remI_nat _ _ (by omega),obs,
  wI_of (by omega) (by omega),show (120:Int) - ((((b.length+1) % 64:Nat)):Int)=((120 - (b.length+1) % 64:Nat):Int) by omega,remI_nat _ _ (by omega),obs,
  makeL_nat _ _ (by omega),obs]
 have e1:appL (b ++ [128]) (List.replicate ((120 - (b.length+1) % 64) % 64) 0)=some (padL b):=by
  unfold appL;rw [if_pos (by simp only [List.length_append,List.length_singleton,List.length_replicate];omega)];rfl
 rw [e1,obs,shl3,Put64_eq _ _ (by rw [padL_len];omega),obs,first_eq,obs,zbi (by simp),obs,zbi (show hL.length=8 from rfl),obs]
 rw [show padL b ++ by8 (UInt64.ofInt (b.length:Int) * 8)=padded b from rfl]
 have hn:=nbl_eq b.length
 rw [lim_of (by rw [padded_len];omega),obs]
 have hcm:∀ x∈zau (padded b) 64,x.2.length=64:=by
  intro x hx
  simp only [zau,List.mem_map,List.mem_range] at hx
  obtain ⟨j,hj,rfl⟩:=hx
  simp only [List.length_take,List.length_drop]
  rw [padded_len] at *
  omega
 have hr:=rangeL_inv (f:=fun (s41:List UInt32) (y41:Int×List UInt8)=>(zcd s41 y41.2).bind fun r45=>some r45) (fun s y=>blk s y.2) (xs:=zau (padded b) 64) (s0:=hL) (fun _ s=>s.length=8) rfl
  (fun k s x hk hx hs=>⟨by rw [block_eq s x.2 hs (hcm x hx)];rfl,rfl⟩)
 rw [hr.1,obs,zbi hr.2,obs]
 have hf:(zau (padded b) 64).foldl (fun s y=>blk s y.2) hL=shaS (padded b) (nbl b.length):=by
  unfold zau
  rw [show ((padded b).length+64 - 1) / 64=nbl b.length by rw [padded_len];omega]
  generalize nbl b.length=n
  rw [List.foldl_map]
  induction n with
  | zero=>rfl
  | succ n ih=>rw [List.range_succ,List.foldl_append,ih];simp only [List.foldl_cons,List.foldl_nil,shaS,pcS,Nat.mul_comm]
 have hlen:=hr.2
 rw [hf] at hlen ⊢
 rw [out_loop _ hlen]
 ·rfl
 ·intro l i hi hl
  simp only []
  rw [if_pos (by omega),obs,idx_w0 (by omega),obs,Put32_eq _ _ (by omega),obs,zcp _ (by omega)]
 ·intro l;rfl
end Gk

/- A literal of bytes that is a text's: its mark. No condition. -/
namespace Gk
open Go Go.RowKit
end Gk

/- A byte of a text. No condition. -/
namespace Gk
open Go Go.RowKit
variable {P : Program} {o : Oper} {f : Nat → Value}
theorem q_indexS {t:TypeId} {x y:Operand} {l:List UInt8} {i a:UInt8} (ho:o.op=.index t x y) (hu:P.underlying t=some .string) (hx:ev f x=str l) (hy:ev f y=u8 i) (hi:idx l (i.toNat:Int)=some a):Qa P o f (u8 a):=by
 intro w'
 obtain ⟨h0,h1,h2⟩:=zcc.1 hi
 have h2':l[i.toNat]?=some a:=List.getElem?_eq_some_iff.2 ⟨by simpa using h1,h2⟩
 have h3:(⟨l.toArray⟩:ByteArray)[i.toNat]?=some a:=by
  have:(⟨l.toArray⟩:ByteArray)[i.toNat]?=l[i.toNat]?:=by
   simp [getElem?_def]
   rfl
  rw [this];exact h2'
 simp [execOp,ho,hx,hy,u8,str,Instr.index,asIntOf,run_underlying hu,h3]
end Gk

/- Printed by gen.py: for each Go function a pure function, and that the Go code comes to it. No condition beside the equation that says what the pure function gives. -/
namespace Gk
open Go Go.Proofs
noncomputable def zbx (a0x:UInt64):Option Int :=
(((if (4294967296:UInt64)<=a0x then some ((shr64 a0x 32),32)
else some (a0x,0))).bind fun x1 =>
(((if (65536:UInt64)<=x1.1 then some ((shr64 x1.1 16),(wI (x1.2+16)))
else some (x1.1,x1.2))).bind fun x4 =>
(if (256:UInt64)<=x4.1 then
((idx (([0,1,2,2,3,3,3,3,4,4,4,4,4,4,4,4,5,5,5,5,5,5,5,5,5,5,5,5,5,5,5,5,6,6,6,6,6,6,6,6,6,6,6,6,6,6,6,6,6,6,6,6,6,6,6,6,6,6,6,6,6,6,6,6,7,7,7,7,7,7,7,7,7,7,7,7,7,7,7,7,7,7,7,7,7,7,7,7,7,7,7,7,7,7,7,7,7,7,7,7,7,7,7,7,7,7,7,7,7,7,7,7,7,7,7,7,7,7,7,7,7,7,7,7,7,7,7,7,8,8,8,8,8,8,8,8,8,8,8,8,8,8,8,8,8,8,8,8,8,8,8,8,8,8,8,8,8,8,8,8,8,8,8,8,8,8,8,8,8,8,8,8,8,8,8,8,8,8,8,8,8,8,8,8,8,8,8,8,8,8,8,8,8,8,8,8,8,8,8,8,8,8,8,8,8,8,8,8,8,8,8,8,8,8,8,8,8,8,8,8,8,8,8,8,8,8,8,8,8,8,8,8,8,8,8,8,8,8,8,8,8,8,8,8,8,8,8,8,8,8,8,8,8,8,8,8]:List UInt8)) (((((shr64 x4.1 8)).toUInt8)).toNat:Int)).bind fun c8 => some (wI ((wI (x4.2+8))+(c8.toNat:Int))))
else
((idx (([0,1,2,2,3,3,3,3,4,4,4,4,4,4,4,4,5,5,5,5,5,5,5,5,5,5,5,5,5,5,5,5,6,6,6,6,6,6,6,6,6,6,6,6,6,6,6,6,6,6,6,6,6,6,6,6,6,6,6,6,6,6,6,6,7,7,7,7,7,7,7,7,7,7,7,7,7,7,7,7,7,7,7,7,7,7,7,7,7,7,7,7,7,7,7,7,7,7,7,7,7,7,7,7,7,7,7,7,7,7,7,7,7,7,7,7,7,7,7,7,7,7,7,7,7,7,7,7,8,8,8,8,8,8,8,8,8,8,8,8,8,8,8,8,8,8,8,8,8,8,8,8,8,8,8,8,8,8,8,8,8,8,8,8,8,8,8,8,8,8,8,8,8,8,8,8,8,8,8,8,8,8,8,8,8,8,8,8,8,8,8,8,8,8,8,8,8,8,8,8,8,8,8,8,8,8,8,8,8,8,8,8,8,8,8,8,8,8,8,8,8,8,8,8,8,8,8,8,8,8,8,8,8,8,8,8,8,8,8,8,8,8,8,8,8,8,8,8,8,8,8,8,8,8,8,8]:List UInt8)) (((x4.1.toUInt8)).toNat:Int)).bind fun c9 => some (wI (x4.2+(c9.toNat:Int)))))))
theorem math_bits_Len64_calls (a0x:UInt64) (r:Int) (w0:World) (H:zbx a0x=some r) :
  Calls Try.prog 77 [(u64 a0x)].toArray w0 (fun e w'=>e=.returned (i64 r)/\Ext w0 w'):=by
 have hE:Ext w0 w0:=Ext.refl w0;unfold zbx at H;refine zam (n:=25) Try.func77 rfl rfl rfl ?_;refine W_seq<|W_rg<|av (i64 0) rfl rfl<|wnt<|W_seq<|?_;obtain ⟨x1,H1,H⟩:=bsi H;refine W_mid (fun f w=>f 0=(u64 x1.1)/\f 2=(i64 x1.2)/\f 25=undef/\Ext w0 w) ?_ ?_
 ·refine W_seq<|W_rg<|mv (u64 a0x) rfl rfl<|wa rfl (q_ge64 rfl rfl (cst64 (4294967296:UInt64) rfl))<|wnt<|?_;refine wci H1 rfl rfl (fun H1=>?_) (fun H1=>?_)
  ·refine W_seq<|W_rg<|mv (u64 a0x) rfl rfl<|wa rfl (q_shr64 32 rfl rfl rfl rfl)<|av (u64 ((shr64 a0x 32))) rfl rfl<|wnt<|W_rg<|av (i64 32) rfl rfl<|?_;refine zap ?_;obtain rfl:=osi H1;exact ⟨rfl,rfl,rfl,hE⟩
  refine zar ?_;obtain rfl:=osi H1;exact ⟨rfl,rfl,rfl,hE⟩
 rintro _ w3 ⟨s0_3,s2_3,s25_3,hE3⟩;refine W_th<|W_seq<|?_;obtain ⟨x4,H4,H⟩:=bsi H;refine W_mid (fun f w=>f 0=(u64 x4.1)/\f 2=(i64 x4.2)/\f 25=undef/\Ext w0 w) ?_ ?_
 ·refine W_seq<|W_rg<|mv (u64 x1.1) rfl s0_3<|wa rfl (q_ge64 rfl rfl (cst64 (65536:UInt64) rfl))<|wnt<|?_;refine wci H4 rfl rfl (fun H4=>?_) (fun H4=>?_)
  ·refine W_seq<|W_rg<|mv (u64 x1.1) rfl s0_3<|wa rfl (q_shr64 16 rfl rfl rfl rfl)<|av (u64 ((shr64 x1.1 16))) rfl rfl<|wnt<|W_rg<|mv (i64 x1.2) rfl s2_3<|?_;refine wa rfl (za2 rfl rfl rfl)<|av (i64 ((wI (x1.2+16)))) rfl rfl<|zap<|?_;obtain rfl:=osi H4;exact ⟨rfl,rfl,s25_3,hE3⟩
  refine zar ?_;obtain rfl:=osi H4;exact ⟨s0_3,s2_3,s25_3,hE3⟩
 rintro _ w6 ⟨s0_6,s2_6,s25_6,hE6⟩;refine W_th<|W_seq<|W_seq<|W_rg<|mv (u64 x4.1) rfl s0_6<|wa rfl (q_ge64 rfl rfl (cst64 (256:UInt64) rfl))<|wnt<|?_;refine wci H rfl rfl (fun H=>?_) (fun H=>?_)
 ·refine W_seq<|W_rg<|mv (u64 x4.1) rfl s0_6<|wa rfl (q_shr64 8 rfl rfl rfl rfl)<|av (u64 ((shr64 x4.1 8))) rfl rfl<|wnt<|W_rg<|mv (i64 x4.2) rfl s2_6<|?_;refine wa rfl (za2 rfl rfl rfl)<|av (i64 ((wI (x4.2+8)))) rfl rfl<|wnt<|W_seq<|W_rg<|mv (i64 ((wI (x4.2+8)))) rfl rfl<|mv (u64 ((shr64 x4.1 8))) rfl rfl<|wa rfl (q_cvt864 rfl rfl rfl rfl)<|?_;obtain ⟨c8,hc8,H⟩:=bsi H;refine wa rfl (q_indexS rfl Try.underlying9 rfl rfl hc8)<|wa rfl (q_cvtI8 rfl rfl rfl rfl)<|wa rfl (za2 rfl rfl rfl)<|av (i64 ((wI ((wI (x4.2+8))+(c8.toNat:Int))))) rfl rfl<|wnt<|W_ret<|?_;obtain rfl:=osi H;refine rt1 (i64 ((wI ((wI (x4.2+8))+(c8.toNat:Int))))) rfl rfl rfl s25_6 ?_;exact ⟨rfl,hE6⟩
 refine zar<|W_th<|W_seq<|W_rg<|mv (i64 x4.2) rfl s2_6<|mv (u64 x4.1) rfl s0_6<|wa rfl (q_cvt864 rfl rfl rfl rfl)<|?_;obtain ⟨c9,hc9,H⟩:=bsi H;refine wa rfl (q_indexS rfl Try.underlying9 rfl rfl hc9)<|wa rfl (q_cvtI8 rfl rfl rfl rfl)<|wa rfl (za2 rfl rfl rfl)<|av (i64 ((wI (x4.2+(c9.toNat:Int))))) rfl rfl<|wnt<|W_ret<|?_;obtain rfl:=osi H;refine rt1 (i64 ((wI (x4.2+(c9.toNat:Int))))) rfl rfl rfl s25_6 ?_;exact ⟨rfl,hE6⟩
noncomputable def zbs (a0x:UInt64):Option Int :=
((zbx a0x).bind fun r1 => some r1)
theorem math_bits_Len_calls (a0x:UInt64) (r:Int) (w0:World) (H:zbs a0x=some r) :
  Calls Try.prog 60 [(u64 a0x)].toArray w0 (fun e w'=>e=.returned (i64 r)/\Ext w0 w'):=by
 have hE:Ext w0 w0:=Ext.refl w0;unfold zbs at H;refine zam (n:=8) Try.func60 rfl rfl rfl ?_;refine W_seq<|W_rg<|av (i64 0) rfl rfl<|wnt<|W_seq<|?_;refine zbj false rfl rfl (fun hb=>by cases hb) (fun _=>?_);refine zar<|W_th<|W_seq<|W_rg<|mv (u64 a0x) rfl rfl<|?_;obtain ⟨r1,hr1,H⟩:=bsi H;refine wls rfl rfl (zab (vs:=[(u64 a0x)]) Try.func77 rfl rfl rfl (ar1 rfl) (math_bits_Len64_calls a0x  r1 _  hr1) ?_);rintro _ w1 ⟨rfl,x1⟩;refine ⟨_,rfl,?_⟩;have e2:=hE.trans x1;refine av (i64 r1) rfl rfl<|wnt<|W_ret<|?_;obtain rfl:=osi H;refine rt1 (i64 r1) rfl rfl rfl rfl ?_;exact ⟨rfl,e2⟩
end Gk

/- Printed by gen.py: for each Go function a pure function, and that the Go code comes to it. No condition beside the equation that says what the pure function gives. -/
namespace Gk
open Go Go.Proofs
noncomputable def zce (a0b:List UInt8):Option (List UInt8) :=
((zcl ([([(0:UInt8)]:List UInt8),a0b]:List (List UInt8))).bind fun r5 => some r5)
theorem tally_item_calls (a0b:List UInt8) (p0:Value) (r:List UInt8) (w0:World) (hp0:By w0 [] p0 a0b) (H:zce a0b=some r) :
  Calls Try.prog 39 [p0].toArray w0 (fun e w'=>∃ u0:Value,e=.returned u0/\Ext w0 w'/\Nw w0 u0/\OwK (Sc u8) w' [] 5 u0 r):=by
 have hE:Ext w0 w0:=Ext.refl w0;unfold zce at H;refine zam (n:=7) Try.func39 rfl rfl rfl ?_;refine W_seq<|W_rg<|av (.slice none 0 0) rfl rfl<|wnt<|W_seq<|W_rg<|?_;refine wls rfl rfl (zb8 (L:=[]) (R:=(Sc u8)) [(u8 0)] ([(0:UInt8)]:List UInt8) rfl T22 rfl (by exact ⟨rfl,(cst8 (0:UInt8) rfl),trivial⟩) rfl (litC u8 (oneC_u8) (us:=[(u8 0)]) (l:=([(0:UInt8)]:List UInt8)) rfl) rfl (litS u8 (us:=[(u8 0)]) (l:=([(0:UInt8)]:List UInt8)) rfl) ?_);intro v1 w1 o1 n1 g1 l1;have x1:=zaa g1;have i1:By w1 [] v1 (([(0:UInt8)]:List UInt8)):=OwK.slk (Sc.stab _) _ o1 (fun k hk=>(Old.nil _) k (n1 k hk)) (fun _ h=>h.2);have e2:=hE.trans x1;refine mv p0 rfl rfl ?_;refine wls rfl rfl (zb8 (L:=[]) (R:=By) [v1,p0] ([([(0:UInt8)]:List UInt8),a0b]:List (List UInt8)) rfl T23 rfl (by exact ⟨rfl,rfl,rfl,rfl,trivial⟩) rfl (LitR.cells (R:=By) (w:=w1) (L:=[]) (l:=([([(0:UInt8)]:List UInt8),a0b]:List (List UInt8))) (LitR.cons i1 (LitR.cons (hp0.lift (Lift.arg e2 nv_nil)) LitR.nil)) (fun u x h=>cells_sl u x h)) rfl (LitR.all (R:=By) (w:=w1) (L:=[]) (l:=([([(0:UInt8)]:List UInt8),a0b]:List (List UInt8))) (SlK.stab (Sc.stab _)) (LitR.cons i1 (LitR.cons (hp0.lift (Lift.arg e2 nv_nil)) LitR.nil))) ?_);intro v3 w3 o3 n3 g3 l3;have x3:=zaa g3;have i3:Rw w3 [] v3 (([([(0:UInt8)]:List UInt8),a0b]:List (List UInt8))):=OwK.slk (SlK.stab (Sc.stab _)) _ o3 (fun k hk=>(Old.nil _) k (n3 k hk)) (fun _ h=>h.2);have e4:=e2.trans x3;obtain ⟨r5,hr5,H⟩:=bsi H;refine wls rfl rfl (zab (vs:=[v3]) Try.func36 rfl rfl rfl (ar1 rfl) (zb2 ([([(0:UInt8)]:List UInt8),a0b]:List (List UInt8)) v3 r5 _ (i3.lift (Lift.sub (L':=[]) (fun _ _=>trivial))) hr5) ?_);rintro _ w5 ⟨v5,rfl,x5,n5_0,o5_0⟩;refine ⟨_,rfl,?_⟩;have o5:OwK (Sc u8) w5 (v5 :: []) 5 v5 r5:=OwK.scal o5_0 _;have n7:=Nw.ext e4 n5_0;have e6:=e4.trans x5;refine av v5 rfl rfl<|wnt<|W_ret<|?_;obtain rfl:=osi H;refine rt1 v5 rfl rfl rfl rfl ?_;exact ⟨v5,rfl,e6,n7,(o5.weak (Sc.stab _) (fun _ _=>trivial))⟩
noncomputable def zbf (a0a:List UInt8) (a1b:List UInt8):Option (List UInt8) :=
((zcl ([([(1:UInt8)]:List UInt8),a0a,a1b]:List (List UInt8))).bind fun r5 => some r5)
theorem zb7 (a0a:List UInt8) (a1b:List UInt8) (p0:Value) (p1:Value) (r:List UInt8) (w0:World) (hp0:By w0 [] p0 a0a) (hp1:By w0 [] p1 a1b) (H:zbf a0a a1b=some r) :
  Calls Try.prog 38 [p0,p1].toArray w0 (fun e w'=>∃ u0:Value,e=.returned u0/\Ext w0 w'/\Nw w0 u0/\OwK (Sc u8) w' [] 5 u0 r):=by
 have hE:Ext w0 w0:=Ext.refl w0;unfold zbf at H;refine zam (n:=10) Try.func38 rfl rfl rfl ?_;refine W_seq<|W_rg<|av (.slice none 0 0) rfl rfl<|wnt<|W_seq<|W_rg<|?_;refine wls rfl rfl (zb8 (L:=[]) (R:=(Sc u8)) [(u8 1)] ([(1:UInt8)]:List UInt8) rfl T22 rfl (by exact ⟨rfl,(cst8 (1:UInt8) rfl),trivial⟩) rfl (litC u8 (oneC_u8) (us:=[(u8 1)]) (l:=([(1:UInt8)]:List UInt8)) rfl) rfl (litS u8 (us:=[(u8 1)]) (l:=([(1:UInt8)]:List UInt8)) rfl) ?_);intro v1 w1 o1 n1 g1 l1;have x1:=zaa g1;have i1:By w1 [] v1 (([(1:UInt8)]:List UInt8)):=OwK.slk (Sc.stab _) _ o1 (fun k hk=>(Old.nil _) k (n1 k hk)) (fun _ h=>h.2);have e2:=hE.trans x1;refine mv p0 rfl rfl<|mv p1 rfl rfl<|?_;refine wls rfl rfl (zb8 (L:=[]) (R:=By) [v1,p0,p1] ([([(1:UInt8)]:List UInt8),a0a,a1b]:List (List UInt8)) rfl T23 rfl (by exact ⟨rfl,rfl,rfl,rfl,rfl,rfl,trivial⟩) rfl (LitR.cells (R:=By) (w:=w1) (L:=[]) (l:=([([(1:UInt8)]:List UInt8),a0a,a1b]:List (List UInt8))) (LitR.cons i1 (LitR.cons (hp0.lift (Lift.arg e2 nv_nil)) (LitR.cons (hp1.lift (Lift.arg e2 nv_nil)) LitR.nil))) (fun u x h=>cells_sl u x h)) rfl (LitR.all (R:=By) (w:=w1) (L:=[]) (l:=([([(1:UInt8)]:List UInt8),a0a,a1b]:List (List UInt8))) (SlK.stab (Sc.stab _)) (LitR.cons i1 (LitR.cons (hp0.lift (Lift.arg e2 nv_nil)) (LitR.cons (hp1.lift (Lift.arg e2 nv_nil)) LitR.nil)))) ?_);intro v3 w3 o3 n3 g3 l3;have x3:=zaa g3;have i3:Rw w3 [] v3 (([([(1:UInt8)]:List UInt8),a0a,a1b]:List (List UInt8))):=OwK.slk (SlK.stab (Sc.stab _)) _ o3 (fun k hk=>(Old.nil _) k (n3 k hk)) (fun _ h=>h.2);have e4:=e2.trans x3;obtain ⟨r5,hr5,H⟩:=bsi H;refine wls rfl rfl (zab (vs:=[v3]) Try.func36 rfl rfl rfl (ar1 rfl) (zb2 ([([(1:UInt8)]:List UInt8),a0a,a1b]:List (List UInt8)) v3 r5 _ (i3.lift (Lift.sub (L':=[]) (fun _ _=>trivial))) hr5) ?_);rintro _ w5 ⟨v5,rfl,x5,n5_0,o5_0⟩;refine ⟨_,rfl,?_⟩;have o5:OwK (Sc u8) w5 (v5 :: []) 5 v5 r5:=OwK.scal o5_0 _;have n7:=Nw.ext e4 n5_0;have e6:=e4.trans x5;refine av v5 rfl rfl<|wnt<|W_ret<|?_;obtain rfl:=osi H;refine rt1 v5 rfl rfl rfl rfl ?_;exact ⟨v5,rfl,e6,n7,(o5.weak (Sc.stab _) (fun _ _=>trivial))⟩
noncomputable def zct (a0n:Int):Option Int :=
((zbs (UInt64.ofInt ((wI (a0n - 1))))).bind fun r1 =>
((cnt ((wI (r1 - 1)))).bind fun c3 => some (shlI 1 c3)))
theorem tally_left_calls (a0n:Int) (r:Int) (w0:World) (H:zct a0n=some r) :
  Calls Try.prog 40 [(i64 a0n)].toArray w0 (fun e w'=>e=.returned (i64 r)/\Ext w0 w'):=by
 have hE:Ext w0 w0:=Ext.refl w0;unfold zct at H;refine zam (n:=9) Try.func40 rfl rfl rfl ?_;refine W_seq<|W_rg<|av (i64 0) rfl rfl<|wnt<|W_seq<|W_rg<|mv (i64 a0n) rfl rfl<|wa rfl (zby rfl rfl rfl)<|?_;refine wa rfl (q_cvt64I rfl rfl rfl rfl) ?_;obtain ⟨r1,hr1,H⟩:=bsi H;refine wls rfl rfl (zab (vs:=[(u64 ((UInt64.ofInt ((wI (a0n - 1))))))]) Try.func60 rfl rfl rfl (ar1 rfl) (math_bits_Len_calls (UInt64.ofInt ((wI (a0n - 1))))  r1 _  hr1) ?_);rintro _ w1 ⟨rfl,x1⟩;refine ⟨_,rfl,?_⟩;have e2:=hE.trans x1;refine wa rfl (zby rfl rfl rfl) ?_;obtain ⟨c3,hc3,H⟩:=bsi H;refine wa rfl (q_shlI c3 rfl rfl rfl (cnt_eq hc3))<|av (i64 ((shlI 1 c3))) rfl rfl<|wnt<|W_ret<|?_;obtain rfl:=osi H;refine rt1 (i64 ((shlI 1 c3))) rfl rfl rfl rfl ?_;exact ⟨rfl,e2⟩
noncomputable def zba:Nat->(List (List UInt8))->Option (List UInt8)
| 0,_=>none
| fu+1,a0items =>
(if (a0items.length:Int)=0 then
((zcl ([]:List (List UInt8))).bind fun r2 => some r2)
else
(if (a0items.length:Int)=1 then
((idx a0items 0).bind fun c6 =>
((zce c6).bind fun r8 => some r8))
else
((zct (a0items.length:Int)).bind fun r11 =>
((subL a0items 0 r11).bind fun c15 =>
((subL a0items r11 ((a0items.length:Int))).bind fun c16 =>
((zba fu c15).bind fun r17 =>
((zba fu c16).bind fun r19 =>
((zbf r17 r19).bind fun r21 => some r21))))))))
noncomputable def zbq (a0items:List (List UInt8)):Option (List UInt8):=zba (a0items.length+1) a0items
theorem tally_Tree_n_calls (fu:Nat):∀ (a0items:List (List UInt8)) (p0:Value) (r:List UInt8) (w0:World) (hp0:Rw w0 [] p0 a0items) (H:zba fu a0items=some r),
  Calls Try.prog 19 [p0].toArray w0 (fun e w'=>∃ u0:Value,e=.returned u0/\Ext w0 w'/\Nw w0 u0/\OwK (Sc u8) w' [] 5 u0 r):=by
 induction fu with
 | zero=>intro a0items p0 r w0 hp0 H;cases H
 | succ fu ih =>
  intro a0items p0 r w0 hp0 H;have hE:Ext w0 w0:=Ext.refl w0;rw [zba] at H;refine zam (n:=28) Try.func19 rfl rfl rfl ?_;refine W_seq<|W_rg<|av (.slice none 0 0) rfl rfl<|wnt<|W_seq<|W_rg<|mv p0 rfl rfl<|wa rfl (q_len rfl T23.sl rfl (hp0.lift (le_ hE)))<|?_;refine av (i64 ((a0items.length:Int))) rfl rfl<|wnt<|W_seq<|W_rg<|mv (i64 ((a0items.length:Int))) rfl rfl<|wnt<|zag<|W_seq<|?_;refine W_rg<|wa rfl (q_eqI rfl rfl rfl)<|av (.bool ((decide ((a0items.length:Int)=0)))) rfl rfl<|wnt<|?_;refine wci H rfl rfl (fun H=>?_) (fun H=>?_)
  ·refine W_seq<|W_rg<|?_;obtain ⟨r2,hr2,H⟩:=bsi H;refine wls rfl rfl (zab (vs:=[(.slice none 0 0)]) Try.func36 rfl rfl rfl (ar1 rfl) (zb2 ([]:List (List UInt8)) (.slice none 0 0) r2 _ (SlK.nil _ _ _) hr2) ?_);rintro _ w2 ⟨v2,rfl,x2,n2_0,o2_0⟩;refine ⟨_,rfl,?_⟩;have o2:OwK (Sc u8) w2 (v2 :: []) 5 v2 r2:=OwK.scal o2_0 _;have n4:=Nw.ext hE n2_0;have e3:=hE.trans x2;refine av v2 rfl rfl<|wnt<|W_ret<|bk_r<|?_;obtain rfl:=osi H;refine rt1 v2 rfl rfl rfl rfl ?_;exact ⟨v2,rfl,e3,n4,(o2.weak (Sc.stab _) (fun _ _=>trivial))⟩
  refine W_seq<|W_rg<|wa rfl (q_eqI rfl rfl rfl)<|av (.bool ((decide ((a0items.length:Int)=1)))) rfl rfl<|wnt<|?_;refine wci H rfl rfl (fun H=>?_) (fun H=>?_)
  ·refine W_seq<|W_rg<|mv p0 rfl rfl<|?_;obtain ⟨c6,hc6,H⟩:=bsi H;refine wa rfl (q_adr rfl T23 rfl rfl (hp0.lift (le_ hE)) hc6) ?_;refine zc2 rfl rfl rfl T23 rfl hp0 hc6 hE (fun v7 ha7=>?_);obtain ⟨r8,hr8,H⟩:=bsi H;refine wls rfl rfl (zab (vs:=[v7]) Try.func39 rfl rfl rfl (ar1 rfl) (tally_item_calls c6 v7 r8 _ (ha7.lift (le_ hE)) hr8) ?_);rintro _ w8 ⟨v8,rfl,x8,n8_0,o8_0⟩;refine ⟨_,rfl,?_⟩;have o8:OwK (Sc u8) w8 (v8 :: []) 5 v8 r8:=OwK.scal o8_0 _;have n10:=Nw.ext hE n8_0;have e9:=hE.trans x8;refine av v8 rfl rfl<|wnt<|W_ret<|bk_r<|?_;obtain rfl:=osi H;refine rt1 v8 rfl rfl rfl rfl ?_;exact ⟨v8,rfl,e9,n10,(o8.weak (Sc.stab _) (fun _ _=>trivial))⟩
  refine W_seq<|W_rg<|mv (i64 ((a0items.length:Int))) rfl rfl<|?_;obtain ⟨r11,hr11,H⟩:=bsi H;refine wls rfl rfl (zab (vs:=[(i64 ((a0items.length:Int)))]) Try.func40 rfl rfl rfl (ar1 rfl) (tally_left_calls (a0items.length:Int)  r11 _  hr11) ?_);rintro _ w11 ⟨rfl,x11⟩;refine ⟨_,rfl,?_⟩;have e12:=hE.trans x11;refine av (i64 r11) rfl rfl<|wnt<|W_seq<|?_;refine W_draw [] [(0,0),(1,0),(2,0),(4,0),(5,0),(6,0),(3,2),(7,2),(8,2),(9,0)] mixed (by kernel_rfl) (by kernel_rfl) (by kernel_rfl) (by kernel_rfl) ?_;have x13:=Ext.drew w11;have e14:=e12.trans x13;refine sv p0 rfl rfl rfl<|sv (i64 r11) rfl rfl rfl<|?_;obtain ⟨c15,hc15,H⟩:=bsi H;refine sa rfl rfl (zcf (a:=0) (b:=r11) rfl T23 rfl (hp0.lift (le_ e14)) rfl rfl hc15)<|sv p0 rfl rfl rfl<|sv (i64 r11) rfl rfl rfl<|?_;obtain ⟨c16,hc16,H⟩:=bsi H;refine sa rfl rfl (zcf (a:=r11) (b:=(a0items.length:Int)) rfl T23 rfl (hp0.lift (le_ e14)) rfl rfl hc16) ?_;obtain ⟨r17,hr17,H⟩:=bsi H;refine wsc rfl (by kernel_rfl) rfl rfl (zab (vs:=[(subV p0 (0:Int).toNat (r11:Int).toNat)]) Try.func19 rfl rfl rfl (ar1 rfl) (ih c15 (subV p0 (0:Int).toNat (r11:Int).toNat) r17 _ (SlK.cut (L:=[]) (hp0.lift (le_ e14)) hc15) hr17) ?_);rintro _ w17 ⟨v17,rfl,x17,n17_0,o17_0⟩;refine ⟨_,rfl,?_⟩;have i17_0:By w17 [] v17 r17:=OwK.slk (Sc.stab _) _ (OwK.scal o17_0 (v17 :: [])) (fun k hk=>(Old.nil _) k (n17_0 k hk)) (fun _ h=>h.2);have e18:=e14.trans x17;obtain ⟨r19,hr19,H⟩:=bsi H;refine wsc rfl (by kernel_rfl) rfl rfl (zab (vs:=[(subV p0 (r11:Int).toNat ((a0items.length:Int):Int).toNat)]) Try.func19 rfl rfl rfl (ar1 rfl) (ih c16 (subV p0 (r11:Int).toNat ((a0items.length:Int):Int).toNat) r19 _ (SlK.cut (L:=[]) (hp0.lift (le_ e18)) hc16) hr19) ?_);rintro _ w19 ⟨v19,rfl,x19,n19_0,o19_0⟩;refine ⟨_,rfl,?_⟩;have i19_0:By w19 [] v19 r19:=OwK.slk (Sc.stab _) _ (OwK.scal o19_0 (v19 :: [])) (fun k hk=>(Old.nil _) k (n19_0 k hk)) (fun _ h=>h.2);replace i17_0:=i17_0.lift (le_ x19);have e20:=e18.trans x19;obtain ⟨r21,hr21,H⟩:=bsi H;refine wsc rfl (by kernel_rfl) rfl rfl (zab (vs:=[v17,v19]) Try.func38 rfl rfl rfl (ar2 rfl rfl) (zb7 r17 r19 v17 v19 r21 _ (i17_0.lift (Lift.sub (L':=[]) (fun _ _=>trivial))) (i19_0.lift (Lift.sub (L':=[]) (fun _ _=>trivial))) hr21) ?_);rintro _ w21 ⟨v21,rfl,x21,n21_0,o21_0⟩;refine ⟨_,rfl,?_⟩;have o21:OwK (Sc u8) w21 (v21 :: []) 5 v21 r21:=OwK.scal o21_0 _
  have n23:=Nw.ext e20 n21_0;have e22:=e20.trans x21;refine sa rfl rfl (za6 (v:=v21) rfl rfl) ?_;refine zcs ?_;refine W_th<|W_ret<|bk_r<|?_;obtain rfl:=osi H;refine rt1 v21 rfl rfl rfl rfl ?_;exact ⟨v21,rfl,e22,n23,(o21.weak (Sc.stab _) (fun _ _=>trivial))⟩
theorem zbk (a0items:List (List UInt8)) (p0:Value) (r:List UInt8) (w0:World) (hp0:Rw w0 [] p0 a0items) (H:zbq a0items=some r) :
  Calls Try.prog 19 [p0].toArray w0 (fun e w'=>∃ u0:Value,e=.returned u0/\Ext w0 w'/\Nw w0 u0/\OwK (Sc u8) w' [] 5 u0 r):=tally_Tree_n_calls _ a0items p0 r w0 hp0 H
end Gk

/- Matrices of this seat's program: the struct, its field, its building. No condition. -/
namespace Gk
open Go Go.Proofs
end Gk

/- Structs of whole numbers, as values and behind pointers. No condition. -/
namespace Gk
open Go Go.RowKit
section
variable {P : Program} {o : Oper} {f : Nat → Value} {w : World} {x y : Operand} {t e T : TypeId} {g m n j : Nat} {cs : Array Value} {u v : Value} {α : Type} {enc : α → Value} {l l' : List α} {i : Int} {a b : α}
theorem q_buildS {parts:Array (Nat×Operand)} (ho:o.op=.build t parts) {ps:Array (Nat×Value)} (hp:(parts.map fun p=>(p.1,ev f p.2))=ps) (h:∀ w,(Instr.build t ps).run P w=.ok v w):Qa P o f v:=by
 intro w'
 have:(parts.map fun (i,x)=>(i,ev f x))=ps:=hp
 simp [execOp,ho,this,h]
end
section
variable {P : Program} {fn : Func} {n : Nat} {R : Ending → World → Prop} {f : Nat → Value} {w : World} {t e T : TypeId} {a g m : Nat} {α : Type} {enc : α → Value} {l : List α}
end
end Gk

/- Records of this seat's program: structs behind their pointers. No condition. -/
namespace Gk
open Go Go.Proofs Go.RowKit
theorem cells_agg (cs:Array Value):(Value.agg cs).cells=cs:=rfl
theorem zcn {o:Oper} {f:Nat->Value} {T:TypeId} {x:Operand} {g m d j:Nat} (ho:o.op=.fieldAddr T x j) (hf:∀ (a:Addr) (w:World),(Instr.fieldAt T (.pointer (some a)) j).run Try.prog w=.ok (.pointer (some (a.add d))) w) (hx:ev f x=bpo g m):Qa Try.prog o f (bpo g (m+d)):=by
 intro w'
 simp [execOp,ho,hx,hf,zbm,Addr.add]
theorem stp_storeR {o:Oper} {f:Nat->Value} {w:World} {e T:TypeId} {x y:Operand} {g m:Nat} {u:Value} {cs cs':Array Value} (L1 L2:List Value) (ho:o.op=.store e x y) (hs:∀ w,(Go.sizeOf e).run Try.prog w=.ok 1 w) (hx:ev f x=bpo g m) (hy:ev f y=u) (h:Blk w g T cs) (hm:m<cs.size) (hc:u.oneCell'=true) (hset:cs.setIfInBounds m u=cs')
  {K:Value->World->Prop} (hk:∀ w',Blk w' g T cs'->Gr w w' (bp g)->Lift w w' (L1 ++ bp g :: L2) (L1 ++ bp g :: L2)->K undef w'):Stp Try.prog o f w K :=
 stp_storeB ho hs hx hy h hm hc fun w' hB hg=>hk w' (by rw [hset] at hB;exact hB) (Gr.of hg) (Lift.own L1 L2 (Gr.of hg) (Nx.refl _ _))
def RcTa (w:World) (L:List Value) (v:Value) (c:Option (Int×List (List UInt8))):Prop :=
 (c=none/\v=.pointer none)∨∃ (x:Int×List (List UInt8)) (g:Nat) (u1:Value),c=some x/\v=bp g/\Av L g/\Blk w g 70 #[i64 x.1,u1]/\Rw w L u1 x.2
theorem RcTa.lift {w w':World} {L L':List Value} {v:Value} {c:Option (Int×List (List UInt8))} (h:RcTa w L v c) (g:Lift w w' L L'):RcTa w' L' v c:=by
 rcases h with h | ⟨x,k,u1,h1,h2,ha,hB,r1⟩
 ·exact .inl h
 ·exact .inr ⟨x,k,u1,h1,h2,g.av k hB.lt ha,g.blk k _ hB rfl ha,r1.lift g⟩
theorem RcTa.nil (w:World) (L:List Value):RcTa w L (.pointer none) none:=.inl ⟨rfl,rfl⟩
theorem RcTa.mk {w:World} {L:List Value} {g:Nat} {u1:Value} {x0:Int} {x1:List (List UInt8)} (hB:Blk w g 70 #[i64 x0,u1]) (ha:Av L g) (r1:Rw w L u1 x1):RcTa w L (bp g) (some (x0,x1)) :=
 .inr ⟨(x0,x1),g,u1,rfl,rfl,ha,hB,r1⟩
theorem RcTa.some {w:World} {L:List Value} {v:Value} {x:Int×List (List UInt8)} {c:Option (Int×List (List UInt8))} (h:RcTa w L v c) (hc:c=some x):∃ (g:Nat) (u1:Value),v=bp g/\Blk w g 70 #[i64 x.1,u1]/\Rw w L u1 x.2:=by
 rcases h with ⟨h1,_⟩ | ⟨x',g,u1,h1,h2,ha,hB,h3⟩
 ·rw [h1] at hc;cases hc
 ·rw [h1] at hc;obtain rfl:=Option.some.inj hc
  exact ⟨g,u1,h2,hB,h3⟩
theorem q_eqRTa {o:Oper} {f:Nat->Value} {w:World} {L:List Value} {x y:Operand} {v:Value} {t t' e:TypeId} {c:Option (Int×List (List UInt8))} (ho:o.op=.binOp .eql t x y t') (ht:Try.prog.underlying t=some (.pointer e)) (hx:ev f x=v) (hy:ev f y=.pointer none) (h:RcTa w L v c):Qa Try.prog o f (.bool c.isNone):=by
 rcases h with ⟨rfl,rfl⟩ | ⟨_,_,_,rfl,rfl,_⟩
 ·exact q_eqP ho ht hx hy
 ·exact q_eqP ho ht hx hy
theorem zcq (a:Addr) (w:World):(Instr.fieldAt 70 (.pointer (some a)) 0).run Try.prog w=.ok (.pointer (some (a.add 0))) w:=by
 simp [Instr.fieldAt,Instr.sureAddr,fieldPlace]
theorem zbg (a:Addr) (w:World):(Instr.fieldAt 70 (.pointer (some a)) 1).run Try.prog w=.ok (.pointer (some (a.add 1))) w:=by
 simp [Instr.fieldAt,Instr.sureAddr,fieldPlace]
theorem zeroTa:∀ w,(zeroValue 70).run Try.prog w=.ok (.agg #[(i64 0),(.slice none 0 0)]) w:=fun w=>by rw [Try.zeroValue70] <;> rfl
theorem buildTa_  (w:World):(Instr.build 70 #[]).run Try.prog w=.ok (.agg #[(i64 0),(.slice none 0 0)]) w:=by
 unfold Instr.build
 simp only [Sem.run_bind,zeroTa,Result.andThen_ok,run_underlying Try.underlying70]
 have hfill:Instr.fill (fun i=>([((0:Nat),(1:Nat)),((1:Nat),(1:Nat))]:List (Nat×Nat))[i]?) #[(i64 0),(.slice none 0 0)] []=some #[(i64 0),(.slice none 0 0)]:=by simp [Instr.fill]
 simp [Try.sizeOf3,Try.sizeOf23,cells_agg,hfill]
end Gk

/- Arrays as slices; pointers to arrays that are read. No condition. -/
namespace Gk
open Go Go.RowKit
section
variable {P : Program} {o : Oper} {f : Nat → Value} {w : World} {L : List Value} {t e T : TypeId} {n g : Nat} {l m : List UInt8}
theorem Blk.by (h:Blk w g T (ac u8 l)) (hl:l.length=n):By w [] (.slice (some ⟨g,0,none⟩) n n) l:=by
 refine ⟨l.map u8,⟨some ⟨g,0,none⟩,n,by simp [hl],by simp [hl],fun hn=>⟨g,0,rfl,trivial,fun i hi=>?_⟩⟩,by simp,fun i a1 a2=>by simp [Sc]⟩
 rw [Nat.zero_add,h.cell]
 simp at hi
 simp [ac,hi]
end
end Gk

/- Slices of arrays of sixteen bytes, read and owned. No condition. -/
namespace Gk
open Go Go.RowKit
def L16 (l:List (List UInt8)):Prop:=∀ x∈l,x.length=16
section
variable {P : Program} {o : Oper} {f : Nat → Value} {w : World} {L : List Value} {t e b : TypeId} {v : Value} {l m : List (List UInt8)} {x y : Operand} {i : Int} {a : List UInt8}
end
def OwS (w:World) (e:TypeId) (v:Value) (l:List (List UInt8)):Prop :=
 L16 l/\((v=.slice none 0 0/\l=[])∨∃ g cap cur,v=.slice (some ⟨g,0,none⟩) l.length cap/\l≠[]/\Blk w g e cur/\l.length<=cap/\cap<=maxLen/\cur.size=cap * 16/\cur.toList.take (l.length * 16)=l.flatten.map u8)
section
variable {w w' : World} {e : TypeId} {u v v' : Value} {l m : List (List UInt8)} {g : Nat}
theorem OwS.cases (h:OwS w e v l):v=.slice none 0 0∨∃ g cur,(∀ k,Hs v k ↔ g=k)/\Blk w g e cur:=by
 rcases h.2 with ⟨rfl,_⟩ | ⟨g,cap,cur,rfl,hl,hB,hc,_⟩
 ·exact .inl rfl
 ·have h0:0<l.length:=List.length_pos_iff.2 hl
  refine .inr ⟨g,cur,fun k=>⟨fun h=>?_,fun h=>?_⟩,hB⟩
  ·have:=hs_sl h;rw [zcm (by omega)] at this;exact Option.some.inj this
  ·subst h;exact .inl (zcm (by omega))
end
section
variable {P : Program} {o : Oper} {f : Nat → Value} {w : World} {t e b : TypeId} {v u : Value} {l m r : List (List UInt8)} {x s : Operand} {a : List UInt8}
end
end Gk

/- A range over a function of two values, whose assignments may lay new blocks. No condition. -/
namespace Gk
open Go Go.RowKit
section
variable {P : Program} {n : Nat} {Q : Exit → (Nat → Value) → World → Prop} {f : Nat → Value} {w : World}
theorem run_yieldcall2 {P:Program} {o:Oper} {f:Nat->Value} {w:World} {l:Nat} {x y z:Operand} {ts:Array TypeId} {a b:Value} {r:Next} (ho:o.op=.call ⟨.value x,#[y,z],ts⟩) (hx:ev f x=.func (.yield l) #[] #[]) (hy:ev f y=a) (hz:ev f z=b)
  (h:(Instr.yield l #[a,b]).run P w=.ok r w):(execOp (ev f) o).run P w=.ok r w:=by
 simp [execOp,ho,hx,hy,hz,resolve,invoke,Deferred.ofValue,h]
def RoundA (P:Program) (n l B:Nat) (body:Code) (R:World->Exit->(Nat->Value)->World->Prop) (W1:World):(Nat->Value)->World->Prop:=fun f' X' =>
 KeepsFrom B W1 X'/\∀ X2,Tn B X' X2->W (ro:=some l) P n body (R X2) f' X2
theorem W_rangeA {α:Type} {g:Operand} {p q:Tmp} {assign body:Code} {mk:Nat->Value} (hm:∀ D,fr n (upd f n (mk D))={ fr n f with defers:={ target:=.collected D,args:=#[] } :: (fr n f).defers }) (hog:okO n g=true) {gf:Nat} {lb:Array Value} (hg:ev f g=.func (.func gf) #[] lb)
  (eg:∀ args w,(callFunc gf args).run P w=.ok (.enter gf args) w)
  {ea eb:α->Value} {Rd:World->Prop} {S:List α->Prop} {N:Nat} (hseq:SeqD P gf lb (fun x=>#[ea x,eb x]) (Keep Rd) S N w)
  (hRdT:∀ W W',Tn w.heap.size W W'->Rd W->Rd W') (hp:Nat.blt p n=true) (hq:Nat.blt q n=true)
  (I:List α->World->Prop) (hI:∀ s W W',Tn w.heap.size W W'->I s W->I s W') (hD:∀ s W,I s W->I s W.drew) (h0:I [] w)
  (hround:∀ (l:Nat) (pre:List α) (x:α) (W1:World),I pre W1->pre.length<N->W (ro:=some l) P n assign (Th (RoundA P n l w.heap.size body (RoundD w.heap.size (fun _=>Rd) I (pre ++ [x])) W1) (fun _ _ _=>False)) (upd (upd (upd f n undef) p (ea x)) q (eb x)) W1)
  (hdone:∀ (D:Nat) (xs:List α) (W1:World),w.heap.size<=D->S xs->I xs W1->W1.heap[D]?=some (.deferred (some []))->Q .normal (upd f n (mk D)) W1) :
  W (ro:=none) P n (.rangeFunc g #[p,q] assign body) Q f w:=by
 unfold W
 refine (wpIn_wide (n:=0)).2 ((wpIn_wide (n:=2)).1 ?_)
 refine wpIn_rangeFunc ?_
 intro fn hfn
 obtain ⟨rc,hrc⟩:∃ rc:LoopState->Loop,rc=fun st=>{ state:=st,pending:=none,fn,tmps:=(fr n f).tmps,params:=#[p,q],assign,body,defers:=w.heap.size }:=⟨_,rfl⟩
 have hent:=run_enterLoop_outer (P:=P) (w:=w) fn (fr n f).tmps #[p,q] assign body
 have eR:({ state:=.ready,pending:=none,fn,tmps:=(fr n f).tmps,params:=#[p,q],assign,body,defers:=w.heap.size }:Loop)=rc .ready:=by rw [hrc]
 rw [eR] at hent
 generalize hA:w.alloc (.deferred (some []))=WA at hent
 generalize hB:WA.alloc (.loop (rc .ready))=WB at hent
 have sA:WA.heap.size=w.heap.size+1:=by rw [← hA];simp
 have sB:WB.heap.size=w.heap.size+2:=by rw [← hB];simp [sA]
 have tA:Tn w.heap.size w WA:=by rw [← hA];exact Tn.alloc _ _
 have tB:Tn w.heap.size WA WB:=by rw [← hB];exact Tn.alloc _ _
 have hL:WB.heap[w.heap.size+1]?=some (.loop (rc .ready)):=by
  have:=zcr WA (.loop (rc .ready))
  rwa [sA,hB] at this
 have hK:WB.heap[w.heap.size]?=some (.deferred (some [])):=by
  have h1:=zcr w (.deferred (some []))
  rw [hA] at h1
  have h2:=zb5 WA (.loop (rc .ready)) w.heap.size (by omega)
  rw [hB] at h2
  exact h2.trans h1
 have hbel:Below w.heap.size w WB:=by
  have h1:=(Below.refl w.heap.size w).alloc (Nat.le_refl _) (.deferred (some []))
  rw [hA] at h1
  have h2:=h1.alloc (by omega) (.loop (rc .ready))
  rwa [hB] at h2
 refine ⟨w.heap.size+1,[{ target:=.collected w.heap.size,args:=#[] }],WB,{ target:=.fn (.func gf) lb,args:=#[.func (.yield (w.heap.size+1)) #[] #[]] },WB,gf,#[.func (.yield (w.heap.size+1)) #[] #[]] ++ lb,WB,hent,?_,?_,?_,fun _=>by decide,?_⟩
 ·have hgv:(fr n f).eval g=.func (.func gf) #[] lb:=by rw [fr_eval n f g hog];exact hg
  simp only [resolve,hgv]
  simp [go_sem]
 ·intro f' _;trivial
 ·simp [invoke,go_sem,eg]
 refine (hseq (w.heap.size+1) (fun pre X=>I pre X/\X.heap[w.heap.size+1]?=some (.loop (rc .ready))/\X.heap[w.heap.size]?=some (.deferred (some []))) WB hbel (fun pre X h=>⟨hD pre X h.1,h.2.1,h.2.2⟩) ?_ ⟨hI _ _ _ tB (hI _ _ _ tA h0),hL,hK⟩).mono ?_
 ·rintro pre x X ⟨hi,hl,hk⟩ hlen
  have hy:=run_yield (P:=P) (args:=#[ea x,eb x]) hl (by rw [hrc];rfl)
  refine ⟨_,_,_,_,hy,?_⟩
  have hfn':Fence.wide.fn (rc .ready).fn:=trivial
  refine roundIn_of_wpIn hfn' ?_
  have hpar:({ tmps:=((rc .ready).params.zip #[ea x,eb x]).foldl (fun t (p,v)=>t.setIfInBounds p v) (rc .ready).tmps,defers:=[] }:Act)=fr n (upd (upd (upd f n undef) p (ea x)) q (eb x)):=by
   rw [hrc,← tmps_clear f];exact params2 (upd_eq f n undef) hp hq
  rw [hpar]
  have e1:(rc .ready).assign=assign:=by rw [hrc]
  have e2:(rc .ready).body=body:=by rw [hrc]
  rw [e1,e2]
  refine wpIn_mono (hround (w.heap.size+1) pre x X hi hlen) ?_
  rintro e a X' ⟨f',rfl,q⟩
  cases e <;> first | exact q.elim | skip
  obtain ⟨hx,hbody⟩:=q
  have hl':X'.heap[w.heap.size+1]?=some (.loop (rc .ready)):=hx.same _ _ (by omega) hl rfl
  have hk':X'.heap[w.heap.size]?=some (.deferred (some [])):=hx.same _ _ (Nat.le_refl _) hk rfl
  have hbr:=run_beginRound (P:=P) hl' (by rw [hrc])
  generalize hX2:X'.putObj (w.heap.size+1) (.loop { rc .ready with state:=.busy })=X2 at hbr
  have hl2:X2.heap[w.heap.size+1]?=some (.loop { rc .ready with state:=.busy }):=by rw [← hX2];exact World.putObj_heap_same (zan hl')
  have hk2:X2.heap[w.heap.size]?=some (.deferred (some [])):=by rw [← hX2];exact (World.putObj_heap_other (by omega)).trans hk'
  have t2:Tn w.heap.size X' X2:=by rw [← hX2];exact Tn.putO hl' rfl (by omega) _
  refine ⟨X2,hbr,?_⟩
  refine wpIn_mono (hbody X2 t2) ?_
  rintro e a X3 ⟨f',rfl,q⟩
  cases e <;> first | exact q.elim | skip
  obtain ⟨k3,rd3,hi3⟩:=q
  have hl3:=k3.same _ _ (by omega) hl2 rfl
  have hk3:=k3.same _ _ (Nat.le_refl _) hk2 rfl
  have her:=run_endRound (P:=P) none hl3
  have e3:({ ({ rc .ready with state:=.busy }:Loop) with state:=if (none:Option Code).isNone then .ready else .done,pending:=none }:Loop)=rc .ready:=by rw [hrc];rfl
  rw [e3] at her
  have t4:Tn w.heap.size X3 (X3.putObj (w.heap.size+1) (.loop (rc .ready))):=Tn.putO hl3 rfl (by omega) _
  refine ⟨_,_,her,rfl,⟨hI _ _ _ t4 hi3,World.putObj_heap_same (zan hl3),(World.putObj_heap_other (by omega)).trans hk3⟩,?_,fun _=>hRdT _ _ t4 rd3⟩
  exact Nat.le_trans hx.size (Nat.le_trans t2.size (Nat.le_trans k3.size t4.size))
 ·rintro e X ⟨⟨v,rfl⟩,xs,hS,hi,hl,hk⟩
  have hend:=run_endLoop (P:=P) hl (by rw [hrc];simp)
  have hp0:(rc .ready).pending=none:=by rw [hrc]
  rw [hp0] at hend
  refine ⟨none,_,hend,?_⟩
  refine ⟨_,(hm w.heap.size).symm,hdone w.heap.size xs _ (Nat.le_refl _) hS (hI _ _ _ (Tn.putO hl rfl (by omega) _) hi) ((World.putObj_heap_other (by omega)).trans hk)⟩
theorem W_rangeAS {α α' σ:Type} {mk:Nat->Value} {π:α'->α} {xs:List α} {fstep:σ->α->Option σ} {s0 r:σ} {g:Operand} {p q:Tmp} {assign body:Code} (hfold:rangeL fstep xs s0=some r)
  (hm:∀ D,fr n (upd f n (mk D))={ fr n f with defers:={ target:=.collected D,args:=#[] } :: (fr n f).defers }) (hog:okO n g=true) {gf:Nat} {lb:Array Value} (hg:ev f g=.func (.func gf) #[] lb)
  (eg:∀ args w,(callFunc gf args).run P w=.ok (.enter gf args) w)
  {ea eb:α'->Value} {Rd:World->Prop} {S:List α'->Prop} {N:Nat} (hN:N=xs.length) (hseq:SeqD P gf lb (fun x=>#[ea x,eb x]) (Keep Rd) S N w) (hS:∀ ys,S ys->ys.map π=xs) (hmem:∀ x,π x∈xs)
  (hRdT:∀ W W',Tn w.heap.size W W'->Rd W->Rd W') (hp:Nat.blt p n=true) (hq:Nat.blt q n=true)
  (I:σ->World->Prop) (hI:∀ s W W',Tn w.heap.size W W'->I s W->I s W') (hD:∀ s W,I s W->I s W.drew) (h0:I s0 w)
  (hround:∀ (l:Nat) (x:α') (s s':σ) (W1:World),I s W1->fstep s (π x)=some s'->W (ro:=some l) P n assign (Th (RoundA P n l w.heap.size body (RoundK w.heap.size Rd (I s')) W1) (fun _ _ _=>False)) (upd (upd (upd f n undef) p (ea x)) q (eb x)) W1)
  (hdone:∀ (D:Nat) (W1:World),w.heap.size<=D->I r W1->W1.heap[D]?=some (.deferred (some []))->Q .normal (upd f n (mk D)) W1) :
  W (ro:=none) P n (.rangeFunc g #[p,q] assign body) Q f w:=by
 obtain ⟨hall,hxs⟩:=rangeL_some hfold
 refine W_rangeA hm hog hg eg hseq hRdT hp hq (fun pre W=>∃ s,(pre.map π).foldlM fstep s0=some s/\I s W) ?_ ?_ ⟨s0,rfl,h0⟩ ?_ ?_
 ·rintro pre W W' t ⟨s,hs,h⟩
  exact ⟨s,hs,hI _ _ _ t h⟩
 ·rintro pre W ⟨s,hs,h⟩
  exact ⟨s,hs,hD _ _ h⟩
 ·rintro l pre x W1 ⟨s,hs,h⟩ hl
  obtain ⟨s2,h2⟩:=hall ((pre ++ [x]).map π) (by simp;omega) (fun y hy=>by
   obtain ⟨z,_,rfl⟩:=List.mem_map.1 hy
   exact hmem z)
  have h3:fstep s (π x)=some s2:=by
   rw [List.map_append,foldlM_app,hs] at h2
   simpa using h2
  refine wpIn_mono (hround l x s s2 W1 h h3) ?_
  rintro e a w' ⟨f',rfl,q⟩
  refine ⟨f',rfl,?_⟩
  cases e <;> first | exact q.elim | skip
  refine ⟨q.1,fun X2 t2=>?_⟩
  refine wpIn_mono (q.2 X2 t2) ?_
  rintro e a w' ⟨f',rfl,q⟩
  refine ⟨f',rfl,?_⟩
  cases e <;> first | exact q.elim | exact ⟨q.1,q.2.1,s2,h2,q.2.2⟩
 ·rintro D ys W1 hD hSy ⟨s,hs,h⟩ hK
  rw [hS ys hSy,hxs] at hs
  obtain rfl:=Option.some.inj hs
  exact hdone D W1 hD h hK
end
def revK {α:Type} (l:List α):List (Int×α):=(l.mapIdx fun i c=>((i:Int),c)).reverse
theorem revK_len {α:Type} (l:List α):(revK l).length=l.length:=by simp [revK]
theorem revK_get {α:Type} (l:List α) (k:Nat) (h:k<l.length):(revK l)[l.length - 1 - k]?=some ((k:Int),l[k]):=by
 simp only [revK]
 rw [List.getElem?_reverse (by simp;omega)]
 simp only [List.length_mapIdx,List.getElem?_mapIdx]
 rw [show l.length - 1 - (l.length - 1 - k)=k by omega]
 simp [h]
abbrev KEl {α:Type} (l:List α):={x:Int×α // x∈revK l}
end Gk

/- Ciphers of this seat's program: the struct behind its pointer. No condition. -/
namespace Gk
open Go Go.Proofs Go.RowKit
end Gk

/- slices.Backward over rows: what it hands back, and its iterator's contract. No condition. -/
namespace Gk
open Go Go.Proofs Go.RowKit
theorem BackwardR_calls (v:Value) (hv:v.cells=#[v]) (w:World):Calls Try.prog 37 [v].toArray w fun e w' =>
  ∃ g,e=.returned (.func (.func 59) #[] #[bp g])/\Nw w (bp g)/\Blk w' g 23 #[v]/\Ext w w':=by
 refine zam (n:=4) Try.func37 rfl rfl rfl ?_;refine W_seq<|W_rg<|?_;refine wls rfl rfl (stp_box (v:=v) rfl rfl ?_);intro w1 hb hg;rw [hv] at hb;refine av .nilFunc rfl rfl<|wnt<|W_seq<|W_rg<|wa rfl (q_mkfuncN (vs:=[bp w.heap.size]) rfl (ar1 rfl))<|av (.func (.func 59) #[] #[bp w.heap.size]) rfl rfl<|wnt<|W_ret<|?_;refine rt1 (.func (.func 59) #[] #[bp w.heap.size]) rfl rfl rfl rfl ?_;exact ⟨_,rfl,Nw.bp w,hb,zaa hg⟩
def RdR (us:List Value) (g:Nat) (v:Value) (w:World):Prop:=Blk w g 23 #[v]/\SlK (Sc (fun x:Value=>x)) w [] v us
theorem RdR.tn {us:List Value} {g B:Nat} {v:Value} {W W':World} (t:Tn B W W') (h:RdR us g v W):RdR us g v W':=⟨h.1.tn t,SlK.stab (Sc.stab _) _ _ _ _ _ _ (t.lift _) h.2⟩
theorem RdR.below {us:List Value} {g:Nat} {v:Value} {W W':World} (t:Below W.heap.size W W') (h:RdR us g v W):RdR us g v W' :=
 ⟨(t.block g h.1.lt).trans h.1,SlK.stab (Sc.stab _) _ _ _ _ _ _ ⟨fun k o ho _ _=>(t.block k (zan ho)).trans ho,fun _ _ _=>trivial⟩ h.2⟩
theorem rows_vals {w:World} {v:Value} {ls:List (List UInt8)} (h:Rw w [] v ls):∃ us:List Value,us.length=ls.length/\SlK (Sc (fun x:Value=>x)) w [] v us/\∀ y:Int×List UInt8,y∈revK ls->By w [] (us.getD y.1.toNat (.slice none 0 0)) y.2:=by
 obtain ⟨us,h1,h2,h3⟩:=h
 refine ⟨us,h2,⟨us,h1,rfl,fun i a b=>rfl⟩,fun y hy=>?_⟩
 obtain ⟨i,hi,e⟩:=List.getElem_of_mem (List.mem_reverse.1 hy)
 rw [List.getElem_mapIdx] at e
 rw [List.length_mapIdx] at hi
 subst e
 have:=h3 i (by omega) hi
 simp only [Int.toNat_natCast,List.getD_eq_getElem?_getD,List.getElem?_eq_getElem (show i<us.length by omega),Option.getD_some]
 exact this
theorem back_rows (l:List (List UInt8)) (us:List Value) (hul:us.length=l.length) (v:Value) (g:Nat) (w:World) (hrd:RdR us g v w) (hlen:l.length<9223372036854775808) :
  SeqD Try.prog 59 #[bp g] (fun x:KEl l=>#[i64 x.1.1,us.getD x.1.1.toNat (.slice none 0 0)]) (Keep (RdR us g v)) (fun ys=>ys.map (·.1)=revK l) l.length w:=by
 intro lp J W0 hW hJd hY h0;have hrd0:RdR us g v W0:=hrd.below hW;refine callsIn_wide.2 ?_
 show Calls Try.prog 59 [Value.func (.yield lp) #[] #[],bp g].toArray W0 _
 refine zam (n:=19) Try.func59 rfl rfl rfl ?_;refine W_seq<|W_rg<|wq rfl (zay (u:=v) rfl Try.isAgg23 rfl hrd0.1 rfl)<|wa rfl (q_len rfl T23.sl rfl hrd0.2)<|?_;rw [hul];refine wa rfl (zby rfl rfl rfl) ?_;have e0:wI ((l.length:Int) - 1)=(l.length:Int) - 1:=wI_of (by omega) (by omega);rw [e0];refine av (i64 ((l.length:Int) - 1)) rfl rfl<|wnt<|zag<|?_;refine W_loopG (fun k f w=>f 19=undef/\f 0=.func (.yield lp) #[] #[]/\f 1=bp g/\f 3=i64 ((k:Int) - 1)/\k<=l.length/\(∃ ys:List (KEl l),ys.map (·.1)=(revK l).take (l.length - k)/\J ys w)/\RdR us g v w) l.length ?_ ?_
 ·exact ⟨rfl,rfl,rfl,rfl,Nat.le_refl _,⟨[],by simp,h0⟩,hrd0⟩
 rintro k f w1 ⟨hm,s0,s1,s3,hk,⟨ys,hys,hJ⟩,hrd1⟩;obtain ⟨hB1,hl1⟩:=hrd1;refine W_seq<|W_seq<|W_rg<|mv (i64 ((k:Int) - 1)) rfl s3<|wa rfl (q_geI rfl rfl rfl)<|wnt<|?_;refine zbj _ rfl rfl (fun hb=>?_) (fun hb=>?_)
 ·have hk1:0<k:=by have:=of_decide_eq_true hb;omega
  have hlt:k - 1<l.length:=by omega
  have hlu:k - 1<us.length:=by omega
  have hidx:idx us ((k:Int) - 1)=some us[k - 1]:=by
   rw [show (k:Int) - 1=((k - 1:Nat):Int) by omega];simp [idx,hlu]
  have hgd:us[k - 1]=us.getD ((k:Int) - 1).toNat (.slice none 0 0):=by
   rw [show ((k:Int) - 1).toNat=k - 1 by omega];simp [List.getD_eq_getElem?_getD,hlu]
  have hget:=revK_get l (k - 1) hlt;rw [show l.length - 1 - (k - 1)=l.length - k by omega,show ((k - 1:Nat):Int)=(k:Int) - 1 by omega] at hget;have hmem:((k:Int) - 1,l[k - 1])∈revK l:=List.mem_of_getElem? hget
  have hys':(ys ++ [(⟨((k:Int) - 1,l[k - 1]),hmem⟩:KEl l)]).map (·.1)=(revK l).take (l.length - (k - 1)):=by
   rw [show l.length - (k - 1)=l.length - k+1 by omega,List.take_add_one,hget,List.map_append,hys]
   rfl
  have hyl:ys.length<l.length:=by
   have:=congrArg List.length hys;rw [List.length_map,List.length_take,revK_len] at this
   omega
  refine zar<|W_th<|W_seq<|zag<|W_seq<|W_rg<|mv (.func (.yield lp) #[] #[]) rfl s0<|mv (i64 ((k:Int) - 1)) rfl s3<|?_;refine wq rfl (zay (u:=v) rfl Try.isAgg23 s1 hB1 rfl)<|mv (i64 ((k:Int) - 1)) rfl s3<|wa rfl (q_adr rfl T23 rfl rfl hl1 hidx)<|?_;refine zc2 rfl rfl rfl T23 rfl hl1 hidx (Ext.refl _) (fun u hu=>?_);have hu':u=us.getD ((k:Int) - 1).toNat (.slice none 0 0):=Eq.trans hu hgd
  subst hu'
  obtain ⟨fn,tmps,assign,body,hy,hR⟩:=hY ys ⟨((k:Int) - 1,l[k - 1]),hmem⟩ w1 hJ hyl;refine wl_yield rfl (run_yieldcall2 rfl rfl rfl rfl hy) (hR.mono ?_);rintro e w2 ⟨rfl,hJ2,hk2⟩;refine ⟨_,rfl,?_⟩;refine wa rfl (q_not (b:=true) rfl rfl)<|wnt<|?_;refine zbj false rfl rfl (fun h=>by cases h) (fun _=>?_);refine zar<|bk_n<|W_th<|W_rg<|mv (i64 ((k:Int) - 1)) rfl s3<|wa rfl (zby rfl rfl rfl)<|?_
  have e1:wI ((k:Int) - 1 - 1)=((k - 1:Nat):Int) - 1:=by rw [wI_of (by omega) (by omega)];omega
  rw [e1];refine wla rfl rfl (za6 (v:=i64 (((k - 1:Nat):Int) - 1)) rfl rfl) ?_;refine zap ?_;exact ⟨k - 1,by omega,hm,s0,s1,rfl,by omega,⟨_,hys',hJ2⟩,hk2.2 ⟨hB1,hl1⟩⟩
 have hk0:k=0:=by have:=of_decide_eq_false hb;omega
 subst hk0
 refine zbt<|th_x<|th_x<|bk_x<|?_;refine rtn (rt0 rfl hm ?_);refine ⟨⟨_,rfl⟩,ys,?_,hJ⟩
 show ys.map (·.1)=revK l
 rw [hys,Nat.sub_zero];exact List.take_of_length_le (by rw [revK_len];omega)
end Gk

/- Slices that a function turns for its caller; functions that are values. No condition beside those of the steps. -/
namespace Gk
open Go Go.RowKit
theorem Old.exg {S:List Value} {w w':World} {L:List Value} (h:Old w L) (x:ExG S w w'):Old w' L:=fun k hk=>h k (Nat.le_trans x.size hk)
section
variable {P : Program} {o : Oper} {f : Nat → Value} {w : World}
end
end Gk

/- Where two owned things turn: what the others keep. No condition. -/
namespace Gk
open Go
section
variable {S : List Value} {w0 w w' : World} {u v b G : Value}
theorem NS.fst:NS (v :: S) w v:=fun k hk=>.inr (fun h=>h.1 hk)
theorem NS.snd:NS (u :: v :: S) w v:=fun k hk=>.inr (fun h=>h.2.1 hk)
theorem av_two {k:Nat} (h1:¬ Hs v k) (h2:¬ Hs b k):Av [v,b] k:=⟨h1,h2,trivial⟩
theorem not_av_two {k:Nat} (h:¬ Av [v,b] k):Hs v k∨Hs b k:=Classical.byContradiction fun hn=>h ⟨fun e=>hn (.inl e),fun e=>hn (.inr e),trivial⟩
theorem Ow.otherS {e:TypeId} {us:List Value} (h:Ow w e u us) (x:ExG S w w') (ha:∀ k,Hs u k->Av S k):Ow w' e u us:=by
 rcases h with h | ⟨g,cap,rfl,hc,h⟩
 ·exact .inl h
 ·have ha:Av S g:=ha g (.inl (zcm hc))
  obtain ⟨cur,hg,h1,h2,h3,h4⟩:=zbl h
  have hlt:=zan hg
  exact .inr ⟨g,cap,rfl,hc,h.1,.inr ⟨g,cap,cur,rfl,Nat.zero_le _,by rw [x.blk g hlt ha];exact hg,h1,h2,h3,h4⟩⟩
theorem OwK.otherS {α:Type} {R:World->List Value->Value->α->Prop} (hR:Stab R) {e:TypeId} {L L':List Value} {l:List α} (h:OwK R w L e u l) (x:ExG S w w') (ha:∀ k,Hs u k->Av S k) (g:Lift w w' L L'):OwK R w' L' e u l:=by
 obtain ⟨us,h,hl,he⟩:=h
 exact ⟨us,h.otherS x ha,hl,fun i h1 h2=>hR _ _ _ _ _ _ g (he i h1 h2)⟩
theorem Lift.ofS {L L':List Value} (x:ExG S w w') (h1:∀ k,Av L k->Av S k) (h2:∀ k,k<w.heap.size->Av L k->Av L' k):Lift w w' L L' :=
 ⟨fun k o ho _ ha=>(x.blk k (zan ho) (h1 k ha)).trans ho,h2⟩
theorem Ext.grownS (h:Ext w0 w) (x:ExG [v,b] w w') (hv:Nw w0 v) (hb:Nw w0 b):Ext w0 w' :=
 ⟨x.os.trans h.os,x.output.trans h.output,Nat.le_trans h.size x.size,fun k hk =>
  (x.blk k (Nat.lt_of_lt_of_le hk h.size) (av_two (fun e=>by have:=hv k e;omega) (fun e=>by have:=hb k e;omega))).trans (h.blk k hk)⟩
theorem Nw.nxS (h:Ext w0 w) (hv:Nw w0 v) (hb:Nw w0 b) (ns:NS [v,b] w u):Nw w0 u:=fun k hk=>by
 rcases ns k hk with h1 | h1
 ·exact Nat.le_trans h.size h1
 ·rcases not_av_two h1 with h1 | h1
  ·exact hv k h1
  ·exact hb k h1
theorem NS.nqS {o:Value} (ns:NS [v,b] w u) (hlt:∀ k,Hs o k->k<w.heap.size) (h1:Nq o v) (h2:Nq o b):Nq o u:=fun k ho hu=>by
 rcases ns k hu with h | h
 ·have:=hlt k ho;omega
 ·exact h (av_two (h1 k ho) (h2 k ho))
theorem NS.av {k:Nat} (ns:NS [v,b] w u) (hk:k<w.heap.size) (h1:¬ Hs v k) (h2:¬ Hs b k):¬ Hs u k:=fun e=>by
 rcases ns k e with h | h
 ·omega
 ·exact h (av_two h1 h2)
end
end Gk

/- Printed by gen.py: for each Go function a pure function, and that the Go code comes to it. No condition beside the equation that says what the pure function gives. -/
namespace Gk
open Go Go.Proofs
noncomputable def zck (a0t:Option (Int×List (List UInt8))):Option Int :=
(if a0t.isNone=true then some 0
else
((a0t).bind fun c2 => some c2.1))
theorem tally_Len_calls (a0t:Option (Int×List (List UInt8))) (p0:Value) (r:Int) (w0:World) (hp0:RcTa w0 [] p0 a0t) (H:zck a0t=some r) :
  Calls Try.prog 17 [p0].toArray w0 (fun e w'=>e=.returned (i64 r)/\Ext w0 w'):=by
 have hE:Ext w0 w0:=Ext.refl w0;unfold zck at H;refine zam (n:=9) Try.func17 rfl rfl rfl ?_;refine W_seq<|W_rg<|av (i64 0) rfl rfl<|wnt<|W_seq<|W_seq<|W_rg<|mv p0 rfl rfl<|?_;refine wa rfl (q_eqRTa rfl rfl rfl rfl (hp0.lift (le_ hE)))<|wnt<|?_;refine zbj _ rfl rfl (fun hb1=>?_) (fun hb1=>?_)
 ·replace H:=(if_pos hb1).symm.trans H;refine W_seq<|W_rg<|av (i64 0) rfl rfl<|wnt<|W_ret<|th_r<|?_;obtain rfl:=osi H;refine rt1 (i64 0) rfl rfl rfl rfl ?_;exact ⟨rfl,hE⟩
 replace H:=(if_neg (ne_true_of_eq_false hb1)).symm.trans H;refine zar<|W_th<|W_seq<|W_rg<|mv p0 rfl rfl<|?_;obtain ⟨c2,hc2,H⟩:=bsi H;obtain ⟨g2,u2_1,hv2,hB2,hu2_1⟩:=RcTa.some hp0 hc2;refine wa rfl (zb4 (g:=g2) (m:=0) rfl (Eq.trans rfl hv2))<|wa rfl (zcn (g:=g2) (m:=0) (d:=0) rfl zcq rfl)<|wq rfl (zay (u:=(i64 c2.1)) rfl Try.isAgg3 rfl (hB2.ext hE) rfl)<|av (i64 c2.1) rfl rfl<|wnt<|W_ret<|?_;obtain rfl:=osi H;refine rt1 (i64 c2.1) rfl rfl rfl rfl ?_;exact ⟨rfl,hE⟩
noncomputable def zaz (a0t:Option (Int×List (List UInt8))):Option (List UInt8) :=
(if a0t.isNone=true then some ([]:List UInt8)
else
((a0t).bind fun c2 =>
(if c2.1=0 then
((zcl ([]:List (List UInt8))).bind fun r4 => some r4)
else
((idx c2.2 ((wI ((c2.2.length:Int) - 1)))).bind fun c7 =>
((zaf c7).bind fun r9 =>
((subL c2.2 0 ((wI ((c2.2.length:Int) - 1)))).bind fun c18 =>
((lim c18.length).bind fun lim24 =>
((rangeL (fun (s24:List UInt8) (y24:Int×List UInt8) =>
((zbf y24.2 s24).bind fun r30 => some r30)) (revK c18) r9).bind fun x24 => some x24))))))))
theorem za3 (a0t:Option (Int×List (List UInt8))) (p0:Value) (r:List UInt8) (w0:World) (hp0:RcTa w0 [] p0 a0t) (H:zaz a0t=some r) :
  Calls Try.prog 18 [p0].toArray w0 (fun e w'=>∃ u0:Value,e=.returned u0/\Ext w0 w'/\Nw w0 u0/\OwK (Sc u8) w' [] 5 u0 r):=by
 have hE:Ext w0 w0:=Ext.refl w0;unfold zaz at H;refine zam (n:=44) Try.func18 rfl rfl rfl ?_;refine W_seq<|W_rg<|av (.slice none 0 0) rfl rfl<|wnt<|W_seq<|zag<|W_seq<|W_rg<|?_;refine mv p0 rfl rfl<|wa rfl (q_eqRTa rfl rfl rfl rfl (hp0.lift (le_ hE)))<|av (.bool a0t.isNone) rfl rfl<|wnt<|?_;refine zbj _ rfl rfl (fun hb1=>?_) (fun hb1=>?_)
 ·replace H:=(if_pos hb1).symm.trans H;refine W_seq<|W_rg<|av (.slice none 0 0) rfl rfl<|wnt<|W_ret<|bk_r<|th_r<|?_;obtain rfl:=osi H;refine rt1 (.slice none 0 0) rfl rfl rfl rfl ?_;exact ⟨(.slice none 0 0),rfl,hE,Nw.nil _,(OwK.nil _ _ _ _)⟩
 replace H:=(if_neg (ne_true_of_eq_false hb1)).symm.trans H;refine W_seq<|W_rg<|mv p0 rfl rfl<|?_;obtain ⟨c2,hc2,H⟩:=bsi H;obtain ⟨g2,u2_1,hv2,hB2,hu2_1⟩:=RcTa.some hp0 hc2;refine wa rfl (zb4 (g:=g2) (m:=0) rfl (Eq.trans rfl hv2))<|wa rfl (zcn (g:=g2) (m:=0) (d:=0) rfl zcq rfl)<|wq rfl (zay (u:=(i64 c2.1)) rfl Try.isAgg3 rfl (hB2.ext hE) rfl)<|wa rfl (q_eqI rfl rfl rfl)<|av (.bool ((decide (c2.1=0)))) rfl rfl<|wnt<|?_;refine wci H rfl rfl (fun H=>?_) (fun H=>?_)
 ·refine W_seq<|W_rg<|?_;obtain ⟨r4,hr4,H⟩:=bsi H;refine wls rfl rfl (zab (vs:=[(.slice none 0 0)]) Try.func36 rfl rfl rfl (ar1 rfl) (zb2 ([]:List (List UInt8)) (.slice none 0 0) r4 _ (SlK.nil _ _ _) hr4) ?_);rintro _ w4 ⟨v4,rfl,x4,n4_0,o4_0⟩;refine ⟨_,rfl,?_⟩;have o4:OwK (Sc u8) w4 (v4 :: []) 5 v4 r4:=OwK.scal o4_0 _;have n6:=Nw.ext hE n4_0;have e5:=hE.trans x4;refine av v4 rfl rfl<|wnt<|W_ret<|bk_r<|th_r<|?_;obtain rfl:=osi H;refine rt1 v4 rfl rfl rfl rfl ?_;exact ⟨v4,rfl,e5,n6,(o4.weak (Sc.stab _) (fun _ _=>trivial))⟩
 refine zar<|bk_n<|W_th<|W_seq<|W_rg<|mv p0 rfl rfl<|wa rfl (zb4 (g:=g2) (m:=0) rfl (Eq.trans rfl hv2))<|wa rfl (zcn (g:=g2) (m:=0) (d:=1) rfl zbg rfl)<|?_;refine wq rfl (zay (u:=u2_1) rfl Try.isAgg23 rfl (hB2.ext hE) rfl)<|wa rfl (q_len rfl T23.sl rfl (hu2_1.lift (le_ hE)))<|wa rfl (zby rfl rfl rfl)<|av (i64 ((wI ((c2.2.length:Int) - 1)))) rfl rfl<|wnt<|W_seq<|W_rg<|mv p0 rfl rfl<|?_;refine wa rfl (zb4 (g:=g2) (m:=0) rfl (Eq.trans rfl hv2))<|wa rfl (zcn (g:=g2) (m:=0) (d:=1) rfl zbg rfl)<|wq rfl (zay (u:=u2_1) rfl Try.isAgg23 rfl (hB2.ext hE) rfl)<|mv (i64 ((wI ((c2.2.length:Int) - 1)))) rfl rfl<|?_;obtain ⟨c7,hc7,H⟩:=bsi H;refine wa rfl (q_adr rfl T23 rfl rfl (hu2_1.lift (le_ hE)) hc7) ?_;refine zc2 rfl rfl rfl T23 rfl hu2_1 hc7 hE (fun v8 ha8=>?_);obtain ⟨r9,hr9,H⟩:=bsi H;refine wls rfl rfl (zab (vs:=[v8]) Try.func25 rfl rfl rfl (ar1 rfl) (zaw c7 v8 r9 _ (ha8.lift (le_ hE)) hr9) ?_);rintro _ w9 ⟨v9,rfl,x9,n9_0,o9_0⟩;refine ⟨_,rfl,?_⟩;have o9:OwK (Sc u8) w9 (v9 :: []) 5 v9 r9:=OwK.scal o9_0 _;have n11:=Nw.ext hE n9_0;have e10:=hE.trans x9;refine wls rfl rfl (stp_allocL (z:=(.slice none 0 0)) (cs:=#[(.slice none 0 0)]) [v9] rfl Try.zeroValue22 rfl ?_);intro g12 w12 o12 n12 g12r l12;have x12:=zaa g12r;have q13:Nq v9 (bp g12):=o9.nq n12;replace o9:=o9.extL (Sc.stab _) x12 (Lift.call _ x12 n12);have n15:=Nw.ext e10 n12;have e14:=e10.trans x12;refine wln rfl rfl (stp_storeL (u:=v9) [] [v9] rfl Try.sizeOf22 rfl rfl o12 (oc_own o9) ?_);intro w16 o16 g16 l16;replace o9:=o9.other (Sc.stab _) g16 q13 l16;have e17:=e14.grown g16 n15;refine wnt<|W_seq<|W_seq<|W_rg<|mv p0 rfl rfl<|wa rfl (zb4 (g:=g2) (m:=0) rfl (Eq.trans rfl hv2))<|wa rfl (zcn (g:=g2) (m:=0) (d:=1) rfl zbg rfl)<|wq rfl (zay (u:=u2_1) rfl Try.isAgg23 rfl (hB2.ext e17) rfl)<|?_;refine mv (i64 ((wI ((c2.2.length:Int) - 1)))) rfl rfl ?_;obtain ⟨c18,hc18,H⟩:=bsi H;refine wa rfl (zcf (a:=0) (b:=(wI ((c2.2.length:Int) - 1))) rfl T23 rfl (hu2_1.lift (le_ e17)) rfl rfl hc18) ?_;refine wls rfl rfl (zab (vs:=[(subV u2_1 (0:Int).toNat ((wI ((c2.2.length:Int) - 1)):Int).toNat)]) Try.func37 rfl rfl rfl (ar1 rfl) (BackwardR_calls _ (cells_sl _ _ (SlK.cut (L:=[]) (hu2_1.lift (le_ e17)) hc18)) _) ?_)
 rintro _ w19 ⟨g19,rfl,n19,o19,x19⟩;refine ⟨_,rfl,?_⟩;have q20:Nq (bp g12) (bp g19):=o16.nq n19;have q21:Nq v9 (bp g19):=o9.nq n19;replace o16:=o16.ext x19;replace o9:=o9.extL (Sc.stab _) x19 (Lift.call _ x19 n19);have n23:=Nw.ext e17 n19;have e22:=e17.trans x19;refine wnt<|zag<|?_;obtain ⟨lim24,hl24,H⟩:=bsi H;obtain ⟨x24,G24,H⟩:=bsi H;obtain ⟨us24,hul24,hus24,hue24⟩:=rows_vals (SlK.cut hu2_1 hc18);refine W_rangeAS (π:=fun x:KEl c18=>x.1) (xs:=revK c18) (ea:=fun x=>i64 x.1.1) (eb:=fun x=>us24.getD x.1.1.toNat (.slice none 0 0)) (Rd:=RdR us24 g19 (subV u2_1 (0:Int).toNat ((wI ((c2.2.length:Int) - 1)):Int).toNat)) (gf:=59) (lb:=#[(bp g19)]) G24 (mark_one rfl) rfl rfl (enters Try.func59 rfl rfl) (revK_len _).symm (back_rows c18 us24 hul24 (subV u2_1 (0:Int).toNat ((wI ((c2.2.length:Int) - 1)):Int).toNat) g19 _ ⟨o19,SlK.stab (Sc.stab _) _ _ _ _ _ _ (le_ e22) hus24⟩ (lim_lt hl24)) (fun ys h=>h) (fun x=>x.2) (fun _ _ t h=>RdR.tn t h) rfl rfl (fun s24 w=>∃ vbbpg12_42:Value,Ext w0 w/\OwK (Sc u8) w [vbbpg12_42,(bp g12),(bp g19)] 5 vbbpg12_42 s24/\Nw w0 vbbpg12_42/\Blk w g12 22 #[vbbpg12_42]/\Nw w0 (bp g12)/\Blk w g19 23 #[(subV u2_1 (0:Int).toNat ((wI ((c2.2.length:Int) - 1)):Int).toNat)]/\Nw w0 (bp g19)/\Nq vbbpg12_42 (bp g12)/\Nq vbbpg12_42 (bp g19)/\Nq (bp g12) (bp g19)) ?_ ?_ ⟨v9,e22,(o9.weak (Sc.stab _) (fun _ h=>⟨h.2.2.1,h.2.1,h.1,trivial⟩)),n11,o16,n15,o19,n23,q13,q21,q20⟩ ?_ ?_
 ·rintro s24 W W' t ⟨vbbpg12_25,hE25,o0_25,n0_25,o1_25,n1_25,o2_25,n2_25,q0_1_25,q0_2_25,q1_2_25⟩;exact ⟨vbbpg12_25,(hE25.tn t e22.size),(o0_25.tn (Sc.stab _) t),n0_25,(o1_25.tn t),n1_25,(o2_25.tn t),n2_25,q0_1_25,q0_2_25,q1_2_25⟩
 ·rintro s24 W ⟨vbbpg12_26,hE26,o0_26,n0_26,o1_26,n1_26,o2_26,n2_26,q0_1_26,q0_2_26,q1_2_26⟩;have t:=Ext.drew W;exact ⟨vbbpg12_26,(hE26.trans t),(o0_26.extL (Sc.stab _) t (le_ t)),n0_26,(o1_26.ext t),n1_26,(o2_26.ext t),n2_26,q0_1_26,q0_2_26,q1_2_26⟩
 ·rintro l ⟨y24,hy24⟩ s24 sp24 w27 ⟨vbbpg12_27,hE27,o0_27,n0_27,o1_27,n1_27,o2_27,n2_27,q0_1_27,q0_2_27,q1_2_27⟩ H24;have kf24:=KeepsFrom.refl w19.heap.size w27;refine W_rg<|av (us24.getD y24.1.toNat (.slice none 0 0)) rfl rfl<|zap<|?_;refine ⟨kf24,?_⟩;intro X28 t28;replace o0_27:=o0_27.tn (Sc.stab _) t28;replace o1_27:=o1_27.tn t28;replace o2_27:=o2_27.tn t28;have e29:=hE27.tn t28 e22.size;have kf28:=KeepsFrom.refl w19.heap.size X28;refine zag<|W_rg<|mv (us24.getD y24.1.toNat (.slice none 0 0)) rfl rfl<|wq rfl (zay (u:=vbbpg12_27) rfl Try.isAgg22 rfl o1_27 rfl)<|?_;obtain ⟨r30,hr30,H24⟩:=bsi H24;refine wls rfl rfl (zab (vs:=[(us24.getD y24.1.toNat (.slice none 0 0)),vbbpg12_27]) Try.func38 rfl rfl rfl (ar2 rfl rfl) (zb7 y24.2 s24 (us24.getD y24.1.toNat (.slice none 0 0)) vbbpg12_27 r30 _ ((hue24 _ hy24).lift (le_ e29)) (o0_27.rd (Sc.stab _)) hr30) ?_);rintro _ w30 ⟨v30,rfl,x30,n30_0,o30_0⟩;refine ⟨_,rfl,?_⟩;have o30:OwK (Sc u8) w30 (v30 :: [vbbpg12_27,(bp g12),(bp g19)]) 5 v30 r30:=OwK.scal o30_0 _;have q32:Nq (bp g12) v30:=o1_27.nq n30_0;have q33:Nq (bp g19) v30:=o2_27.nq n30_0;replace o1_27:=o1_27.ext x30;have k34:=kf28.ext x30;have n36:=Nw.ext e29 n30_0;have e35:=e29.trans x30;refine wln rfl rfl (stp_storeL (u:=v30) [v30,vbbpg12_27] [(bp g19)] rfl Try.sizeOf22 rfl rfl o1_27 (oc_own o30) ?_);intro w37 o37 g37 l37;have k38:=k34.own g37 o1_27.cl;replace o30:=o30.other (Sc.stab _) g37 q32.symm l37;replace o2_27:=(o2_27.ext x30).other g37 q1_2_27.symm;have e39:=e35.grown g37 n1_27;refine zap<|bk_n<|?_;obtain rfl:=osi H24;exact ⟨k38,⟨o2_27,SlK.stab (Sc.stab _) _ _ _ _ _ _ (le_ e39) hus24⟩,v30,e39,(o30.weak (Sc.stab _) (fun _ h=>⟨h.1,h.2.2.1,h.2.2.2.1,trivial⟩)),n36,o37,n1_27,o2_27,n2_27,q32.symm,q33.symm,q1_2_27⟩
 intro D24 w40 hD24 ⟨vbbpg12_40,hE40,o0_40,n0_40,o1_40,n1_40,o2_40,n2_40,q0_1_40,q0_2_40,q1_2_40⟩ hK24;have hd24:=Nat.le_trans e22.size hD24;have kd24:=KeepsFrom.refl 0 w40;refine bk_n<|W_th<|W_seq<|W_rg<|wq rfl (zay (u:=vbbpg12_40) rfl Try.isAgg22 rfl o1_40 rfl)<|av vbbpg12_40 rfl rfl<|wnt<|W_ret<|?_;obtain rfl:=osi H;have hk41:=kd24.same D24 _ (Nat.zero_le _) hK24 rfl;have t41:=Tn.put hk41 hd24 (.deferred none);refine rtm1 vbbpg12_40 rfl rfl rfl rfl hk41 ?_;exact ⟨vbbpg12_40,rfl,(hE40.tn t41 (Nat.le_refl _)),n0_40,((o0_40.tn (Sc.stab _) t41).weak (Sc.stab _) (fun _ _=>trivial))⟩
noncomputable def zc1 (a0t:Int×List (List UInt8)) (a1b:List UInt8):Option (Int×List (List UInt8)) :=
((zce a1b).bind fun r1 =>
((iterC (fun s3:List (List UInt8)×List UInt8×Int =>
(if (andI s3.2.2 1)=1 then
((idx s3.1 ((wI ((s3.1.length:Int) - 1)))).bind fun c6 =>
((zbf c6 s3.2.1).bind fun r8 =>
((subL s3.1 0 ((wI ((s3.1.length:Int) - 1)))).bind fun c10 => some (.inl (c10,r8,(shrI s3.2.2 1))))))
else some (.inr (s3.1,s3.2.1)))) (a0t.2,r1,a0t.1)).bind fun x3 =>
((appL x3.1 (([x3.2]:List (List UInt8)))).bind fun c20 => some ((wI (a0t.1+1)),c20))))
theorem tally_Add_calls (a0t:Int×List (List UInt8)) (a1b:List UInt8) (gio0:Nat) (fv0:Value) (p1:Value) (r:Int×List (List UInt8)) (w0:World) (L0:List Value) (hL0:Old w0 L0) (hio0:Blk w0 gio0 70 #[(i64 a0t.1),fv0]) (hof0:OwK By w0 (fv0 :: (bp gio0) :: L0) 22 fv0 a0t.2) (hqf0:Nq fv0 (bp gio0)) (hp1:By w0 [fv0,(bp gio0)] p1 a1b) (H:zc1 a0t a1b=some r) :
  Calls Try.prog 20 [(bp gio0),p1].toArray w0 (fun e w'=>∃ fu:Value,e=.returned (.tuple #[])/\ExG [fv0,(bp gio0)] w0 w'/\Blk w' gio0 70 #[(i64 r.1),fu]/\OwK By w' (fu :: (bp gio0) :: L0) 22 fu r.2/\NS [fv0,(bp gio0)] w0 fu/\Nq fu (bp gio0)):=by
 have hE:ExG [fv0,(bp gio0)] w0 w0:=ExG.refl _ w0;unfold zc1 at H;refine zam (n:=61) Try.func20 rfl rfl rfl ?_;refine W_seq<|W_seq<|W_rg<|mv (bp gio0) rfl rfl<|wa rfl (q_eqP rfl rfl rfl rfl)<|wnt<|?_;refine zbj false rfl rfl (fun hb=>by cases hb) (fun _=>?_);refine zar<|W_th<|W_seq<|W_rg<|mv p1 rfl rfl<|?_;obtain ⟨r1,hr1,H⟩:=bsi H;refine wls rfl rfl (zab (vs:=[p1]) Try.func39 rfl rfl rfl (ar1 rfl) (tally_item_calls a1b p1 r1 _ (hp1.lift (Lift.exg0 hE)) hr1) ?_);rintro _ w1 ⟨v1,rfl,x1,n1_0,o1_0⟩;refine ⟨_,rfl,?_⟩;have i1_0:By w1 (fv0 :: (bp gio0) :: L0) v1 r1:=OwK.slk (Sc.stab _) _ (OwK.scal o1_0 (v1 :: (fv0 :: (bp gio0) :: L0))) (fun k hk=>(Old.cons (Old.cons (hL0.exg hE) hio0.ltB) hof0.lt) k (n1_0 k hk)) (fun _ h=>h.2);replace hof0:=hof0.extL (SlK.stab (Sc.stab _)) x1 (le_ x1);replace hio0:=hio0.ext x1;have e2:=hE.trans x1;refine av v1 rfl rfl<|wnt<|W_seq<|W_seq<|W_rg<|mv (bp gio0) rfl rfl<|wa rfl (zb4 rfl rfl)<|wa rfl (zcn (g:=gio0) (m:=0) (d:=0) rfl zcq rfl)<|?_;refine wq rfl (zay (u:=(i64 a0t.1)) rfl Try.isAgg3 rfl hio0 rfl)<|av (i64 a0t.1) rfl rfl<|wnt<|?_;obtain ⟨x3,G3,H⟩:=bsi H;refine W_mid (fun f w=>∃ vbbpgio01_28:Value,∃ v4_28:Value,f 0=(bp gio0)/\f 4=v4_28/\f 61=undef/\ExG [fv0,(bp gio0)] w0 w/\OwK By w (vbbpgio01_28 :: (bp gio0) :: L0) 22 vbbpgio01_28 x3.1/\NS [fv0,(bp gio0)] w0 vbbpgio01_28/\Blk w gio0 70 #[(i64 a0t.1),vbbpgio01_28]/\NS [fv0,(bp gio0)] w0 (bp gio0)/\Nq vbbpgio01_28 (bp gio0)/\By w (vbbpgio01_28 :: (bp gio0) :: L0) v4_28 x3.2) ?_ ?_
 ·refine zag ?_;refine zca (fun s3 f w=>∃ vbbpgio01_16:Value,∃ v4_16:Value,f 0=(bp gio0)/\f 4=v4_16/\f 5=(i64 s3.2.2)/\f 61=undef/\ExG [fv0,(bp gio0)] w0 w/\OwK By w (vbbpgio01_16 :: (bp gio0) :: L0) 22 vbbpgio01_16 s3.1/\NS [fv0,(bp gio0)] w0 vbbpgio01_16/\Blk w gio0 70 #[(i64 a0t.1),vbbpgio01_16]/\NS [fv0,(bp gio0)] w0 (bp gio0)/\Nq vbbpgio01_16 (bp gio0)/\By w (vbbpgio01_16 :: (bp gio0) :: L0) v4_16 s3.2.1) G3 ?_ ?_
  ·exact ⟨fv0,v1,rfl,rfl,rfl,rfl,e2,hof0,NS.fst,hio0,NS.snd,hqf0,i1_0⟩
  rintro s3 _ _ w4 ⟨vbbpgio01_4,v4_4,s0_4,s4_4,s5_4,s61_4,hE4,o0_4,n0_4,o1_4,n1_4,q0_1_4,i0_4⟩ H3 hr3;refine W_seq<|W_seq<|W_rg<|mv (i64 s3.2.2) rfl s5_4<|wa rfl (q_andI rfl rfl rfl)<|wa rfl (q_eqI rfl rfl rfl)<|wnt<|?_;refine wci H3 rfl rfl (fun H3=>?_) (fun H3=>?_)
  ·refine zar<|W_th<|W_seq<|zag<|W_seq<|W_rg<|mv (bp gio0) rfl s0_4<|wa rfl (zb4 rfl rfl)<|?_;refine wa rfl (zcn (g:=gio0) (m:=0) (d:=1) rfl zbg rfl)<|wq rfl (zay (u:=vbbpgio01_4) rfl Try.isAgg23 rfl o1_4 rfl)<|wa rfl (q_len rfl T23.sl rfl (o0_4.rd (SlK.stab (Sc.stab _))))<|wa rfl (zby rfl rfl rfl)<|av (i64 ((wI ((s3.1.length:Int) - 1)))) rfl rfl<|wnt<|W_seq<|W_rg<|?_;refine mv (bp gio0) rfl s0_4<|wa rfl (zb4 rfl rfl)<|wa rfl (zcn (g:=gio0) (m:=0) (d:=1) rfl zbg rfl)<|wq rfl (zay (u:=vbbpgio01_4) rfl Try.isAgg23 rfl o1_4 rfl)<|mv (i64 ((wI ((s3.1.length:Int) - 1)))) rfl rfl<|?_;obtain ⟨c6,hc6,H3⟩:=bsi H3;refine wa rfl (q_adr rfl T23 rfl rfl (o0_4.rd (SlK.stab (Sc.stab _))) hc6) ?_;refine wlq_loadO (SlK.stab (Sc.stab _)) rfl rfl rfl T23 rfl o0_4 hc6 (fun v7 i7=>?_);replace i7:By w4 (vbbpgio01_4 :: (bp gio0) :: L0) v7 c6:=i7;refine mv v4_4 rfl s4_4 ?_;obtain ⟨r8,hr8,H3⟩:=bsi H3;refine wls rfl rfl (zab (vs:=[v7,v4_4]) Try.func38 rfl rfl rfl (ar2 rfl rfl) (zb7 c6 s3.2.1 v7 v4_4 r8 _ (i7.lift (Lift.sub (L':=[]) (fun _ _=>trivial))) (i0_4.lift (Lift.sub (L':=[]) (fun _ _=>trivial))) hr8) ?_);rintro _ w8 ⟨v8,rfl,x8,n8_0,o8_0⟩;refine ⟨_,rfl,?_⟩;have i8_0:By w8 (vbbpgio01_4 :: (bp gio0) :: L0) v8 r8:=OwK.slk (Sc.stab _) _ (OwK.scal o8_0 (v8 :: (vbbpgio01_4 :: (bp gio0) :: L0))) (fun k hk=>(Old.cons (Old.cons (hL0.exg hE4) o1_4.ltB) o0_4.lt) k (n8_0 k hk)) (fun _ h=>h.2);replace o0_4:=o0_4.extL (SlK.stab (Sc.stab _)) x8 (le_ x8);replace o1_4:=o1_4.ext x8;have e9:=hE4.trans x8;refine av v8 rfl rfl<|wnt<|W_rg<|mv (bp gio0) rfl s0_4<|mv (bp gio0) rfl s0_4<|wa rfl (zb4 rfl rfl)<|wa rfl (zcn (g:=gio0) (m:=0) (d:=1) rfl zbg rfl)<|wq rfl (zay (u:=vbbpgio01_4) rfl Try.isAgg23 rfl o1_4 rfl)<|?_;refine mv (i64 ((wI ((s3.1.length:Int) - 1)))) rfl rfl ?_;obtain ⟨c10,hc10,H3⟩:=bsi H3;refine wa rfl (zcf (a:=0) (b:=(wI ((s3.1.length:Int) - 1))) rfl T23 rfl (o0_4.rd (SlK.stab (Sc.stab _))) rfl rfl hc10) ?_;obtain ⟨o10,nx10,l10⟩:=own_cut (lo:=0) (hi:=(wI ((s3.1.length:Int) - 1))) (SlK.stab (Sc.stab _)) [] ((bp gio0) :: L0) o0_4 rfl hc10
   have q11:Nq (bp gio0) (subV vbbpgio01_4 (0:Int).toNat ((wI ((s3.1.length:Int) - 1)):Int).toNat):=o1_4.nxt q0_1_4.symm nx10;replace o1_4:=o1_4.other (Gr.refl _ _) q0_1_4.symm;have e12:=e9.grown (Gr.refl _ _) n0_4;have n13:=NS.nxt e9 n0_4 nx10;refine wa rfl (zb4 rfl rfl)<|wa rfl (zcn (g:=gio0) (m:=0) (d:=1) rfl zbg rfl)<|?_;refine wln rfl rfl (stp_storeR (u:=(subV vbbpgio01_4 (0:Int).toNat ((wI ((s3.1.length:Int) - 1)):Int).toNat)) (cs':=#[(i64 a0t.1),(subV vbbpgio01_4 (0:Int).toNat ((wI ((s3.1.length:Int) - 1)):Int).toNat)]) [(subV vbbpgio01_4 (0:Int).toNat ((wI ((s3.1.length:Int) - 1)):Int).toNat)] (L0) rfl Try.sizeOf23 rfl rfl o1_4 (Nat.le_of_ble_eq_true rfl) (oc_own o10) rfl ?_);intro w14 o14 g14 l14;replace i8_0:=(i8_0.lift l10).lift l14;replace o10:=o10.other (SlK.stab (Sc.stab _)) g14 q11.symm l14;have e15:=e12.grown g14 n1_4;refine zap<|bk_n<|W_th<|W_rg<|mv (i64 s3.2.2) rfl s5_4<|wa rfl (q_shrI 1 rfl rfl rfl rfl)<|av (i64 ((shrI s3.2.2 1))) rfl rfl<|zap<|?_;obtain rfl:=osi H3;exact ⟨_,rfl,(subV vbbpgio01_4 (0:Int).toNat ((wI ((s3.1.length:Int) - 1)):Int).toNat),v8,s0_4,rfl,rfl,s61_4,e15,o10,n13,o14,n1_4,q11.symm,i8_0⟩
  refine zbt<|th_x<|?_;obtain rfl:=osi H3;obtain rfl:=hr3 _ rfl;refine th_x<|bk_x<|?_;exact ⟨vbbpgio01_4,v4_4,s0_4,s4_4,s61_4,hE4,o0_4,n0_4,o1_4,n1_4,q0_1_4,i0_4⟩
 rintro _ w17 ⟨vbbpgio01_17,v4_17,s0_17,s4_17,s61_17,hE17,o0_17,n0_17,o1_17,n1_17,q0_1_17,i0_17⟩;refine W_th<|W_seq<|W_rg<|mv (bp gio0) rfl s0_17<|mv (bp gio0) rfl s0_17<|wa rfl (zb4 rfl rfl)<|wa rfl (zcn (g:=gio0) (m:=0) (d:=1) rfl zbg rfl)<|wq rfl (zay (u:=vbbpgio01_17) rfl Try.isAgg23 rfl o1_17 rfl)<|?_;refine mv v4_17 rfl s4_17 ?_;refine wls rfl rfl (zb8 (L:=(vbbpgio01_17 :: (bp gio0) :: L0)) (R:=By) [v4_17] ([x3.2]:List (List UInt8)) rfl T23 rfl (by exact ⟨rfl,rfl,trivial⟩) rfl (LitR.cells (R:=By) (w:=w17) (L:=(vbbpgio01_17 :: (bp gio0) :: L0)) (l:=([x3.2]:List (List UInt8))) (LitR.cons i0_17 LitR.nil) (fun u x h=>cells_sl u x h)) rfl (LitR.all (R:=By) (w:=w17) (L:=(vbbpgio01_17 :: (bp gio0) :: L0)) (l:=([x3.2]:List (List UInt8))) (SlK.stab (Sc.stab _)) (LitR.cons i0_17 LitR.nil)) ?_);intro v18 w18 o18 n18 g18 l18;have x18:=zaa g18;have i18:Rw w18 (vbbpgio01_17 :: (bp gio0) :: L0) v18 (([x3.2]:List (List UInt8))):=OwK.slk (SlK.stab (Sc.stab _)) _ o18 (fun k hk=>(Old.cons (Old.cons (hL0.exg hE17) o1_17.ltB) o0_17.lt) k (n18 k hk)) (fun _ h=>h.2);replace o0_17:=o0_17.extL (SlK.stab (Sc.stab _)) x18 (le_ x18);replace o1_17:=o1_17.ext x18;have e19:=hE17.trans x18;obtain ⟨c20,hc20,H⟩:=bsi H;refine wls rfl rfl (zb1 (R:=By) (v:=vbbpgio01_17) (u:=v18) (SlK.stab (Sc.stab _)) [] ((bp gio0) :: L0) rfl T23 rfl rfl o0_17 i18 (fun _ _ h=>h) hc20 oc_sl ?_);intro v20 w20 o20 g20 nx20 l20;have q21:Nq (bp gio0) v20:=o1_17.nxt q0_1_17.symm nx20;replace o1_17:=o1_17.other g20 q0_1_17.symm;have e22:=e19.grown g20 n0_17;have n23:=NS.nxt e19 n0_17 nx20;refine wa rfl (zb4 rfl rfl)<|wa rfl (zcn (g:=gio0) (m:=0) (d:=1) rfl zbg rfl)<|?_;refine wln rfl rfl (stp_storeR (u:=v20) (cs':=#[(i64 a0t.1),v20]) [v20] (L0) rfl Try.sizeOf23 rfl rfl o1_17 (Nat.le_of_ble_eq_true rfl) (oc_own o20) rfl ?_);intro w24 o24 g24 l24;replace o20:=o20.other (SlK.stab (Sc.stab _)) g24 q21.symm l24;have e25:=e22.grown g24 n1_17;refine wnt<|W_rg<|mv (bp gio0) rfl s0_17<|wa rfl (zb4 rfl rfl)<|wa rfl (zcn (g:=gio0) (m:=0) (d:=0) rfl zcq rfl)<|wq rfl (zay (u:=(i64 a0t.1)) rfl Try.isAgg3 rfl o24 rfl)<|wa rfl (za2 rfl rfl rfl)<|wa rfl (zb4 rfl rfl)<|?_;refine wa rfl (zcn (g:=gio0) (m:=0) (d:=0) rfl zcq rfl) ?_;refine wln rfl rfl (stp_storeR (u:=(i64 ((wI (a0t.1+1))))) (cs':=#[(i64 ((wI (a0t.1+1)))),v20]) [v20] (L0) rfl Try.sizeOf3 rfl rfl o24 (Nat.le_of_ble_eq_true rfl) rfl rfl ?_)
 intro w26 o26 g26 l26;replace o20:=o20.other (SlK.stab (Sc.stab _)) g26 q21.symm l26;have e27:=e25.grown g26 n1_17;refine zap ?_;refine rtn ?_;obtain rfl:=osi H;refine rt0 rfl s61_17 ?_;exact ⟨v20,rfl,e27,o26,(o20.weak (SlK.stab (Sc.stab _)) (show ∀ k,Av (v20 :: (bp gio0) :: L0) k->Av (v20 :: (bp gio0) :: L0) k from fun _ h=>⟨h.1,h.2.1,h.2.2⟩)),n23,q21.symm⟩
noncomputable def zbn :Option Bool :=
((zbq ([([]:List UInt8)]:List (List UInt8))).bind fun r5 =>
(if (r5.length:Int)=32 then
((idx r5 0).bind fun c8 =>
(if c8=(110:UInt8) then
((idx r5 1).bind fun c10 =>
(if c10=(52:UInt8) then
((idx r5 2).bind fun c12 =>
(if c12=(11:UInt8) then
((idx r5 3).bind fun c14 => some (decide (c14=(156:UInt8))))
else some false))
else some false))
else some false))
else some false))
theorem zb0  (r:Bool) (w0:World) (H:zbn=some r) :
  Calls Try.prog 14 [].toArray w0 (fun e w'=>e=.returned (.bool r)/\Ext w0 w'):=by
 have hE:Ext w0 w0:=Ext.refl w0;unfold zbn at H;refine zam (n:=32) Try.func14 rfl rfl rfl ?_;refine W_seq<|W_rg<|av (.bool false) rfl rfl<|wnt<|W_seq<|W_rg<|?_;refine wls rfl rfl (zb8 (L:=[]) (R:=(Sc u8)) [] ([]:List UInt8) rfl T22 rfl (by exact trivial) rfl (litC u8 (oneC_u8) (us:=[]) (l:=([]:List UInt8)) rfl) rfl (litS u8 (us:=[]) (l:=([]:List UInt8)) rfl) ?_);intro v1 w1 o1 n1 g1 l1;have x1:=zaa g1;have i1:By w1 [] v1 (([]:List UInt8)):=OwK.slk (Sc.stab _) _ o1 (fun k hk=>(Old.nil _) k (n1 k hk)) (fun _ h=>h.2);have e2:=hE.trans x1;refine wls rfl rfl (zb8 (L:=[]) (R:=By) [v1] ([([]:List UInt8)]:List (List UInt8)) rfl T23 rfl (by exact ⟨rfl,rfl,trivial⟩) rfl (LitR.cells (R:=By) (w:=w1) (L:=[]) (l:=([([]:List UInt8)]:List (List UInt8))) (LitR.cons i1 LitR.nil) (fun u x h=>cells_sl u x h)) rfl (LitR.all (R:=By) (w:=w1) (L:=[]) (l:=([([]:List UInt8)]:List (List UInt8))) (SlK.stab (Sc.stab _)) (LitR.cons i1 LitR.nil)) ?_);intro v3 w3 o3 n3 g3 l3;have x3:=zaa g3;have i3:Rw w3 [] v3 (([([]:List UInt8)]:List (List UInt8))):=OwK.slk (SlK.stab (Sc.stab _)) _ o3 (fun k hk=>(Old.nil _) k (n3 k hk)) (fun _ h=>h.2);have e4:=e2.trans x3;obtain ⟨r5,hr5,H⟩:=bsi H;refine wls rfl rfl (zab (vs:=[v3]) Try.func19 rfl rfl rfl (ar1 rfl) (zbk ([([]:List UInt8)]:List (List UInt8)) v3 r5 _ (i3.lift (Lift.sub (L':=[]) (fun _ _=>trivial))) hr5) ?_);rintro _ w5 ⟨v5,rfl,x5,n5_0,o5_0⟩;refine ⟨_,rfl,?_⟩;have i5_0:By w5 [] v5 r5:=OwK.slk (Sc.stab _) _ (OwK.scal o5_0 (v5 :: [])) (fun k hk=>(Old.nil _) k (n5_0 k hk)) (fun _ h=>h.2);have e6:=e4.trans x5;refine av v5 rfl rfl<|wnt<|W_seq<|W_rg<|mv v5 rfl rfl<|wa rfl (q_len rfl T22.sl rfl i5_0)<|wa rfl (q_eqI rfl rfl rfl)<|?_;refine wlb rfl rfl (zcw (v:=(.bool ((decide ((r5.length:Int)=32))))) rfl rfl) (fun hb7=>?_) (fun hb7=>?_)
 ·replace H:=ifp hb7 H;refine mv v5 rfl rfl ?_;obtain ⟨c8,hc8,H⟩:=bsi H;refine wa rfl (q_adr rfl T22 rfl rfl i5_0 hc8)<|wq rfl (q_loadS rfl T22 rfl i5_0 hc8)<|wa rfl (q_eq8 rfl rfl (cst8 (110:UInt8) rfl))<|wa rfl (zcb (v:=(.bool ((decide (c8=(110:UInt8)))))) rfl rfl rfl)<|?_;refine wlb rfl rfl (zcw (v:=(.bool ((decide (c8=(110:UInt8)))))) rfl rfl) (fun hb9=>?_) (fun hb9=>?_)
  ·replace H:=ifp hb9 H;refine mv v5 rfl rfl ?_;obtain ⟨c10,hc10,H⟩:=bsi H;refine wa rfl (q_adr rfl T22 rfl rfl i5_0 hc10)<|wq rfl (q_loadS rfl T22 rfl i5_0 hc10)<|wa rfl (q_eq8 rfl rfl (cst8 (52:UInt8) rfl))<|wa rfl (zcb (v:=(.bool ((decide (c10=(52:UInt8)))))) rfl rfl rfl)<|?_;refine wlb rfl rfl (zcw (v:=(.bool ((decide (c10=(52:UInt8)))))) rfl rfl) (fun hb11=>?_) (fun hb11=>?_)
   ·replace H:=ifp hb11 H;refine mv v5 rfl rfl ?_;obtain ⟨c12,hc12,H⟩:=bsi H;refine wa rfl (q_adr rfl T22 rfl rfl i5_0 hc12)<|wq rfl (q_loadS rfl T22 rfl i5_0 hc12)<|wa rfl (q_eq8 rfl rfl (cst8 (11:UInt8) rfl))<|wa rfl (zcb (v:=(.bool ((decide (c12=(11:UInt8)))))) rfl rfl rfl)<|?_;refine wlb rfl rfl (zcw (v:=(.bool ((decide (c12=(11:UInt8)))))) rfl rfl) (fun hb13=>?_) (fun hb13=>?_)
    ·replace H:=ifp hb13 H;refine mv v5 rfl rfl ?_;obtain ⟨c14,hc14,H⟩:=bsi H;refine wa rfl (q_adr rfl T22 rfl rfl i5_0 hc14)<|wq rfl (q_loadS rfl T22 rfl i5_0 hc14)<|wa rfl (q_eq8 rfl rfl (cst8 (156:UInt8) rfl))<|wa rfl (zcb (v:=(.bool ((decide (c14=(156:UInt8)))))) rfl rfl rfl)<|av (.bool ((decide (c14=(156:UInt8))))) rfl rfl<|wnt<|W_ret<|?_;obtain rfl:=osi H;refine rt1 (.bool ((decide (c14=(156:UInt8))))) rfl rfl rfl rfl ?_;exact ⟨rfl,e6⟩
    replace H:=ifn hb13 H;refine wk rfl<|wk rfl<|wk rfl<|wk rfl<|wa rfl (za7 (v:=(.bool false)) rfl rfl rfl)<|av (.bool false) rfl rfl<|wnt<|W_ret<|?_;obtain rfl:=osi H;refine rt1 (.bool false) rfl rfl rfl rfl ?_;exact ⟨rfl,e6⟩
   replace H:=ifn hb11 H;refine wk rfl<|wk rfl<|wk rfl<|wk rfl<|wa rfl (za7 (v:=(.bool false)) rfl rfl rfl)<|mv (.bool false) rfl rfl<|wk rfl<|wk rfl<|?_;refine wk rfl<|wk rfl<|wa rfl (za7 (v:=(.bool false)) rfl rfl rfl)<|av (.bool false) rfl rfl<|wnt<|W_ret<|?_;obtain rfl:=osi H;refine rt1 (.bool false) rfl rfl rfl rfl ?_;exact ⟨rfl,e6⟩
  replace H:=ifn hb9 H;refine wk rfl<|wk rfl<|wk rfl<|wk rfl<|wa rfl (za7 (v:=(.bool false)) rfl rfl rfl)<|mv (.bool false) rfl rfl<|wk rfl<|wk rfl<|?_;refine wk rfl<|wk rfl<|wa rfl (za7 (v:=(.bool false)) rfl rfl rfl)<|mv (.bool false) rfl rfl<|wk rfl<|wk rfl<|wk rfl<|wk rfl<|?_;refine wa rfl (za7 (v:=(.bool false)) rfl rfl rfl)<|av (.bool false) rfl rfl<|wnt<|W_ret<|?_;obtain rfl:=osi H;refine rt1 (.bool false) rfl rfl rfl rfl ?_;exact ⟨rfl,e6⟩
 replace H:=ifn hb7 H;refine wk rfl<|wk rfl<|wk rfl<|wk rfl<|wa rfl (za7 (v:=(.bool false)) rfl rfl rfl)<|mv (.bool false) rfl rfl<|wk rfl<|wk rfl<|?_;refine wk rfl<|wk rfl<|wa rfl (za7 (v:=(.bool false)) rfl rfl rfl)<|mv (.bool false) rfl rfl<|wk rfl<|wk rfl<|wk rfl<|wk rfl<|?_;refine wa rfl (za7 (v:=(.bool false)) rfl rfl rfl)<|mv (.bool false) rfl rfl<|wk rfl<|wk rfl<|wk rfl<|wk rfl<|wa rfl (za7 (v:=(.bool false)) rfl rfl rfl)<|av (.bool false) rfl rfl<|?_;refine wnt<|W_ret<|?_;obtain rfl:=osi H;refine rt1 (.bool false) rfl rfl rfl rfl ?_;exact ⟨rfl,e6⟩
noncomputable def law32_few (a0l:List (List UInt8)):Option Bool :=
(if 20<(a0l.length:Int) then some false
else
((iterC (fun s2:Int =>
(if s2<(a0l.length:Int) then
((idx a0l s2).bind fun c5 =>
(if 100<(c5.length:Int) then some (.inr (.inr false))
else some (.inl (wI (s2+1)))))
else some (.inr (.inl ())))) 0).bind (Sum.elim (fun y2 => some true) (fun q2=>some q2))))
theorem law32_few_calls (a0l:List (List UInt8)) (p0:Value) (r:Bool) (w0:World) (hp0:Rw w0 [] p0 a0l) (H:law32_few a0l=some r) :
  Calls Try.prog 15 [p0].toArray w0 (fun e w'=>e=.returned (.bool r)/\Ext w0 w'):=by
 have hE:Ext w0 w0:=Ext.refl w0;unfold law32_few at H;refine zam (n:=18) Try.func15 rfl rfl rfl ?_;refine W_seq<|W_rg<|av (.bool false) rfl rfl<|wnt<|W_seq<|W_seq<|W_rg<|mv p0 rfl rfl<|?_;refine wa rfl (q_len rfl T23.sl rfl (hp0.lift (le_ hE)))<|wa rfl (q_gtI rfl rfl rfl)<|wnt<|?_;refine wci H rfl rfl (fun H=>?_) (fun H=>?_)
 ·refine W_seq<|W_rg<|av (.bool false) rfl rfl<|wnt<|W_ret<|th_r<|?_;obtain rfl:=osi H;refine rt1 (.bool false) rfl rfl rfl rfl ?_;exact ⟨rfl,hE⟩
 refine zar<|W_th<|W_seq<|W_seq<|W_rg<|mv p0 rfl rfl<|wa rfl (q_len rfl T23.sl rfl (hp0.lift (le_ hE)))<|mv (i64 0) rfl rfl<|?_;refine wnt ?_;obtain ⟨x2,G2,H⟩:=bsi H;refine W_mid (fun f w=>∃ y2,x2=.inl y2/\f 18=undef/\Ext w0 w) ?_ ?_
 ·refine zag ?_;refine zca (fun s2 f w=>f 8=p0/\f 9=(i64 ((a0l.length:Int)))/\f 10=(i64 s2)/\f 18=undef/\Ext w0 w) G2 ?_ ?_
  ·exact ⟨rfl,rfl,rfl,rfl,hE⟩
  rintro s2 _ _ w3 ⟨s8_3,s9_3,s10_3,s18_3,hE3⟩ H2 hr2;refine W_seq<|W_rg<|wa rfl (q_ltI rfl s10_3 s9_3)<|wnt<|W_seq<|?_;refine wci H2 rfl rfl (fun H2=>?_) (fun H2=>?_)
  ·refine zar<|W_th<|W_seq<|zag<|W_seq<|W_rg<|?_;obtain ⟨c5,hc5,H2⟩:=bsi H2;refine wa rfl (q_adr rfl T23 s8_3 s10_3 (hp0.lift (le_ hE3)) hc5) ?_;refine zc2 rfl rfl rfl T23 rfl hp0 hc5 hE3 (fun v6 ha6=>?_);refine av v6 rfl rfl<|wnt<|W_seq<|W_rg<|mv v6 rfl rfl<|wa rfl (q_len rfl T22.sl rfl (ha6.lift (le_ hE3)))<|wa rfl (q_gtI rfl rfl rfl)<|wnt<|?_;refine wci H2 rfl rfl (fun H2=>?_) (fun H2=>?_)
   ·refine W_seq<|W_rg<|av (.bool false) rfl rfl<|wnt<|W_ret<|bk_r<|th_r<|?_;obtain rfl:=osi H2;obtain rfl:=hr2 _ rfl;simp only [Sum.elim_inr] at H;refine th_r<|bk_r<|th_r<|th_r<|?_;obtain rfl:=osi H;refine rt1 (.bool false) rfl rfl rfl s18_3 ?_;exact ⟨rfl,hE3⟩
   refine zar<|bk_n<|W_th<|W_rg<|wa rfl (za2 rfl s10_3 rfl)<|mv (i64 ((wI (s2+1)))) rfl rfl<|zap<|?_;obtain rfl:=osi H2;exact ⟨_,rfl,s8_3,s9_3,rfl,s18_3,hE3⟩
  refine zbt<|th_x<|?_;obtain rfl:=osi H2;obtain rfl:=hr2 _ rfl;refine th_x<|bk_x<|?_;exact ⟨_,rfl,s18_3,hE3⟩
 rintro _ w9 ⟨y2,rfl,s18_9,hE9⟩;simp only [Sum.elim_inl] at H;refine W_th<|W_seq<|W_rg<|av (.bool true) rfl rfl<|wnt<|W_ret<|?_;obtain rfl:=osi H;refine rt1 (.bool true) rfl rfl rfl s18_9 ?_;exact ⟨rfl,hE9⟩
end Gk

/- A tally that is new, and one that isn't there. No condition. -/
namespace Gk
open Go Go.Proofs
theorem tally_New_box (w0:World):Calls Try.prog 16 [].toArray w0 (fun e w'=>∃ g:Nat,e=.returned (bp g)/\Ext w0 w'/\Nw w0 (bp g)/\Blk w' g 70 #[i64 0,.slice none 0 0]):=by
 have hE:Ext w0 w0:=Ext.refl w0
 refine zam (n:=3) Try.func16 rfl rfl rfl ?_
 refine W_seq ?_
 refine W_reg (by kernel_rfl) ?_
 refine wla rfl rfl (za6 (v:=(.pointer none)) rfl rfl) ?_
 refine zap ?_
 refine W_th ?_
 refine W_seq ?_
 refine W_reg (by kernel_rfl) ?_
 refine wla rfl rfl (q_buildS (ps:=#[]) rfl (by simp) (buildTa_ )) ?_
 refine wls rfl rfl (stp_boxL (v:=(.agg #[(i64 0),(.slice none 0 0)])) (cs:=#[(i64 0),(.slice none 0 0)]) ([]) rfl rfl rfl ?_)
 intro g1 w1 o1 n1 g1r l1
 have x1:=zaa g1r
 have n3:=Nw.ext hE n1
 have e2:=hE.trans x1
 refine wla rfl rfl (za6 (v:=(bp g1)) rfl rfl) ?_
 refine zap ?_
 refine W_th ?_
 refine W_ret ?_
 refine rt1 (bp g1) rfl rfl rfl rfl ?_
 exact ⟨g1,rfl,e2,n3,o1⟩
theorem tally_Add_nil (p1:Value) (w0:World):Calls Try.prog 20 [.pointer none,p1].toArray w0 (fun e w'=>e=.returned (.tuple #[])/\Ext w0 w'):=by
 have hE:Ext w0 w0:=Ext.refl w0
 refine zam (n:=61) Try.func20 rfl rfl rfl ?_
 refine W_seq ?_
 refine W_seq ?_
 refine W_reg (by kernel_rfl) ?_
 refine wla rfl rfl (zcw (v:=.pointer none) rfl rfl) ?_
 refine wla rfl rfl (q_eqP rfl rfl rfl rfl) ?_
 refine zap ?_
 refine W_th ?_
 refine zbj true rfl rfl (fun _=>?_) (fun hb=>by cases hb)
 refine W_ret ?_
 refine th_r ?_
 refine rt0 rfl rfl ?_
 exact ⟨rfl,hE⟩
end Gk

/- Printed by gen.py: for each Go function a pure function, and that the Go code comes to it. No condition beside the equation that says what the pure function gives. -/
namespace Gk
open Go Go.Proofs
noncomputable def zbw (a0l:List (List UInt8)):Option Bool :=
((zbn ).bind fun r1 =>
(if (!r1)=true then
((zbn ).bind fun r4 => some r4)
else
((law32_few a0l).bind fun r6 =>
(if (!r6)=true then
((zbn ).bind fun r9 => some r9)
else
((iterC (fun s14:Int×List (List UInt8)×Int =>
(if s14.2.2<(a0l.length:Int) then
((zck (some (s14.1,s14.2.1))).bind fun r19 =>
(if r19=s14.2.2 then
((subL a0l 0 s14.2.2).bind fun c22 =>
((zaz (some (s14.1,s14.2.1))).bind fun r23 =>
((zbq c22).bind fun r25 =>
(if r23=r25 then
((subL a0l 0 s14.2.2).bind fun c28 =>
((zaz (some (s14.1,s14.2.1))).bind fun r29 =>
((zbq c28).bind fun r31 =>
(if r29=r31 then
((idx a0l s14.2.2).bind fun c39 =>
((appL (([]:List UInt8)) c39).bind fun c41 =>
((zc1 (s14.1,s14.2.1) c41).bind fun r46 =>
((iterC (fun s52:List UInt8×Int =>
(if s52.2<(c41.length:Int) then
((idx s52.1 s52.2).bind fun c55 => some (.inl ((s52.1.set (s52.2:Int).toNat ((c55^^^(255:UInt8)))),(wI (s52.2+1)))))
else some (.inr ()))) (c41,0)).bind fun x52 =>
((zaz (some (r46.1,r46.2))).bind fun r60 =>
((iterC (fun s66:List UInt8×Int =>
(if s66.2<(r60.length:Int) then
((idx s66.1 s66.2).bind fun c69 => some (.inl ((s66.1.set (s66.2:Int).toNat ((c69^^^(255:UInt8)))),(wI (s66.2+1)))))
else some (.inr ()))) (r60,0)).bind fun x66 => some (.inl (r46.1,r46.2,(wI (s14.2.2+1))))))))))
else some (.inr (.inr false))))))
else some (.inr (.inr false))))))
else some (.inr (.inr false))))
else some (.inr (.inl (s14.1,s14.2.1))))) (0,([]:List (List UInt8)),0)).bind (Sum.elim (fun y14 =>
((zaz (some (y14.1,y14.2))).bind fun r80 =>
((zbq a0l).bind fun r82 =>
(if r80=r82 then
((zck (none:Option (Int×List (List UInt8)))).bind fun r85 =>
((zaz (none:Option (Int×List (List UInt8)))).bind fun r87 => some (decide ((wI (r85+(r87.length:Int)))=0))))
else some false)))) (fun q14=>some q14)))))))
theorem law32_TallyAdds_calls (a0l:List (List UInt8)) (p0:Value) (r:Bool) (w0:World) (hp0:Rw w0 [] p0 a0l) (H:zbw a0l=some r) :
  Calls Try.prog 4 [p0].toArray w0 (fun e w'=>e=.returned (.bool r)/\Ext w0 w'):=by
 have hE:Ext w0 w0:=Ext.refl w0;unfold zbw at H;refine zam (n:=105) Try.func4 rfl rfl rfl ?_;refine W_seq<|W_rg<|av (.bool false) rfl rfl<|wnt<|W_seq<|W_seq<|W_rg<|?_;obtain ⟨r1,hr1,H⟩:=bsi H;refine wls rfl rfl (zab (vs:=[]) Try.func14 rfl rfl rfl (ar0 ) (zb0   r1 _  hr1) ?_);rintro _ w1 ⟨rfl,x1⟩;refine ⟨_,rfl,?_⟩;have e2:=hE.trans x1;refine wa rfl (q_not rfl rfl) ?_;refine wlb rfl rfl (zcw (v:=(.bool ((!r1)))) rfl rfl) (fun hb3=>?_) (fun hb3=>?_)
 ·replace H:=(if_pos hb3).symm.trans H;refine wk rfl<|wk rfl<|wk rfl<|wa rfl (zcb (v:=(.bool true)) rfl rfl rfl)<|wnt<|?_;refine zbj true rfl rfl (fun _=>?_) (fun hb=>by cases hb);refine W_seq<|W_rg<|?_;obtain ⟨r4,hr4,H⟩:=bsi H;refine wls rfl rfl (zab (vs:=[]) Try.func14 rfl rfl rfl (ar0 ) (zb0   r4 _  hr4) ?_);rintro _ w4 ⟨rfl,x4⟩;refine ⟨_,rfl,?_⟩;have e5:=e2.trans x4;refine av (.bool r4) rfl rfl<|wnt<|W_ret<|th_r<|?_;obtain rfl:=osi H;refine rt1 (.bool r4) rfl rfl rfl rfl ?_;exact ⟨rfl,e5⟩
 replace H:=(if_neg (ne_true_of_eq_false hb3)).symm.trans H;refine mv p0 rfl rfl ?_;obtain ⟨r6,hr6,H⟩:=bsi H;refine wls rfl rfl (zab (vs:=[p0]) Try.func15 rfl rfl rfl (ar1 rfl) (law32_few_calls a0l p0 r6 _ (hp0.lift (le_ e2)) hr6) ?_);rintro _ w6 ⟨rfl,x6⟩;refine ⟨_,rfl,?_⟩;have e7:=e2.trans x6;refine wa rfl (q_not rfl rfl)<|wa rfl (za7 (v:=(.bool ((!r6)))) rfl rfl rfl)<|wnt<|?_;refine zbj _ rfl rfl (fun hb8=>?_) (fun hb8=>?_)
 ·replace H:=(if_pos hb8).symm.trans H;refine W_seq<|W_rg<|?_;obtain ⟨r9,hr9,H⟩:=bsi H;refine wls rfl rfl (zab (vs:=[]) Try.func14 rfl rfl rfl (ar0 ) (zb0   r9 _  hr9) ?_);rintro _ w9 ⟨rfl,x9⟩;refine ⟨_,rfl,?_⟩;have e10:=e7.trans x9;refine av (.bool r9) rfl rfl<|wnt<|W_ret<|th_r<|?_;obtain rfl:=osi H;refine rt1 (.bool r9) rfl rfl rfl rfl ?_;exact ⟨rfl,e10⟩
 replace H:=(if_neg (ne_true_of_eq_false hb8)).symm.trans H;refine zar<|W_th<|W_seq<|W_rg<|?_;refine wls rfl rfl (zab (vs:=[]) Try.func16 rfl rfl rfl ar0 (tally_New_box _) ?_);rintro _ w11 ⟨g11,rfl,x11,nB11,hB11⟩;refine ⟨_,rfl,?_⟩;have n13:=Nw.ext e7 nB11;have e12:=e7.trans x11;refine av (bp g11) rfl rfl<|wnt<|W_seq<|W_rg<|av (.pointer none) rfl rfl<|wnt<|W_seq<|W_seq<|?_;refine W_rg<|mv p0 rfl rfl<|wa rfl (q_len rfl T23.sl rfl (hp0.lift (le_ e12)))<|mv (i64 0) rfl rfl<|wnt<|?_;obtain ⟨x14,G14,H⟩:=bsi H;refine W_mid (fun f w=>∃ y14,x14=.inl y14/\∃ vbbpg111_89:Value,f 0=p0/\f 3=(bp g11)/\f 4=(.pointer none)/\f 105=undef/\Ext w0 w/\OwK By w [vbbpg111_89,(bp g11)] 22 vbbpg111_89 y14.2/\Nw w0 vbbpg111_89/\Blk w g11 70 #[(i64 y14.1),vbbpg111_89]/\Nw w0 (bp g11)/\Nq vbbpg111_89 (bp g11)) ?_ ?_
 ·refine zag ?_;refine zca (fun s14 f w=>∃ vbbpg111_76:Value,f 0=p0/\f 3=(bp g11)/\f 4=(.pointer none)/\f 20=(i64 ((a0l.length:Int)))/\f 21=(i64 s14.2.2)/\f 105=undef/\Ext w0 w/\OwK By w [vbbpg111_76,(bp g11)] 22 vbbpg111_76 s14.2.1/\Nw w0 vbbpg111_76/\Blk w g11 70 #[(i64 s14.1),vbbpg111_76]/\Nw w0 (bp g11)/\Nq vbbpg111_76 (bp g11)) G14 ?_ ?_
  ·exact ⟨(.slice none 0 0),rfl,rfl,rfl,rfl,rfl,rfl,e12,(OwK.nil _ _ _ _),(Nw.nil _),hB11,n13,(Nq.nil _)⟩
  rintro s14 _ _ w15 ⟨vbbpg111_15,s0_15,s3_15,s4_15,s20_15,s21_15,s105_15,hE15,o0_15,n0_15,o1_15,n1_15,q0_1_15⟩ H14 hr14;refine W_seq<|W_rg<|wa rfl (q_ltI rfl s21_15 s20_15)<|wnt<|W_seq<|?_;refine wci H14 rfl rfl (fun H14=>?_) (fun H14=>?_)
  ·refine zar<|W_th<|W_seq<|zag<|W_seq<|W_rg<|mv (i64 s14.2.2) rfl s21_15<|av (i64 s14.2.2) rfl rfl<|?_;refine wnt<|W_seq<|W_seq<|?_;refine W_draw [7,12,18,23] [(0,0),(2,0),(1,2),(3,0),(4,0),(5,0),(8,0),(9,0),(10,0),(6,2),(7,1),(11,2),(12,1),(13,0),(14,0),(15,0),(16,0),(19,0),(20,0),(21,0),(17,2),(18,1),(22,2),(23,1),(24,0),(25,0)] mixed (by kernel_rfl) (by kernel_rfl) (by kernel_rfl) (by kernel_rfl) ?_;have x17:=Ext.drew w15;replace o0_15:=o0_15.extL (SlK.stab (Sc.stab _)) x17 (le_ x17);replace o1_15:=o1_15.ext x17;have e18:=hE15.trans x17;refine sv (bp g11) rfl rfl s3_15<|sv (i64 s14.2.2) rfl rfl rfl<|?_;obtain ⟨r19,hr19,H14⟩:=bsi H14;refine wsc rfl (by kernel_rfl) rfl rfl (zab (vs:=[(bp g11)]) Try.func17 rfl rfl rfl (ar1 rfl) (tally_Len_calls (some (s14.1,s14.2.1)) (bp g11) r19 _ (RcTa.mk o1_15 trivial (o0_15.rd (SlK.stab (Sc.stab _)))) hr19) ?_);rintro _ w19 ⟨rfl,x19⟩;refine ⟨_,rfl,?_⟩;replace o0_15:=o0_15.extL (SlK.stab (Sc.stab _)) x19 (le_ x19);replace o1_15:=o1_15.ext x19;have e20:=e18.trans x19;refine sa rfl rfl (q_neI rfl rfl rfl) ?_;refine wsb rfl rfl rfl (zcw (v:=(.bool ((!decide (r19=s14.2.2))))) rfl rfl) (fun hb21=>?_) (fun hb21=>?_)
   ·replace H14:=(if_neg (ndec_t hb21)).symm.trans H14;refine wsk rfl rfl rfl ?_;refine wsk rfl rfl rfl ?_;refine wsk rfl rfl rfl ?_;refine wsk rfl rfl rfl ?_;refine wsk rfl rfl rfl ?_;refine wsk rfl rfl rfl ?_;refine wsk rfl rfl rfl ?_;refine wsk rfl rfl rfl ?_;refine wsk rfl rfl rfl ?_;refine sa rfl rfl (zcb (v:=(.bool true)) rfl rfl rfl)<|sv (.bool true) rfl rfl rfl<|?_;refine wsk rfl rfl rfl ?_;refine wsk rfl rfl rfl ?_;refine wsk rfl rfl rfl ?_;refine wsk rfl rfl rfl ?_;refine wsk rfl rfl rfl ?_;refine wsk rfl rfl rfl ?_;refine wsk rfl rfl rfl ?_;refine wsk rfl rfl rfl ?_;refine wsk rfl rfl rfl ?_;refine sa rfl rfl (zcb (v:=(.bool true)) rfl rfl rfl) ?_;refine zcs ?_;refine W_th ?_;refine zbj true rfl rfl (fun _=>?_) (fun hb=>by cases hb);refine W_seq<|W_rg<|av (.bool false) rfl rfl<|wnt<|W_ret<|th_r<|bk_r<|th_r<|?_;obtain rfl:=osi H14;obtain rfl:=hr14 _ rfl;simp only [Sum.elim_inr] at H;refine th_r<|bk_r<|th_r<|th_r<|?_;obtain rfl:=osi H;refine rt1 (.bool false) rfl rfl rfl s105_15 ?_;exact ⟨rfl,e20⟩
   replace H14:=(if_pos (ndec_f hb21)).symm.trans H14;refine sv (bp g11) rfl rfl s3_15<|sv p0 rfl rfl s0_15<|sv (i64 s14.2.2) rfl rfl rfl<|?_;obtain ⟨c22,hc22,H14⟩:=bsi H14;refine sa rfl rfl (zcf (a:=0) (b:=s14.2.2) rfl T23 rfl (hp0.lift (le_ e20)) rfl rfl hc22) ?_;obtain ⟨r23,hr23,H14⟩:=bsi H14;refine wsc rfl (by kernel_rfl) rfl rfl (zab (vs:=[(bp g11)]) Try.func18 rfl rfl rfl (ar1 rfl) (za3 (some (s14.1,s14.2.1)) (bp g11) r23 _ (RcTa.mk o1_15 trivial (o0_15.rd (SlK.stab (Sc.stab _)))) hr23) ?_);rintro _ w23 ⟨v23,rfl,x23,n23_0,o23_0⟩;refine ⟨_,rfl,?_⟩;have i23_0:By w23 [vbbpg111_15,(bp g11)] v23 r23:=OwK.slk (Sc.stab _) _ (OwK.scal o23_0 (v23 :: [vbbpg111_15,(bp g11)])) (fun k hk=>(Old.cons (Old.cons (Old.nil _) o1_15.ltB) o0_15.lt) k (n23_0 k hk)) (fun _ h=>h.2);replace o0_15:=o0_15.extL (SlK.stab (Sc.stab _)) x23 (le_ x23);replace o1_15:=o1_15.ext x23;have e24:=e20.trans x23;refine sq rfl rfl (q_str rfl T22 rfl rfl rfl i23_0) ?_;obtain ⟨r25,hr25,H14⟩:=bsi H14;refine wss rfl rfl rfl (zab (vs:=[(subV p0 (0:Int).toNat (s14.2.2:Int).toNat)]) Try.func19 rfl rfl rfl (ar1 rfl) (zbk c22 (subV p0 (0:Int).toNat (s14.2.2:Int).toNat) r25 _ (SlK.cut (L:=[]) (hp0.lift (le_ e24)) hc22) hr25) ?_);rintro _ w25 ⟨v25,rfl,x25,n25_0,o25_0⟩;refine ⟨_,rfl,x25,?_⟩;have i25_0:By w25 [vbbpg111_15,(bp g11)] v25 r25:=OwK.slk (Sc.stab _) _ (OwK.scal o25_0 (v25 :: [vbbpg111_15,(bp g11)])) (fun k hk=>(Old.cons (Old.cons (Old.nil _) o1_15.ltB) o0_15.lt) k (n25_0 k hk)) (fun _ h=>h.2);replace o0_15:=o0_15.extL (SlK.stab (Sc.stab _)) x25 (le_ x25);replace o1_15:=o1_15.ext x25;have e26:=e24.trans x25;refine sq rfl rfl (q_str rfl T22 rfl rfl rfl i25_0)<|sa rfl rfl (q_neS rfl rfl rfl)<|sa rfl rfl (za7 (v:=(.bool ((!decide (r23=r25))))) rfl rfl rfl)<|?_;refine wsb rfl rfl rfl (zcw (v:=(.bool ((!decide (r23=r25))))) rfl rfl) (fun hb27=>?_) (fun hb27=>?_)
   ·replace H14:=(if_neg (ndec_t hb27)).symm.trans H14;refine wsk rfl rfl rfl ?_;refine wsk rfl rfl rfl ?_;refine wsk rfl rfl rfl ?_;refine wsk rfl rfl rfl ?_;refine wsk rfl rfl rfl ?_;refine wsk rfl rfl rfl ?_;refine wsk rfl rfl rfl ?_;refine wsk rfl rfl rfl ?_;refine wsk rfl rfl rfl ?_;refine sa rfl rfl (zcb (v:=(.bool true)) rfl rfl rfl) ?_;refine zcs ?_;refine W_th ?_;refine zbj true rfl rfl (fun _=>?_) (fun hb=>by cases hb);refine W_seq<|W_rg<|av (.bool false) rfl rfl<|wnt<|W_ret<|th_r<|bk_r<|th_r<|?_;obtain rfl:=osi H14;obtain rfl:=hr14 _ rfl;simp only [Sum.elim_inr] at H;refine th_r<|bk_r<|th_r<|th_r<|?_;obtain rfl:=osi H;refine rt1 (.bool false) rfl rfl rfl s105_15 ?_;exact ⟨rfl,e26⟩
   replace H14:=(if_pos (ndec_f hb27)).symm.trans H14;refine sv (bp g11) rfl rfl s3_15<|sv p0 rfl rfl s0_15<|sv (i64 s14.2.2) rfl rfl rfl<|?_;obtain ⟨c28,hc28,H14⟩:=bsi H14;refine sa rfl rfl (zcf (a:=0) (b:=s14.2.2) rfl T23 rfl (hp0.lift (le_ e26)) rfl rfl hc28) ?_;obtain ⟨r29,hr29,H14⟩:=bsi H14;refine wsc rfl (by kernel_rfl) rfl rfl (zab (vs:=[(bp g11)]) Try.func18 rfl rfl rfl (ar1 rfl) (za3 (some (s14.1,s14.2.1)) (bp g11) r29 _ (RcTa.mk o1_15 trivial (o0_15.rd (SlK.stab (Sc.stab _)))) hr29) ?_);rintro _ w29 ⟨v29,rfl,x29,n29_0,o29_0⟩;refine ⟨_,rfl,?_⟩;have i29_0:By w29 [vbbpg111_15,(bp g11)] v29 r29:=OwK.slk (Sc.stab _) _ (OwK.scal o29_0 (v29 :: [vbbpg111_15,(bp g11)])) (fun k hk=>(Old.cons (Old.cons (Old.nil _) o1_15.ltB) o0_15.lt) k (n29_0 k hk)) (fun _ h=>h.2);replace o0_15:=o0_15.extL (SlK.stab (Sc.stab _)) x29 (le_ x29);replace o1_15:=o1_15.ext x29;have e30:=e26.trans x29;refine sq rfl rfl (q_str rfl T22 rfl rfl rfl i29_0) ?_;obtain ⟨r31,hr31,H14⟩:=bsi H14;refine wss rfl rfl rfl (zab (vs:=[(subV p0 (0:Int).toNat (s14.2.2:Int).toNat)]) Try.func19 rfl rfl rfl (ar1 rfl) (zbk c28 (subV p0 (0:Int).toNat (s14.2.2:Int).toNat) r31 _ (SlK.cut (L:=[]) (hp0.lift (le_ e30)) hc28) hr31) ?_);rintro _ w31 ⟨v31,rfl,x31,n31_0,o31_0⟩;refine ⟨_,rfl,x31,?_⟩;have i31_0:By w31 [vbbpg111_15,(bp g11)] v31 r31:=OwK.slk (Sc.stab _) _ (OwK.scal o31_0 (v31 :: [vbbpg111_15,(bp g11)])) (fun k hk=>(Old.cons (Old.cons (Old.nil _) o1_15.ltB) o0_15.lt) k (n31_0 k hk)) (fun _ h=>h.2);replace o0_15:=o0_15.extL (SlK.stab (Sc.stab _)) x31 (le_ x31);replace o1_15:=o1_15.ext x31;have e32:=e30.trans x31;refine sq rfl rfl (q_str rfl T22 rfl rfl rfl i31_0)<|sa rfl rfl (q_neS rfl rfl rfl)<|sa rfl rfl (za7 (v:=(.bool ((!decide (r29=r31))))) rfl rfl rfl)<|?_;refine zcs ?_;refine W_th ?_;refine zbj _ rfl rfl (fun hb33=>?_) (fun hb33=>?_)
   ·replace H14:=(if_neg (ndec_t hb33)).symm.trans H14;refine W_seq<|W_rg<|av (.bool false) rfl rfl<|wnt<|W_ret<|th_r<|bk_r<|th_r<|?_;obtain rfl:=osi H14;obtain rfl:=hr14 _ rfl;simp only [Sum.elim_inr] at H;refine th_r<|bk_r<|th_r<|th_r<|?_;obtain rfl:=osi H;refine rt1 (.bool false) rfl rfl rfl s105_15 ?_;exact ⟨rfl,e32⟩
   replace H14:=(if_pos (ndec_f hb33)).symm.trans H14;refine zar<|W_th<|W_seq<|W_rg<|?_;refine wls rfl rfl (zb8 (L:=[vbbpg111_15,(bp g11)]) (R:=(Sc u8)) [] ([]:List UInt8) rfl T22 rfl (by exact trivial) rfl (litC u8 (oneC_u8) (us:=[]) (l:=([]:List UInt8)) rfl) rfl (litS u8 (us:=[]) (l:=([]:List UInt8)) rfl) ?_);intro v34 w34 o34 n34 g34 l34;have x34:=zaa g34;have q35:Nq vbbpg111_15 v34:=o0_15.nq n34;have q36:Nq (bp g11) v34:=o1_15.nq n34;replace o0_15:=o0_15.extL (SlK.stab (Sc.stab _)) x34 (Lift.call _ x34 n34);replace o1_15:=o1_15.ext x34;have n38:=Nw.ext e32 n34;have e37:=e32.trans x34;refine mv p0 rfl s0_15<|mv (i64 s14.2.2) rfl rfl<|?_;obtain ⟨c39,hc39,H14⟩:=bsi H14;refine wa rfl (q_adr rfl T23 rfl rfl (hp0.lift (le_ e37)) hc39) ?_;refine zc2 rfl rfl rfl T23 rfl hp0 hc39 e37 (fun v40 ha40=>?_);obtain ⟨c41,hc41,H14⟩:=bsi H14;refine wls rfl rfl (zb1 (R:=(Sc u8)) (v:=v34) (u:=v40) (Sc.stab _) [] [vbbpg111_15,(bp g11)] rfl T22 rfl rfl o34 (ha40.lift (le_ e37)) (fun _ _ h=>h) hc41 oc_u8 ?_);intro v41 w41 o41 g41 nx41 l41;have q42:Nq vbbpg111_15 v41:=o0_15.nxt q35 nx41;have q43:Nq (bp g11) v41:=o1_15.nxt q36 nx41;replace o0_15:=o0_15.other (SlK.stab (Sc.stab _)) g41 q35 l41;replace o1_15:=o1_15.other g41 q36;have e44:=e37.grown g41 n38;have n45:=Nw.nxt e37 n38 nx41;refine av v41 rfl rfl<|wnt<|W_seq<|W_rg<|mv (bp g11) rfl s3_15<|mv v41 rfl rfl<|?_;obtain ⟨r46,hr46,H14⟩:=bsi H14;refine wls rfl rfl (zab (vs:=[(bp g11),v41]) Try.func20 rfl rfl rfl (ar2 rfl rfl) (tally_Add_calls (s14.1,s14.2.1) c41 g11 vbbpg111_15 v41 r46 _ [v41] (Old.cons (Old.nil _) o41.lt) o1_15 (o0_15.weak (SlK.stab (Sc.stab _)) (show ∀ k,Av [v41,vbbpg111_15,(bp g11)] k->Av [vbbpg111_15,(bp g11),v41] k from fun _ h=>⟨h.2.1,h.2.2.1,h.1,trivial⟩)) q0_1_15 (OwK.slk (Sc.stab _) [vbbpg111_15,(bp g11)] o41 (fun k hk=>⟨q42.symm k hk,q43.symm k hk,trivial⟩) (fun _ h=>⟨h.2.1,h.2.2.1,trivial⟩)) hr46) ?_);rintro _ w46 ⟨v46,rfl,x46,hb46,ho46,ns46,hq46⟩;refine ⟨_,rfl,?_⟩;have lf46:Lift w41 w46 [v41,vbbpg111_15,(bp g11)] [v41,v46,(bp g11)]:=Lift.ofS x46 (fun _ h=>⟨h.2.1,h.2.2.1,trivial⟩) (fun k hk h=>⟨h.1,ns46.av hk h.2.1 h.2.2.1,h.2.2.1,trivial⟩)
   have q47:Nq v41 v46:=NS.nqS ns46 o41.lt q42.symm q43.symm;replace o41:=o41.otherS (Sc.stab _) x46 (fun k hk=>av_two (q42.symm k hk) (q43.symm k hk)) lf46;have n48:=Nw.nxS e44 n0_15 n1_15 ns46;have e49:=Ext.grownS e44 x46 n0_15 n1_15;replace ho46:=ho46.weak (SlK.stab (Sc.stab _)) (show ∀ k,Av [v46,(bp g11),v41] k->Av [v41,v46,(bp g11)] k from fun _ h=>⟨h.2.2.1,h.1,h.2.1,trivial⟩);refine wnt<|W_seq<|W_rg<|mv (.pointer none) rfl s4_15<|mv v41 rfl rfl<|?_;refine wls rfl rfl (zab (vs:=[(.pointer none),v41]) Try.func20 rfl rfl rfl (ar2 rfl rfl) (tally_Add_nil v41 _) ?_);rintro _ w50 ⟨rfl,x50⟩;refine ⟨_,rfl,?_⟩;replace o41:=o41.extL (Sc.stab _) x50 (le_ x50);replace ho46:=ho46.extL (SlK.stab (Sc.stab _)) x50 (le_ x50);replace hb46:=hb46.ext x50;have e51:=e49.trans x50;refine wnt<|W_seq<|W_seq<|W_rg<|mv v41 rfl rfl<|wa rfl (q_len rfl T22.sl rfl (o41.rd (Sc.stab _)))<|mv (i64 0) rfl rfl<|wnt<|?_;obtain ⟨x52,G52,H14⟩:=bsi H14;refine W_mid (fun f w=>f 0=p0/\f 3=(bp g11)/\f 4=(.pointer none)/\f 20=(i64 ((a0l.length:Int)))/\f 21=(i64 s14.2.2)/\f 105=undef/\Ext w0 w/\OwK By w [v46,(bp g11)] 22 v46 r46.2/\Nw w0 v46/\Blk w g11 70 #[(i64 r46.1),v46]/\Nw w0 (bp g11)/\Nq v46 (bp g11)) ?_ ?_
   ·refine zag ?_;refine zca (fun s52 f w=>f 0=p0/\f 3=(bp g11)/\f 4=(.pointer none)/\f 6=v41/\f 20=(i64 ((a0l.length:Int)))/\f 21=(i64 s14.2.2)/\f 63=(i64 ((c41.length:Int)))/\f 64=(i64 s52.2)/\f 105=undef/\Ext w0 w/\OwK By w [v46,v41,(bp g11)] 22 v46 r46.2/\Nw w0 v46/\OwK (Sc u8) w [v46,v41,(bp g11)] 5 v41 s52.1/\Nw w0 v41/\Blk w g11 70 #[(i64 r46.1),v46]/\Nw w0 (bp g11)/\Nq v46 v41/\Nq v46 (bp g11)/\Nq v41 (bp g11)) G52 ?_ ?_
    ·exact ⟨s0_15,s3_15,s4_15,rfl,s20_15,s21_15,rfl,rfl,s105_15,e51,(ho46.weak (SlK.stab (Sc.stab _)) (fun _ h=>⟨h.2.1,h.1,h.2.2.1,trivial⟩)),n48,(o41.weak (Sc.stab _) (fun _ h=>⟨h.2.1,h.1,h.2.2.1,trivial⟩)),n45,hb46,n1_15,q47.symm,hq46,q43.symm⟩
    rintro s52 _ _ w53 ⟨s0_53,s3_53,s4_53,s6_53,s20_53,s21_53,s63_53,s64_53,s105_53,hE53,o0_53,n0_53,o1_53,n1_53,o2_53,n2_53,q0_1_53,q0_2_53,q1_2_53⟩ H52 hr52;refine W_seq<|W_rg<|wa rfl (q_ltI rfl s64_53 s63_53)<|wnt<|W_seq<|?_;refine wci H52 rfl rfl (fun H52=>?_) (fun H52=>?_)
    ·refine zar<|W_th<|W_seq<|zag<|W_seq<|W_rg<|mv (i64 s52.2) rfl s64_53<|av (i64 s52.2) rfl rfl<|?_;refine wnt<|W_rg<|mv v41 rfl s6_53<|mv (i64 s52.2) rfl rfl<|?_;obtain ⟨c55,hc55,H52⟩:=bsi H52;refine wa rfl (q_adr rfl T22 rfl rfl (o1_53.rd (Sc.stab _)) hc55)<|wq rfl (q_loadS rfl T22 rfl (o1_53.rd (Sc.stab _)) hc55)<|wa rfl (q_xor8 rfl rfl (cst8 (255:UInt8) rfl))<|wa rfl (q_adr rfl T22 rfl rfl (o1_53.rd (Sc.stab _)) hc55)<|?_;refine wln rfl rfl (stp_store (R:=(Sc u8)) (u:=(u8 ((c55^^^(255:UInt8))))) (Sc.stab _) [v46] [(bp g11)] rfl T22 rfl rfl o1_53 (put_of ((c55^^^(255:UInt8))) hc55) rfl rfl ?_);intro w56 o56 g56 l56;replace o0_53:=o0_53.other (SlK.stab (Sc.stab _)) g56 q0_1_53 l56;replace o2_53:=o2_53.other g56 q1_2_53.symm;have e57:=hE53.grown g56 n1_53;refine zap<|bk_n<|W_th<|W_rg<|wa rfl (za2 rfl s64_53 rfl)<|mv (i64 ((wI (s52.2+1)))) rfl rfl<|zap<|?_;obtain rfl:=osi H52;exact ⟨_,rfl,s0_53,s3_53,s4_53,s6_53,s20_53,s21_53,s63_53,rfl,s105_53,e57,o0_53,n0_53,o56,n1_53,o2_53,n2_53,q0_1_53,q0_2_53,q1_2_53⟩
    refine zbt<|th_x<|?_;obtain rfl:=osi H52;obtain rfl:=hr52 _ rfl;refine th_x<|bk_x<|?_;exact ⟨s0_53,s3_53,s4_53,s20_53,s21_53,s105_53,hE53,(o0_53.weak (SlK.stab (Sc.stab _)) (fun _ h=>⟨h.1,h.2.2.1,trivial⟩)),n0_53,o2_53,n2_53,q0_2_53⟩
   rintro _ w59 ⟨s0_59,s3_59,s4_59,s20_59,s21_59,s105_59,hE59,o0_59,n0_59,o1_59,n1_59,q0_1_59⟩;refine W_th<|W_seq<|W_rg<|mv (bp g11) rfl s3_59<|?_;obtain ⟨r60,hr60,H14⟩:=bsi H14;refine wls rfl rfl (zab (vs:=[(bp g11)]) Try.func18 rfl rfl rfl (ar1 rfl) (za3 (some (r46.1,r46.2)) (bp g11) r60 _ (RcTa.mk o1_59 trivial (o0_59.rd (SlK.stab (Sc.stab _)))) hr60) ?_);rintro _ w60 ⟨v60,rfl,x60,n60_0,o60_0⟩;refine ⟨_,rfl,?_⟩;have o60:OwK (Sc u8) w60 (v60 :: [v46,(bp g11)]) 5 v60 r60:=OwK.scal o60_0 _;have q61:Nq v46 v60:=o0_59.nq n60_0;have q62:Nq (bp g11) v60:=o1_59.nq n60_0;replace o0_59:=o0_59.extL (SlK.stab (Sc.stab _)) x60 (Lift.call _ x60 n60_0);replace o1_59:=o1_59.ext x60;have n65:=Nw.ext hE59 n60_0;have e63:=hE59.trans x60;refine av v60 rfl rfl<|wnt<|W_seq<|W_rg<|mv v60 rfl rfl<|wa rfl (q_len rfl T22.sl rfl (o60.rd (Sc.stab _)))<|mv (i64 0) rfl rfl<|wnt<|?_;obtain ⟨x66,G66,H14⟩:=bsi H14;refine W_mid (fun f w=>f 0=p0/\f 3=(bp g11)/\f 4=(.pointer none)/\f 20=(i64 ((a0l.length:Int)))/\f 21=(i64 s14.2.2)/\f 105=undef/\Ext w0 w/\OwK By w [v46,(bp g11)] 22 v46 r46.2/\Nw w0 v46/\Blk w g11 70 #[(i64 r46.1),v46]/\Nw w0 (bp g11)/\Nq v46 (bp g11)) ?_ ?_
   ·refine zag ?_;refine zca (fun s66 f w=>f 0=p0/\f 3=(bp g11)/\f 4=(.pointer none)/\f 8=v60/\f 20=(i64 ((a0l.length:Int)))/\f 21=(i64 s14.2.2)/\f 77=(i64 ((r60.length:Int)))/\f 78=(i64 s66.2)/\f 105=undef/\Ext w0 w/\OwK By w [v46,v60,(bp g11)] 22 v46 r46.2/\Nw w0 v46/\OwK (Sc u8) w [v46,v60,(bp g11)] 5 v60 s66.1/\Nw w0 v60/\Blk w g11 70 #[(i64 r46.1),v46]/\Nw w0 (bp g11)/\Nq v46 v60/\Nq v46 (bp g11)/\Nq v60 (bp g11)) G66 ?_ ?_
    ·exact ⟨s0_59,s3_59,s4_59,rfl,s20_59,s21_59,rfl,rfl,s105_59,e63,(o0_59.weak (SlK.stab (Sc.stab _)) (fun _ h=>⟨h.2.1,h.1,h.2.2.1,trivial⟩)),n0_59,(o60.weak (Sc.stab _) (fun _ h=>⟨h.2.1,h.1,h.2.2.1,trivial⟩)),n65,o1_59,n1_59,q61,q0_1_59,q62.symm⟩
    rintro s66 _ _ w67 ⟨s0_67,s3_67,s4_67,s8_67,s20_67,s21_67,s77_67,s78_67,s105_67,hE67,o0_67,n0_67,o1_67,n1_67,o2_67,n2_67,q0_1_67,q0_2_67,q1_2_67⟩ H66 hr66;refine W_seq<|W_rg<|wa rfl (q_ltI rfl s78_67 s77_67)<|wnt<|W_seq<|?_;refine wci H66 rfl rfl (fun H66=>?_) (fun H66=>?_)
    ·refine zar<|W_th<|W_seq<|zag<|W_seq<|W_rg<|mv (i64 s66.2) rfl s78_67<|av (i64 s66.2) rfl rfl<|?_;refine wnt<|W_rg<|mv v60 rfl s8_67<|mv (i64 s66.2) rfl rfl<|?_;obtain ⟨c69,hc69,H66⟩:=bsi H66;refine wa rfl (q_adr rfl T22 rfl rfl (o1_67.rd (Sc.stab _)) hc69)<|wq rfl (q_loadS rfl T22 rfl (o1_67.rd (Sc.stab _)) hc69)<|wa rfl (q_xor8 rfl rfl (cst8 (255:UInt8) rfl))<|wa rfl (q_adr rfl T22 rfl rfl (o1_67.rd (Sc.stab _)) hc69)<|?_;refine wln rfl rfl (stp_store (R:=(Sc u8)) (u:=(u8 ((c69^^^(255:UInt8))))) (Sc.stab _) [v46] [(bp g11)] rfl T22 rfl rfl o1_67 (put_of ((c69^^^(255:UInt8))) hc69) rfl rfl ?_);intro w70 o70 g70 l70;replace o0_67:=o0_67.other (SlK.stab (Sc.stab _)) g70 q0_1_67 l70;replace o2_67:=o2_67.other g70 q1_2_67.symm;have e71:=hE67.grown g70 n1_67;refine zap<|bk_n<|W_th<|W_rg<|wa rfl (za2 rfl s78_67 rfl)<|mv (i64 ((wI (s66.2+1)))) rfl rfl<|zap<|?_;obtain rfl:=osi H66;exact ⟨_,rfl,s0_67,s3_67,s4_67,s8_67,s20_67,s21_67,s77_67,rfl,s105_67,e71,o0_67,n0_67,o70,n1_67,o2_67,n2_67,q0_1_67,q0_2_67,q1_2_67⟩
    refine zbt<|th_x<|?_;obtain rfl:=osi H66;obtain rfl:=hr66 _ rfl;refine th_x<|bk_x<|?_;exact ⟨s0_67,s3_67,s4_67,s20_67,s21_67,s105_67,hE67,(o0_67.weak (SlK.stab (Sc.stab _)) (fun _ h=>⟨h.1,h.2.2.1,trivial⟩)),n0_67,o2_67,n2_67,q0_2_67⟩
   rintro _ w73 ⟨s0_73,s3_73,s4_73,s20_73,s21_73,s105_73,hE73,o0_73,n0_73,o1_73,n1_73,q0_1_73⟩;refine bk_n<|W_th<|W_rg<|wa rfl (za2 rfl s21_73 rfl)<|mv (i64 ((wI (s14.2.2+1)))) rfl rfl<|zap<|?_;obtain rfl:=osi H14;exact ⟨_,rfl,v46,s0_73,s3_73,s4_73,s20_73,rfl,s105_73,hE73,o0_73,n0_73,o1_73,n1_73,q0_1_73⟩
  refine zbt<|th_x<|?_;obtain rfl:=osi H14;obtain rfl:=hr14 _ rfl;refine th_x<|bk_x<|?_;exact ⟨_,rfl,vbbpg111_15,s0_15,s3_15,s4_15,s105_15,hE15,o0_15,n0_15,o1_15,n1_15,q0_1_15⟩
 rintro _ w77 ⟨y14,rfl,vbbpg111_77,s0_77,s3_77,s4_77,s105_77,hE77,o0_77,n0_77,o1_77,n1_77,q0_1_77⟩;simp only [Sum.elim_inl] at H;refine W_th<|W_seq<|?_;refine W_draw [2,5] [(0,0),(3,0),(1,2),(2,1),(4,2),(5,1),(6,0),(7,0),(8,0),(10,0),(9,2),(11,2),(12,0),(13,0),(14,0),(15,0),(16,0)] mixed (by kernel_rfl) (by kernel_rfl) (by kernel_rfl) (by kernel_rfl) ?_;have x78:=Ext.drew w77;replace o0_77:=o0_77.extL (SlK.stab (Sc.stab _)) x78 (le_ x78);replace o1_77:=o1_77.ext x78;have e79:=hE77.trans x78;refine sv (bp g11) rfl rfl s3_77<|sv p0 rfl rfl s0_77<|?_;obtain ⟨r80,hr80,H⟩:=bsi H;refine wsc rfl (by kernel_rfl) rfl rfl (zab (vs:=[(bp g11)]) Try.func18 rfl rfl rfl (ar1 rfl) (za3 (some (y14.1,y14.2)) (bp g11) r80 _ (RcTa.mk o1_77 trivial (o0_77.rd (SlK.stab (Sc.stab _)))) hr80) ?_);rintro _ w80 ⟨v80,rfl,x80,n80_0,o80_0⟩;refine ⟨_,rfl,?_⟩;have i80_0:By w80 [vbbpg111_77,(bp g11)] v80 r80:=OwK.slk (Sc.stab _) _ (OwK.scal o80_0 (v80 :: [vbbpg111_77,(bp g11)])) (fun k hk=>(Old.cons (Old.cons (Old.nil _) o1_77.ltB) o0_77.lt) k (n80_0 k hk)) (fun _ h=>h.2);replace o0_77:=o0_77.extL (SlK.stab (Sc.stab _)) x80 (le_ x80);replace o1_77:=o1_77.ext x80;have e81:=e79.trans x80;refine sq rfl rfl (q_str rfl T22 rfl rfl rfl i80_0) ?_;obtain ⟨r82,hr82,H⟩:=bsi H;refine wss rfl rfl rfl (zab (vs:=[p0]) Try.func19 rfl rfl rfl (ar1 rfl) (zbk a0l p0 r82 _ (hp0.lift (le_ e81)) hr82) ?_);rintro _ w82 ⟨v82,rfl,x82,n82_0,o82_0⟩;refine ⟨_,rfl,x82,?_⟩;have i82_0:By w82 [vbbpg111_77,(bp g11)] v82 r82:=OwK.slk (Sc.stab _) _ (OwK.scal o82_0 (v82 :: [vbbpg111_77,(bp g11)])) (fun k hk=>(Old.cons (Old.cons (Old.nil _) o1_77.ltB) o0_77.lt) k (n82_0 k hk)) (fun _ h=>h.2);replace o0_77:=o0_77.extL (SlK.stab (Sc.stab _)) x82 (le_ x82);replace o1_77:=o1_77.ext x82;have e83:=e81.trans x82;refine sq rfl rfl (q_str rfl T22 rfl rfl rfl i82_0)<|sa rfl rfl (q_eqS rfl rfl rfl)<|?_;refine wsb rfl rfl rfl (zcw (v:=(.bool ((decide (r80=r82))))) rfl rfl) (fun hb84=>?_) (fun hb84=>?_)
 ·replace H:=ifp hb84 H;refine sv (.pointer none) rfl rfl s4_77<|sv (.pointer none) rfl rfl s4_77<|?_;obtain ⟨r85,hr85,H⟩:=bsi H;refine wsc rfl (by kernel_rfl) rfl rfl (zab (vs:=[(.pointer none)]) Try.func17 rfl rfl rfl (ar1 rfl) (tally_Len_calls (none:Option (Int×List (List UInt8))) (.pointer none) r85 _ (RcTa.nil _ _) hr85) ?_);rintro _ w85 ⟨rfl,x85⟩;refine ⟨_,rfl,?_⟩;replace o0_77:=o0_77.extL (SlK.stab (Sc.stab _)) x85 (le_ x85);replace o1_77:=o1_77.ext x85;have e86:=e83.trans x85;obtain ⟨r87,hr87,H⟩:=bsi H;refine wsc rfl (by kernel_rfl) rfl rfl (zab (vs:=[(.pointer none)]) Try.func18 rfl rfl rfl (ar1 rfl) (za3 (none:Option (Int×List (List UInt8))) (.pointer none) r87 _ (RcTa.nil _ _) hr87) ?_);rintro _ w87 ⟨v87,rfl,x87,n87_0,o87_0⟩;refine ⟨_,rfl,?_⟩;have i87_0:By w87 [vbbpg111_77,(bp g11)] v87 r87:=OwK.slk (Sc.stab _) _ (OwK.scal o87_0 (v87 :: [vbbpg111_77,(bp g11)])) (fun k hk=>(Old.cons (Old.cons (Old.nil _) o1_77.ltB) o0_77.lt) k (n87_0 k hk)) (fun _ h=>h.2);have e88:=e86.trans x87;refine sa rfl rfl (q_len rfl T22.sl rfl i87_0)<|sa rfl rfl (za2 rfl rfl rfl)<|sa rfl rfl (q_eqI rfl rfl rfl)<|sa rfl rfl (zcb (v:=(.bool ((decide ((wI (r85+(r87.length:Int)))=0))))) rfl rfl rfl)<|sa rfl rfl (za6 (v:=(.bool ((decide ((wI (r85+(r87.length:Int)))=0))))) rfl rfl)<|?_;refine zcs ?_;refine W_th<|W_ret<|?_;obtain rfl:=osi H;refine rt1 (.bool ((decide ((wI (r85+(r87.length:Int)))=0)))) rfl rfl rfl s105_77 ?_;exact ⟨rfl,e88⟩
 replace H:=ifn hb84 H;refine wsk rfl rfl rfl ?_;refine wsk rfl rfl rfl ?_;refine wsk rfl rfl rfl ?_;refine wsk rfl rfl rfl ?_;refine wsk rfl rfl rfl ?_;refine wsk rfl rfl rfl ?_;refine wsk rfl rfl rfl ?_;refine sa rfl rfl (za7 (v:=(.bool false)) rfl rfl rfl)<|sa rfl rfl (za6 (v:=(.bool false)) rfl rfl)<|?_;refine zcs ?_;refine W_th<|W_ret<|?_;obtain rfl:=osi H;refine rt1 (.bool false) rfl rfl rfl s105_77 ?_;exact ⟨rfl,e83⟩
end Gk

/- A tally, item by item, in plain Lean. No condition. -/
namespace Gk
open Gf
def lf (n:Nat):Nat:=2 ^ (Nat.log2 (n - 1))
theorem lf_le {n:Nat} (h:2<=n):lf n<=n - 1:=Nat.log2_self_le (by omega)
theorem lf_lt {n:Nat} (h:2<=n):lf n<n:=by have:=lf_le h;omega
theorem lf_pos (n:Nat):1<=lf n:=Nat.one_le_two_pow
theorem pow_uniq {n j:Nat} (h:2<=n) (h1:2 ^ j<=n - 1) (h2:n - 1<2 * 2 ^ j):lf n=2 ^ j:=by
 unfold lf;congr 1
 have:n - 1<2 ^ (j+1):=by rw [Nat.pow_succ];omega
 exact (Nat.log2_eq_iff (by omega)).2 ⟨h1,this⟩
theorem tab_eq (l:List UInt8) (hl:l=[0,1,2,2,3,3,3,3] ++ List.replicate 8 4 ++ List.replicate 16 5 ++ List.replicate 32 6 ++ List.replicate 64 7 ++ List.replicate 128 8) (b:UInt8):∃ t:UInt8,idx l (b.toNat:Int)=some t/\(b.toNat=0->t.toNat=0)/\(0<b.toNat->1<=t.toNat/\2 ^ (t.toNat - 1)<=b.toNat/\b.toNat<2 ^ t.toNat)/\t.toNat<=8:=by
 subst hl
 have key:∀ i:Fin 256,∃ t:Fin 256,idx ([0,1,2,2,3,3,3,3] ++ List.replicate 8 4 ++ List.replicate 16 5 ++ List.replicate 32 6 ++ List.replicate 64 7 ++ List.replicate 128 8) (i.val:Int)=some (UInt8.ofNat t.val)/\(i.val=0->t.val=0)/\(0<i.val->1<=t.val/\2 ^ (t.val - 1)<=i.val/\i.val<2 ^ t.val)/\t.val<=8:=by
  have:∀ i:Fin 256,(fun t:Fin 256=>idx ([0,1,2,2,3,3,3,3] ++ List.replicate 8 4 ++ List.replicate 16 5 ++ List.replicate 32 6 ++ List.replicate 64 7 ++ List.replicate 128 8) (i.val:Int)=some (UInt8.ofNat t.val)/\(i.val=0->t.val=0)/\(0<i.val->1<=t.val/\2 ^ (t.val - 1)<=i.val/\i.val<2 ^ t.val)/\t.val<=8)
    (if i.val=0 then 0 else ⟨(Nat.log2 i.val+1) % 256,Nat.mod_lt _ (by decide)⟩):=by decide +kernel
  exact fun i=>⟨_,this i⟩
 obtain ⟨t,k1,k2,k3,k4⟩:=key ⟨b.toNat,b.toNat_lt⟩
 have ht:(UInt8.ofNat t.val).toNat=t.val:=by simp
 exact ⟨_,k1,by rw [ht];exact k2,by rw [ht];exact k3,by rw [ht];exact k4⟩
theorem shr64_nat (x:UInt64) (k:Nat) (h:k<=64):(shr64 x k).toNat=x.toNat / 2 ^ k:=by
 have:=x.toNat_lt
 simp only [shr64,UInt64.toNat_ofNat']
 rw [Nat.min_eq_left h,Nat.mod_eq_of_lt (Nat.lt_of_le_of_lt (Nat.div_le_self _ _) (by omega))]
theorem pow_div {x m k:Nat} (hm:1<=m) (h:2 ^ (m - 1)<=x / 2 ^ k/\x / 2 ^ k<2 ^ m):2 ^ (m+k - 1)<=x/\x<2 ^ (m+k):=by
 have hp:=Nat.two_pow_pos k
 constructor
 ·have:=(Nat.le_div_iff_mul_le hp).1 h.1
  rw [← Nat.pow_add] at this
  rw [show m+k - 1=m - 1+k by omega];exact this
 ·have:=(Nat.div_lt_iff_lt_mul hp).1 h.2
  rw [← Nat.pow_add] at this;exact this
theorem Len_eq (x:UInt64) (h:0<x.toNat):∃ m:Nat,zbs x=some (m:Int)/\1<=m/\m<=64/\2 ^ (m - 1)<=x.toNat/\x.toNat<2 ^ m:=by
 have hx:=x.toNat_lt
 have s1:∃ (y:UInt64) (a:Nat),(if (4294967296:UInt64)<=x then some ((shr64 x 32),(32:Int)) else some (x,0))=some (y,(a:Int))/\a<=32/\y.toNat<2 ^ 32/\0<y.toNat/\y.toNat=x.toNat / 2 ^ a:=by
  by_cases c:(4294967296:UInt64)<=x
  ·rw [if_pos c]
   rw [UInt64.le_iff_toNat_le] at c
   have c':4294967296<=x.toNat:=c
   have:=shr64_nat x 32 (by decide)
   refine ⟨_,32,rfl,by omega,by rw [this];omega,by rw [this];omega,this⟩
  ·rw [if_neg c]
   rw [UInt64.le_iff_toNat_le] at c
   have c':¬ 4294967296<=x.toNat:=c
   exact ⟨_,0,rfl,by omega,by omega,h,by simp⟩
 obtain ⟨y,a,e1,ha,hy,hy0,hya⟩:=s1
 have s2:∃ (z:UInt64) (b:Nat),(if (65536:UInt64)<=y then some ((shr64 y 16),(wI ((a:Int)+16))) else some (y,(a:Int)))=some (z,(b:Int))/\b<=48/\z.toNat<2 ^ 16/\0<z.toNat/\z.toNat=x.toNat / 2 ^ b:=by
  by_cases c:(65536:UInt64)<=y
  ·rw [if_pos c]
   rw [UInt64.le_iff_toNat_le] at c
   have c':65536<=y.toNat:=c
   have:=shr64_nat y 16 (by decide)
   refine ⟨_,a+16,by rw [wI_of (by omega) (by omega)];rfl,by omega,by rw [this];omega,by rw [this];omega,?_⟩
   rw [this,hya,Nat.div_div_eq_div_mul,← Nat.pow_add]
  ·rw [if_neg c]
   rw [UInt64.le_iff_toNat_le] at c
   have c':¬ 65536<=y.toNat:=c
   exact ⟨_,a,rfl,by omega,by omega,hy0,hya⟩
 obtain ⟨z,b,e2,hb,hz,hz0,hzb⟩:=s2
 unfold zbs zbx
 rw [e1,obs]
 simp only []
 rw [e2,obs]
 simp only []
 by_cases c:(256:UInt64)<=z
 ·rw [if_pos c]
  rw [UInt64.le_iff_toNat_le] at c
  have c':256<=z.toNat:=c
  have hs:=shr64_nat z 8 (by decide)
  have hb8:(shr64 z 8).toUInt8.toNat=z.toNat / 2 ^ 8:=by rw [UInt64.toNat_toUInt8,hs];omega
  obtain ⟨t,t1,t2,t3,t4⟩:=tab_eq _ rfl (shr64 z 8).toUInt8
  refine ⟨b+8+t.toNat,?_,?_⟩
  ·refine zc6 (zc6 t1 rfl) ?_
   rw [wI_of (x:=(b:Int)+8) (by omega) (by omega),wI_of (by omega) (by omega)];rfl
  ·obtain ⟨q1,q2⟩:=t3 (by rw [hb8];omega)
   rw [hb8,hzb,Nat.div_div_eq_div_mul,← Nat.pow_add] at q2
   have:=pow_div q1 q2
   refine ⟨by omega,by omega,?_,?_⟩
   ·rw [show b+8+t.toNat - 1=t.toNat+(b+8) - 1 by omega];exact this.1
   ·rw [show b+8+t.toNat=t.toNat+(b+8) by omega];exact this.2
 ·rw [if_neg c]
  rw [UInt64.le_iff_toNat_le] at c
  have c':¬ 256<=z.toNat:=c
  have hb8:z.toUInt8.toNat=z.toNat:=by rw [UInt64.toNat_toUInt8];omega
  obtain ⟨t,t1,t2,t3,t4⟩:=tab_eq _ rfl z.toUInt8
  refine ⟨b+t.toNat,?_,?_⟩
  ·refine zc6 (zc6 t1 rfl) ?_
   rw [wI_of (by omega) (by omega)];rfl
  ·obtain ⟨q1,q2⟩:=t3 (by rw [hb8];omega)
   rw [hb8,hzb] at q2
   have:=pow_div q1 q2
   refine ⟨by omega,by omega,?_,?_⟩
   ·rw [show b+t.toNat - 1=t.toNat+b - 1 by omega];exact this.1
   ·rw [show b+t.toNat=t.toNat+b by omega];exact this.2
theorem small64' (k:Nat) (h:k<18446744073709551616):(UInt64.ofInt (k:Int)).toNat=k:=by
 simp only [UInt64.ofInt,UInt64.toNat_ofNat']
 omega
theorem left_eq (n:Nat) (h:2<=n) (hn:n<=4000000000000000000):zct (n:Int)=some ((lf n:Nat):Int):=by
 unfold zct
 rw [wI_of (by omega) (by omega),show (n:Int) - 1=((n - 1:Nat):Int) by omega]
 have hs:=small64' (n - 1) (by omega)
 obtain ⟨m,e1,h1,h2,h3,h4⟩:=Len_eq (UInt64.ofInt ((n - 1:Nat):Int)) (by rw [hs];omega)
 rw [hs] at h3 h4
 rw [e1,obs,wI_of (by omega) (by omega),show (m:Int) - 1=((m - 1:Nat):Int) by omega,cnt_nat,obs]
 have hl:lf n=2 ^ (m - 1):=pow_uniq h h3 (by rw [show m=m - 1+1 by omega,Nat.pow_succ] at h4;omega)
 have hle:=lf_le h
 have:=shlI_nat 1 (m - 1) (by omega) (by omega)
 rw [show ((1:Nat):Int)=1 from rfl] at this
 rw [this,hl,Nat.shiftLeft_eq,Nat.one_mul]
def itm (b:List UInt8):List UInt8:=sha (0 :: b)
def bth (a b:List UInt8):List UInt8:=sha (1 :: (a ++ b))
theorem itm_len (b:List UInt8):(itm b).length=32:=sha_len _
theorem bth_len (a b:List UInt8):(bth a b).length=32:=sha_len _
theorem item_eq (b:List UInt8) (h:b.length<=1000):zce b=some (itm b):=by
 unfold zce
 rw [zc7 _ (by simp only [List.flatten_cons,List.flatten_nil,List.length_append,List.length_cons,List.length_nil];omega) (by simp)];simp [itm]
theorem both_eq (a b:List UInt8) (h:a.length+b.length<=1000):zbf a b=some (bth a b):=by
 unfold zbf
 rw [zc7 _ (by simp only [List.flatten_cons,List.flatten_nil,List.length_append,List.length_cons,List.length_nil];omega) (by simp)];simp [bth]
def T (l:List (List UInt8)):List UInt8 :=
 if l.length=0 then sha [] else if l.length=1 then itm (l.getD 0 []) else bth (T (l.take (lf l.length))) (T (l.drop (lf l.length)))
termination_by l.length
decreasing_by
 ·have:=lf_lt (n:=l.length) (by omega);simp only [List.length_take];omega
 ·have:=lf_pos l.length;simp only [List.length_drop];omega
theorem T_len (l:List (List UInt8)):(T l).length=32:=by
 rw [T];split
 ·exact sha_len _
 ·split
  ·exact itm_len _
  ·exact bth_len _ _
def Short (l:List (List UInt8)):Prop:=l.length<=1000/\∀ b∈l,b.length<=100
theorem Short.take {l:List (List UInt8)} (h:Short l) (k:Nat):Short (l.take k):=⟨by have:=h.1;simp only [List.length_take];omega,fun b hb=>h.2 b (List.mem_of_mem_take hb)⟩
theorem Short.drop {l:List (List UInt8)} (h:Short l) (k:Nat):Short (l.drop k):=⟨by have:=h.1;simp only [List.length_drop];omega,fun b hb=>h.2 b (List.mem_of_mem_drop hb)⟩
theorem subL_take {α:Type} (l:List α) (k:Nat) (h:k<=l.length):subL l 0 (k:Int)=some (l.take k):=by
 have:=subL_nat l 0 k (by omega) h
 simpa using this
theorem subL_drop {α:Type} (l:List α) (k:Nat) (h:k<=l.length):subL l (k:Int) (l.length:Int)=some (l.drop k):=by
 have:=subL_nat l k l.length h (Nat.le_refl _)
 rw [List.take_length] at this;exact this
theorem tree_n:∀ (fu:Nat) (l:List (List UInt8)),l.length<fu->Short l->zba fu l=some (T l)
 | 0,l,h,_=>absurd h (Nat.not_lt_zero _)
 | fu+1,l,h,hs=>by
  have hs1:=hs.1
  rw [zba,T]
  by_cases h0:l.length=0
  ·rw [if_pos (by omega),if_pos h0,zc7 [] (by simp) (by simp)];rfl
  ·by_cases h1:l.length=1
   ·have hb:=hs.2 (l.getD 0 []) (getD_mem (by omega))
    rw [if_neg (by omega),if_neg h0,if_pos (by omega),if_pos h1,idx_0 (by omega),obs,item_eq _ (by omega)];rfl
   ·have k1:=lf_lt (n:=l.length) (by omega);have k2:=lf_pos l.length
    have a1:=tree_n fu (l.take (lf l.length)) (by simp only [List.length_take];omega) (hs.take _)
    have b1:=tree_n fu (l.drop (lf l.length)) (by simp only [List.length_drop];omega) (hs.drop _)
    rw [if_neg (by omega),if_neg h0,if_neg (by omega),if_neg h1,left_eq _ (by omega) (by omega),obs,subL_take _ _ (by omega),obs,subL_drop _ _ (by omega),obs,
     a1,obs,b1,obs,both_eq _ _ (by rw [T_len,T_len];omega)];rfl
theorem Tree_eq (l:List (List UInt8)) (h:Short l):zbq l=some (T l):=tree_n _ l (by omega) h
theorem T_one:T [[]]=[110,52,11,156,255,179,122,152,156,165,68,230,187,120,10,44,120,144,29,63,179,55,56,118,133,17,163,6,23,175,160,29]:=by
 rw [T,if_neg (by decide),if_pos (by decide)];decide +kernel
theorem lives32:zbn=some true:=by
 unfold zbn
 rw [Tree_eq _ ⟨by decide,by decide⟩,T_one];decide
theorem few_eq (l:List (List UInt8)):law32_few l=some (decide (l.length<=20/\∀ b∈l,b.length<=100)):=by
 unfold law32_few
 by_cases h20:20<l.length
 ·rw [if_pos (by omega),decide_eq_false (fun h=>by omega)]
 ·rw [if_neg (by omega)]
  obtain ⟨x,hx,p1,p2⟩:=iterC_find (X:=Unit⊕Bool) (body:=fun s2:Int =>
   (if s2<(l.length:Int) then
   ((idx l s2).bind fun c5 =>
   (if 100<(c5.length:Int) then
   some (.inr (.inr false))
   else
   some (.inl (wI (s2+1)))))
   else
   some (.inr (.inl ())))) l.length (fun i=>100<(l.getD i []).length) (.inr false) (.inl ())
   (fun i hi hb=>by rw [if_pos (by omega),idx_getD hi,obs,if_neg (by omega),zcp _ (by omega)])
   (fun i hi hb=>by rw [if_pos (by omega),idx_getD hi,obs,if_pos (by omega)]) (by rw [if_neg (by omega)])
  refine zc6 hx ?_
  by_cases hall:∀ i,i<l.length->¬ 100<(l.getD i []).length
  ·rw [p2 hall,decide_eq_true ⟨by omega,fun b hb=>by obtain ⟨i,hi,rfl⟩:=mem_getD hb;have:=hall i hi;omega⟩];rfl
  ·have:∃ i,i<l.length/\100<(l.getD i []).length:=by
    apply Classical.byContradiction;intro hn;exact hall fun i hi hb=>hn ⟨i,hi,hb⟩
   rw [p1 this,decide_eq_false (fun h=>by obtain ⟨i,hi,hb⟩:=this;have:=h.2 _ (getD_mem hi);omega)];rfl
theorem few_short {l:List (List UInt8)} (h:l.length<=20/\∀ b∈l,b.length<=100):Short l:=⟨by omega,h.2⟩
theorem andI_one (i:Nat) (h:i<9223372036854775808):andI (i:Int) 1=((i % 2:Nat):Int):=by
 unfold andI
 have h1:(BitVec.ofInt 64 (i:Int) &&& BitVec.ofInt 64 1).toNat=i % 2:=by
  rw [BitVec.toNat_and,BitVec.ofInt_natCast,BitVec.toNat_ofNat,Nat.mod_eq_of_lt (by omega)]
  show i &&& 1=i % 2
  exact Nat.and_one_is_mod i
 rw [h1]
 exact wI_nat (by omega)
end Gk

/- The law TallyAdds. No condition. -/
namespace Gk
open Gf
inductive Rep:List (List UInt8)->List (List UInt8)->Prop where
 | nil:Rep [] []
 | snoc (l1 l2 rs:List (List UInt8)) (j q:Nat) (h:Rep l1 rs) (h2:l2.length=2 ^ j) (h1:l1.length=2 ^ j * (2 * q)):Rep (l1 ++ l2) (rs ++ [T l2])
theorem T_join (x y:List (List UInt8)) (a:Nat) (hx:x.length=2 ^ a) (h1:1<=y.length) (h2:y.length<=2 ^ a):T (x ++ y)=bth (T x) (T y):=by
 have hp:=Nat.two_pow_pos a
 have hl:(x ++ y).length=2 ^ a+y.length:=by rw [List.length_append,hx]
 have hlf:lf (x ++ y).length=2 ^ a:=by rw [hl];exact pow_uniq (by omega) (by omega) (by omega)
 conv=>lhs;rw [T]
 rw [if_neg (by omega),if_neg (by omega),hlf,List.take_left' hx,List.drop_left' hx]
theorem T_single (b:List UInt8):T [b]=itm b:=by rw [T];rfl
theorem le_of_odd {k j q q':Nat} (h:2 ^ j * (2 * q+1)=2 ^ k * q'):k<=j:=by
 rcases Nat.lt_or_ge j k with hk | hk
 ·exfalso
  obtain ⟨d,rfl⟩:=Nat.exists_eq_add_of_lt hk
  have e:2 ^ (j+d+1) * q'=2 ^ j * (2 * (2 ^ d * q')):=by
   rw [Nat.pow_succ,Nat.pow_add]
   simp only [Nat.mul_assoc,Nat.mul_comm,Nat.mul_left_comm]
  rw [e] at h
  have:=Nat.eq_of_mul_eq_mul_left (Nat.two_pow_pos j) h
  omega
 ·exact hk
theorem fold_T {l rs:List (List UInt8)} (h:Rep l rs):∀ (k q:Nat) (y:List (List UInt8)),l.length=2 ^ k * q->1<=y.length->y.length<=2 ^ k->rs.foldr bth (T y)=T (l ++ y):=by
 induction h with
 | nil=>intro k q y _ _ _;rfl
 | snoc l1 l2 rs j q0 h h2 h1 ih =>
  intro k q y hl y1 y2
  have hk:k<=j:=le_of_odd (q:=q0) (q':=q) (by rw [← hl,List.length_append,h1,h2,Nat.mul_add,Nat.mul_one])
  have hp:2 ^ k<=2 ^ j:=Nat.pow_le_pow_right (by omega) hk
  rw [List.foldr_append,List.foldr_cons,List.foldr_nil,← T_join l2 y j h2 y1 (by omega),List.append_assoc]
  exact ih (j+1) q0 (l2 ++ y) (by rw [h1,Nat.pow_succ,Nat.mul_assoc]) (by rw [List.length_append];omega) (by rw [List.length_append,h2,Nat.pow_succ];omega)
theorem Rep.len {l rs:List (List UInt8)} (h:Rep l rs):rs.length<=l.length/\∀ r∈rs,r.length=32:=by
 induction h with
 | nil=>exact ⟨Nat.le_refl _,fun r hr=>absurd hr List.not_mem_nil⟩
 | snoc l1 l2 rs j q h h2 h1 ih =>
  have hp:=Nat.two_pow_pos j
  refine ⟨by rw [List.length_append,List.length_append,List.length_singleton,h2];have:=ih.1;omega,fun r hr=>?_⟩
  rcases List.mem_append.1 hr with hr | hr
  ·exact ih.2 r hr
  ·rw [List.mem_singleton.1 hr];exact T_len _
theorem Rep.last {l rs:List (List UInt8)} (h:Rep l rs) (h0:l.length≠0):∃ rs' l1 l2 j q,rs=rs' ++ [T l2]/\l=l1 ++ l2/\Rep l1 rs'/\l2.length=2 ^ j/\l1.length=2 ^ j * (2 * q):=by
 cases h with
 | nil=>exact absurd rfl h0
 | snoc l1 l2 rs j q h h2 h1=>exact ⟨rs,l1,l2,j,q,rfl,rfl,h,h2,h1⟩
theorem last_ix (rs:List (List UInt8)) (x:List UInt8) (h:rs.length<=1000):wI (((rs ++ [x]).length:Int) - 1)=(rs.length:Int):=by
 rw [List.length_append,List.length_singleton,wI_of (by omega) (by omega)];omega
theorem last_get (rs:List (List UInt8)) (x:List UInt8):idx (rs ++ [x]) (rs.length:Int)=some x:=by
 rw [idx_nat];simp
theorem last_cut (rs:List (List UInt8)) (x:List UInt8):subL (rs ++ [x]) 0 (rs.length:Int)=some rs:=by
 rw [subL_take _ _ (by rw [List.length_append];omega),List.take_left' rfl]
theorem mapIdx_snd (l:List (List UInt8)):(l.mapIdx fun i c=>((i:Int),c)).map (·.2)=l:=by
 apply List.ext_getElem?
 intro i
 rw [List.getElem?_map,List.getElem?_mapIdx]
 cases l[i]? <;> rfl
theorem mem_rev {l:List (List UInt8)} {y:Int×List UInt8} (h:y∈revK l):y.2∈l:=by
 have:y.2∈(l.mapIdx fun i c=>((i:Int),c)).map (·.2):=List.mem_map.2 ⟨y,List.mem_reverse.1 h,rfl⟩
 rwa [mapIdx_snd] at this
theorem foldl_rev (rs:List (List UInt8)) (s:List UInt8):(revK rs).foldl (fun s (y:Int×List UInt8)=>bth y.2 s) s=rs.foldr bth s:=by
 unfold revK
 rw [List.foldl_reverse]
 conv=>rhs;rw [← mapIdx_snd rs]
 rw [List.foldr_map]
theorem Root_eq {l rs:List (List UInt8)} (h:Rep l rs) (hs:Short l):zaz (some ((l.length:Int),rs))=some (T l):=by
 have hs1:=hs.1
 have hm:(10000:Nat)<=most:=by decide
 unfold zaz
 rw [if_neg (by simp),obs]
 simp only
 by_cases h0:l.length=0
 ·obtain rfl:l=[]:=List.length_eq_zero_iff.1 h0
  rw [if_pos (by simp),zc7 [] (by simp) (by simp),obs,T];rfl
 ·rw [if_neg (by omega)]
  obtain ⟨rs',l1,l2,j,q,rfl,rfl,hr,e2,e1⟩:=h.last h0
  have hlen:=h.len
  rw [List.length_append,List.length_singleton] at hlen
  have hrl:=hr.len
  have hc:zaf (T l2)=some (T l2):=by
   unfold zaf
   exact appL_nil _ (by rw [T_len];omega)
  rw [last_ix _ _ (by omega),last_get,obs,hc,obs,last_cut,obs,lim_of (by omega),obs]
  have key:=rangeL_inv (f:=fun (s24:List UInt8) (y24:Int×List UInt8)=>((zbf y24.2 s24).bind fun r30=>some r30)) (fun s (y:Int×List UInt8)=>bth y.2 s) (xs:=revK rs') (s0:=T l2) (fun _ s=>s.length=32) (T_len _) (fun k s y _ hy hs=>by
   rw [both_eq _ _ (by rw [hs,hrl.2 _ (mem_rev hy)];omega),obs]
   exact ⟨rfl,bth_len _ _⟩)
  have hp:=Nat.two_pow_pos j
  rw [key.1,obs,foldl_rev,fold_T hr j (2 * q) l2 e1 (by omega) (by omega)]
theorem AddT_eq {l rs:List (List UInt8)} (h:Rep l rs) (hl:l.length<=1000) (b:List UInt8) (hb:b.length<=100):∃ rs',zc1 ((l.length:Int),rs) b=some (((l.length+1:Nat):Int),rs')/\Rep (l ++ [b]) rs':=by
 have hm:(10000:Nat)<=most:=by decide
 have hm2:=most_lt'
 unfold zc1
 rw [item_eq b (by omega),obs]
 simp only
 obtain ⟨x,e,hx⟩:=iterC_inv (body:=fun s3:List (List UInt8)×List UInt8×Int =>
(if (andI s3.2.2 1)=1 then
((idx s3.1 ((wI ((s3.1.length:Int) - 1)))).bind fun c6 =>
((zbf c6 s3.2.1).bind fun r8 =>
((subL s3.1 0 ((wI ((s3.1.length:Int) - 1)))).bind fun c10 => some (.inl (c10,r8,(shrI s3.2.2 1))))))
else some (.inr (s3.1,s3.2.1)))) (fun s=>∃ (l1 l2:List (List UInt8)) (j m:Nat),l ++ [b]=l1 ++ l2/\Rep l1 s.1/\l2.length=2 ^ j/\s.2.1=T l2/\l1.length=2 ^ j * m/\s.2.2=(m:Int)) (fun s=>s.2.2.toNat) (fun x:List (List UInt8)×List UInt8=>Rep (l ++ [b]) (x.1 ++ [x.2])) (by
  rintro ⟨s1,s2,s3⟩ ⟨l1,l2,j,m,e0,hr,e2,rfl,e1,rfl⟩
  simp only at hr ⊢
  have hp:=Nat.two_pow_pos j
  have hl1:l1.length+l2.length=l.length+1:=by
   have:=congrArg List.length e0
   rw [List.length_append,List.length_append,List.length_singleton] at this;omega
  have hml:m<=l1.length:=by rw [e1];exact Nat.le_mul_of_pos_left m hp
  rw [andI_one m (by omega)]
  by_cases ho:m % 2=1
  ·left
   obtain ⟨q,rfl⟩:∃ q,m=2 * q+1:=⟨m / 2,by omega⟩
   rw [if_pos (by omega)]
   obtain ⟨rs',la,y,j',q',rfl,rfl,hr',y2,y1⟩:=hr.last (by omega)
   have hrl:=hr'.len
   rw [List.length_append] at e1 hl1
   have hjj:2 ^ j' * (2 * q'+1)=2 ^ j * (2 * q+1):=by rw [Nat.mul_add,Nat.mul_one];omega
   obtain rfl:j=j':=Nat.le_antisymm (le_of_odd hjj) (le_of_odd hjj.symm)
   have hqq:=Nat.eq_of_mul_eq_mul_left hp hjj
   obtain rfl:q=q':=by omega
   rw [last_ix _ _ (by omega),last_get,obs,both_eq _ _ (by rw [T_len,T_len];omega),obs,last_cut,obs,shrI_nat _ 1 (by omega),← T_join y l2 j y2 (by omega) (by omega)]
   refine ⟨_,rfl,⟨la,y ++ l2,j+1,q,by rw [e0,List.append_assoc],hr',by rw [List.length_append,y2,e2,Nat.pow_succ];omega,rfl,by rw [y1,Nat.pow_succ,Nat.mul_assoc],?_⟩,?_⟩
   ·simp only [Nat.shiftRight_eq_div_pow];omega
   ·simp only [Int.toNat_natCast,Nat.shiftRight_eq_div_pow];omega
  ·right
   rw [if_neg (by omega)]
   refine ⟨_,rfl,?_⟩
   simp only
   rw [e0]
   exact Rep.snoc l1 l2 s1 j (m / 2) hr e2 (by rw [e1];congr 1;omega)) (rs,itm b,(l.length:Int)) ⟨l,[b],0,l.length,rfl,h,rfl,(T_single b).symm,by simp,rfl⟩
 have hxl:=hx.len.1
 rw [List.length_append,List.length_append,List.length_singleton,List.length_singleton] at hxl
 rw [e,obs,appL_ok _ _ (by rw [List.length_singleton];omega) rfl,obs,zcp _ (by omega)]
 exact ⟨_,rfl,hx⟩
theorem flip_loop (c:List UInt8) (hc:c.length<=1000):iterC (fun s52:List UInt8×Int =>
(if s52.2<(c.length:Int) then
((idx s52.1 s52.2).bind fun c55 => some (.inl ((s52.1.set (s52.2:Int).toNat ((c55^^^(255:UInt8)))),(wI (s52.2+1)))))
else some (.inr ()))) (c,0)=some ():=by
 obtain ⟨x,e,_⟩:=iterC_inv (X:=Unit) (body:=fun s52:List UInt8×Int =>
(if s52.2<(c.length:Int) then
((idx s52.1 s52.2).bind fun c55 => some (.inl ((s52.1.set (s52.2:Int).toNat ((c55^^^(255:UInt8)))),(wI (s52.2+1)))))
else some (.inr ()))) (fun s=>s.1.length=c.length/\∃ i:Nat,s.2=(i:Int)) (fun s=>c.length - s.2.toNat) (fun _=>True) (by
  rintro ⟨s,_⟩ ⟨h1,i,rfl⟩
  simp only at h1 ⊢
  by_cases hi:i<c.length
  ·rw [if_pos (by omega),idx_co (by omega),obs,zcp i (by omega)]
   exact .inl ⟨_,rfl,⟨by rw [List.length_set];exact h1,i+1,rfl⟩,by simp only [Int.toNat_natCast];omega⟩
  ·rw [if_neg (by omega)]
   exact .inr ⟨_,rfl,trivial⟩) (c,0) ⟨rfl,0,rfl⟩
 exact e
theorem Len_some (x:Int×List (List UInt8)):zck (some x)=some x.1:=by
 unfold zck;rw [if_neg (by simp)];rfl
theorem law32_TallyAdds_true (l : List (List UInt8)) : zbw l = some true := by
  have hm : (10000 : Nat) <= most := by decide
  have hm2 := most_lt'
  unfold zbw
  rw [lives32, obs, if_neg (by decide), few_eq, obs]
  by_cases h : l.length <= 20 /\ ∀ b ∈ l, b.length <= 100
  · rw [decide_eq_true h, if_neg (by decide)]
    have hsh := few_short h
    obtain ⟨x, e, rs, rfl, hx⟩ := iterC_inv (X := (Int × List (List UInt8)) ⊕ Bool) (body := fun s14 : Int × List (List UInt8) × Int =>
(if s14.2.2 < (l.length : Int) then
((zck (some (s14.1, s14.2.1))).bind fun r19 =>
(if r19 = s14.2.2 then
((subL l 0 s14.2.2).bind fun c22 =>
((zaz (some (s14.1, s14.2.1))).bind fun r23 =>
((zbq c22).bind fun r25 =>
(if r23 = r25 then
((subL l 0 s14.2.2).bind fun c28 =>
((zaz (some (s14.1, s14.2.1))).bind fun r29 =>
((zbq c28).bind fun r31 =>
(if r29 = r31 then
((idx l s14.2.2).bind fun c39 =>
((appL (([] : List UInt8)) c39).bind fun c41 =>
((zc1 (s14.1, s14.2.1) c41).bind fun r46 =>
((iterC (fun s52 : List UInt8 × Int =>
(if s52.2 < (c41.length : Int) then
((idx s52.1 s52.2).bind fun c55 => some (.inl ((s52.1.set (s52.2 : Int).toNat ((c55 ^^^ (255 : UInt8)))), (wI (s52.2 + 1)))))
else some (.inr ()))) (c41, 0)).bind fun x52 =>
((zaz (some (r46.1, r46.2))).bind fun r60 =>
((iterC (fun s66 : List UInt8 × Int =>
(if s66.2 < (r60.length : Int) then
((idx s66.1 s66.2).bind fun c69 => some (.inl ((s66.1.set (s66.2 : Int).toNat ((c69 ^^^ (255 : UInt8)))), (wI (s66.2 + 1)))))
else some (.inr ()))) (r60, 0)).bind fun x66 => some (.inl (r46.1, r46.2, (wI (s14.2.2 + 1))))))))))
else some (.inr (.inr false))))))
else some (.inr (.inr false))))))
else some (.inr (.inr false))))
else some (.inr (.inl (s14.1, s14.2.1))))) (fun s => ∃ (i : Nat) (rs : List (List UInt8)), i <= l.length /\ s = ((i : Int), rs, (i : Int)) /\ Rep (l.take i) rs) (fun s => l.length - s.2.2.toNat) (fun x => ∃ rs, x = .inl ((l.length : Int), rs) /\ Rep l rs) (by
      rintro _ ⟨i, rs, hi, rfl, hr⟩
      simp only
      by_cases hlt : i < l.length
      · left
        have hti : (l.take i).length = i := by rw [List.length_take]; omega
        have hroot := Root_eq hr (hsh.take i)
        rw [hti] at hroot
        have hb := h.2 (l.getD i []) (getD_mem hlt)
        obtain ⟨rs', eA, hr'⟩ := AddT_eq hr (by omega) (l.getD i []) hb
        rw [hti] at eA
        have etk : l.take i ++ [l.getD i []] = l.take (i + 1) := by
          rw [List.take_add_one]; simp [List.getD_eq_getElem?_getD, hlt]
        rw [etk] at hr'
        have hti' : (l.take (i + 1)).length = i + 1 := by rw [List.length_take]; omega
        have hroot' := Root_eq hr' (hsh.take (i + 1))
        rw [hti'] at hroot'
        rw [if_pos (by omega), Len_some, obs]
        simp only
        rw [if_pos trivial, subL_take _ _ (by omega), obs, hroot, obs, Tree_eq _ (hsh.take i), obs, if_pos rfl, obs, obs, Tree_eq _ (hsh.take i), obs, if_pos rfl, idx_getD hlt, obs, appL_nil _ (by omega), obs, eA, obs, flip_loop _ (by omega), obs]
        simp only
        rw [hroot', obs, flip_loop _ (by rw [T_len]; omega), obs, zcp i (by omega)]
        exact ⟨_, rfl, ⟨i + 1, rs', hlt, rfl, hr'⟩, by simp only [Int.toNat_natCast]; omega⟩
      · right
        obtain rfl : i = l.length := by omega
        rw [if_neg (by omega)]
        rw [List.take_of_length_le (Nat.le_refl _)] at hr
        exact ⟨_, rfl, rs, rfl, hr⟩) (0, [], 0) ⟨0, [], Nat.zero_le _, rfl, by rw [List.take_zero]; exact Rep.nil⟩
    rw [e, obs, Sum.elim_inl]
    simp only
    rw [Root_eq hx hsh, obs, Tree_eq _ hsh, obs, if_pos rfl]
    rfl
  · rw [decide_eq_false h, if_pos (by decide), obs]
end Gk

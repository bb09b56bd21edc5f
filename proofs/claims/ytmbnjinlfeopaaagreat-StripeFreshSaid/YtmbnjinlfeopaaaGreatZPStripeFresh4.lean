/- Parts R5, Qa, Qb, Qc, Qd, Qe, L5, L5b, Qf, F6, Qg, F7b, F7c, Pk, Pl, one behind the other. What is proved: said at the head of each part. No condition beside those said there. -/
import Derived.Test.YtmbnjinlfeopaaaGreatRows
import Derived.Orders
import Derived.Deep.Draws
import Derived.Laws.World
import Derived.KernelRfl
import Derived.OrdersIn
import Derived.TacticsIn
import Derived.RangeFuncCalls
import Derived.Deep.LoopGhost
import Derived.Tactics
import Derived.Sort.LoopGhostIn
import Derived.RangeFuncLeaves
import Derived.RangeFuncNested
import Derived.RangeFuncRecord
import Derived.Laws.Sem
import Derived.OwnWalk
import Derived.RangeFuncWrites
import Derived.Laws.IdiomCopy
import Derived.WalkKit
import Derived.ProofKit
import Derived.OpenShut
import Derived.ChangeOld
import Derived.Below
import Derived.Test.YtmbnjinlfeopaaaGreatProg
import Derived.MapKept
import Derived.Lib.AppendZerosOnto
import Derived.Laws.CopyRow
import Derived.Laws.Cells
import Derived.Lib.SlBytesConst
import Derived.Test.YtmbnjinlfeopaaaGreatZPStripeFresh1
import Derived.Test.YtmbnjinlfeopaaaGreatZPStripeFresh2
import Derived.Test.YtmbnjinlfeopaaaGreatZPStripeFresh3
set_option maxRecDepth 100000
set_option maxHeartbeats 8000000
set_option linter.unusedVariables false
set_option linter.unusedSimpArgs false
/- Printed by gen.py: for each Go function a pure function, and that the Go code comes to it. No condition beside the equation that says what the pure function gives. -/
namespace Gk
open Go Go.Proofs
noncomputable def zdk (c:UInt8):Option UInt8 :=
((zja c).bind fun b =>
((iterC (fun a:UInt8×Int =>
(if a.2<8 then
((cnt a.2).bind fun m =>
((remI (wI (a.2+4)) 8).bind fun n =>
((cnt n).bind fun d =>
((remI (wI (a.2+5)) 8).bind fun e =>
((cnt e).bind fun f =>
((remI (wI (a.2+6)) 8).bind fun g =>
((cnt g).bind fun h =>
((remI (wI (a.2+7)) 8).bind fun i =>
((cnt i).bind fun j =>
((cnt a.2).bind fun k =>
((cnt a.2).bind fun l => some (.inl ((a.1 ||| (shl8 (((((((shr8 b m) &&& (1:UInt8))^^^((shr8 b d) &&& (1:UInt8)))^^^((shr8 b f) &&& (1:UInt8)))^^^((shr8 b h) &&& (1:UInt8)))^^^((shr8 b j) &&& (1:UInt8)))^^^((shr8 (99:UInt8) k) &&& (1:UInt8))) l)),wI (a.2+1))))))))))))))
else some (.inr a.1))) ((0:UInt8),0)).bind fun o => some o))
theorem zcb (h:UInt8) (t:UInt8) (w0:World) (f:zdk h=some t) :
  Calls Tryz.prog 104 [u8 h].toArray w0 (fun y S=>y=.returned (u8 t)/\Ext w0 S):=by
 have B:Ext w0 w0:=Ext.refl w0;unfold zdk at f;refine zai (n:=55) Tryz.func104 V V V<|W_sr<|av (u8 0) V (cst8 (0:UInt8) V)<|wnt<|W_sr<|mv (u8 h) V V<|?_;obtain ⟨b,O,f⟩:=bsi f;refine wls V V (zab (vs:=[u8 h]) Tryz.func131 V V V (ar1 V) (ref02_Inv_calls h  b _  O) ?_);rintro _ a1 ⟨rfl,U⟩;refine ⟨_,rfl,?_⟩;have z:=B.trans U;refine av (u8 b) V V<|wnt<|W_sr<|av (u8 0) V (cst8 (0:UInt8) V)<|wnt<|W_seq<|W_seq<|W_rg<|av (i64 0) V V<|wnt<|?_;obtain ⟨p,x,f⟩:=bsi f;refine W_mid (fun e q=>e 4=u8 p/\e 55=undef/\Ext w0 q) ?_ ?_
 ·refine zac<|zau (fun c e q=>e 3=u8 b/\e 4=u8 c.1/\e 5=i64 c.2/\e 55=undef/\Ext w0 q) x ?_ ?_
  ·exact ⟨rfl,rfl,rfl,rfl,z⟩
  rintro c _ _ T ⟨g,u,d,w,s⟩ a P;refine W_seq<|W_sr<|mv (i64 c.2) V d<|wa V (q_ltI V V V)<|wnt<|wci a V V (fun a=>?_) (fun a=>?_)
  ·refine zae<|W_th<|W_seq<|zac<|W_seq<|zba [] [(0,0),(1,0),(2,0),(3,0),(4,0),(5,0),(6,0),(7,0),(8,0),(9,0),(10,0),(11,0),(12,0),(13,0),(14,0),(15,0),(16,0),(17,0),(18,0),(19,0),(20,0),(21,0),(22,0),(23,0),(24,0),(25,0),(26,0),(27,0),(28,0),(29,0),(30,0),(31,0),(32,0),(33,0),(34,0),(35,0),(36,0)] mixed (by kernel_rfl) (by kernel_rfl) (by kernel_rfl) (by kernel_rfl) ?_;have W:=Ext.drew T;have A:=s.trans W;refine sv (u8 b) V V g<|sv (i64 c.2) V V d<|bse a fun o M a=>sa V V (q_shr8 o V V V (zew M))<|sa V V (q_and8 V V (cst8 (1:UInt8) V))<|sv (u8 b) V V g<|sv (i64 c.2) V V d<|sa V V (zak V V V)<|bse a fun a0 N a=>sa V V (zdm V V V N) ?_;obtain ⟨i,D,a⟩:=bsi a;refine sa V V (q_shr8 i V V V (zew D))<|sa V V (q_and8 V V (cst8 (1:UInt8) V))<|sa V V (zdb V V V)<|sv (u8 b) V V g<|sv (i64 c.2) V V d<|sa V V (zak V V V)<|bse a fun X E a=>sa V V (zdm V V V E) ?_;obtain ⟨j,F,a⟩:=bsi a;refine sa V V (q_shr8 j V V V (zew F))<|sa V V (q_and8 V V (cst8 (1:UInt8) V))<|sa V V (zdb V V V)<|sv (u8 b) V V g<|sv (i64 c.2) V V d<|sa V V (zak V V V)<|bse a fun Y G a=>sa V V (zdm V V V G) ?_;obtain ⟨k,H,a⟩:=bsi a;refine sa V V (q_shr8 k V V V (zew H))<|sa V V (q_and8 V V (cst8 (1:UInt8) V))<|sa V V (zdb V V V)<|sv (u8 b) V V g<|sv (i64 c.2) V V d<|sa V V (zak V V V)<|bse a fun Z I a=>sa V V (zdm V V V I) ?_;obtain ⟨l,J,a⟩:=bsi a;refine sa V V (q_shr8 l V V V (zew J))<|sa V V (q_and8 V V (cst8 (1:UInt8) V))<|sa V V (zdb V V V)<|sv (i64 c.2) V V d<|?_
   obtain ⟨m,K,a⟩:=bsi a;refine sa V V (q_shr8 m V (cst8 (99:UInt8) V) V (zew K))<|sa V V (q_and8 V V (cst8 (1:UInt8) V))<|sa V V (zdb V V V)<|sa V V (zat (v:=u8 (((((((shr8 b o) &&& (1:UInt8))^^^((shr8 b i) &&& (1:UInt8)))^^^((shr8 b j) &&& (1:UInt8)))^^^((shr8 b k) &&& (1:UInt8)))^^^((shr8 b l) &&& (1:UInt8)))^^^((shr8 (99:UInt8) m) &&& (1:UInt8)))) V V)<|za1 ?_;refine W_th<|W_rg<|mv (u8 c.1) V u<|mv (u8 (((((((shr8 b o) &&& (1:UInt8))^^^((shr8 b i) &&& (1:UInt8)))^^^((shr8 b j) &&& (1:UInt8)))^^^((shr8 b k) &&& (1:UInt8)))^^^((shr8 b l) &&& (1:UInt8)))^^^((shr8 (99:UInt8) m) &&& (1:UInt8)))) V V<|mv (i64 c.2) V d<|bse a fun r L a=>wa V (q_shl8 r V V V (zew L))<|wa V (q_or8 V V V)<|av (u8 (c.1 ||| (shl8 (((((((shr8 b o) &&& (1:UInt8))^^^((shr8 b i) &&& (1:UInt8)))^^^((shr8 b j) &&& (1:UInt8)))^^^((shr8 b k) &&& (1:UInt8)))^^^((shr8 b l) &&& (1:UInt8)))^^^((shr8 (99:UInt8) m) &&& (1:UInt8))) r))) V V<|zag<|bk_n<|W_th<|W_rg<|mv (i64 c.2) V d<|?_;refine wa V (zak V V V)<|av (i64 (wI (c.2+1))) V V<|zag<|?_;obtain rfl:=osi a;exact ⟨_,rfl,g,rfl,rfl,w,A⟩
  refine zar<|th_x<|?_;obtain rfl:=osi a;obtain rfl:=P _ rfl;refine th_x<|bk_x<|?_;exact ⟨u,w,s⟩
 rintro _ a2 ⟨Q,R,C⟩;refine W_th<|W_sr<|mv (u8 p) V Q<|av (u8 p) V V<|wnt<|W_ret<|?_;obtain rfl:=osi f;refine rt1 (u8 p) V V V R ?_;exact ⟨rfl,C⟩
noncomputable def zjj (h:List UInt8):Option (List UInt8) :=
((divI (h.length:Int) 4).bind fun g =>
((appL ([]:List UInt8) h).bind fun t =>
((iterC (fun a:List UInt8×UInt8×Int =>
(if a.2.2<(wI (4 * (wI (g+7)))) then
((idx a.1 (wI ((wI (4 * a.2.2)) - 4))).bind fun b =>
((idx a.1 (wI ((wI (4 * a.2.2)) - 3))).bind fun c =>
((idx a.1 (wI ((wI (4 * a.2.2)) - 2))).bind fun d =>
((idx a.1 (wI ((wI (4 * a.2.2)) - 1))).bind fun e =>
(((remI a.2.2 g).bind fun j =>
(if j=0 then
((idx ([b,c,d,e]:List UInt8) 1).bind fun k =>
((idx ([b,c,d,e]:List UInt8) 2).bind fun l =>
((idx ([b,c,d,e]:List UInt8) 3).bind fun m =>
((idx ([b,c,d,e]:List UInt8) 0).bind fun n =>
((zdk k).bind fun x =>
((zdk l).bind fun y =>
((zdk m).bind fun z =>
((zdk n).bind fun A =>
((zc2 a.2.1 (2:UInt8)).bind fun B => some (B,([(x^^^a.2.1),y,z,A]:List UInt8)))))))))))
else
(if g=8 then
((remI a.2.2 8).bind fun o =>
(if o=4 then
((idx ([b,c,d,e]:List UInt8) 0).bind fun p =>
((idx ([b,c,d,e]:List UInt8) 1).bind fun q =>
((idx ([b,c,d,e]:List UInt8) 2).bind fun r =>
((idx ([b,c,d,e]:List UInt8) 3).bind fun s =>
((zdk p).bind fun C =>
((zdk q).bind fun D =>
((zdk r).bind fun E =>
((zdk s).bind fun F => some (a.2.1,([C,D,E,F]:List UInt8))))))))))
else some (a.2.1,([b,c,d,e]:List UInt8))))
else some (a.2.1,([b,c,d,e]:List UInt8))))).bind fun i =>
((iterC (fun f:List UInt8×Int =>
(if f.2<4 then
((idx f.1 (wI ((wI (4 * (wI (a.2.2 - g))))+f.2))).bind fun u =>
((idx i.2 f.2).bind fun v =>
((appL f.1 ([(u^^^v)]:List UInt8)).bind fun w => some (.inl (w,wI (f.2+1))))))
else some (.inr f.1))) (a.1,0)).bind fun G => some (.inl (G,i.1,wI (a.2.2+1)))))))))
else some (.inr a.1))) (t,(1:UInt8),g)).bind fun H => some H)))
theorem ref05_Keys_calls (aX:List UInt8) (Q:Value) (bP:List UInt8) (w0:World) (bN:By w0 [] Q aX) (s:zjj aX=some bP) :
  Calls Tryz.prog 103 [Q].toArray w0 (fun c2 bY=>∃ aM:Value,c2=.returned aM/\Ext w0 bY/\Nw w0 aM/\OwK (Sc u8) bY [] 5 aM bP):=by
 have aF:Ext w0 w0:=Ext.refl w0;unfold zjj at s;refine zai (n:=119) Tryz.func103 V V V<|W_sr<|av (.slice none 0 0) V V<|wnt<|W_sr<|mv Q V V<|wa V (q_len V T22.sl V (bN.lift (le_ aF)))<|bse s fun i cV s=>wa V (q_divI V V V cV)<|av (i64 i) V V<|wnt<|W_sr<|wls V V (zaz (L:=[]) (R:=Sc u8) [] ([]:List UInt8) V T22 V (by exact trivial) V (litC u8 zbi (us:=[]) (l:=([]:List UInt8)) V) V (litS u8 (us:=[]) (l:=([]:List UInt8)) V) ?_);intro eE eX dV dJ cL eS;have eL:=zaa cL;have bO:=Nw.ext aF dJ;have aE:=aF.trans eL;refine mv Q V V ?_;obtain ⟨eP,cY,s⟩:=bsi s;refine wls V V (zav (R:=Sc u8) (v:=eE) (u:=Q) (Sc.stab _) [] [] V T22 V V dV (bN.lift (le_ aE)) (fun _ _ m=>m) cY oc_u8 ?_);intro bU f4 dX cN dP eU;have cH:=aE.grown cN bO;have dN:=Nw.nxt aE bO dP;refine av bU V V<|wnt<|W_sr<|av (u8 1) V (cst8 (1:UInt8) V)<|wnt<|W_seq<|W_seq<|W_rg<|mv (i64 i) V V<|av (i64 i) V V<|wnt<|?_;obtain ⟨eN,c0,s⟩:=bsi s;refine W_mid (fun c h=>∃ a2:Value,c 4=a2/\c 119=undef/\Ext w0 h/\OwK (Sc u8) h [a2] 5 a2 eN/\Nw w0 a2) ?_ ?_
 ·refine zac<|zau (fun d c h=>∃ a0:Value,c 3=i64 i/\c 4=a0/\c 5=u8 d.2.1/\c 6=i64 d.2.2/\c 119=undef/\Ext w0 h/\OwK (Sc u8) h [a0] 5 a0 d.1/\Nw w0 a0) c0 ?_ ?_
  ·exact ⟨bU,rfl,rfl,rfl,rfl,rfl,cH,dX,dN⟩
  rintro d _ _ eK ⟨g,N,r,T,p,S,b8,b,P⟩ f dA;refine W_seq<|W_sr<|mv (i64 d.2.2) V p<|mv (i64 i) V N<|wa V (zak V V V)<|wa V (zco V V V)<|wa V (q_ltI V V V)<|wnt<|wci f V V (fun f=>?_) (fun f=>?_)
  ·refine zae<|W_th<|W_seq<|zac<|W_seq<|zba [5,11,17,23] [(0,0),(1,0),(2,0),(3,0),(4,0),(5,1),(6,0),(7,0),(8,0),(9,0),(10,0),(11,1),(12,0),(13,0),(14,0),(15,0),(16,0),(17,1),(18,0),(19,0),(20,0),(21,0),(22,0),(23,1),(24,2),(25,0)] mixed (by kernel_rfl) (by kernel_rfl) (by kernel_rfl) (by kernel_rfl) ?_;have aR:=Ext.drew eK;replace b:=b.extL (Sc.stab _) aR (le_ aR);have c3:=b8.trans aR;refine sv g V V r<|sv (i64 d.2.2) V V p<|sa V V (zco V V V)<|sa V V (za9 V V V)<|bse f fun E b9 f=>sa V V (q_adr V T22 V V (b.rd (Sc.stab _)) b9)<|sq V V (zao V T22 V (b.rd (Sc.stab _)) b9)<|sv g V V r<|sv (i64 d.2.2) V V p<|sa V V (zco V V V)<|sa V V (za9 V V V)<|?_;obtain ⟨F,bA,f⟩:=bsi f;refine sa V V (q_adr V T22 V V (b.rd (Sc.stab _)) bA)<|sq V V (zao V T22 V (b.rd (Sc.stab _)) bA)<|sv g V V r<|sv (i64 d.2.2) V V p<|sa V V (zco V V V)<|sa V V (za9 V V V)<|bse f fun G bB f=>sa V V (q_adr V T22 V V (b.rd (Sc.stab _)) bB)<|sq V V (zao V T22 V (b.rd (Sc.stab _)) bB)<|sv g V V r<|sv (i64 d.2.2) V V p<|sa V V (zco V V V)<|sa V V (za9 V V V)<|bse f fun H bC f=>sa V V (q_adr V T22 V V (b.rd (Sc.stab _)) bC)<|sq V V (zao V T22 V (b.rd (Sc.stab _)) bC)<|wsc V (by kernel_rfl) V V (zaz (L:=[g]) (R:=Sc u8) [u8 E,u8 F,u8 G,u8 H] ([E,F,G,H]:List UInt8) V T22 V (by exact ⟨rfl,rfl,rfl,rfl,rfl,rfl,rfl,rfl,trivial⟩) V (litC u8 zbi (us:=[u8 E,u8 F,u8 G,u8 H]) (l:=([E,F,G,H]:List UInt8)) V) V (litS u8 (us:=[u8 E,u8 F,u8 G,u8 H]) (l:=([E,F,G,H]:List UInt8)) V) ?_);intro j aQ dU dI cK eR;have aS:=zaa cK;have e:By aQ [g] j ([E,F,G,H]:List UInt8):=OwK.slk (Sc.stab _) _ dU (fun o K=>(Old.cons (Old.nil _) b.lt) o (dI o K)) (fun _ m=>m.2);replace b:=b.extL (Sc.stab _) aS (le_ aS)
   have X:=c3.trans aS;refine sa V V (zat (v:=j) V V)<|za1<|W_th<|W_seq<|?_;obtain ⟨W,a,f⟩:=bsi f;refine W_mid (fun c h=>∃ bX:Value,c 3=i64 i/\c 4=g/\c 5=u8 W.1/\c 6=i64 d.2.2/\c 7=bX/\c 119=undef/\Ext w0 h/\OwK (Sc u8) h [g] 5 g d.1/\Nw w0 g/\By h [g] bX W.2) ?_ ?_
   ·refine W_sr<|mv (i64 d.2.2) V p<|mv (i64 i) V N<|bse a fun eO cW a=>wa V (zdm V V V cW)<|wa V (q_eqI V V V)<|wnt<|wci a V V (fun a=>?_) (fun a=>?_)
    ·refine W_seq<|zba [2,8,12,16] [(0,0),(1,0),(2,1),(4,0),(6,0),(7,0),(8,1),(10,0),(11,0),(12,1),(14,0),(15,0),(16,1),(3,2),(5,0),(9,2),(13,2),(17,2),(18,2),(19,0)] mixed (by kernel_rfl) (by kernel_rfl) (by kernel_rfl) (by kernel_rfl) ?_;have a3:=Ext.drew aQ;replace e:=e.lift (le_ a3);replace b:=b.extL (Sc.stab _) a3 (le_ a3);have c4:=X.trans a3;refine sv j V V V ?_;obtain ⟨aY,bD,a⟩:=bsi a;refine sa V V (q_adr V T22 V V e bD)<|sq V V (zao V T22 V e bD)<|sv (u8 d.2.1) V V T<|sv j V V V<|bse a fun aZ bE a=>sa V V (q_adr V T22 V V e bE)<|sq V V (zao V T22 V e bE)<|sv j V V V<|bse a fun b0 bF a=>sa V V (q_adr V T22 V V e bF)<|sq V V (zao V T22 V e bF)<|sv j V V V<|bse a fun b1 bG a=>sa V V (q_adr V T22 V V e bG)<|sq V V (zao V T22 V e bG)<|?_;obtain ⟨t,d0,a⟩:=bsi a;refine wss V V V (zab (vs:=[u8 aY]) Tryz.func104 V V V (ar1 V) (zcb aY  t _  d0) ?_);rintro _ eY ⟨rfl,a4⟩;refine ⟨_,rfl,a4,?_⟩;replace b:=b.extL (Sc.stab _) a4 (le_ a4);have c5:=c4.trans a4;refine sa V V (zdb V V V) ?_;obtain ⟨w,d1,a⟩:=bsi a;refine wss V V V (zab (vs:=[u8 aZ]) Tryz.func104 V V V (ar1 V) (zcb aZ  w _  d1) ?_);rintro _ eZ ⟨rfl,a5⟩;refine ⟨_,rfl,a5,?_⟩;replace b:=b.extL (Sc.stab _) a5 (le_ a5);have c6:=c5.trans a5;obtain ⟨x,d2,a⟩:=bsi a;refine wss V V V (zab (vs:=[u8 b0]) Tryz.func104 V V V (ar1 V) (zcb b0  x _  d2) ?_);rintro _ f0 ⟨rfl,a6⟩;refine ⟨_,rfl,a6,?_⟩;replace b:=b.extL (Sc.stab _) a6 (le_ a6);have c7:=c6.trans a6;obtain ⟨y,d3,a⟩:=bsi a;refine wsc V (by kernel_rfl) V V (zab (vs:=[u8 b1]) Tryz.func104 V V V (ar1 V) (zcb b1  y _  d3) ?_);rintro _ f1 ⟨rfl,aT⟩;refine ⟨_,rfl,?_⟩;replace b:=b.extL (Sc.stab _) aT (le_ aT);have c8:=c7.trans aT
     refine wsc V (by kernel_rfl) V V (zaz (L:=[g]) (R:=Sc u8) [u8 (t^^^d.2.1),u8 w,u8 x,u8 y] ([(t^^^d.2.1),w,x,y]:List UInt8) V T22 V (by exact ⟨rfl,rfl,rfl,rfl,rfl,rfl,rfl,rfl,trivial⟩) V (litC u8 zbi (us:=[u8 (t^^^d.2.1),u8 w,u8 x,u8 y]) (l:=([(t^^^d.2.1),w,x,y]:List UInt8)) V) V (litS u8 (us:=[u8 (t^^^d.2.1),u8 w,u8 x,u8 y]) (l:=([(t^^^d.2.1),w,x,y]:List UInt8)) V) ?_);intro aN eG dW dK cM eT;have aU:=zaa cM;have aH:By eG [g] aN ([(t^^^d.2.1),w,x,y]:List UInt8):=OwK.slk (Sc.stab _) _ dW (fun o K=>(Old.cons (Old.nil _) b.lt) o (dK o K)) (fun _ m=>m.2);replace b:=b.extL (Sc.stab _) aU (le_ aU);have c9:=c8.trans aU;refine sa V V (zat (v:=aN) V V)<|za1<|W_th<|W_rg<|mv (u8 d.2.1) V T<|?_;obtain ⟨bQ,d4,a⟩:=bsi a;refine wls V V (zab (vs:=[u8 d.2.1,u8 2]) Tryz.func105 V V V (ar2 V (by exact (cst8 (2:UInt8) V))) (zcd d.2.1 (2:UInt8)  bQ _  d4) ?_);rintro _ f2 ⟨rfl,a7⟩;refine ⟨_,rfl,?_⟩;replace aH:=aH.lift (le_ a7);replace b:=b.extL (Sc.stab _) a7 (le_ a7);have cA:=c9.trans a7;refine av (u8 bQ) V V<|zag<|?_;obtain rfl:=osi a;exact ⟨aN,N,r,rfl,p,rfl,S,cA,b,P,aH⟩
    refine W_sr<|mv (i64 i) V N<|wa V (q_eqI V V V)<|wlb V V (zbd (v:=(.bool (decide (i=8)))) V V) (fun aG=>?_) (fun aG=>?_)
    ·replace a:=ifp aG a;refine mv (i64 d.2.2) V p ?_;obtain ⟨c1,cX,a⟩:=bsi a;refine wa V (zdm V V V cX)<|wa V (q_eqI V V V)<|wa V (zaw (v:=(.bool (decide (c1=4)))) V V V)<|wnt<|wci a V V (fun a=>?_) (fun a=>?_)
     ·refine zba [2,6,10,14] [(0,0),(1,0),(2,1),(4,0),(5,0),(6,1),(8,0),(9,0),(10,1),(12,0),(13,0),(14,1),(3,2),(7,2),(11,2),(15,2),(16,2),(17,0)] mixed (by kernel_rfl) (by kernel_rfl) (by kernel_rfl) (by kernel_rfl) ?_;have a8:=Ext.drew aQ;replace e:=e.lift (le_ a8);replace b:=b.extL (Sc.stab _) a8 (le_ a8);have cB:=X.trans a8;refine sv j V V V ?_;obtain ⟨b2,bH,a⟩:=bsi a;refine sa V V (q_adr V T22 V V e bH)<|sq V V (zao V T22 V e bH)<|sv j V V V<|bse a fun b3 bI a=>sa V V (q_adr V T22 V V e bI)<|sq V V (zao V T22 V e bI)<|sv j V V V<|bse a fun b4 bJ a=>sa V V (q_adr V T22 V V e bJ)<|sq V V (zao V T22 V e bJ)<|sv j V V V<|bse a fun b5 bK a=>sa V V (q_adr V T22 V V e bK)<|sq V V (zao V T22 V e bK)<|?_;obtain ⟨z,d5,a⟩:=bsi a;refine wss V V V (zab (vs:=[u8 b2]) Tryz.func104 V V V (ar1 V) (zcb b2  z _  d5) ?_);rintro _ f3 ⟨rfl,a9⟩;refine ⟨_,rfl,a9,?_⟩;replace b:=b.extL (Sc.stab _) a9 (le_ a9);have cC:=cB.trans a9;obtain ⟨A,d6,a⟩:=bsi a;refine wss V V V (zab (vs:=[u8 b3]) Tryz.func104 V V V (ar1 V) (zcb b3  A _  d6) ?_);rintro _ f5 ⟨rfl,aA⟩;refine ⟨_,rfl,aA,?_⟩;replace b:=b.extL (Sc.stab _) aA (le_ aA);have cD:=cC.trans aA;obtain ⟨B,d7,a⟩:=bsi a;refine wss V V V (zab (vs:=[u8 b4]) Tryz.func104 V V V (ar1 V) (zcb b4  B _  d7) ?_);rintro _ f6 ⟨rfl,aB⟩;refine ⟨_,rfl,aB,?_⟩;replace b:=b.extL (Sc.stab _) aB (le_ aB);have cE:=cD.trans aB;obtain ⟨C,d8,a⟩:=bsi a;refine wsc V (by kernel_rfl) V V (zab (vs:=[u8 b5]) Tryz.func104 V V V (ar1 V) (zcb b5  C _  d8) ?_);rintro _ f7 ⟨rfl,aV⟩;refine ⟨_,rfl,?_⟩;replace b:=b.extL (Sc.stab _) aV (le_ aV);have cF:=cE.trans aV;refine wsc V (by kernel_rfl) V V (zaz (L:=[g]) (R:=Sc u8) [u8 z,u8 A,u8 B,u8 C] ([z,A,B,C]:List UInt8) V T22 V (by exact ⟨rfl,rfl,rfl,rfl,rfl,rfl,rfl,rfl,trivial⟩) V (litC u8 zbi (us:=[u8 z,u8 A,u8 B,u8 C]) (l:=([z,A,B,C]:List UInt8)) V) V (litS u8 (us:=[u8 z,u8 A,u8 B,u8 C]) (l:=([z,A,B,C]:List UInt8)) V) ?_)
      intro aO eH dY dL cO eV;have aW:=zaa cO;have dC:By eH [g] aO ([z,A,B,C]:List UInt8):=OwK.slk (Sc.stab _) _ dY (fun o K=>(Old.cons (Old.nil _) b.lt) o (dL o K)) (fun _ m=>m.2);replace b:=b.extL (Sc.stab _) aW (le_ aW);have cG:=cF.trans aW;refine sa V V (zat (v:=aO) V V)<|za1 ?_;obtain rfl:=osi a;exact ⟨aO,N,r,T,p,rfl,S,cG,b,P,dC⟩
     refine zae ?_;obtain rfl:=osi a;exact ⟨j,N,r,T,p,rfl,S,X,b,P,e⟩
    replace a:=ifn aG a;refine wk V<|wk V<|wk V<|wa V (zaq (v:=(.bool false)) V V V)<|wnt<|zam false V V (fun cU=>by cases cU) (fun _=>?_);refine zae ?_;obtain rfl:=osi a;exact ⟨j,N,r,T,p,rfl,S,X,b,P,e⟩
   rintro _ f8 ⟨aP,e4,e6,e9,eB,eD,e1,cR,dR,dF,dB⟩;refine W_th<|W_sr<|av (i64 0) V V<|wnt<|?_;obtain ⟨eM,bZ,f⟩:=bsi f;refine W_mid (fun c h=>∃ Z:Value,c 3=i64 i/\c 4=Z/\c 5=u8 W.1/\c 6=i64 d.2.2/\c 119=undef/\Ext w0 h/\OwK (Sc u8) h [Z] 5 Z eM/\Nw w0 Z) ?_ ?_
   ·refine zac<|zau (fun D c h=>∃ U:Value,c 3=i64 i/\c 4=U/\c 5=u8 W.1/\c 6=i64 d.2.2/\c 7=aP/\c 8=i64 D.2/\c 119=undef/\Ext w0 h/\OwK (Sc u8) h [U] 5 U D.1/\Nw w0 U/\By h [U] aP W.2) bZ ?_ ?_
    ·exact ⟨g,e4,e6,e9,eB,eD,rfl,e1,cR,dR,dF,dB⟩
    rintro D _ _ eI ⟨O,aJ,aK,bS,aL,bT,Y,bR,b7,q,aI,M⟩ k d9;refine W_seq<|W_sr<|mv (i64 D.2) V Y<|wa V (q_ltI V V V)<|wnt<|wci k V V (fun k=>?_) (fun k=>?_)
    ·refine zae<|W_th<|W_seq<|zac<|zba [9,13] [(0,0),(1,0),(2,0),(3,0),(4,0),(5,0),(6,0),(7,0),(8,0),(9,1),(10,0),(11,0),(12,0),(13,1),(14,0),(15,2),(16,2),(17,0)] mixed (by kernel_rfl) (by kernel_rfl) (by kernel_rfl) (by kernel_rfl) ?_;have aC:=Ext.drew eI;replace M:=M.lift (le_ aC);replace q:=q.extL (Sc.stab _) aC (le_ aC);have cI:=b7.trans aC;refine sv O V V aK<|sv O V V aK<|sv (i64 d.2.2) V V aL<|sv (i64 i) V V aJ<|sa V V (za9 V V V)<|sa V V (zco V V V)<|sv (i64 D.2) V V Y<|sa V V (zak V V V)<|bse k fun I bL k=>sa V V (q_adr V T22 V V (q.rd (Sc.stab _)) bL)<|sq V V (zao V T22 V (q.rd (Sc.stab _)) bL)<|sv aP V V bT<|sv (i64 D.2) V V Y<|?_;obtain ⟨J,bM,k⟩:=bsi k;refine sa V V (q_adr V T22 V V M bM)<|sq V V (zao V T22 V M bM)<|sa V V (zdb V V V)<|wsc V (by kernel_rfl) V V (zaz (L:=[O]) (R:=Sc u8) [u8 (I^^^J)] ([(I^^^J)]:List UInt8) V T22 V (by exact ⟨rfl,rfl,trivial⟩) V (litC u8 zbi (us:=[u8 (I^^^J)]) (l:=([(I^^^J)]:List UInt8)) V) V (litS u8 (us:=[u8 (I^^^J)]) (l:=([(I^^^J)]:List UInt8)) V) ?_);intro bV eJ dZ dM cP eW;have aD:=zaa cP;have dD:By eJ [O] bV ([(I^^^J)]:List UInt8):=OwK.slk (Sc.stab _) _ dZ (fun o K=>(Old.cons (Old.nil _) q.lt) o (dM o K)) (fun _ m=>m.2);replace q:=q.extL (Sc.stab _) aD (le_ aD);have b6:=cI.trans aD;obtain ⟨eQ,cZ,k⟩:=bsi k;refine wsc V (by kernel_rfl) V V (zav (R:=Sc u8) (v:=O) (u:=bV) (Sc.stab _) [] [] V T22 V V q dD (fun _ _ m=>m) cZ oc_u8 ?_);intro bW f9 e0 cQ dQ dE;replace M:=(M.lift (le_ aD)).lift dE;have cJ:=b6.grown cQ aI;have dO:=Nw.nxt b6 aI dQ;refine sa V V (zat (v:=bW) V V)<|za1<|bk_n<|W_th<|W_rg<|mv (i64 D.2) V Y<|wa V (zak V V V)<|av (i64 (wI (D.2+1))) V V<|?_
     refine zag ?_;obtain rfl:=osi k;exact ⟨_,rfl,bW,aJ,rfl,bS,aL,bT,rfl,bR,cJ,e0,dO,M⟩
    refine zar<|th_x<|?_;obtain rfl:=osi k;obtain rfl:=d9 _ rfl;refine th_x<|bk_x<|?_;exact ⟨O,aJ,aK,bS,aL,bR,b7,q,aI⟩
   rintro _ fA ⟨eF,e5,e7,eA,eC,e2,cS,dS,dG⟩;refine bk_n<|W_th<|W_rg<|mv (i64 d.2.2) V eC<|wa V (zak V V V)<|av (i64 (wI (d.2.2+1))) V V<|zag<|?_;obtain rfl:=osi f;exact ⟨_,rfl,eF,e5,e7,eA,rfl,e2,cS,dS,dG⟩
  refine zar<|th_x<|?_;obtain rfl:=osi f;obtain rfl:=dA _ rfl;refine th_x<|bk_x<|?_;exact ⟨g,r,S,b8,b,P⟩
 rintro _ fB ⟨a1,e8,e3,cT,dT,dH⟩;refine W_th<|W_sr<|mv a1 V e8<|av a1 V V<|wnt<|W_ret<|?_;obtain rfl:=osi s;refine rt1 a1 V V V e3 ?_;exact ⟨a1,rfl,cT,dH,dT.weak (Sc.stab _) (fun _ _=>trivial)⟩
noncomputable def zd5 (n:List UInt8) (o:List UInt8):Option (List UInt8) :=
((zjj n).bind fun i =>
((divI (i.length:Int) 16).bind fun j =>
((lenA 16 (List.replicate 16 (0:UInt8))).bind fun Y =>
((iterC (fun c:List UInt8×Int =>
(if c.2<16 then
((idx o c.2).bind fun r =>
((idx i c.2).bind fun s =>
((lenA 16 c.1).bind fun N =>
((idx c.1 c.2).bind fun O => some (.inl (c.1.set (c.2:Int).toNat (r^^^s),wI (c.2+1)))))))
else some (.inr c.1))) (List.replicate 16 (0:UInt8),0)).bind fun G =>
((iterC (fun f:List UInt8×Int =>
(if f.2<=(wI (j - 1)) then
((lenA 16 (List.replicate 16 (0:UInt8))).bind fun P =>
((iterC (fun g:List UInt8×Int =>
(if g.2<4 then
((iterC (fun d:List UInt8×Int =>
(if d.2<4 then
((remI (wI (g.2+d.2)) 4).bind fun t =>
((lenA 16 f.1).bind fun Q =>
((idx f.1 (wI ((wI (4 * t))+d.2))).bind fun u =>
((zdk u).bind fun C =>
((lenA 16 d.1).bind fun R =>
((idx d.1 (wI ((wI (4 * g.2))+d.2))).bind fun S => some (.inl (d.1.set ((wI ((wI (4 * g.2))+d.2)):Int).toNat C,wI (d.2+1)))))))))
else some (.inr d.1))) (g.1,0)).bind fun H => some (.inl (H,wI (g.2+1))))
else some (.inr g.1))) (List.replicate 16 (0:UInt8),0)).bind fun h =>
((if f.2<(wI (j - 1)) then
((lenA 16 (List.replicate 16 (0:UInt8))).bind fun T =>
((iterC (fun e:List UInt8×Int =>
(if e.2<4 then
((iterC (fun a:List UInt8×Int =>
(if a.2<4 then
((lenA 16 h).bind fun U =>
((idx h (wI ((wI (4 * e.2))+a.2))).bind fun v =>
((remI (wI (a.2+1)) 4).bind fun w =>
((idx h (wI ((wI (4 * e.2))+w))).bind fun x =>
((remI (wI (a.2+2)) 4).bind fun y =>
((idx h (wI ((wI (4 * e.2))+y))).bind fun z =>
((remI (wI (a.2+3)) 4).bind fun A =>
((idx h (wI ((wI (4 * e.2))+A))).bind fun B =>
((zc2 (2:UInt8) v).bind fun D =>
((zc2 (3:UInt8) x).bind fun E =>
((lenA 16 a.1).bind fun W =>
((idx a.1 (wI ((wI (4 * e.2))+a.2))).bind fun X => some (.inl (a.1.set ((wI ((wI (4 * e.2))+a.2)):Int).toNat (((D^^^E)^^^z)^^^B),wI (a.2+1)))))))))))))))
else some (.inr a.1))) (e.1,0)).bind fun I => some (.inl (I,wI (e.2+1))))
else some (.inr e.1))) (List.replicate 16 (0:UInt8),0)).bind fun m =>
((lenA 16 m).bind fun Z =>
((lenA 16 h).bind fun a0 => some m))))
else some h).bind fun l =>
((iterC (fun b:List UInt8×Int =>
(if b.2<16 then
((lenA 16 l).bind fun J =>
((idx l b.2).bind fun p =>
((idx i (wI ((wI (16 * f.2))+b.2))).bind fun q =>
((lenA 16 b.1).bind fun K =>
((idx b.1 b.2).bind fun L => some (.inl (b.1.set (b.2:Int).toNat (p^^^q),wI (b.2+1))))))))
else some (.inr b.1))) (f.1,0)).bind fun F => some (.inl (F,wI (f.2+1)))))))
else some (.inr f.1))) (G,1)).bind fun k =>
((lenA 16 k).bind fun M => some k))))))
theorem zia (aC:List UInt8) (b8:List UInt8) (U:Value) (a7:Value) (d5:List UInt8) (w0:World) (fZ:By w0 [] U aC) (c5:By w0 [] a7 b8) (q:zd5 aC b8=some d5) :
  Calls Tryz.prog 75 [U,a7].toArray w0 (fun eS eC=>∃ b5:Value,eS=.returned b5/\Ext w0 eC/\Nw w0 b5/\By eC [] b5 d5):=by
 have bH:Ext w0 w0:=Ext.refl w0;unfold zd5 at q;refine zai (n:=139) Tryz.func75 V V V<|W_sr<|av (.slice none 0 0) V V<|wnt<|W_sr<|mv U V V<|?_;obtain ⟨o,g0,q⟩:=bsi q;refine wls V V (zab (vs:=[U]) Tryz.func103 V V V (ar1 V) (ref05_Keys_calls aC U o _ (fZ.lift (le_ bH)) g0) ?_);rintro _ iX ⟨f,rfl,j1,gV,h8⟩;refine ⟨_,rfl,?_⟩;have a2:By iX [] f o:=OwK.slk (Sc.stab _) _ (OwK.scal h8 (f::[])) (fun c8 fY=>(Old.nil _) c8 (gV c8 fY)) (fun _ u=>u.2);have bC:=bH.trans j1;refine av f V V<|wnt<|W_sr<|mv f V V<|wa V (q_len V T22.sl V a2)<|bse q fun k fP q=>wa V (q_divI V V V fP)<|wa V (za9 V V V)<|av (i64 (wI (k - 1))) V V<|wnt<|W_sr<|wa V (zjx (l:=([]:List UInt8)) (us:=[]) (z:=(0:UInt8)) V A135 Z135 (by exact trivial) V V cel_u8)<|wls V V (sal u8 (List.replicate 16 (0:UInt8)) [] V Z135 ?_);intro c kB hJ cM fC jU;have eD:=zaa fC;have cO:=Nw.ext bC cM;have f2:=bC.trans eD;obtain ⟨jQ,c3,q⟩:=bsi q;refine wln V V (zbm [] [] V A135 V V (zad c3) (zad c3) hJ zio ?_);intro kH hM fD gL;replace a2:=(a2.lift (Lift.call _ eD cM)).lift gL;have eT:=f2.grown fD cO;refine wnt<|W_seq<|W_sr<|mv (i64 0) V V<|wnt<|?_;obtain ⟨j3,eG,q⟩:=bsi q;refine W_mid (fun a d=>a 5=f/\a 6=i64 (wI (k - 1))/\a 7=bp c/\a 139=undef/\Ext w0 d/\Blk d c 135 (ac u8 j3)/\Nw w0 (bp c)/\By d [bp c] f o) ?_ ?_
 ·refine zac<|zau (fun B a d=>a 1=a7/\a 5=f/\a 6=i64 (wI (k - 1))/\a 7=bp c/\a 24=i64 B.2/\a 139=undef/\Ext w0 d/\Blk d c 135 (ac u8 B.1)/\Nw w0 (bp c)/\By d [bp c] f o) eG ?_ ?_
  ·exact ⟨rfl,rfl,rfl,rfl,rfl,rfl,eT,hM,cO,a2⟩
  rintro B _ _ iZ ⟨dP,aY,dW,b1,aW,dG,bJ,a5,aL,E⟩ r g2;refine W_sr<|wa V (q_ltI V aW V)<|wnt<|W_seq<|wci r V V (fun r=>?_) (fun r=>?_)
  ·refine zae<|W_th<|W_seq<|zac<|W_sr<|mv (i64 B.2) V aW<|av (i64 B.2) V V<|wnt<|zba [4,8] [(0,0),(1,0),(2,0),(3,0),(4,1),(5,0),(6,0),(7,0),(8,1),(9,0),(10,0),(11,2)] mixed (by kernel_rfl) (by kernel_rfl) (by kernel_rfl) (by kernel_rfl) ?_;have b6:=Ext.drew iZ;replace E:=E.lift (le_ b6);replace a5:=a5.ext b6;have aD:=bJ.trans b6;refine sv (i64 B.2) V V V<|sv a7 V V dP<|sv (i64 B.2) V V V<|bse r fun eO bR r=>sa V V (q_adr V T22 V V (c5.lift (le_ aD)) bR)<|sq V V (zao V T22 V (c5.lift (le_ aD)) bR)<|sv f V V aY<|sv (i64 B.2) V V V<|bse r fun eP bS r=>sa V V (q_adr V T22 V V E bS)<|sq V V (zao V T22 V E bS)<|sa V V (zdb V V V)<|?_;obtain ⟨jC,fO,r⟩:=bsi r;obtain ⟨jD,bT,r⟩:=bsi r;refine sa V V (q_ixA (m:=0) V A135 (by exact b1) V (zad fO) bT)<|wsn V (by kernel_rfl) V V (zcz (b:=(eO^^^eP)) [] [] V A135 V V a5 bT (zio _) ?_);intro k2 hD f9 gH;replace E:=E.lift gH;have eW:=aD.grown f9 aL;refine za1<|bk_n<|W_th<|W_rg<|wa V (zak V aW V)<|mv (i64 (wI (B.2+1))) V V<|zag<|?_;obtain rfl:=osi r;exact ⟨_,rfl,dP,aY,dW,b1,rfl,dG,eW,hD,aL,E⟩
  refine zar<|th_x<|?_;obtain rfl:=osi r;obtain rfl:=g2 _ rfl;refine th_x<|bk_x<|?_;exact ⟨aY,dW,b1,dG,bJ,a5,aL,E⟩
 rintro _ k3 ⟨i9,iG,iN,i0,fG,h3,gQ,gC⟩;refine W_th<|W_seq<|W_sr<|av (i64 1) V V<|wnt<|?_;obtain ⟨j4,eH,q⟩:=bsi q;refine W_mid (fun a d=>a 7=bp c/\a 139=undef/\Ext w0 d/\Blk d c 135 (ac u8 j4)/\Nw w0 (bp c)) ?_ ?_
 ·refine zac<|zau (fun h a d=>a 5=f/\a 6=i64 (wI (k - 1))/\a 7=bp c/\a 9=i64 h.2/\a 139=undef/\Ext w0 d/\Blk d c 135 (ac u8 h.1)/\Nw w0 (bp c)/\By d [bp c] f o) eH ?_ ?_
  ·exact ⟨i9,iG,iN,rfl,i0,fG,h3,gQ,gC⟩
  rintro h _ _ k4 ⟨iA,dX,e2,e7,dH,aG,Q,c9,aI⟩ s g3;refine W_seq<|W_sr<|mv (i64 h.2) V e7<|mv (i64 (wI (k - 1))) V dX<|wa V (q_leI V V V)<|wnt<|wci s V V (fun s=>?_) (fun s=>?_)
  ·refine zae<|W_th<|W_seq<|zac<|W_sr<|wa V (zjx (l:=([]:List UInt8)) (us:=[]) (z:=(0:UInt8)) V A135 Z135 (by exact trivial) V V cel_u8)<|wls V V (sal u8 (List.replicate 16 (0:UInt8)) [bp c] V Z135 ?_);intro e k5 hE aN fA jT;have b7:=zaa fA;have d2:Nq (bp c) (bp e):=Q.nq aN;have cL:=Nw.ext aG aN;have eX:=aG.trans b7;obtain ⟨jE,bU,s⟩:=bsi s;refine wln V V (zbm [] [bp c] V A135 V V (zad bU) (zad bU) hE zio ?_);intro k6 hH bE gI;replace aI:=(aI.lift (Lift.call _ b7 aN)).lift gI;replace Q:=(Q.ext b7).other bE d2;have eY:=eX.grown bE cL;refine wnt<|W_seq<|W_sr<|av (i64 0) V V<|wnt<|?_;obtain ⟨X,eI,s⟩:=bsi s;refine W_mid (fun a d=>a 5=f/\a 6=i64 (wI (k - 1))/\a 7=bp c/\a 9=i64 h.2/\a 10=bp e/\a 139=undef/\Ext w0 d/\Blk d c 135 (ac u8 h.1)/\Nw w0 (bp c)/\Blk d e 135 (ac u8 X)/\Nw w0 (bp e)/\Nq (bp c) (bp e)/\By d [bp c,bp e] f o) ?_ ?_
   ·refine zac<|zau (fun y a d=>a 5=f/\a 6=i64 (wI (k - 1))/\a 7=bp c/\a 9=i64 h.2/\a 10=bp e/\a 11=i64 y.2/\a 139=undef/\Ext w0 d/\Blk d c 135 (ac u8 h.1)/\Nw w0 (bp c)/\Blk d e 135 (ac u8 y.1)/\Nw w0 (bp e)/\Nq (bp c) (bp e)/\By d [bp c,bp e] f o) eI ?_ ?_
    ·exact ⟨iA,dX,e2,e7,rfl,rfl,dH,eY,Q,c9,hH,cL,d2,aI.lift (Lift.sub (fun _ u=>⟨u.2.1,u.1,trivial⟩))⟩
    rintro y _ _ k7 ⟨dQ,dY,e3,e8,dA,dE,dI,bK,cP,cA,cR,cF,cV,c6⟩ H g4;refine W_seq<|W_sr<|mv (i64 y.2) V dE<|wa V (q_ltI V V V)<|wnt<|wci H V V (fun H=>?_) (fun H=>?_)
    ·refine zae<|W_th<|W_seq<|zac<|W_sr<|av (i64 0) V V<|wnt<|?_;obtain ⟨j5,eJ,H⟩:=bsi H;refine W_mid (fun a d=>a 5=f/\a 6=i64 (wI (k - 1))/\a 7=bp c/\a 9=i64 h.2/\a 10=bp e/\a 11=i64 y.2/\a 139=undef/\Ext w0 d/\Blk d c 135 (ac u8 h.1)/\Nw w0 (bp c)/\Blk d e 135 (ac u8 j5)/\Nw w0 (bp e)/\Nq (bp c) (bp e)/\By d [bp c,bp e] f o) ?_ ?_
     ·refine zac<|zau (fun C a d=>a 5=f/\a 6=i64 (wI (k - 1))/\a 7=bp c/\a 9=i64 h.2/\a 10=bp e/\a 11=i64 y.2/\a 12=i64 C.2/\a 139=undef/\Ext w0 d/\Blk d c 135 (ac u8 h.1)/\Nw w0 (bp c)/\Blk d e 135 (ac u8 C.1)/\Nw w0 (bp e)/\Nq (bp c) (bp e)/\By d [bp c,bp e] f o) eJ ?_ ?_
      ·exact ⟨dQ,dY,e3,e8,dA,dE,rfl,dI,bK,cP,cA,cR,cF,cV,c6⟩
      rintro C _ _ k8 ⟨dR,dZ,b2,e9,aT,a8,W,dJ,bL,R,cB,a6,aM,aQ,a0⟩ j g5;refine W_seq<|W_sr<|mv (i64 C.2) V W<|wa V (q_ltI V V V)<|wnt<|wci j V V (fun j=>?_) (fun j=>?_)
      ·refine zae<|W_th<|W_seq<|zac<|W_rg<|mv (i64 y.2) V a8<|wa V (zco V V V)<|mv (i64 C.2) V W<|?_;refine wa V (zak V V V)<|mv (i64 y.2) V a8<|mv (i64 C.2) V W<|wa V (zak V V V)<|bse j fun jF fQ j=>wa V (zdm V V V fQ)<|wa V (zco V V V)<|mv (i64 C.2) V W<|wa V (zak V V V)<|?_;obtain ⟨jG,fR,j⟩:=bsi j;obtain ⟨b9,bV,j⟩:=bsi j;refine wa V (q_ixA (m:=0) V A135 (by exact b2) V (zad fR) bV)<|wq V (zax (m:=0) V A135 V R (zaf _ _) bV)<|?_;obtain ⟨d6,g6,j⟩:=bsi j;refine wls V V (zab (vs:=[u8 b9]) Tryz.func104 V V V (ar1 V) (zcb b9  d6 _  g6) ?_);rintro _ k9 ⟨rfl,aA⟩;refine ⟨_,rfl,?_⟩;replace a6:=a6.ext aA;have eZ:=bL.trans aA;obtain ⟨jH,fS,j⟩:=bsi j;obtain ⟨jI,bW,j⟩:=bsi j;refine wa V (q_ixA (m:=0) V A135 (by exact aT) V (zad fS) bW)<|wln V V (zcz (b:=d6) [bp c] [] V A135 V V a6 bW (zio _) ?_);intro kA hI bF gJ;replace a0:=(a0.lift (le_ aA)).lift gJ;replace R:=(R.ext aA).other bF aQ;have f0:=eZ.grown bF aM;refine zag<|bk_n<|W_th<|W_rg<|mv (i64 C.2) V W<|wa V (zak V V V)<|av (i64 (wI (C.2+1))) V V<|zag<|?_;obtain rfl:=osi j;exact ⟨_,rfl,dR,dZ,b2,e9,aT,a8,rfl,dJ,f0,R,cB,hI,aM,aQ,a0⟩
      refine zar<|th_x<|?_;obtain rfl:=osi j;obtain rfl:=g5 _ rfl;refine th_x<|bk_x<|?_;exact ⟨dR,dZ,b2,e9,aT,a8,dJ,bL,R,cB,a6,aM,aQ,a0⟩
     rintro _ kC ⟨iB,iH,iO,iT,hU,hX,i1,fH,h4,gR,h9,gX,hP,gD⟩;refine bk_n<|W_th<|W_rg<|mv (i64 y.2) V hX<|wa V (zak V V V)<|av (i64 (wI (y.2+1))) V V<|zag<|?_;obtain rfl:=osi H;exact ⟨_,rfl,iB,iH,iO,iT,hU,rfl,i1,fH,h4,gR,h9,gX,hP,gD⟩
    refine zar<|th_x<|?_;obtain rfl:=osi H;obtain rfl:=g4 _ rfl;refine th_x<|bk_x<|?_;exact ⟨dQ,dY,e3,e8,dA,dI,bK,cP,cA,cR,cF,cV,c6⟩
   rintro _ kD ⟨dS,aZ,e4,b4,dB,dK,aH,S,cC,T,cG,cW,a1⟩;refine W_th<|W_seq<|?_;obtain ⟨eE,t,s⟩:=bsi s;refine W_mid (fun a d=>a 5=f/\a 6=i64 (wI (k - 1))/\a 7=bp c/\a 9=i64 h.2/\a 10=bp e/\a 139=undef/\Ext w0 d/\Blk d c 135 (ac u8 h.1)/\Nw w0 (bp c)/\Blk d e 135 (ac u8 eE)/\Nw w0 (bp e)/\Nq (bp c) (bp e)/\By d [bp c,bp e] f o) ?_ ?_
   ·refine W_sr<|mv (i64 h.2) V b4<|mv (i64 (wI (k - 1))) V aZ<|wa V (q_ltI V V V)<|wnt<|wci t V V (fun t=>?_) (fun t=>?_)
    ·refine W_sr<|wa V (zjx (l:=([]:List UInt8)) (us:=[]) (z:=(0:UInt8)) V A135 Z135 (by exact trivial) V V cel_u8)<|wls V V (sal u8 (List.replicate 16 (0:UInt8)) [bp c,bp e] V Z135 ?_);intro i kE hK a3 fB jV;have aB:=zaa fB;have d3:Nq (bp c) (bp i):=S.nq a3;have d4:Nq (bp e) (bp i):=T.nq a3;have cN:=Nw.ext aH a3;have f1:=aH.trans aB;obtain ⟨jJ,bX,t⟩:=bsi t;refine wln V V (zbm [] [bp c,bp e] V A135 V V (zad bX) (zad bX) hK zio ?_);intro kF hL aE gK;replace a1:=(a1.lift (Lift.call _ aB a3)).lift gK;replace S:=(S.ext aB).other aE d3;replace T:=(T.ext aB).other aE d4;have f3:=f1.grown aE cN;refine wnt<|W_seq<|W_sr<|av (i64 0) V V<|wnt<|?_;obtain ⟨j6,eK,t⟩:=bsi t;refine W_mid (fun a d=>a 5=f/\a 6=i64 (wI (k - 1))/\a 7=bp c/\a 9=i64 h.2/\a 10=bp e/\a 13=bp i/\a 139=undef/\Ext w0 d/\Blk d c 135 (ac u8 h.1)/\Nw w0 (bp c)/\Blk d e 135 (ac u8 X)/\Nw w0 (bp e)/\Blk d i 135 (ac u8 j6)/\Nw w0 (bp i)/\Nq (bp c) (bp e)/\Nq (bp c) (bp i)/\Nq (bp e) (bp i)/\By d [bp c,bp e,bp i] f o) ?_ ?_
     ·refine zac<|zau (fun v a d=>a 5=f/\a 6=i64 (wI (k - 1))/\a 7=bp c/\a 9=i64 h.2/\a 10=bp e/\a 13=bp i/\a 14=i64 v.2/\a 139=undef/\Ext w0 d/\Blk d c 135 (ac u8 h.1)/\Nw w0 (bp c)/\Blk d e 135 (ac u8 X)/\Nw w0 (bp e)/\Blk d i 135 (ac u8 v.1)/\Nw w0 (bp i)/\Nq (bp c) (bp e)/\Nq (bp c) (bp i)/\Nq (bp e) (bp i)/\By d [bp c,bp e,bp i] f o) eK ?_ ?_
      ·exact ⟨dS,aZ,e4,b4,dB,rfl,rfl,dK,f3,S,cC,T,cG,hL,cN,cW,d3,d4,a1.lift (Lift.sub (fun _ u=>⟨u.2.1,u.2.2.1,u.1,trivial⟩))⟩
      rintro v _ _ kG ⟨dT,e0,e5,eA,dC,dN,dO,dL,bM,cQ,cD,cS,cH,cT,cK,cX,d0,d1,c7⟩ I g7;refine W_seq<|W_sr<|mv (i64 v.2) V dO<|wa V (q_ltI V V V)<|wnt<|wci I V V (fun I=>?_) (fun I=>?_)
      ·refine zae<|W_th<|W_seq<|zac<|W_sr<|av (i64 0) V V<|wnt<|?_;obtain ⟨j7,eL,I⟩:=bsi I;refine W_mid (fun a d=>a 5=f/\a 6=i64 (wI (k - 1))/\a 7=bp c/\a 9=i64 h.2/\a 10=bp e/\a 13=bp i/\a 14=i64 v.2/\a 139=undef/\Ext w0 d/\Blk d c 135 (ac u8 h.1)/\Nw w0 (bp c)/\Blk d e 135 (ac u8 X)/\Nw w0 (bp e)/\Blk d i 135 (ac u8 j7)/\Nw w0 (bp i)/\Nq (bp c) (bp e)/\Nq (bp c) (bp i)/\Nq (bp e) (bp i)/\By d [bp c,bp e,bp i] f o) ?_ ?_
       ·refine zac<|zau (fun x a d=>a 5=f/\a 6=i64 (wI (k - 1))/\a 7=bp c/\a 9=i64 h.2/\a 10=bp e/\a 13=bp i/\a 14=i64 v.2/\a 15=i64 x.2/\a 139=undef/\Ext w0 d/\Blk d c 135 (ac u8 h.1)/\Nw w0 (bp c)/\Blk d e 135 (ac u8 X)/\Nw w0 (bp e)/\Blk d i 135 (ac u8 x.1)/\Nw w0 (bp i)/\Nq (bp c) (bp e)/\Nq (bp c) (bp i)/\Nq (bp e) (bp i)/\By d [bp c,bp e,bp i] f o) eL ?_ ?_
        ·exact ⟨dT,e0,e5,eA,dC,dN,dO,rfl,dL,bM,cQ,cD,cS,cH,cT,cK,cX,d0,d1,c7⟩
        rintro x _ _ j0 ⟨dU,e1,e6,eB,N,aV,J,K,dM,bN,G,cE,w,cI,M,aO,cY,aR,aS,F⟩ g g8;refine W_seq<|W_sr<|mv (i64 x.2) V K<|wa V (q_ltI V V V)<|wnt<|wci g V V (fun g=>?_) (fun g=>?_)
        ·refine zae<|W_th<|W_seq<|zac<|zba [9,18,28,37] [(0,0),(1,0),(2,0),(3,0),(4,0),(5,0),(6,0),(7,0),(8,0),(9,1),(11,0),(12,0),(13,0),(14,0),(15,0),(16,0),(17,0),(18,1),(21,0),(22,0),(23,0),(24,0),(25,0),(26,0),(27,0),(28,1),(30,0),(31,0),(32,0),(33,0),(34,0),(35,0),(36,0),(37,1),(10,2),(19,2),(20,0),(29,0),(38,0),(39,0),(40,2)] mixed (by kernel_rfl) (by kernel_rfl) (by kernel_rfl) (by kernel_rfl) ?_;have Y:=Ext.drew j0;replace F:=F.lift (le_ Y);replace G:=G.ext Y;replace w:=w.ext Y;replace M:=M.ext Y;have f4:=bN.trans Y;refine sv (i64 v.2) V V J<|sa V V (zco V V V)<|sv (i64 x.2) V V K<|sa V V (zak V V V)<|sv (i64 v.2) V V J<|sa V V (zco V V V)<|sv (i64 x.2) V V K<|sa V V (zak V V V)<|?_;obtain ⟨jK,Z,g⟩:=bsi g;obtain ⟨bA,bY,g⟩:=bsi g;refine sa V V (q_ixA (m:=0) V A135 (by exact N) V (zad Z) bY)<|sq V V (zax (m:=0) V A135 V w (zaf _ _) bY)<|sv (i64 v.2) V V J<|sa V V (zco V V V)<|sv (i64 x.2) V V K<|sa V V (zak V V V)<|bse g fun jL fT g=>sa V V (zdm V V V fT)<|sa V V (zak V V V)<|bse g fun bB bZ g=>sa V V (q_ixA (m:=0) V A135 (by exact N) V (zad Z) bZ)<|sq V V (zax (m:=0) V A135 V w (zaf _ _) bZ)<|sv (i64 v.2) V V J<|sa V V (zco V V V)<|sv (i64 x.2) V V K<|sa V V (zak V V V)<|?_;obtain ⟨jM,fU,g⟩:=bsi g;refine sa V V (zdm V V V fU)<|sa V V (zak V V V)<|bse g fun eQ c0 g=>sa V V (q_ixA (m:=0) V A135 (by exact N) V (zad Z) c0)<|sq V V (zax (m:=0) V A135 V w (zaf _ _) c0)<|sv (i64 v.2) V V J<|sa V V (zco V V V)<|sv (i64 x.2) V V K<|sa V V (zak V V V)<|?_
         obtain ⟨jN,fV,g⟩:=bsi g;refine sa V V (zdm V V V fV)<|sa V V (zak V V V)<|bse g fun eR c1 g=>sa V V (q_ixA (m:=0) V A135 (by exact N) V (zad Z) c1)<|sq V V (zax (m:=0) V A135 V w (zaf _ _) c1)<|?_;obtain ⟨d7,g9,g⟩:=bsi g;refine wss V V V (zab (vs:=[u8 2,u8 bA]) Tryz.func105 V V V (ar2 (by exact (cst8 (2:UInt8) V)) V) (zcd (2:UInt8) bA  d7 _  g9) ?_);rintro _ kI ⟨rfl,O⟩;refine ⟨_,rfl,O,?_⟩;replace F:=F.lift (le_ O);have f5:=f4.trans O;obtain ⟨d8,gA,g⟩:=bsi g;refine wss V V V (zab (vs:=[u8 3,u8 bB]) Tryz.func105 V V V (ar2 (by exact (cst8 (3:UInt8) V)) V) (zcd (3:UInt8) bB  d8 _  gA) ?_);rintro _ kJ ⟨rfl,P⟩;refine ⟨_,rfl,P,?_⟩;replace G:=(G.ext O).ext P;replace w:=(w.ext O).ext P;replace M:=(M.ext O).ext P;have f6:=f5.trans P;refine sa V V (zdb V V V)<|sa V V (zdb V V V)<|sa V V (zdb V V V)<|?_;obtain ⟨jO,fW,g⟩:=bsi g;obtain ⟨jP,c2,g⟩:=bsi g;refine sa V V (q_ixA (m:=0) V A135 (by exact aV) V (zad fW) c2)<|wsn V (by kernel_rfl) V V (zcz (b:=(((d7^^^d8)^^^eQ)^^^eR)) [bp c,bp e] [] V A135 V V M c2 (zio _) ?_);intro kK hN aF gM;replace F:=(F.lift (le_ P)).lift gM;replace G:=G.other aF aR;replace w:=w.other aF aS;have f7:=f6.grown aF aO;refine za1<|bk_n<|W_th<|W_rg<|mv (i64 x.2) V K<|wa V (zak V V V)<|av (i64 (wI (x.2+1))) V V<|zag<|?_;obtain rfl:=osi g;exact ⟨_,rfl,dU,e1,e6,eB,N,aV,J,rfl,dM,f7,G,cE,w,cI,hN,aO,cY,aR,aS,F⟩
        refine zar<|th_x<|?_;obtain rfl:=osi g;obtain rfl:=g8 _ rfl;refine th_x<|bk_x<|?_;exact ⟨dU,e1,e6,eB,N,aV,J,dM,bN,G,cE,w,cI,M,aO,cY,aR,aS,F⟩
       rintro _ kL ⟨iC,iI,iP,iU,hV,i5,i7,i2,fI,h5,gS,hA,gY,hF,h0,hQ,hS,hT,gE⟩;refine bk_n<|W_th<|W_rg<|mv (i64 v.2) V i7<|wa V (zak V V V)<|av (i64 (wI (v.2+1))) V V<|zag<|?_;obtain rfl:=osi I;exact ⟨_,rfl,iC,iI,iP,iU,hV,i5,rfl,i2,fI,h5,gS,hA,gY,hF,h0,hQ,hS,hT,gE⟩
      refine zar<|th_x<|?_;obtain rfl:=osi I;obtain rfl:=g7 _ rfl;refine th_x<|bk_x<|?_;exact ⟨dT,e0,e5,eA,dC,dN,dL,bM,cQ,cD,cS,cH,cT,cK,cX,d0,d1,c7⟩
     rintro _ kM ⟨iD,iJ,iQ,iV,dD,i6,i3,fJ,aP,gT,hB,cJ,hG,jW,cZ,jX,jY,aJ⟩;refine W_th<|W_rg<|bse t fun jR c4 t=>wq V (ziz (m:=0) V A135 (by exact i6) hG (zaf _ _) (zad c4)) ?_;obtain ⟨jS,fX,t⟩:=bsi t;refine wln V V (zbm [bp c] [bp i] V A135 (by exact dD) V (zad fX) (zad c4) hB zio ?_);intro kN hO bG gN;replace aJ:=aJ.lift gN;replace aP:=aP.other bG cZ;have f8:=fJ.grown bG cJ;refine zag ?_;obtain rfl:=osi t;exact ⟨iD,iJ,iQ,iV,dD,i3,f8,aP,gT,hO,cJ,cZ,aJ.lift (Lift.sub (fun _ u=>⟨u.1,u.2.1,trivial⟩))⟩
    refine zae ?_;obtain rfl:=osi t;exact ⟨dS,aZ,e4,b4,dB,dK,aH,S,cC,T,cG,cW,a1⟩
   rintro _ kO ⟨iE,iK,iR,iW,hW,i4,fK,h6,gU,hC,gZ,hR,gF⟩;refine W_th<|W_sr<|mv (i64 0) V V<|wnt<|?_;obtain ⟨j2,eF,s⟩:=bsi s;refine W_mid (fun a d=>a 5=f/\a 6=i64 (wI (k - 1))/\a 7=bp c/\a 9=i64 h.2/\a 139=undef/\Ext w0 d/\Blk d c 135 (ac u8 j2)/\Nw w0 (bp c)/\By d [bp c] f o) ?_ ?_
   ·refine zac<|zau (fun A a d=>a 5=f/\a 6=i64 (wI (k - 1))/\a 7=bp c/\a 9=i64 h.2/\a 10=bp e/\a 121=i64 A.2/\a 139=undef/\Ext w0 d/\Blk d c 135 (ac u8 A.1)/\Nw w0 (bp c)/\Blk d e 135 (ac u8 eE)/\Nw w0 (bp e)/\Nq (bp c) (bp e)/\By d [bp c,bp e] f o) eF ?_ ?_
    ·exact ⟨iE,iK,iR,iW,hW,rfl,i4,fK,h6,gU,hC,gZ,hR,gF⟩
    rintro A _ _ iY ⟨aX,dV,b0,b3,d9,aU,dF,bI,a4,aK,L,gW,cU,D⟩ p g1;refine W_sr<|wa V (q_ltI V aU V)<|wnt<|W_seq<|wci p V V (fun p=>?_) (fun p=>?_)
    ·refine zae<|W_th<|W_seq<|zac<|W_sr<|mv (i64 A.2) V aU<|av (i64 A.2) V V<|wnt<|zba [3,10] [(0,0),(1,0),(2,0),(3,1),(4,0),(5,0),(6,0),(7,0),(8,0),(9,0),(10,1),(11,0),(12,0),(13,2)] mixed (by kernel_rfl) (by kernel_rfl) (by kernel_rfl) (by kernel_rfl) ?_;have a9:=Ext.drew iY;replace D:=D.lift (le_ a9);replace a4:=a4.ext a9;replace L:=L.ext a9;have eU:=bI.trans a9;refine sv (i64 A.2) V V V<|sv (i64 A.2) V V V<|?_;obtain ⟨j8,fL,p⟩:=bsi p;obtain ⟨eM,bO,p⟩:=bsi p;refine sa V V (q_ixA (m:=0) V A135 (by exact d9) V (zad fL) bO)<|sq V V (zax (m:=0) V A135 V L (zaf _ _) bO)<|sv f V V aX<|sv (i64 h.2) V V b3<|sa V V (zco V V V)<|sv (i64 A.2) V V V<|sa V V (zak V V V)<|bse p fun eN bP p=>sa V V (q_adr V T22 V V D bP)<|sq V V (zao V T22 V D bP)<|sa V V (zdb V V V)<|?_;obtain ⟨j9,fM,p⟩:=bsi p;obtain ⟨jA,bQ,p⟩:=bsi p;refine sa V V (q_ixA (m:=0) V A135 (by exact b0) V (zad fM) bQ)<|wsn V (by kernel_rfl) V V (zcz (b:=(eM^^^eN)) [] [bp e] V A135 V V a4 bQ (zio _) ?_);intro jZ h7 bD gG;replace D:=D.lift gG;replace L:=L.other bD cU.symm;have eV:=eU.grown bD aK;refine za1<|bk_n<|W_th<|W_rg<|wa V (zak V aU V)<|mv (i64 (wI (A.2+1))) V V<|zag<|?_;obtain rfl:=osi p;exact ⟨_,rfl,aX,dV,b0,b3,d9,rfl,dF,eV,h7,aK,L,gW,cU,D⟩
    refine zar<|th_x<|?_;obtain rfl:=osi p;obtain rfl:=g1 _ rfl;refine th_x<|bk_x<|?_;exact ⟨aX,dV,b0,b3,dF,bI,a4,aK,D.lift (Lift.sub (fun _ u=>⟨u.1,trivial⟩))⟩
   rintro _ k0 ⟨i8,iF,iL,iS,hY,fE,h1,gO,gB⟩;refine bk_n<|W_th<|W_rg<|mv (i64 h.2) V iS<|wa V (zak V V V)<|av (i64 (wI (h.2+1))) V V<|zag<|?_;obtain rfl:=osi s;exact ⟨_,rfl,i8,iF,iL,rfl,hY,fE,h1,gO,gB⟩
  refine zar<|th_x<|?_;obtain rfl:=osi s;obtain rfl:=g3 _ rfl;refine th_x<|bk_x<|?_;exact ⟨e2,dH,aG,Q,c9⟩
 rintro _ k1 ⟨iM,hZ,fF,h2,gP⟩;refine W_th<|W_sr<|bse q fun jB fN q=>wa V (zj5 V A135 (by exact iM))<|av (.slice (some ⟨c,0,none⟩) 16 16) V V<|wnt<|W_ret<|?_;obtain rfl:=osi q;refine rt1 (.slice (some ⟨c,0,none⟩) 16 16) V V V hZ ?_;exact ⟨.slice (some ⟨c,0,none⟩) 16 16,rfl,fF,nw_asl gP,Blk.by h2 (zad fN)⟩
end Gk

/- The cipher's functions (chapter 5), in plain Lean. No condition but lengths. -/
namespace Gk
open Gf
def boxT:List UInt8:=[99,124,119,123,242,107,111,197,48,1,103,43,254,215,171,118,202,130,201,125,250,89,71,240,173,212,162,175,156,164,114,192,183,253,147,38,54,63,247,204,52,165,229,241,113,216,49,21,4,199,35,195,24,150,5,154,7,18,128,226,235,39,178,117,9,131,44,26,27,110,90,160,82,59,214,179,41,227,47,132,83,209,0,237,32,252,177,91,106,203,190,57,74,76,88,207,208,239,170,251,67,77,51,133,69,249,2,127,80,60,159,168,81,163,64,143,146,157,56,245,188,182,218,33,16,255,243,210,205,12,19,236,95,151,68,23,196,167,126,61,100,93,25,115,96,129,79,220,34,42,144,136,70,238,184,20,222,94,11,219,224,50,58,10,73,6,36,92,194,211,172,98,145,149,228,121,231,200,55,109,141,213,78,169,108,86,244,234,101,122,174,8,186,120,37,46,28,166,180,198,232,221,116,31,75,189,139,138,112,62,181,102,72,3,246,14,97,53,87,185,134,193,29,158,225,248,152,17,105,217,142,148,155,30,135,233,206,85,40,223,140,161,137,13,191,230,66,104,65,153,45,15,176,84,187,22]
def backT:List UInt8:=[82,9,106,213,48,54,165,56,191,64,163,158,129,243,215,251,124,227,57,130,155,47,255,135,52,142,67,68,196,222,233,203,84,123,148,50,166,194,35,61,238,76,149,11,66,250,195,78,8,46,161,102,40,217,36,178,118,91,162,73,109,139,209,37,114,248,246,100,134,104,152,22,212,164,92,204,93,101,182,146,108,112,72,80,253,237,185,218,94,21,70,87,167,141,157,132,144,216,171,0,140,188,211,10,247,228,88,5,184,179,69,6,208,44,30,143,202,63,15,2,193,175,189,3,1,19,138,107,58,145,17,65,79,103,220,234,151,242,207,206,240,180,230,115,150,172,116,34,231,173,53,133,226,249,55,232,28,117,223,110,71,241,26,113,29,41,197,137,111,183,98,14,170,24,190,27,252,86,62,75,198,210,121,32,154,219,192,254,120,205,90,244,31,221,168,51,136,7,199,49,177,18,16,89,39,128,236,95,96,81,127,169,25,181,74,13,45,229,122,159,147,201,156,239,160,224,59,77,174,42,245,176,200,235,187,60,131,83,153,97,23,43,4,126,186,119,214,38,225,105,20,99,85,33,12,125]
def sb (x:UInt8):UInt8:=co boxT x.toNat
def rl (x:UInt8) (k:Nat):UInt8:=shl8 x k ||| shr8 x (8 - k)
theorem sb_rl (x:UInt8):(((((inv x^^^99)^^^rl (inv x) 1)^^^rl (inv x) 2)^^^rl (inv x) 3)^^^rl (inv x) 4)=sb x:=by revert x;refine all8 ?_;decide +kernel
theorem iterC_sim5 {S X:Type} {body body':S->Option (S⊕X)} (I:S->Prop) (he:∀ s r,I s->body' s=some r->body s=some r) (hs:∀ s s',I s->body' s=some (.inl s')->I s'):∀ (k:Nat) (s:S) (x:X),I s->iterN body' k s=some x->iterC body s=some x
 | 0,s,x,_,h=>by cases h
 | k+1,s,x,hi,h=>by
  unfold iterN at h
  cases hb:body' s with
  | none=>rw [hb] at h;cases h
  | some r =>
   rw [zbq,he s r hi hb]
   rw [hb] at h
   cases r with
   | inl s'=>exact iterC_sim5 I he hs k s' x (hs s s' hi hb) h
   | inr y=>exact h
theorem iter4 {S X:Type} {body:S->Option (S⊕X)} {s0 s1 s2 s3 s4:S} {x:X} (h0:body s0=some (.inl s1)) (h1:body s1=some (.inl s2)) (h2:body s2=some (.inl s3)) (h3:body s3=some (.inl s4)) (h4:body s4=some (.inr x)):iterC body s0=some x:=by
 rw [zbq,h0]
 show iterC body s1=some x
 rw [zbq,h1]
 show iterC body s2=some x
 rw [zbq,h2]
 show iterC body s3=some x
 rw [zbq,h3]
 show iterC body s4=some x
 rw [zbq,h4];rfl
theorem Bits8_eq:ze5=some 8:=by
 unfold ze5
 rw [zec.2 ⟨9,by kernel_rfl⟩];rfl
theorem Turn8_eq (x:UInt8) (k:Nat) (h0:0<k) (h1:k<8):zeb x (k:Int)=some (rl x k):=by
 unfold zeb
 rw [Bits8_eq,obs,show (8:Int)=((8:Nat):Int) by rfl,zch _ _ (by omega),obs,zg7 _ _ (by omega),zch _ _ (by omega),obs]
 have e:(k % 8+8) % 8=k:=by omega
 rw [e,if_neg (by omega),zex,obs,wI_sub _ _ (by omega) (by omega),zex,obs];rfl
def bstep (s:List UInt8×List UInt8×Int):Option ((List UInt8×List UInt8×Int)⊕List UInt8×List UInt8) :=
 if s.2.2<256 then some (.inl (s.1.set s.2.2.toNat (sb (UInt8.ofInt s.2.2)),s.2.1.set (sb (UInt8.ofInt s.2.2)).toNat (UInt8.ofInt s.2.2),s.2.2+1)) else some (.inr (s.1,s.2.1))
theorem boxes_eq (ks:List (List UInt8)):zgl ⟨true,ks,List.replicate 256 0,List.replicate 256 0⟩=some ⟨true,ks,boxT,backT⟩:=by
 unfold zgl
 dsimp only
 refine zay (x:=(boxT,backT)) (iterC_sim5 (body':=bstep) (fun s=>s.1.length=256/\s.2.1.length=256/\0<=s.2.2) ?_ ?_ 257 _ _ ⟨by rw [List.length_replicate],by rw [List.length_replicate],by decide⟩ (by decide +kernel)) rfl
 ·rintro ⟨b,k,i⟩ r ⟨h1,h2,h3⟩ hr
  unfold bstep at hr
  simp only at h1 h2 h3 hr ⊢
  by_cases hi:i<256
  ·rw [if_pos hi] at hr ⊢
   obtain ⟨n,rfl⟩:=Int.eq_ofNat_of_zero_le h3
   have hinv:∃ e,zgo true (UInt8.ofInt (n:Int))=some (inv (UInt8.ofInt (n:Int)),e):=by
    rw [Inv_eq]
    by_cases h0:UInt8.ofInt (n:Int)=0
    ·rw [if_pos h0,h0,inv_zero];exact ⟨_,rfl⟩
    ·rw [if_neg h0];exact ⟨_,rfl⟩
   obtain ⟨e,hinv⟩:=hinv
   rw [hinv,obs]
   dsimp only
   generalize UInt8.ofInt (n:Int)=x at *
   have ht:∀ k:Nat,0<k->k<8->∀ y:UInt8,((zeb (inv x) (k:Int)).bind fun r9=>(some (.inl ((y^^^r9),(wI ((k:Int)+1)))):Option ((UInt8×Int)⊕UInt8)))=some (.inl (y^^^rl (inv x) k,((k+1:Nat):Int))):=fun k h0 h1 y=>by
    rw [Turn8_eq _ _ h0 h1,obs,zas _ (by omega)]
   refine zay (x:=sb x) (iter4 (s1:=((inv x^^^99)^^^rl (inv x) 1,2)) (s2:=(((inv x^^^99)^^^rl (inv x) 1)^^^rl (inv x) 2,3)) (s3:=((((inv x^^^99)^^^rl (inv x) 1)^^^rl (inv x) 2)^^^rl (inv x) 3,4)) (s4:=(sb x,5)) ?_ ?_ ?_ ?_ ?_) ?_
   ·exact ht 1 (by omega) (by omega) _
   ·exact ht 2 (by omega) (by omega) _
   ·exact ht 3 (by omega) (by omega) _
   ·rw [← sb_rl];exact ht 4 (by omega) (by omega) _
   ·rfl
   ·have hs:=(sb x).toNat_lt
    rw [lenA,if_pos h1,obs,za4 (by omega),obs,lenA,if_pos h2,obs,za4 (by omega),obs,zas _ (by omega),← hr]
    simp
  ·rw [if_neg hi] at hr ⊢;exact hr
 ·rintro ⟨b,k,i⟩ s' ⟨h1,h2,h3⟩ hr
  unfold bstep at hr
  simp only at h1 h2 h3 hr ⊢
  split at hr
  ·cases hr;exact ⟨by simpa using h1,by simpa using h2,by dsimp only;omega⟩
  ·cases hr
def rbstep (v:UInt8) (s:UInt8×Int):Option ((UInt8×Int)⊕UInt8) :=
 if s.2<8 then some (.inl ((s.1 ||| (shl8 ((((((((shr8 v s.2.toNat) &&& (1:UInt8))^^^((shr8 v ((s.2.toNat+4) % 8)) &&& (1:UInt8)))^^^((shr8 v ((s.2.toNat+5) % 8)) &&& (1:UInt8)))^^^((shr8 v ((s.2.toNat+6) % 8)) &&& (1:UInt8)))^^^((shr8 v ((s.2.toNat+7) % 8)) &&& (1:UInt8)))^^^((shr8 ((99:UInt8)) s.2.toNat) &&& (1:UInt8)))) s.2.toNat)),s.2+1)) else some (.inr s.1)
theorem rbox_run (x:UInt8):iterN (rbstep (inv x)) 9 ((0:UInt8),0)=some (sb x):=by revert x;refine all8 ?_;decide +kernel
theorem rBox_eq (x:UInt8):zdk x=some (sb x):=by
 unfold zdk
 rw [refInv_eq,obs]
 refine zay (x:=sb x) (iterC_sim5 (body':=rbstep (inv x)) (fun s=>0<=s.2) ?_ ?_ 9 _ _ (by decide) (rbox_run x)) rfl
 ·rintro ⟨o,i⟩ r h3 hr
  unfold rbstep at hr
  simp only at h3 hr ⊢
  by_cases hi:i<8
  ·rw [if_pos hi] at hr ⊢
   obtain ⟨n,rfl⟩:=Int.eq_ofNat_of_zero_le h3
   rw [zex,obs]
   rw [show (4:Int)=((4:Nat):Int) by rfl,show (5:Int)=((5:Nat):Int) by rfl,show (6:Int)=((6:Nat):Int) by rfl,show (7:Int)=((7:Nat):Int) by rfl,show (8:Int)=((8:Nat):Int) by rfl]
   rw [zg7 _ _ (by omega),zg7 _ _ (by omega),zg7 _ _ (by omega),zg7 _ _ (by omega),zch _ _ (by omega),zch _ _ (by omega),zch _ _ (by omega),zch _ _ (by omega),zas _ (by omega)]
   simp only [obs,zex]
   rw [← hr];simp
  ·rw [if_neg hi] at hr ⊢;exact hr
 ·rintro ⟨o,i⟩ s' h3 hr
  unfold rbstep at hr
  simp only at h3 hr ⊢
  split at hr
  ·cases hr;dsimp only;omega
  ·cases hr
end Gk

/- Squares of sixteen bytes: rows, columns, boxes and keys, in plain Lean. No condition but lengths. -/
namespace Gk
open Gf
theorem list16 {α:Type}:∀ {s:List α},s.length=16->∃ a0 a1 a2 a3 a4 a5 a6 a7 a8 a9 a10 a11 a12 a13 a14 a15,s=[a0,a1,a2,a3,a4,a5,a6,a7,a8,a9,a10,a11,a12,a13,a14,a15]
 | [a0,a1,a2,a3,a4,a5,a6,a7,a8,a9,a10,a11,a12,a13,a14,a15],_=>⟨_,_,_,_,_,_,_,_,_,_,_,_,_,_,_,_,rfl⟩
theorem list4 {α:Type}:∀ {s:List α},s.length=4->∃ a b c d,s=[a,b,c,d]
 | [a,b,c,d],_=>⟨a,b,c,d,rfl⟩
theorem lt4 {i:Nat} (h:i<4):i=0∨i=1∨i=2∨i=3:=by omega
theorem fill44 {body:List UInt8×Int->Option ((List UInt8×Int)⊕List UInt8)} {inner:List UInt8×Int->List UInt8×Int->Option ((List UInt8×Int)⊕List UInt8)} {w0 x:List UInt8}
  (hbody:∀ s,body s=if s.2<4 then ((iterC (inner s) (s.1,0)).bind fun x=>some (.inl (x,wI (s.2+1)))) else some (.inr s.1)) (W:Nat->Nat->List UInt8) (h0:w0=W 0 0) (hx:x=W 4 0)
  (hstep:∀ i k:Nat,i<4->k<4->inner (W i 0,(i:Int)) (W i k,(k:Int))=some (.inl (W i (k+1),((k+1:Nat):Int)))) (hend:∀ i:Nat,i<4->inner (W i 0,(i:Int)) (W i 4,((4:Nat):Int))=some (.inr (W i 4))) (hW:∀ i:Nat,i<4->W i 4=W (i+1) 0) :
  iterC body (w0,0)=some x:=by
 subst h0 hx
 refine zal (fun i=>(W i 0,(i:Int))) 4 _ rfl ?_ ?_
 ·intro i hi
  try dsimp only
  rw [hbody,if_pos (by dsimp only;omega)]
  refine zay (x:=W i 4) (zal (fun k=>(W i k,(k:Int))) 4 _ rfl (fun k hk=>hstep i k hi hk) (hend i hi)) ?_
  try dsimp only
  rw [hW i hi,zas _ (by omega)]
 ·rw [hbody,if_neg (by dsimp only;omega)]
def tab16 (f:Nat->UInt8):List UInt8:=(List.range 16).map f
theorem tab16_len (f:Nat->UInt8):(tab16 f).length=16:=by simp [tab16]
theorem co_tab16 (f:Nat->UInt8) {i:Nat} (h:i<16):co (tab16 f) i=f i:=by rw [tab16,zc3,if_pos h]
def rowsF (n:Nat) (s:List UInt8):List UInt8:=tab16 fun j=>co s (4 * ((j / 4+n * (j % 4)) % 4)+j % 4)
theorem zi3 (n:Nat) (s:List UInt8):(rowsF n s).length=16:=tab16_len _
theorem rows_eq (n:Nat) (hn:n=1∨n=3) (s:List UInt8) (h:s.length=16):zht s (n:Int)=some (rowsF n s):=by
 obtain ⟨a0,a1,a2,a3,a4,a5,a6,a7,a8,a9,a10,a11,a12,a13,a14,a15,rfl⟩:=list16 h
 unfold zht
 rcases hn with rfl | rfl
 ·refine zay (x:=rowsF 1 [a0,a1,a2,a3,a4,a5,a6,a7,a8,a9,a10,a11,a12,a13,a14,a15]) (fill44 (fun s=>rfl) (fun i k=>tab16 fun j=>cond (Nat.blt (j % 4) i||(Nat.beq (j % 4) i&&Nat.blt (j / 4) k)) (co [a0,a1,a2,a3,a4,a5,a6,a7,a8,a9,a10,a11,a12,a13,a14,a15] (4 * ((j / 4+1 * (j % 4)) % 4)+j % 4)) 0) (by kernel_rfl) (by kernel_rfl) ?_ ?_ ?_) (by kernel_rfl)
  ·intro i k hi hk
   rcases lt4 hi with rfl | rfl | rfl | rfl <;> rcases lt4 hk with rfl | rfl | rfl | rfl <;> kernel_rfl
  ·intro i hi
   rcases lt4 hi with rfl | rfl | rfl | rfl <;> kernel_rfl
  ·intro i hi
   rcases lt4 hi with rfl | rfl | rfl | rfl <;> kernel_rfl
 ·refine zay (x:=rowsF 3 [a0,a1,a2,a3,a4,a5,a6,a7,a8,a9,a10,a11,a12,a13,a14,a15]) (fill44 (fun s=>rfl) (fun i k=>tab16 fun j=>cond (Nat.blt (j % 4) i||(Nat.beq (j % 4) i&&Nat.blt (j / 4) k)) (co [a0,a1,a2,a3,a4,a5,a6,a7,a8,a9,a10,a11,a12,a13,a14,a15] (4 * ((j / 4+3 * (j % 4)) % 4)+j % 4)) 0) (by kernel_rfl) (by kernel_rfl) ?_ ?_ ?_) (by kernel_rfl)
  ·intro i k hi hk
   rcases lt4 hi with rfl | rfl | rfl | rfl <;> rcases lt4 hk with rfl | rfl | rfl | rfl <;> kernel_rfl
  ·intro i hi
   rcases lt4 hi with rfl | rfl | rfl | rfl <;> kernel_rfl
  ·intro i hi
   rcases lt4 hi with rfl | rfl | rfl | rfl <;> kernel_rfl
def colP (p s:List UInt8) (k i:Nat):Nat->UInt8
 | 0=>0
 | m+1=>colP p s k i m^^^mul (co p ((i+4 - m) % 4)) (co s (4 * k+m))
def colF (p s:List UInt8):List UInt8:=tab16 fun j=>colP p s (j / 4) (j % 4) 4
theorem colF_len (p s:List UInt8):(colF p s).length=16:=tab16_len _
theorem columns_eq (p s:List UInt8) (hp:p.length=4) (h:s.length=16):ze1 s true p=some (colF p s):=by
 obtain ⟨a0,a1,a2,a3,a4,a5,a6,a7,a8,a9,a10,a11,a12,a13,a14,a15,rfl⟩:=list16 h
 obtain ⟨p0,p1,p2,p3,rfl⟩:=list4 hp
 unfold ze1
 simp only [Mul_eq,obs]
 refine zay (x:=colF [p0,p1,p2,p3] [a0,a1,a2,a3,a4,a5,a6,a7,a8,a9,a10,a11,a12,a13,a14,a15]) (fill44 (fun s=>rfl) (fun i k=>tab16 fun j=>cond (Nat.blt j (4 * i+k)) (colP [p0,p1,p2,p3] [a0,a1,a2,a3,a4,a5,a6,a7,a8,a9,a10,a11,a12,a13,a14,a15] (j / 4) (j % 4) 4) 0) (by kernel_rfl) (by kernel_rfl) ?_ ?_ ?_) (by kernel_rfl)
 ·intro i k hi hk
  let V:Nat->List UInt8:=fun m=>tab16 fun j=>cond (Nat.blt j (4 * i+k)) (colP [p0,p1,p2,p3] [a0,a1,a2,a3,a4,a5,a6,a7,a8,a9,a10,a11,a12,a13,a14,a15] (j / 4) (j % 4) 4) (cond (Nat.beq j (4 * i+k)) (colP [p0,p1,p2,p3] [a0,a1,a2,a3,a4,a5,a6,a7,a8,a9,a10,a11,a12,a13,a14,a15] i k m) 0)
  rcases lt4 hi with rfl | rfl | rfl | rfl <;> rcases lt4 hk with rfl | rfl | rfl | rfl <;> exact zay (x:=V 4) (iter4 (s1:=(V 1,1)) (s2:=(V 2,2)) (s3:=(V 3,3)) (s4:=(V 4,4)) (by kernel_rfl) (by kernel_rfl) (by kernel_rfl) (by kernel_rfl) (by kernel_rfl)) (by kernel_rfl)
 ·intro i hi
  rcases lt4 hi with rfl | rfl | rfl | rfl <;> kernel_rfl
 ·intro i hi
  rcases lt4 hi with rfl | rfl | rfl | rfl <;> kernel_rfl
theorem Clone5 (b:List UInt8) (h:b.length<=most):zaj b=some b:=by
 unfold zaj
 exact zfv b h
end Gk

/- Blocks, there and back, in plain Lean (chapter 5). No condition but lengths. -/
namespace Gk
open Gf
def xr (a b:List UInt8):List UInt8:=(List.range (min a.length b.length)).map fun i=>co a i^^^co b i
theorem wXor_eq (a b:List UInt8) (h:a.length<=most):zeh a b=some (xr a b):=by
 unfold zeh
 have hm:=zbb
 rw [minI,Nat.min_comm,zbj _ _ (by omega),obs]
 have hl:(List.replicate (min b.length a.length) (0:UInt8)).length=min b.length a.length:=List.length_replicate
 refine zay (x:=xr a b) (zal (fun i=>(updB (List.replicate (min b.length a.length) 0) (fun i=>co a i^^^co b i) i,(i:Int))) (min b.length a.length) _ (by rw [updB_zero];rfl) ?_ ?_) rfl
 ·intro i hi
  have hs:=updB_succ (List.replicate (min b.length a.length) 0) (fun i=>co a i^^^co b i) i (by omega)
  simp only [hl]
  rw [if_pos (by omega),za4 (by omega),obs,za4 (by omega),obs,idx_updB _ _ _ _ (by omega),obs,zas _ (by omega),Int.toNat_natCast,hs]
 ·simp only [hl]
  rw [if_neg (by omega)]
  have:=updB_end (List.replicate (min b.length a.length) 0) (fun i=>co a i^^^co b i)
  rw [hl] at this
  rw [this,Nat.min_comm];rfl
theorem zfi (a b:List UInt8):(xr a b).length=min a.length b.length:=by simp [xr]
theorem co_xr (a b:List UInt8) (i:Nat) (ha:i<a.length) (hb:i<b.length):co (xr a b) i=co a i^^^co b i:=by
 rw [xr,zc3,if_pos (by omega)]
theorem zjk {p q:List UInt8} (hl:p.length=q.length) (h:∀ i,i<p.length->co p i=co q i):p=q:=by
 refine zb2 hl fun i=>?_
 by_cases hi:i<p.length
 ·exact h i hi
 ·simp [co,List.getD_eq_getElem?_getD,List.getElem?_eq_none (Nat.le_of_not_lt hi),List.getElem?_eq_none (show q.length<=i by omega)]
theorem xr_xr (a b:List UInt8) (h:a.length=b.length):xr (xr a b) b=a:=zjk (by rw [zfi,zfi];omega) fun i hi=>by
 rw [zfi,zfi] at hi
 rw [co_xr _ _ _ (by rw [zfi];omega) (by omega),co_xr _ _ _ (by omega) (by omega),xor_assoc,xor_self,xor_zero]
theorem co_map (f:UInt8->UInt8) (l:List UInt8) (i:Nat) (h:i<l.length):co (l.map f) i=f (co l i):=by
 simp [co,List.getD_eq_getElem?_getD,h]
theorem through_eq (T b:List UInt8) (hT:T.length=256) (h:b.length<=most):zdn T b=some (b.map fun x=>co T x.toNat):=by
 unfold zdn
 have hm:=zbb
 rw [Clone5 b h,obs]
 refine zay (x:=b.map fun x=>co T x.toNat) (zal (fun i=>(updB b (fun j=>co T (co b j).toNat) i,(i:Int))) b.length _ (by rw [updB_zero];rfl) ?_ ?_) rfl
 ·intro i hi
  have hs:=updB_succ b (fun j=>co T (co b j).toNat) i hi
  have hx:=(co b i).toNat_lt
  dsimp only
  rw [if_pos (by omega),za4 hi,obs,lenA,if_pos hT,obs,za4 (by omega),obs,idx_updB _ _ _ _ hi,obs,zas _ (by omega),Int.toNat_natCast,hs]
 ·dsimp only
  rw [if_neg (by omega),updB_end]
  congr 2
  refine zjk (by simp) fun i hi=>?_
  simp only [List.length_map,List.length_range] at hi
  rw [zc3,if_pos hi,co_map _ _ _ hi]
theorem copyL_full (l m:List UInt8) (h:m.length=l.length):copyL l 0 m=m:=by
 refine zjk ?_ fun i hi=>?_
 ·have:=zh3 l 0 m (by omega);rw [h];exact this
 ·have hl:=zh3 l 0 m (by omega)
  have:=co_copyL l 0 m (by omega) i
  rw [show ((0:Nat):Int)=0 by rfl] at this hl
  rw [this,if_pos (by omega),Nat.sub_zero]
theorem add_eq (s k:List UInt8) (hs:s.length=16) (hk:k.length=16):zgb s k=some (xr s k):=by
 have hm:(16:Nat)<=most:=by decide
 unfold zgb
 rw [lenA,if_pos hs,obs,lenA,if_pos hk,obs,wXor_eq _ _ (by omega),obs,copyL_full _ _ (by rw [zfi];omega)]
theorem box_eq (s T:List UInt8) (hs:s.length=16) (hT:T.length=256):zjd s T=some (s.map fun x=>co T x.toNat):=by
 have hm:(16:Nat)<=most:=by decide
 unfold zjd
 rw [lenA,if_pos hs,obs,through_eq _ _ hT (by omega),obs,copyL_full _ _ (by simp)]
def pE:List UInt8:=[2,1,1,3]
theorem col_at (p s:List UInt8) (k i:Nat):colP p s k i 4=(((0^^^mul (co p ((i+4 - 0) % 4)) (co s (4 * k+0)))^^^mul (co p ((i+4 - 1) % 4)) (co s (4 * k+1)))^^^mul (co p ((i+4 - 2) % 4)) (co s (4 * k+2)))^^^mul (co p ((i+4 - 3) % 4)) (co s (4 * k+3)):=rfl
theorem co_col (p s:List UInt8) (k i:Nat) (hk:k<4) (hi:i<4):co (colF p s) (4 * k+i)=colP p s k i 4:=by
 rw [colF,co_tab16 _ (by omega),show (4 * k+i) / 4=k by omega,show (4 * k+i) % 4=i by omega]
def rE (s key:List UInt8) (last:Bool):List UInt8:=xr (if last then rowsF 1 (s.map sb) else colF pE (rowsF 1 (s.map sb))) key
theorem rE_len (s key:List UInt8) (l:Bool) (hk:key.length=16):(rE s key l).length=16:=by
 unfold rE;rw [zfi];split
 ·rw [zi3,hk];rfl
 ·rw [colF_len,hk];rfl
def eS (ks:List (List UInt8)) (s:List UInt8):Nat->List UInt8
 | 0=>s
 | i+1=>rE (eS ks s i) (ks.getD i []) (Nat.beq (i+1) ks.length)
theorem eS_len (ks:List (List UInt8)) (s:List UInt8) (hk:∀ x∈ks,x.length=16) (hs:s.length=16):∀ i,i<=ks.length->(eS ks s i).length=16
 | 0,_=>hs
 | i+1,h=>rE_len _ _ _ (hk _ (zds (by omega)))
def encF (k0:List UInt8) (ks:List (List UInt8)) (s:List UInt8):List UInt8:=eS ks (xr s k0) ks.length
theorem encF_len (k0:List UInt8) (ks:List (List UInt8)) (s:List UInt8) (h0:k0.length=16) (hk:∀ x∈ks,x.length=16) (hs:s.length=16):(encF k0 ks s).length=16:=eS_len ks _ hk (by rw [zfi];omega) _ (Nat.le_refl _)
theorem Rounds_eq (c:Cip) (h:1<=c.keys.length) (h2:c.keys.length<=1000):zfs (some c)=some ((c.keys.length - 1:Nat):Int):=by
 unfold zfs
 rw [if_neg (by simp),obs,ziv _ h (by omega)]
theorem boxT_len:boxT.length=256:=by decide +kernel
theorem backT_len:backT.length=256:=by decide +kernel
theorem Encrypt_eq (k0:List UInt8) (ks:List (List UInt8)) (b:List UInt8) (h0:k0.length=16) (hk:∀ x∈ks,x.length=16) (hn:ks.length<=100) (hb:b.length=16):ze2 (some ⟨true,k0 :: ks,boxT,backT⟩) b=some (encF k0 ks b,0):=by
 have hm:(1000:Nat)<=most:=by decide
 have hb0:(xr b k0).length=16:=by rw [zfi];omega
 unfold ze2
 rw [if_neg (by simp),if_pos (by omega),lenA,if_pos hb,obs,lenA,if_pos (by simp),obs,obs]
 dsimp only
 rw [show idx (k0 :: ks) 0=some k0 by rfl,obs,add_eq _ _ hb h0,obs]
 have hsub:subL (k0 :: ks) 1 ((k0 :: ks).length:Int)=some ks:=by
  have:=zd3 (k0 :: ks) 1 (k0 :: ks).length (by simp) (Nat.le_refl _)
  rw [List.take_length] at this
  exact this
 rw [hsub,obs]
 refine zay (x:=encF k0 ks b) (zal (fun i=>(eS ks (xr b k0) i,(i:Int))) ks.length _ rfl ?_ ?_) ?_
 ·intro i hi
  have hki:(ks.getD i []).length=16:=hk _ (zds hi)
  have hsl:=eS_len ks (xr b k0) hk hb0 i (by omega)
  dsimp only
  rw [if_pos (by omega),zcw hi,obs,obs,lenA,if_pos hki,obs,box_eq _ _ hsl boxT_len,obs]
  have hms:((eS ks (xr b k0) i).map fun x=>co boxT x.toNat)=(eS ks (xr b k0) i).map sb:=rfl
  rw [hms,show (1:Int)=((1:Nat):Int) by rfl,rows_eq 1 (.inl rfl) _ (by rw [List.length_map];exact hsl),obs,Rounds_eq _ (by simp) (by simp;omega),obs]
  dsimp only
  rw [List.length_cons,Nat.add_sub_cancel]
  rw [wI_of (by omega) (by omega)]
  by_cases hl:i+1=ks.length
  ·rw [if_neg (by omega),obs,add_eq _ _ (zi3 _ _) hki,obs,zg7 _ _ (by omega),eS,rE]
   rw [show Nat.beq (i+1) ks.length=true by rw [Nat.beq_eq];exact hl,if_pos rfl]
  ·rw [if_pos (by omega),show ([(2:UInt8),(1:UInt8),(1:UInt8),(3:UInt8)]:List UInt8)=pE by rfl,columns_eq _ _ rfl (zi3 _ _),obs,obs,add_eq _ _ (colF_len _ _) hki,obs,zg7 _ _ (by omega),eS,rE]
   rw [show Nat.beq (i+1) ks.length=false by rw [Bool.eq_false_iff,ne_eq,Nat.beq_eq];exact hl];rfl
 ·dsimp only
  rw [if_neg (by omega)];rfl
 ·have hl:=encF_len k0 ks b h0 hk hb
  rw [lenA,if_pos hl,obs,Clone5 _ (by omega),obs]
end Gk

/- The cipher of a key, and the document's, in plain Lean (chapter 5). No condition but lengths. -/
namespace Gk
open Gf
theorem flat_len (m:Nat):∀ (l:List (List UInt8)),(∀ x∈l,x.length=m)->l.flatten.length=m * l.length
 | [],_=>by simp
 | x :: l,h=>by
  have h1:=h x (List.mem_cons_self ..)
  have h2:=flat_len m l (fun y hy=>h y (List.mem_cons_of_mem _ hy))
  rw [List.flatten_cons,List.length_append,h1,h2,List.length_cons,Nat.mul_succ];omega
theorem zkb (m:Nat):∀ (l:List (List UInt8)),(∀ x∈l,x.length=m)->∀ i k,i<l.length->k<m->co l.flatten (m * i+k)=co (l.getD i []) k
 | [],_,i,k,h,_=>by simp at h
 | x :: l,h,0,k,_,hk=>by
  have h1:=h x (List.mem_cons_self ..)
  simp only [co,List.getD_eq_getElem?_getD,List.flatten_cons,Nat.mul_zero,Nat.zero_add,List.getElem?_append]
  rw [if_pos (by omega)];rfl
 | x :: l,h,i+1,k,hi,hk=>by
  have h1:=h x (List.mem_cons_self ..)
  have h2:=zkb m l (fun y hy=>h y (List.mem_cons_of_mem _ hy)) i k (by simpa using hi) hk
  simp only [co,List.getD_eq_getElem?_getD,List.flatten_cons,List.getElem?_append] at h2 ⊢
  rw [if_neg (by rw [h1,Nat.mul_succ];omega),show m * (i+1)+k - x.length=m * i+k by rw [h1,Nat.mul_succ];omega,h2];rfl
def kst (n:Nat) (s:List (List UInt8)×UInt8) (i:Nat):List (List UInt8)×UInt8 :=
 if i % n=0 then (s.1 ++ [xr [sb (co (s.1.getD (i - 1) []) 1)^^^s.2,sb (co (s.1.getD (i - 1) []) 2),sb (co (s.1.getD (i - 1) []) 3),sb (co (s.1.getD (i - 1) []) 0)] (s.1.getD (i - n) [])],mul s.2 2)
 else if n=8/\i % n=4 then (s.1 ++ [xr ((s.1.getD (i - 1) []).map sb) (s.1.getD (i - n) [])],s.2)
 else (s.1 ++ [xr (s.1.getD (i - 1) []) (s.1.getD (i - n) [])],s.2)
def kS (n:Nat) (w:List (List UInt8)):Nat->List (List UInt8)×UInt8
 | 0=>(w,1)
 | j+1=>kst n (kS n w j) (n+j)
theorem kS_ok (n:Nat) (w:List (List UInt8)) (hn:0<n) (hw:w.length=n) (h4:∀ x∈w,x.length=4):∀ j,(kS n w j).1.length=n+j/\∀ x∈(kS n w j).1,x.length=4
 | 0=>⟨hw,h4⟩
 | j+1=>by
  obtain ⟨h1,h2⟩:=kS_ok n w hn hw h4 j
  have ha:((kS n w j).1.getD (n+j - 1) []).length=4:=h2 _ (zds (by omega))
  have hb:((kS n w j).1.getD (n+j - n) []).length=4:=h2 _ (zds (by omega))
  have key:∀ t:List UInt8,t.length=4->((kS n w j).1 ++ [xr t ((kS n w j).1.getD (n+j - n) [])]).length=n+(j+1)/\∀ x∈(kS n w j).1 ++ [xr t ((kS n w j).1.getD (n+j - n) [])],x.length=4:=fun t ht=>by
   refine ⟨by rw [List.length_append,h1];rfl,fun x hx=>?_⟩
   rcases List.mem_append.1 hx with hx | hx
   ·exact h2 x hx
   ·rw [List.mem_singleton.1 hx,zfi,hb,ht];rfl
  rw [kS,kst]
  split
  ·exact key _ rfl
  ·split
   ·exact key _ (by rw [List.length_map];exact ha)
   ·exact key _ ha
def wor0 (key:List UInt8):List (List UInt8):=(za3 key 4).map (·.2)
def worF (key:List UInt8):List (List UInt8):=(kS (key.length / 4) (wor0 key) (3 * (key.length / 4)+28)).1
def keysF (key:List UInt8):List (List UInt8):=(za3 (worF key) 4).map (·.2.flatten)
theorem chunks_len {α:Type} (l:List α) (n:Nat):(za3 l n).length=(l.length+n - 1) / n:=by simp [za3]
theorem chunks_at {α:Type} (l:List α) (n j:Nat) (h:j<(l.length+n - 1) / n):(za3 l n)[j]?=some (((j * n:Nat):Int),(l.drop (j * n)).take n):=by
 simp [za3,h]
theorem mem_chunks {α:Type} {l:List α} {n:Nat} {x:Int×List α} (h:x∈za3 l n):∃ j,j<(l.length+n - 1) / n/\x=(((j * n:Nat):Int),(l.drop (j * n)).take n):=by
 unfold za3 at h
 obtain ⟨j,hj,rfl⟩:=List.mem_map.1 h
 exact ⟨j,List.mem_range.1 hj,rfl⟩
theorem wor0_len (key:List UInt8) (n:Nat) (h:key.length=4 * n):(wor0 key).length=n:=by
 rw [wor0,List.length_map,chunks_len];omega
theorem wor0_4 (key:List UInt8) (n:Nat) (h:key.length=4 * n):∀ x∈wor0 key,x.length=4:=by
 intro x hx
 obtain ⟨y,hy,rfl⟩:=List.mem_map.1 hx
 obtain ⟨j,hj,rfl⟩:=mem_chunks hy
 simp only [List.length_take,List.length_drop];omega
theorem getD_wor0 (key:List UInt8) (n:Nat) (h:key.length=4 * n) (j:Nat) (hj:j<n):(wor0 key).getD j []=(key.drop (j * 4)).take 4:=by
 rw [wor0,List.getD_eq_getElem?_getD,List.getElem?_map,chunks_at _ _ _ (by omega)];rfl
theorem wor0_flat (key:List UInt8) (n:Nat) (h:key.length=4 * n):(wor0 key).flatten=key:=by
 have hl:=flat_len 4 _ (wor0_4 key n h)
 rw [wor0_len key n h] at hl
 refine zjk (by omega) fun i hi=>?_
 have e:=zkb 4 _ (wor0_4 key n h) (i / 4) (i % 4) (by rw [wor0_len key n h];omega) (by omega)
 rw [show 4 * (i / 4)+i % 4=i by omega] at e
 rw [e,getD_wor0 key n h _ (by omega),zkc,if_pos (by omega),co_drop]
 congr 1;omega
theorem worF_ok (key:List UInt8) (n:Nat) (hn:0<n) (h:key.length=4 * n):(worF key).length=4 * (n+7)/\∀ x∈worF key,x.length=4:=by
 have h1:=kS_ok n (wor0 key) hn (wor0_len key n h) (wor0_4 key n h) (3 * n+28)
 unfold worF
 rw [show key.length / 4=n by omega]
 exact ⟨by rw [h1.1];omega,h1.2⟩
theorem keysF_len (key:List UInt8) (n:Nat) (hn:0<n) (h:key.length=4 * n):(keysF key).length=n+7:=by
 rw [keysF,List.length_map,chunks_len,(worF_ok key n hn h).1];omega
theorem chunk_flat (key:List UInt8) (n:Nat) (hn:0<n) (h:key.length=4 * n) (j:Nat) (hj:j<n+7):(((worF key).drop (j * 4)).take 4).flatten.length=16/\∀ i,i<16->co (((worF key).drop (j * 4)).take 4).flatten i=co (worF key).flatten (16 * j+i):=by
 obtain ⟨h1,h2⟩:=worF_ok key n hn h
 have h3:∀ x∈((worF key).drop (j * 4)).take 4,x.length=4:=fun x hx=>h2 x (List.mem_of_mem_drop (List.mem_of_mem_take hx))
 have hl:(((worF key).drop (j * 4)).take 4).length=4:=by simp only [List.length_take,List.length_drop];omega
 refine ⟨by rw [flat_len 4 _ h3,hl],fun i hi=>?_⟩
 have e1:=zkb 4 _ h3 (i / 4) (i % 4) (by omega) (by omega)
 have e2:=zkb 4 _ h2 (j * 4+i / 4) (i % 4) (by omega) (by omega)
 rw [show 4 * (i / 4)+i % 4=i by omega] at e1
 rw [show 4 * (j * 4+i / 4)+i % 4=16 * j+i by omega] at e2
 rw [e1,e2]
 congr 1
 rw [List.getD_eq_getElem?_getD,List.getD_eq_getElem?_getD,List.getElem?_take,if_pos (by omega),List.getElem?_drop]
theorem getD_keysF (key:List UInt8) (n:Nat) (hn:0<n) (h:key.length=4 * n) (j:Nat) (hj:j<n+7):(keysF key).getD j []=(((worF key).drop (j * 4)).take 4).flatten:=by
 have h1:=(worF_ok key n hn h).1
 rw [keysF,List.getD_eq_getElem?_getD,List.getElem?_map,chunks_at _ _ _ (by omega)];rfl
theorem keysF_16 (key:List UInt8) (n:Nat) (hn:0<n) (h:key.length=4 * n):∀ x∈keysF key,x.length=16:=by
 intro x hx
 obtain ⟨j,hj,rfl⟩:=mem_getD hx
 rw [keysF_len key n hn h] at hj
 rw [getD_keysF key n hn h j hj];exact (chunk_flat key n hn h j hj).1
theorem co_keysF (key:List UInt8) (n:Nat) (hn:0<n) (h:key.length=4 * n) (j:Nat) (hj:j<n+7) (i:Nat) (hi:i<16):co ((keysF key).getD j []) i=co (worF key).flatten (16 * j+i):=by
 rw [getD_keysF key n hn h j hj];exact (chunk_flat key n hn h j hj).2 i hi
theorem foldl_snoc {α β:Type} (f:α->β):∀ (l:List α) (s:List β),l.foldl (fun s y=>s ++ [f y]) s=s ++ l.map f
 | [],s=>by simp
 | x :: l,s=>by rw [List.foldl_cons,foldl_snoc f l];simp
theorem New_eq (key : List UInt8) (n : Nat) (hn : n = 4 ∨ n = 8) (h : key.length = 4 * n) : zf9 true key = some (some ⟨true, keysF key, boxT, backT⟩, 0) := by
 have hm : (1000 : Nat) <= most := by decide
 have hn0 : 0 < n := by omega
 unfold zf9
 have e1 : ∀ (x : Option (Unit ⊕ Option Cip × Int)), x = some (.inl ()) -> (if (!true) = true then (some (.inr ((none : Option Cip), 1)) : Option (Unit ⊕ Option Cip × Int)) else x) = some (.inl ()) := fun x hx => by rw [if_neg (by simp), hx]
 have e2 : (if (key.length : Int) = 16 then (some (.inl ()) : Option (Unit ⊕ Option Cip × Int)) else (if (key.length : Int) = 32 then some (.inl ()) else some (.inr ((none : Option Cip), 3)))) = some (.inl ()) := by
  rcases hn with rfl | rfl
  ·rw [if_pos (by omega)]
  ·rw [if_neg (by omega), if_pos (by omega)]
 rw [e1 _ e2, obs, Sum.elim_inl, boxes_eq, obs]
 have ed : divI (key.length : Int) 4 = some (n : Int) := by
  rw [show (4 : Int) = ((4 : Nat) : Int) by rfl, zhh _ _ (by omega) (by omega), show key.length / 4 = n by omega]
 rw [ed, obs, zi4 (by omega), obs]
 dsimp only
 -- the first words
 have hr1 := zhn (f := fun (s33 : List (List UInt8)) (y33 : Int × List UInt8) => ((zaj y33.2).bind fun r40 => ((appL s33 (([r40] : List (List UInt8)))).bind fun c46 => some c46)))
  (fun s y => s ++ [y.2]) (xs := za3 key 4) (s0 := []) (fun k s => s.length = k) rfl (fun k s y hk hy hs => by
   obtain ⟨j, hj, rfl⟩ := mem_chunks hy
   rw [chunks_len] at hk
   refine ⟨?_, by rw [List.length_append, hs]; rfl⟩
   rw [Clone5 _ (by simp only [List.length_take, List.length_drop]; omega), obs, zdz _ _ (by rw [List.length_singleton]; omega) rfl, obs])
 rw [hr1.1, obs, foldl_snoc, List.nil_append]
 have hw0 : (za3 key 4).map (·.2) = wor0 key := rfl
 rw [hw0]
 have hok := kS_ok n (wor0 key) hn0 (wor0_len key n h) (wor0_4 key n h)
 refine zay (x := worF key) (zay (x := worF key) (zal (fun j => ((kS n (wor0 key) j).1, (kS n (wor0 key) j).2, ((n + j : Nat) : Int))) (3 * n + 28) _ rfl ?_ ?_) rfl) ?_
 ·intro j hj
  obtain ⟨hl, h4⟩ := hok j
  have eb : wI (4 * wI ((n : Int) + 7)) = ((4 * (n + 7) : Nat) : Int) := by
   rw [wI_of (x := (n : Int) + 7) (by omega) (by omega), wI_of (by omega) (by omega)]; omega
  have ep : wI (((n + j : Nat) : Int) - 1) = ((n + j - 1 : Nat) : Int) := ziv _ (by omega) (by omega)
  have em : wI (((n + j : Nat) : Int) - (n : Int)) = ((n + j - n : Nat) : Int) := wI_sub _ _ (by omega) (by omega)
  have ei : wI (((n + j : Nat) : Int) + 1) = ((n + (j + 1) : Nat) : Int) := by rw [zas _ (by omega)]; rfl
  have ht : ((kS n (wor0 key) j).1.getD (n + j - 1) []).length = 4 := h4 _ (zds (by omega))
  have hu : ((kS n (wor0 key) j).1.getD (n + j - n) []).length = 4 := h4 _ (zds (by omega))
  dsimp only
  rw [eb, if_pos (by omega), ep, zcw (by omega), obs, Clone5 _ (by omega), obs, zch _ _ hn0, obs, em]
  rw [kS, kst]
  generalize hp : (kS n (wor0 key) j).2 = p at *
  generalize hW : (kS n (wor0 key) j).1 = W at *
  have fin : ∀ (t : List UInt8) (q : UInt8), t.length = 4 -> ((idx W ((n + j - n : Nat) : Int)).bind fun c118 => ((zeh t c118).bind fun r120 => ((appL W (([r120] : List (List UInt8)))).bind fun c126 => (some (.inl (c126, q, (wI (((n + j : Nat) : Int) + 1)))) : Option ((List (List UInt8) × UInt8 × Int) ⊕ List (List UInt8)))))) = some (.inl (W ++ [xr t (W.getD (n + j - n) [])], q, ((n + (j + 1) : Nat) : Int))) := fun t q ht => by
   rw [zcw (by omega), obs, wXor_eq _ _ (by omega), obs, zdz _ _ (by rw [List.length_singleton]; omega) rfl, obs, ei]
  by_cases hz : (n + j) % n = 0
  ·rw [if_pos (by omega), if_pos hz]
   obtain ⟨a, b, c, d, habcd⟩ := list4 ht
   rw [habcd]
   rw [show idx [a, b, c, d] 1 = some b by rfl, show idx [a, b, c, d] 2 = some c by rfl, show idx [a, b, c, d] 3 = some d by rfl, show idx [a, b, c, d] 0 = some a by rfl]
   simp only [obs]
   rw [through_eq _ _ boxT_len (by simp; omega), obs, show idx ([b, c, d, a].map fun x => co boxT x.toNat) 0 = some (sb b) by rfl, obs, Mul_eq, obs, obs]
   exact fin [sb b ^^^ p, sb c, sb d, sb a] (mul p 2) rfl
  ·rw [if_neg (by omega), if_neg hz]
   by_cases h8 : n = 8 /\ (n + j) % n = 4
   ·rw [if_pos (by omega), obs, if_pos (by omega), if_pos h8, through_eq _ _ boxT_len (by omega), obs, obs]
    exact fin (List.map sb _) p (by rw [List.length_map]; exact ht)
   ·rw [if_neg h8]
    by_cases h9 : n = 8
    ·rw [if_pos (by omega), obs, if_neg (by omega), obs]
     exact fin _ p ht
    ·rw [if_neg (by omega), obs]
     exact fin _ p ht
 ·have eb : wI (4 * wI ((n : Int) + 7)) = ((4 * (n + 7) : Nat) : Int) := by
   rw [wI_of (x := (n : Int) + 7) (by omega) (by omega), wI_of (by omega) (by omega)]; omega
  dsimp only
  rw [eb, if_neg (by omega), worF, show key.length / 4 = n by omega]
 -- the keys
 obtain ⟨hl, h4⟩ := worF_ok key n hn0 h
 rw [zi4 (by omega), obs]
 have hr2 := zhn (f := fun (s155 : List (List UInt8)) (y155 : Int × List (List UInt8)) => ((za0 y155.2).bind fun r163 => ((lenA 16 r163).bind fun c167 => ((appL s155 [r163]).bind fun c172 => some c172))))
  (fun s y => s ++ [y.2.flatten]) (xs := za3 (worF key) 4) (s0 := []) (fun k s => s.length = k) rfl (fun k s y hk hy hs => by
   obtain ⟨j, hj, rfl⟩ := mem_chunks hy
   rw [chunks_len] at hk
   have hc := (chunk_flat key n hn0 h j (by omega)).1
   refine ⟨?_, by rw [List.length_append, hs]; rfl⟩
   rw [Concat_eq _ (by rw [hc]; omega) (by simp only [List.length_take, List.length_drop]; omega), obs, lenA, if_pos hc, obs, zdz _ _ (by rw [List.length_singleton]; omega) rfl, obs])
 rw [hr2.1, obs, foldl_snoc, List.nil_append, lenA, if_pos boxT_len, obs, lenA, if_pos backT_len, obs]; rfl
end Gk

/- The document's words of a key, and its encryption, in plain Lean (chapter 5). No condition but lengths. -/
namespace Gk
open Gf
theorem co_left (a b:List UInt8) (i:Nat) (h:i<a.length):co (a ++ b) i=co a i:=by
 simp [co,List.getD_eq_getElem?_getD,List.getElem?_append,h]
theorem rKeys_eq (key:List UInt8) (n:Nat) (hn:n=4∨n=8) (h:key.length=4 * n):zjj key=some (worF key).flatten:=by
 have hm:(1000:Nat)<=most:=by decide
 have hn0:0<n:=by omega
 unfold zjj
 rw [show (4:Int)=((4:Nat):Int) by rfl,zhh _ _ (by omega) (by omega),show key.length / 4=n by omega,obs,zfv _ (by omega),obs]
 have hok:=kS_ok n (wor0 key) hn0 (wor0_len key n h) (wor0_4 key n h)
 refine zay (x:=(worF key).flatten) (zal (fun j=>((kS n (wor0 key) j).1.flatten,(kS n (wor0 key) j).2,((n+j:Nat):Int))) (3 * n+28) _ (by rw [show (kS n (wor0 key) 0).1=wor0 key by rfl,wor0_flat key n h];rfl) ?_ ?_) rfl
 ·intro j hj
  obtain ⟨hl,h4⟩:=hok j
  have hfl:=flat_len 4 _ h4
  have eb:wI (((4:Nat):Int) * wI ((n:Int)+7))=((4 * (n+7):Nat):Int):=by
   rw [wI_of (x:=(n:Int)+7) (by omega) (by omega),wI_of (by omega) (by omega)];omega
  have e4:wI (((4:Nat):Int) * ((n+j:Nat):Int))=((4 * (n+j):Nat):Int):=by rw [wI_of (by omega) (by omega)];omega
  have em:wI (((n+j:Nat):Int) - (n:Int))=((n+j - n:Nat):Int):=wI_sub _ _ (by omega) (by omega)
  have ei:wI (((n+j:Nat):Int)+1)=((n+(j+1):Nat):Int):=by rw [zas _ (by omega)];rfl
  have ht:((kS n (wor0 key) j).1.getD (n+j - 1) []).length=4:=h4 _ (zds (by omega))
  have hu:((kS n (wor0 key) j).1.getD (n+j - n) []).length=4:=h4 _ (zds (by omega))
  have ek:∀ k:Nat,k<4->wI (((4 * (n+j):Nat):Int) - ((4 - k:Nat):Int))=((4 * (n+j - 1)+k:Nat):Int):=fun k hk=>by rw [wI_sub _ _ (by omega) (by omega)];omega
  have ek0:=ek 0 (by omega)
  have ek1:=ek 1 (by omega)
  have ek2:=ek 2 (by omega)
  have ek3:=ek 3 (by omega)
  have i0:=zkb 4 _ h4 (n+j - 1) 0 (by omega) (by omega)
  have i1:=zkb 4 _ h4 (n+j - 1) 1 (by omega) (by omega)
  have i2:=zkb 4 _ h4 (n+j - 1) 2 (by omega) (by omega)
  have i3:=zkb 4 _ h4 (n+j - 1) 3 (by omega) (by omega)
  have hW4:∀ k,k<4->co (kS n (wor0 key) j).1.flatten (4 * (n+j - n)+k)=co ((kS n (wor0 key) j).1.getD (n+j - n) []) k:=fun k hk=>zkb 4 _ h4 (n+j - n) k (by omega) hk
  dsimp only
  rw [eb,if_pos (by omega),e4]
  rw [kS,kst]
  generalize hp:(kS n (wor0 key) j).2=p at *
  generalize hW:(kS n (wor0 key) j).1=W at *
  obtain ⟨a,b,c,d,habcd⟩:=list4 ht
  rw [habcd] at i0 i1 i2 i3 ⊢
  simp only [show (((4 - 0:Nat):Int))=((4:Nat):Int) by rfl,show (((4 - 1:Nat):Int))=3 by rfl,show (((4 - 2:Nat):Int))=2 by rfl,show (((4 - 3:Nat):Int))=1 by rfl] at ek0 ek1 ek2 ek3
  rw [ek0,ek1,ek2,ek3,za4 (by omega),za4 (by omega),za4 (by omega),za4 (by omega),i0,i1,i2,i3]
  simp only [obs]
  rw [show co [a,b,c,d] 0=a by rfl,show co [a,b,c,d] 1=b by rfl,show co [a,b,c,d] 2=c by rfl,show co [a,b,c,d] 3=d by rfl,zch _ _ hn0,obs]
  have fin:∀ (t:List UInt8) (q:UInt8),t.length=4->((iterC (fun s60:List UInt8×Int=>(if s60.2<((4:Nat):Int) then ((idx s60.1 ((wI ((wI (((4:Nat):Int) * (wI (((n+j:Nat):Int) - (n:Int)))))+s60.2)))).bind fun c66=>((idx t s60.2).bind fun c67=>((appL s60.1 (([(c66^^^c67)]:List UInt8))).bind fun c70=>some (.inl (c70,(wI (s60.2+1))))))) else some (.inr s60.1))) (W.flatten,0)).bind fun x60=>(some (.inl (x60,q,(wI (((n+j:Nat):Int)+1)))):Option ((List UInt8×UInt8×Int)⊕List UInt8)))=some (.inl ((W ++ [xr t (W.getD (n+j - n) [])]).flatten,q,((n+(j+1):Nat):Int))):=fun t q ht=>by
   have hx:(xr t (W.getD (n+j - n) [])).length=4:=by rw [zfi];omega
   refine zay (x:=W.flatten ++ xr t (W.getD (n+j - n) [])) (zal (fun k=>(W.flatten ++ (xr t (W.getD (n+j - n) [])).take k,(k:Int))) 4 _ (by rw [List.take_zero,List.append_nil];rfl) ?_ ?_) ?_
   ·intro k hk
    have e5:wI (wI (((4:Nat):Int) * (wI (((n+j:Nat):Int) - (n:Int))))+(k:Int))=((4 * (n+j - n)+k:Nat):Int):=by
     rw [em,wI_of (x:=((4:Nat):Int) * ((n+j - n:Nat):Int)) (by omega) (by omega),wI_of (by omega) (by omega)];omega
    have hlt:4 * (n+j - n)+k<W.flatten.length:=by omega
    dsimp only
    rw [if_pos (by omega),e5,za4 (by rw [List.length_append];omega),obs,za4 (by omega),obs,co_left _ _ _ hlt,hW4 k hk,xor_comm,← co_xr _ _ _ (by omega) (by omega),zdz _ _ (by rw [List.length_append,List.length_singleton,List.length_take];omega) rfl,obs,List.append_assoc,← ze8 (by omega),zas _ (by omega)]
   ·dsimp only
    rw [if_neg (by omega),List.take_of_length_le (by omega)]
   ·rw [ei,List.flatten_append,List.flatten_singleton]
  by_cases hz:(n+j) % n=0
  ·rw [if_pos (by omega),if_pos hz]
   rw [show idx [a,b,c,d] 1=some b by rfl,show idx [a,b,c,d] 2=some c by rfl,show idx [a,b,c,d] 3=some d by rfl,show idx [a,b,c,d] 0=some a by rfl]
   simp only [obs,rBox_eq,zgy]
   exact fin _ _ rfl
  ·rw [if_neg (by omega),if_neg hz]
   by_cases h8:n=8/\(n+j) % n=4
   ·have h8c:(n+j) % 8=4:=by have:=h8.2;rw [h8.1] at this ⊢;exact this
    rw [if_pos (by omega),show (8:Int)=((8:Nat):Int) by rfl,zch _ _ (by omega),obs,if_pos (by omega),if_pos h8]
    rw [show idx [a,b,c,d] 1=some b by rfl,show idx [a,b,c,d] 2=some c by rfl,show idx [a,b,c,d] 3=some d by rfl,show idx [a,b,c,d] 0=some a by rfl]
    simp only [obs,rBox_eq,zgy]
    exact fin _ _ rfl
   ·rw [if_neg h8]
    by_cases h9:n=8
    ·have h10:¬ (n+j) % 8=4:=fun e=>h8 ⟨h9,by rw [h9] at e ⊢;exact e⟩
     rw [if_pos (by omega),show (8:Int)=((8:Nat):Int) by rfl,zch _ _ (by omega),obs,if_neg (by omega),obs]
     exact fin _ _ rfl
    ·rw [if_neg (by omega),obs]
     exact fin _ _ rfl
 ·have eb:wI (((4:Nat):Int) * wI ((n:Int)+7))=((4 * (n+7):Nat):Int):=by
   rw [wI_of (x:=(n:Int)+7) (by omega) (by omega),wI_of (by omega) (by omega)];omega
  dsimp only
  rw [eb,if_neg (by omega),worF,show key.length / 4=n by omega]
theorem rT_loop (S:List UInt8) (h:S.length=16):(iterC (fun s34:List UInt8×Int =>
(if s34.2<4 then
((iterC (fun s37:List UInt8×Int =>
(if s37.2<4 then
((remI ((wI (s34.2+s37.2))) 4).bind fun c40 =>
((lenA 16 S).bind fun c41 =>
((idx S ((wI ((wI (4 * c40))+s37.2)))).bind fun c42 =>
((zdk c42).bind fun r43 =>
((lenA 16 s37.1).bind fun c45 =>
((idx s37.1 ((wI ((wI (4 * s34.2))+s37.2)))).bind fun c46 => some (.inl ((s37.1.set ((wI ((wI (4 * s34.2))+s37.2)):Int).toNat r43),(wI (s37.2+1))))))))))
else some (.inr s37.1))) (s34.1,0)).bind fun x37 => some (.inl (x37,(wI (s34.2+1)))))
else some (.inr s34.1))) ((List.replicate 16 (0:UInt8)),0))=some (rowsF 1 (S.map sb)):=by
 obtain ⟨a0,a1,a2,a3,a4,a5,a6,a7,a8,a9,a10,a11,a12,a13,a14,a15,rfl⟩:=list16 h
 simp only [rBox_eq,obs]
 refine fill44 (fun s=>rfl) (fun i k=>tab16 fun j=>cond (Nat.blt j (4 * i+k)) (sb (co [a0,a1,a2,a3,a4,a5,a6,a7,a8,a9,a10,a11,a12,a13,a14,a15] (4 * ((j / 4+j % 4) % 4)+j % 4))) 0) (by kernel_rfl) (by kernel_rfl) ?_ ?_ ?_
 ·intro i k hi hk
  rcases lt4 hi with rfl | rfl | rfl | rfl <;> rcases lt4 hk with rfl | rfl | rfl | rfl <;> kernel_rfl
 ·intro i hi
  rcases lt4 hi with rfl | rfl | rfl | rfl <;> kernel_rfl
 ·intro i hi
  rcases lt4 hi with rfl | rfl | rfl | rfl <;> kernel_rfl
def uF (S:List UInt8):List UInt8:=tab16 fun j=>(((mul 2 (co S j)^^^mul 3 (co S (4 * (j / 4)+(j % 4+1) % 4)))^^^co S (4 * (j / 4)+(j % 4+2) % 4))^^^co S (4 * (j / 4)+(j % 4+3) % 4))
theorem uF_eq (S:List UInt8) (h:S.length=16):uF S=colF pE S:=by
 refine zjk (by rw [colF_len];exact tab16_len _) fun j hj=>?_
 rw [uF,tab16_len] at hj
 obtain ⟨k,i,hk,hi,rfl⟩:∃ k i,k<4/\i<4/\j=4 * k+i:=⟨j / 4,j % 4,by omega,by omega,by omega⟩
 rw [co_col _ _ _ _ hk hi,uF,co_tab16 _ hj,col_at,show (4 * k+i) / 4=k by omega,show (4 * k+i) % 4=i by omega]
 rcases lt4 hi with rfl | rfl | rfl | rfl
 ·show ((mul 2 _^^^mul 3 _)^^^_)^^^_=(((0^^^mul 2 _)^^^mul 3 _)^^^mul 1 _)^^^mul 1 _
  simp only [one_mul,zero_xor]
 ·show ((mul 2 _^^^mul 3 _)^^^_)^^^_=(((0^^^mul 1 _)^^^mul 2 _)^^^mul 3 _)^^^mul 1 _
  simp only [one_mul,zero_xor];ac_rfl
 ·show ((mul 2 _^^^mul 3 _)^^^_)^^^_=(((0^^^mul 1 _)^^^mul 1 _)^^^mul 2 _)^^^mul 3 _
  simp only [one_mul,zero_xor];ac_rfl
 ·show ((mul 2 _^^^mul 3 _)^^^_)^^^_=(((0^^^mul 3 _)^^^mul 1 _)^^^mul 1 _)^^^mul 2 _
  simp only [one_mul,zero_xor];ac_rfl
theorem rU_loop (S:List UInt8) (h:S.length=16):(iterC (fun s65:List UInt8×Int =>
(if s65.2<4 then
((iterC (fun s68:List UInt8×Int =>
(if s68.2<4 then
((lenA 16 S).bind fun c73 =>
((idx S ((wI ((wI (4 * s65.2))+s68.2)))).bind fun c74 =>
((remI ((wI (s68.2+1))) 4).bind fun c75 =>
((idx S ((wI ((wI (4 * s65.2))+c75)))).bind fun c76 =>
((remI ((wI (s68.2+2))) 4).bind fun c77 =>
((idx S ((wI ((wI (4 * s65.2))+c77)))).bind fun c78 =>
((remI ((wI (s68.2+3))) 4).bind fun c79 =>
((idx S ((wI ((wI (4 * s65.2))+c79)))).bind fun c80 =>
((zc2 (2:UInt8) c74).bind fun r81 =>
((zc2 (3:UInt8) c76).bind fun r83 =>
((lenA 16 s68.1).bind fun c85 =>
((idx s68.1 ((wI ((wI (4 * s65.2))+s68.2)))).bind fun c86 => some (.inl ((s68.1.set ((wI ((wI (4 * s65.2))+s68.2)):Int).toNat ((((r81^^^r83)^^^c78)^^^c80))),(wI (s68.2+1))))))))))))))))
else some (.inr s68.1))) (s65.1,0)).bind fun x68 => some (.inl (x68,(wI (s65.2+1)))))
else some (.inr s65.1))) ((List.replicate 16 (0:UInt8)),0))=some (colF pE S):=by
 rw [← uF_eq S h]
 obtain ⟨a0,a1,a2,a3,a4,a5,a6,a7,a8,a9,a10,a11,a12,a13,a14,a15,rfl⟩:=list16 h
 simp only [zgy,obs]
 refine fill44 (fun s=>rfl) (fun i k=>tab16 fun j=>cond (Nat.blt j (4 * i+k)) (co (uF [a0,a1,a2,a3,a4,a5,a6,a7,a8,a9,a10,a11,a12,a13,a14,a15]) j) 0) (by kernel_rfl) (by kernel_rfl) ?_ ?_ ?_
 ·intro i k hi hk
  rcases lt4 hi with rfl | rfl | rfl | rfl <;> rcases lt4 hk with rfl | rfl | rfl | rfl <;> kernel_rfl
 ·intro i hi
  rcases lt4 hi with rfl | rfl | rfl | rfl <;> kernel_rfl
 ·intro i hi
  rcases lt4 hi with rfl | rfl | rfl | rfl <;> kernel_rfl
theorem rA_loop (a1b r1 k0:List UInt8) (hb:a1b.length=16) (hk:k0.length=16) (h1:16<=r1.length) (hc:∀ i,i<16->co k0 i=co r1 i):(iterC (fun s11:List UInt8×Int =>
(if s11.2<16 then
((idx a1b s11.2).bind fun c16 =>
((idx r1 s11.2).bind fun c17 =>
((lenA 16 s11.1).bind fun c18 =>
((idx s11.1 s11.2).bind fun c19 => some (.inl ((s11.1.set (s11.2:Int).toNat ((c16^^^c17))),(wI (s11.2+1))))))))
else some (.inr s11.1))) ((List.replicate 16 (0:UInt8)),0))=some (xr a1b k0):=by
 have hl:(List.replicate 16 (0:UInt8)).length=16:=rfl
 refine zal (fun i=>(updB (List.replicate 16 (0:UInt8)) (fun j=>co a1b j^^^co r1 j) i,(i:Int))) 16 _ (by rw [updB_zero];rfl) ?_ ?_
 ·intro i hi
  have hs:=updB_succ (List.replicate 16 (0:UInt8)) (fun j=>co a1b j^^^co r1 j) i (by rw [hl];exact hi)
  dsimp only
  rw [if_pos (by omega),za4 (by omega),obs,za4 (by omega),obs,lenA,if_pos (by rw [zhg,hl]),obs,idx_updB _ _ _ _ (by rw [hl];exact hi),obs,zas _ (by omega),Int.toNat_natCast,hs]
 ·dsimp only
  rw [if_neg (by omega)]
  have:=updB_end (List.replicate 16 (0:UInt8)) (fun j=>co a1b j^^^co r1 j)
  rw [hl] at this
  rw [this]
  congr 2
  refine zjk (by rw [zfi];simp;omega) fun i hi=>?_
  simp only [List.length_map,List.length_range] at hi
  rw [zc3,if_pos hi,co_xr _ _ _ (by omega) (by omega),hc i hi]
theorem rZ_loop (S0 X r1 k:List UInt8) (r:Int) (m:Nat) (hr:r=(m:Int)) (hm:m<1000) (h0:S0.length=16) (hX:X.length=16) (hk:k.length=16) (h1:16 * m+16<=r1.length) (hc:∀ i,i<16->co k i=co r1 (16 * m+i)):(iterC (fun s100:List UInt8×Int =>
(if s100.2<16 then
((lenA 16 X).bind fun c105 =>
((idx X s100.2).bind fun c106 =>
((idx r1 ((wI ((wI (16 * r))+s100.2)))).bind fun c107 =>
((lenA 16 s100.1).bind fun c108 =>
((idx s100.1 s100.2).bind fun c109 => some (.inl ((s100.1.set (s100.2:Int).toNat ((c106^^^c107))),(wI (s100.2+1)))))))))
else some (.inr s100.1))) (S0,0))=some (xr X k):=by
 subst hr
 refine zal (fun i=>(updB S0 (fun j=>co X j^^^co r1 (16 * m+j)) i,(i:Int))) 16 _ (by rw [updB_zero];rfl) ?_ ?_
 ·intro i hi
  have hs:=updB_succ S0 (fun j=>co X j^^^co r1 (16 * m+j)) i (by omega)
  have e5:wI (wI (16 * (m:Int))+(i:Int))=((16 * m+i:Nat):Int):=by
   rw [wI_of (x:=16 * (m:Int)) (by omega) (by omega),wI_of (by omega) (by omega)];omega
  dsimp only
  rw [if_pos (by omega),lenA,if_pos hX,obs,za4 (by omega),obs,e5,za4 (by omega),obs,lenA,if_pos (by rw [zhg,h0]),obs,idx_updB _ _ _ _ (by omega),obs,zas _ (by omega),Int.toNat_natCast,hs]
 ·dsimp only
  rw [if_neg (by omega)]
  have:=updB_end S0 (fun j=>co X j^^^co r1 (16 * m+j))
  rw [h0] at this
  rw [this]
  congr 2
  refine zjk (by rw [zfi];simp;omega) fun i hi=>?_
  simp only [List.length_map,List.length_range] at hi
  rw [zc3,if_pos hi,co_xr _ _ _ (by omega) (by omega),hc i hi]
theorem rEncrypt_eq (key b k0:List UInt8) (ks:List (List UInt8)) (n:Nat) (hn:n=4∨n=8) (h:key.length=4 * n) (hb:b.length=16) (hK:keysF key=k0 :: ks):zd5 key b=some (encF k0 ks b):=by
 have hm:(1000:Nat)<=most:=by decide
 have hn0:0<n:=by omega
 have h16:=keysF_16 key n hn0 h
 have hkl:=keysF_len key n hn0 h
 have hco:=co_keysF key n hn0 h
 obtain ⟨w1,w2⟩:=worF_ok key n hn0 h
 have hfl:=flat_len 4 _ w2
 rw [hK] at h16 hkl hco
 have hk0:k0.length=16:=h16 k0 (List.mem_cons_self ..)
 have hks:∀ x∈ks,x.length=16:=fun x hx=>h16 x (List.mem_cons_of_mem _ hx)
 have hksl:ks.length=n+6:=by simpa using hkl
 unfold zd5
 have ed:divI ((worF key).flatten.length:Int) 16=some ((n+7:Nat):Int):=by
  rw [show (16:Int)=((16:Nat):Int) by rfl,zhh _ _ (by omega) (by omega),show (worF key).flatten.length / 16=n+7 by omega]
 have ez:lenA 16 (List.replicate 16 (0:UInt8))=some ():=rfl
 rw [rKeys_eq key n hn h,obs,ed,obs,ez,obs]
 refine zay (x:=xr b k0) (rA_loop b _ k0 hb hk0 (by omega) (fun i hi=>by have:=hco 0 (by omega) i hi;simpa using this)) ?_
 have hx0:(xr b k0).length=16:=by rw [zfi];omega
 have e6:wI (((n+7:Nat):Int) - 1)=((n+6:Nat):Int):=by rw [ziv _ (by omega) (by omega)];rfl
 refine zay (x:=encF k0 ks b) (zal (fun j=>(eS ks (xr b k0) j,((j+1:Nat):Int))) ks.length _ rfl ?_ ?_) ?_
 ·intro j hj
  have hsl:=eS_len ks (xr b k0) hks hx0 j (by omega)
  have hkj:(ks.getD j []).length=16:=hks _ (zds hj)
  dsimp only
  rw [e6,if_pos (by omega),obs]
  refine zay (x:=rowsF 1 ((eS ks (xr b k0) j).map sb)) (rT_loop _ hsl) ?_
  have hcj:∀ i,i<16->co (ks.getD j []) i=co (worF key).flatten (16 * (j+1)+i):=fun i hi=>by
   have:=hco (j+1) (by omega) i hi
   rw [← this];rfl
  have fin:∀ X:List UInt8,X.length=16->rE (eS ks (xr b k0) j) (ks.getD j []) (Nat.beq (j+1) ks.length)=xr X (ks.getD j [])->_:=fun X hX hE=>zay (g:=fun x100=>(some (.inl (x100,(wI (((j+1:Nat):Int)+1)))):Option ((List UInt8×Int)⊕List UInt8))) (r:=some (.inl (eS ks (xr b k0) (j+1),((j+1+1:Nat):Int)))) (rZ_loop (eS ks (xr b k0) j) X (worF key).flatten (ks.getD j []) _ (j+1) rfl (by omega) hsl hX hkj (by omega) hcj) (by rw [eS,hE,zas _ (by omega)])
  by_cases hl:j+1=ks.length
  ·rw [if_neg (by omega),obs]
   exact fin _ (zi3 _ _) (by rw [rE,show Nat.beq (j+1) ks.length=true by rw [Nat.beq_eq];exact hl,if_pos rfl])
  ·rw [if_pos (by omega),obs]
   refine zay (x:=colF pE (rowsF 1 ((eS ks (xr b k0) j).map sb))) (zay (rU_loop _ (zi3 _ _)) ?_) ?_
   ·rw [lenA,if_pos (colF_len _ _),obs,lenA,if_pos (zi3 _ _),obs]
   ·exact fin _ (colF_len _ _) (by rw [rE,show Nat.beq (j+1) ks.length=false by rw [Bool.eq_false_iff,ne_eq,Nat.beq_eq];exact hl];rfl)
 ·dsimp only
  rw [e6,if_neg (by omega)];rfl
 ·rw [lenA,if_pos (encF_len k0 ks b hk0 hks hb),obs]
end Gk

/- Printed by gen.py: for each Go function a pure function, and that the Go code comes to it. No condition beside the equation that says what the pure function gives. -/
namespace Gk
open Go Go.Proofs
end Gk

/- Printed by gen.py: for each Go function a pure function, and that the Go code comes to it. No condition beside the equation that says what the pure function gives. -/
namespace Gk
open Go Go.Proofs
end Gk

/- Chapter 5's statements, in plain Lean. No condition. -/
namespace Gk
open Gf
theorem keys_cons (key:List UInt8) (n:Nat) (hn:n=4∨n=8) (h:key.length=4 * n):∃ k0 ks,keysF key=k0 :: ks/\k0.length=16/\(∀ x∈ks,x.length=16)/\ks.length=n+6:=by
 have hl:=keysF_len key n (by omega) h
 have h16:=keysF_16 key n (by omega) h
 cases hK:keysF key with
 | nil=>rw [hK] at hl;simp at hl
 | cons k0 ks =>
  rw [hK] at hl h16
  exact ⟨k0,ks,rfl,h16 _ (List.mem_cons_self ..),fun x hx=>h16 x (List.mem_cons_of_mem _ hx),by simpa using hl⟩
end Gk

/- Printed by gen.py: for each Go function a pure function, and that the Go code comes to it. No condition beside the equation that says what the pure function gives. -/
namespace Gk
open Go Go.Proofs
noncomputable def zgr (e:Option Cip) (f:List UInt8) (a:Int) (b:Int):Option (List UInt8×Int) :=
(if e.isNone=true then some (([]:List UInt8),1)
else
(if (f.length:Int)=8 then
(if a<0 then some (([]:List UInt8),2)
else
(if b<0 then some (([]:List UInt8),2)
else
(if 1073741824<a then some (([]:List UInt8),2)
else
(if 1048576<b then some (([]:List UInt8),2)
else
((divI a 16).bind fun m =>
((iterC (fun c:List UInt8×Int =>
((remI a 16).bind fun g =>
(if (c.1.length:Int)<(wI (g+b)) then
((zcs f (UInt64.ofInt c.2)).bind fun o =>
((ze2 e o).bind fun d =>
(if d.2=0 then
((appL c.1 d.1).bind fun h => some (.inl (h,wI (c.2+1))))
else some (.inr (.inr (([]:List UInt8),d.2))))))
else some (.inr (.inl c.1))))) (([]:List UInt8),m)).bind (Sum.elim (fun p =>
(if b=0 then some (([]:List UInt8),0)
else
((remI a 16).bind fun i =>
((remI a 16).bind fun j =>
((remI a 16).bind fun k =>
((subL3 p i (wI (j+b)) (wI (k+b))).bind fun l => some (l,0))))))) (fun n=>some n))))))))
else some (([]:List UInt8),3)))
theorem stream_Bytes_calls (y:Option Cip) (z:List UInt8) (g:Int) (e:Int) (p:Value) (q:Value) (U:List UInt8×Int) (w0:World) (a9:Ci w0 [] p y) (aA:By w0 [] q z) (d:zgr y z g e=some U) :
  Calls Tryz.prog 114 [p,q,i64 g,i64 e].toArray w0 (fun aK aH=>∃ a3:Value,aK=.returned (.tuple #[a3,i64 U.2])/\Ext w0 aH/\Nw w0 a3/\By aH [] a3 U.1):=by
 have i:Ext w0 w0:=Ext.refl w0;unfold zgr at d;refine zai (n:=76) Tryz.func114 V V V<|W_sr<|av (.slice none 0 0) V V<|av (i64 0) V V<|wnt<|W_seq<|zac<|W_seq<|W_rg<|mv p V V<|wa V (q_eqC V V V V (a9.lift (le_ i)))<|av (.bool y.isNone) V V<|wnt<|zam _ V V (fun J=>?_) (fun J=>?_)
 ·replace d:=(if_pos J).symm.trans d;refine W_sr<|av (.slice none 0 0) V V<|av (i64 1) V V<|wnt<|W_ret<|bk_r<|th_r<|?_;obtain rfl:=osi d;refine rt2 (.slice none 0 0) (i64 1) V V V V V V ?_;exact ⟨.slice none 0 0,rfl,i,Nw.nil _,SlK.nil _ _ _⟩
 replace d:=(if_neg (ne_true_of_eq_false J)).symm.trans d;refine W_sr<|mv q V V<|wa V (q_len V T22.sl V (aA.lift (le_ i)))<|wa V (q_neI V V V)<|av (.bool (!decide ((z.length:Int)=8))) V V<|wnt<|zam _ V V (fun M=>?_) (fun M=>?_)
 ·replace d:=(if_neg (zbf M)).symm.trans d;refine W_sr<|av (.slice none 0 0) V V<|av (i64 3) V V<|wnt<|W_ret<|bk_r<|th_r<|?_;obtain rfl:=osi d;refine rt2 (.slice none 0 0) (i64 3) V V V V V V ?_;exact ⟨.slice none 0 0,rfl,i,Nw.nil _,SlK.nil _ _ _⟩
 replace d:=(if_pos (zbg M)).symm.trans d;refine W_sr<|mv (i64 g) V V<|wa V (q_ltI V V V)<|wlb V V (zbd (v:=(.bool (decide (g<0)))) V V) (fun N=>?_) (fun N=>?_)
 ·replace d:=ifp N d;refine wk V<|wk V<|wa V (zaw (v:=(.bool true)) V V V)<|mv (.bool true) V V<|wk V<|wk V<|wa V (zaw (v:=(.bool true)) V V V)<|mv (.bool true) V V<|wk V<|wk V<|wa V (zaw (v:=(.bool true)) V V V)<|av (.bool true) V V<|wnt<|zam true V V (fun _=>?_) (fun t=>by cases t);refine W_sr<|av (.slice none 0 0) V V<|av (i64 2) V V<|wnt<|W_ret<|bk_r<|th_r<|?_;obtain rfl:=osi d;refine rt2 (.slice none 0 0) (i64 2) V V V V V V ?_;exact ⟨.slice none 0 0,rfl,i,Nw.nil _,SlK.nil _ _ _⟩
 replace d:=ifn N d;refine mv (i64 e) V V<|wa V (q_ltI V V V)<|wa V (zaq (v:=(.bool (decide (e<0)))) V V V)<|wlb V V (zbd (v:=(.bool (decide (e<0)))) V V) (fun O=>?_) (fun O=>?_)
 ·replace d:=ifp O d;refine wk V<|wk V<|wa V (zaw (v:=(.bool true)) V V V)<|mv (.bool true) V V<|wk V<|wk V<|wa V (zaw (v:=(.bool true)) V V V)<|av (.bool true) V V<|wnt<|zam true V V (fun _=>?_) (fun t=>by cases t);refine W_sr<|av (.slice none 0 0) V V<|av (i64 2) V V<|wnt<|W_ret<|bk_r<|th_r<|?_;obtain rfl:=osi d;refine rt2 (.slice none 0 0) (i64 2) V V V V V V ?_;exact ⟨.slice none 0 0,rfl,i,Nw.nil _,SlK.nil _ _ _⟩
 replace d:=ifn O d;refine mv (i64 g) V V<|wa V (q_gtI V V V)<|wa V (zaq (v:=(.bool (decide (1073741824<g)))) V V V)<|wlb V V (zbd (v:=(.bool (decide (1073741824<g)))) V V) (fun P=>?_) (fun P=>?_)
 ·replace d:=ifp P d;refine wk V<|wk V<|wa V (zaw (v:=(.bool true)) V V V)<|av (.bool true) V V<|wnt<|zam true V V (fun _=>?_) (fun t=>by cases t);refine W_sr<|av (.slice none 0 0) V V<|av (i64 2) V V<|wnt<|W_ret<|bk_r<|th_r<|?_;obtain rfl:=osi d;refine rt2 (.slice none 0 0) (i64 2) V V V V V V ?_;exact ⟨.slice none 0 0,rfl,i,Nw.nil _,SlK.nil _ _ _⟩
 replace d:=ifn P d;refine mv (i64 e) V V<|wa V (q_gtI V V V)<|wa V (zaq (v:=(.bool (decide (1048576<e)))) V V V)<|av (.bool (decide (1048576<e))) V V<|wnt<|wci d V V (fun d=>?_) (fun d=>?_)
 ·refine W_sr<|av (.slice none 0 0) V V<|av (i64 2) V V<|wnt<|W_ret<|bk_r<|th_r<|?_;obtain rfl:=osi d;refine rt2 (.slice none 0 0) (i64 2) V V V V V V ?_;exact ⟨.slice none 0 0,rfl,i,Nw.nil _,SlK.nil _ _ _⟩
 refine zae<|bk_n<|W_th<|W_sr<|av (.slice none 0 0) V V<|wnt<|W_seq<|W_sr<|mv (i64 g) V V<|bse d fun aJ aS d=>wa V (q_divI V V V aS)<|av (i64 aJ) V V<|wnt<|?_;obtain ⟨b8,aI,d⟩:=bsi d;refine W_mid (fun h x=>∃ a6,b8=.inl a6/\∃ F:Value,h 2=i64 g/\h 3=i64 e/\h 10=F/\h 76=undef/\Ext w0 x/\OwK (Sc u8) x [F] 5 F a6/\Nw w0 F) ?_ ?_
 ·refine zac<|zau (fun m h x=>∃ D:Value,h 0=p/\h 1=q/\h 2=i64 g/\h 3=i64 e/\h 10=D/\h 11=i64 m.2/\h 76=undef/\Ext w0 x/\OwK (Sc u8) x [D] 5 D m.1/\Nw w0 D) aI ?_ ?_
  ·exact ⟨.slice none 0 0,rfl,rfl,rfl,rfl,rfl,rfl,rfl,i,OwK.nil _ _ _ _,Nw.nil _⟩
  rintro m _ _ bF ⟨o,aC,aE,Z,a1,X,aD,a2,I,j,S⟩ f aB;refine W_seq<|W_sr<|mv o V X<|wa V (q_len V T22.sl V (j.rd (Sc.stab _)))<|mv (i64 g) V Z<|bse f fun b9 aN f=>wa V (zdm V V V aN)<|mv (i64 e) V a1<|wa V (zak V V V)<|wa V (q_ltI V V V)<|wnt<|wci f V V (fun f=>?_) (fun f=>?_)
  ·refine zae<|W_th<|W_seq<|zac<|W_sr<|mv p V aC<|mv q V aE<|mv (i64 m.2) V aD<|wa V (zgi V V V V)<|?_;obtain ⟨W,aT,f⟩:=bsi f;refine wls V V (zab (vs:=[q,u64 (UInt64.ofInt m.2)]) Tryz.func85 V V V (ar2 V V) (zgz z (UInt64.ofInt m.2) q W _ (aA.lift (le_ I)) aT) ?_);rintro _ b6 ⟨G,rfl,a4,aY,b2⟩;refine ⟨_,rfl,?_⟩;have aV:By b6 [o] G W:=OwK.slk (Sc.stab _) _ (OwK.scal b2 (G::[o])) (fun k w=>(Old.cons (Old.nil _) j.lt) k (aY k w)) (fun _ s=>s.2);replace j:=j.extL (Sc.stab _) a4 (le_ a4);have a7:=I.trans a4;obtain ⟨l,aU,f⟩:=bsi f;refine wls V V (zab (vs:=[p,G]) Tryz.func135 V V V (ar2 V V) (cipher_Encrypt_calls y W p G l _ (a9.lift (le_ a7)) (aV.lift (Lift.sub (L':=[]) (fun _ _=>trivial))) aU) ?_);rintro _ b7 ⟨r,rfl,a5,aZ,b3⟩;refine ⟨_,rfl,?_⟩;have aW:By b7 [o] r l.1:=OwK.slk (Sc.stab _) _ (OwK.scal b3 (r::[o])) (fun k w=>(Old.cons (Old.nil _) j.lt) k (aZ k w)) (fun _ s=>s.2);replace j:=j.extL (Sc.stab _) a5 (le_ a5);have H:=a7.trans a5;refine mv (.tuple #[r,i64 l.2]) V V<|wa V (zah V V V)<|wa V (zah V V V)<|av r V V<|av (i64 l.2) V V<|wnt<|W_seq<|W_seq<|W_rg<|mv (i64 l.2) V V<|wa V (q_neI V V V)<|wnt<|zam _ V V (fun K=>?_) (fun K=>?_)
   ·replace f:=(if_neg (zbf K)).symm.trans f;refine W_sr<|mv (i64 l.2) V V<|av (.slice none 0 0) V V<|av (i64 l.2) V V<|wnt<|W_ret<|th_r<|bk_r<|th_r<|?_;obtain rfl:=osi f;obtain rfl:=aB _ rfl;simp only [Sum.elim_inr] at d;refine th_r<|bk_r<|th_r<|th_r<|?_;obtain rfl:=osi d;refine rt2 (.slice none 0 0) (i64 l.2) V V V V V a2 ?_;exact ⟨.slice none 0 0,rfl,H,Nw.nil _,SlK.nil _ _ _⟩
   replace f:=(if_pos (zbg K)).symm.trans f;refine zae<|W_th<|W_rg<|mv o V X<|mv r V V<|?_;obtain ⟨bA,aO,f⟩:=bsi f;refine wls V V (zav (R:=Sc u8) (v:=o) (u:=r) (Sc.stab _) [] [] V T22 V V j aW (fun _ _ s=>s) aO oc_u8 ?_);intro aG bD b4 aM b1 bC;have aL:=H.grown aM S;have b0:=Nw.nxt H S b1;refine av aG V V<|zag<|bk_n<|W_th<|W_rg<|mv (i64 m.2) V aD<|wa V (zak V V V)<|av (i64 (wI (m.2+1))) V V<|zag ?_;obtain rfl:=osi f;exact ⟨_,rfl,aG,aC,aE,Z,a1,rfl,rfl,a2,aL,b4,b0⟩
  refine zar<|th_x<|?_;obtain rfl:=osi f;obtain rfl:=aB _ rfl;refine th_x<|bk_x<|?_;exact ⟨_,rfl,o,Z,a1,X,a2,I,j,S⟩
 rintro _ bE ⟨a6,rfl,E,Y,a0,b5,aF,a8,T,aX⟩;simp only [Sum.elim_inl] at d;refine W_th<|W_seq<|W_sr<|mv (i64 e) V a0<|wa V (q_eqI V V V)<|wnt<|wci d V V (fun d=>?_) (fun d=>?_)
 ·refine W_sr<|av (.slice none 0 0) V V<|av (i64 0) V V<|wnt<|W_ret<|th_r<|?_;obtain rfl:=osi d;refine rt2 (.slice none 0 0) (i64 0) V V V V V aF ?_;exact ⟨.slice none 0 0,rfl,a8,Nw.nil _,SlK.nil _ _ _⟩
 refine zae<|W_th<|W_sr<|mv E V b5<|mv (i64 g) V Y<|bse d fun A aP d=>wa V (zdm V V V aP)<|mv (i64 g) V Y<|bse d fun B aQ d=>wa V (zdm V V V aQ)<|mv (i64 e) V a0<|wa V (zak V V V)<|mv (i64 g) V Y<|bse d fun C aR d=>wa V (zdm V V V aR)<|mv (i64 e) V a0<|wa V (zak V V V)<|?_;obtain ⟨bB,Q,d⟩:=bsi d;refine wa V (q_slice3 (a:=A) (b:=wI (B+e)) (c:=wI (C+e)) V T22 V (T.rd (Sc.stab _)) V V V Q)<|av (subW E (A:Int).toNat ((wI (B+e)):Int).toNat ((wI (C+e)):Int).toNat) V V<|av (i64 0) V V<|wnt<|W_ret<|?_;obtain rfl:=osi d;refine rt2 (subW E (A:Int).toNat ((wI (B+e)):Int).toNat ((wI (C+e)):Int).toNat) (i64 0) V V V V V aF ?_;exact ⟨subW E (A:Int).toNat ((wI (B+e)):Int).toNat ((wI (C+e)):Int).toNat,rfl,a8,(fun k w=>aX k (hs_cut3 (T.rd (Sc.stab _)) Q k w)),SlK.cut3 (L:=[]) (T.rd (Sc.stab _)) Q⟩
noncomputable def zjs (c:Option Cip) (d:List UInt8) (b:List UInt8):Option (List UInt8×Int) :=
((zgr c d 0 (b.length:Int)).bind fun a =>
(if a.2=0 then
((zeh a.1 b).bind fun e => some (e,0))
else some (([]:List UInt8),a.2)))
theorem stream_Xor_calls (k:Option Cip) (l:List UInt8) (e:List UInt8) (f:Value) (g:Value) (c:Value) (o:List UInt8×Int) (w0:World) (x:Ci w0 [] f k) (y:By w0 [] g l) (q:By w0 [] c e) (a:zjs k l e=some o) :
  Calls Tryz.prog 84 [f,g,c].toArray w0 (fun u t=>∃ p:Value,u=.returned (.tuple #[p,i64 o.2])/\Ext w0 t/\Nw w0 p/\OwK (Sc u8) t [] 5 p o.1):=by
 have j:Ext w0 w0:=Ext.refl w0;unfold zjs at a;refine zai (n:=24) Tryz.func84 V V V<|W_sr<|av (.slice none 0 0) V V<|av (i64 0) V V<|wnt<|W_sr<|mv f V V<|mv g V V<|mv c V V<|wa V (q_len V T22.sl V (q.lift (le_ j)))<|?_;obtain ⟨b,z,a⟩:=bsi a;refine wls V V (zab (vs:=[f,g,i64 0,i64 (e.length:Int)]) Tryz.func114 V V V (ar4 V V V V) (stream_Bytes_calls k l 0 (e.length:Int) f g b _ (x.lift (le_ j)) (y.lift (le_ j)) z) ?_);rintro _ I ⟨d,rfl,K,C,F⟩;refine ⟨_,rfl,?_⟩;have B:By I [] d b.1:=SlK.avail F _ (fun r w=>(Old.nil _) r (C r w));have i:=j.trans K;refine mv (.tuple #[d,i64 b.2]) V V<|wa V (zah V V V)<|wa V (zah V V V)<|av d V V<|av (i64 b.2) V V<|wnt<|W_seq<|W_seq<|W_rg<|mv (i64 b.2) V V<|wa V (q_neI V V V)<|wnt<|zam _ V V (fun m=>?_) (fun m=>?_)
 ·replace a:=(if_neg (zbf m)).symm.trans a;refine W_sr<|mv (i64 b.2) V V<|av (.slice none 0 0) V V<|av (i64 b.2) V V<|wnt<|W_ret<|th_r<|?_;obtain rfl:=osi a;refine rt2 (.slice none 0 0) (i64 b.2) V V V V V V ?_;exact ⟨.slice none 0 0,rfl,i,Nw.nil _,OwK.nil _ _ _ _⟩
 replace a:=(if_pos (zbg m)).symm.trans a;refine zae<|W_th<|W_sr<|mv d V V<|mv c V V<|?_;obtain ⟨s,A,a⟩:=bsi a;refine wls V V (zab (vs:=[d,c]) Tryz.func56 V V V (ar2 V V) (zed b.1 e d c s _ (B.lift (Lift.sub (L':=[]) (fun _ _=>trivial))) (q.lift (le_ i)) A) ?_);rintro _ J ⟨h,rfl,L,D,H⟩;refine ⟨_,rfl,?_⟩;have G:OwK (Sc u8) J (h::[]) 5 h s:=OwK.scal H _;have E:=Nw.ext i D;have v:=i.trans L;refine av h V V<|av (i64 0) V V<|wnt<|W_ret<|?_;obtain rfl:=osi a;refine rt2 h (i64 0) V V V V V V ?_;exact ⟨h,rfl,v,E,G.weak (Sc.stab _) (fun _ _=>trivial)⟩
noncomputable def zjy (c:UInt64) (b:Int):Option (List UInt8) :=
((makeL b (0:UInt8)).bind fun d =>
((iterC (fun a:UInt64×List UInt8×Int =>
(if 0<=a.2.2 then
((idx a.2.1 a.2.2).bind fun f => some (.inl ((a.1 / (256:UInt64)),a.2.1.set (a.2.2:Int).toNat ((a.1 % (256:UInt64)).toUInt8),wI (a.2.2 - 1))))
else some (.inr a.2.1))) (c,d,wI (b - 1))).bind fun e => some e))
theorem ref01_Put_calls (m:UInt64) (f:Int) (r:List UInt8) (w0:World) (e:zjy m f=some r) :
  Calls Tryz.prog 76 [u64 m,i64 f].toArray w0 (fun x v=>∃ l:Value,x=.returned l/\Ext w0 v/\Nw w0 l/\OwK (Sc u8) v [] 5 l r):=by
 have o:Ext w0 w0:=Ext.refl w0;unfold zjy at e;refine zai (n:=24) Tryz.func76 V V V<|W_sr<|av (.slice none 0 0) V V<|wnt<|W_sr<|mv (i64 f) V V<|?_;obtain ⟨Q,D,e⟩:=bsi e;refine wls V V (zb3 (L:=[]) (R:=Sc u8) V T22 V V D (fun _ _=>rfl) ?_);intro a W J G A T;have O:=zaa A;have H:=Nw.ext o G;have y:=o.trans O;refine av a V V<|wnt<|W_seq<|W_sr<|mv (i64 f) V V<|wa V (za9 V V V)<|av (i64 (wI (f - 1))) V V<|wnt ?_;obtain ⟨P,w,e⟩:=bsi e;refine W_mid (fun d g=>d 5=a/\d 24=undef/\Ext w0 g/\OwK (Sc u8) g [a] 5 a P/\Nw w0 a) ?_ ?_
 ·refine zac<|zau (fun b d g=>d 0=u64 b.1/\d 5=a/\d 6=i64 b.2.2/\d 24=undef/\Ext w0 g/\OwK (Sc u8) g [a] 5 a b.2.1/\Nw w0 a) w ?_ ?_
  ·exact ⟨rfl,rfl,rfl,rfl,y,J,H⟩
  rintro b _ _ Y ⟨s,j,k,t,p,i,h⟩ c E;refine W_seq<|W_sr<|mv (i64 b.2.2) V k<|wa V (q_geI V V V)<|wnt<|wci c V V (fun c=>?_) (fun c=>?_)
  ·refine zae<|W_th<|W_seq<|zac<|W_sr<|mv a V j<|mv (i64 b.2.2) V k<|mv (u64 b.1) V s<|wa V (q_rem64 V V (cst64 (256:UInt64) V) (by decide))<|wa V (q_cvt864 V V V V)<|bse c fun S q c=>wa V (q_adr V T22 V V (i.rd (Sc.stab _)) q) ?_;refine wln V V (zci (R:=Sc u8) (u:=u8 ((b.1 % (256:UInt64)).toUInt8)) (Sc.stab _) [] [] V T22 V V i (zf6 ((b.1 % (256:UInt64)).toUInt8) q) V V ?_);intro Z K B U;have z:=p.grown B h;refine wnt<|W_rg<|mv (u64 b.1) V s<|wa V (q_quo64 V V (cst64 (256:UInt64) V) (by decide))<|av (u64 (b.1 / (256:UInt64))) V V<|zag<|bk_n<|W_th<|?_;refine W_rg<|mv (i64 b.2.2) V k<|wa V (za9 V V V)<|av (i64 (wI (b.2.2 - 1))) V V<|zag<|?_;obtain rfl:=osi c;exact ⟨_,rfl,rfl,j,rfl,t,z,K,h⟩
  refine zar<|th_x<|?_;obtain rfl:=osi c;obtain rfl:=E _ rfl;refine th_x<|bk_x<|?_;exact ⟨j,t,p,i,h⟩
 rintro _ X ⟨N,M,C,I,F⟩;refine W_th<|W_sr<|mv a V N<|av a V V<|wnt<|W_ret<|?_;obtain rfl:=osi e;refine rt1 a V V V M ?_;exact ⟨a,rfl,C,F,I.weak (Sc.stab _) (fun _ _=>trivial)⟩
end Gk

/- The stream's bytes (chapter 6), in plain Lean. No condition but lengths. -/
namespace Gk
open Gf
def b8 (x:UInt64):List UInt8:=(List.range 8).map fun i=>(shr64 x (56 - 8 * i)).toUInt8
theorem b8_len (x:UInt64):(b8 x).length=8:=by simp [b8]
theorem b8_get (x:UInt64) (i:Nat) (h:i<8):co (b8 x) i=(shr64 x (56 - 8 * i)).toUInt8:=by rw [b8,zc3,if_pos h]
theorem Bits64q:zc0=some 64:=by
 unfold zc0
 rw [zec.2 ⟨65,by kernel_rfl⟩];rfl
theorem put64q (b:List UInt8) (x:UInt64) (h:b.length+8<=most):zcs b x=some (b ++ b8 x):=by
 unfold zcs
 have hl:=b8_len x
 rw [Clone5 b (by omega),obs,Bits64q,obs,show wI (64 - 8)=(((64:Nat):Int) - 8 * ((0:Nat)+1)) by decide]
 refine zay (x:=b ++ b8 x) (zal (fun i=>(b ++ (b8 x).take i,((64:Nat):Int) - 8 * ((i:Int)+1))) 8 _ (by rw [List.take_zero,List.append_nil]) ?_ ?_) rfl
 ·intro i hi
  dsimp only
  rw [if_pos (by omega),show ((64:Nat):Int) - 8 * ((i:Int)+1)=((56 - 8 * i:Nat):Int) by omega,zex,obs,← b8_get x i hi,zdz _ _ (by simp only [List.length_append,List.length_take,List.length_singleton];omega) rfl,obs,List.append_assoc,← ze8 (by omega),wI_of (by omega) (by omega)]
  congr 3
  omega
 ·dsimp only
  rw [if_neg (by omega),List.take_of_length_le (by omega)]
theorem shr_step (x:UInt64) (k:Nat) (h:k<8):shr64 x (8 * k) / 256=shr64 x (8 * (k+1))/\(shr64 x (8 * k) % 256).toUInt8=(shr64 x (8 * k)).toUInt8:=by
 have hx:=x.toNat_lt
 have e:∀ j,j<=64->(shr64 x j).toNat=x.toNat / 2 ^ j:=fun j hj=>by
  unfold shr64
  rw [Nat.min_eq_left hj,UInt64.toNat_ofNat']
  exact Nat.mod_eq_of_lt (Nat.lt_of_le_of_lt (Nat.div_le_self _ _) hx)
 refine ⟨?_,?_⟩
 ·apply UInt64.toNat_inj.1
  rw [UInt64.toNat_div,e _ (by omega),e _ (by omega),show (256:UInt64).toNat=2 ^ 8 by rfl,Nat.div_div_eq_div_mul,← Nat.pow_add]
  congr 2
 ·apply UInt8.toNat_inj.1
  rw [UInt64.toNat_toUInt8,UInt64.toNat_toUInt8,UInt64.toNat_mod]
  show x.toNat / 2 ^ (min (8 * k) 64) % 2 ^ 64 % 256 % 256=_
  rw [Nat.mod_mod];rfl
theorem rPut_eq (x:UInt64):zjy x 8=some (b8 x):=by
 have hm:(1000:Nat)<=most:=by decide
 unfold zjy
 rw [show makeL 8 (0:UInt8)=some (List.replicate 8 0) from zbj 8 _ (by omega),obs,show wI (8 - 1)=((7:Nat):Int) - ((0:Nat):Int) by decide]
 have h0:shr64 x (8 * 0)=x:=by
  unfold shr64
  rw [show min (8 * 0) 64=0 by rfl,Nat.pow_zero,Nat.div_one];simp
 let O:Nat->List UInt8:=fun k=>(List.range 8).map fun j=>if 8 - k<=j then (shr64 x (56 - 8 * j)).toUInt8 else 0
 have hO:∀ k,(O k).length=8:=fun k=>by simp [O]
 refine zay (x:=b8 x) (zal (fun k=>(shr64 x (8 * k),O k,((7:Nat):Int) - (k:Int))) 8 _ (by rw [h0];rfl) ?_ ?_) rfl
 ·intro k hk
  have hs:=shr_step x k hk
  dsimp only
  rw [if_pos (by omega),show ((7:Nat):Int) - (k:Int)=((7 - k:Nat):Int) by omega,za4 (by rw [hO];omega),obs,hs.1,hs.2,Int.toNat_natCast]
  have hset:(O k).set (7 - k) (shr64 x (8 * k)).toUInt8=O (k+1):=by
   refine zjk (by rw [List.length_set,hO,hO]) fun j hj=>?_
   rw [List.length_set,hO] at hj
   have e1:co ((O k).set (7 - k) (shr64 x (8 * k)).toUInt8) j=if 7 - k=j then (shr64 x (8 * k)).toUInt8 else co (O k) j:=by
    simp only [co,List.getD_eq_getElem?_getD,List.getElem?_set]
    by_cases h:7 - k=j
    ·rw [if_pos h,if_pos h,if_pos (by rw [hO];omega)];rfl
    ·rw [if_neg h,if_neg h]
   rw [e1,zc3,zc3,if_pos hj,if_pos hj]
   by_cases h:7 - k=j
   ·rw [if_pos h,if_pos (by omega),show 56 - 8 * j=8 * k by omega]
   ·rw [if_neg h]
    by_cases h2:8 - k<=j
    ·rw [if_pos h2,if_pos (by omega)]
    ·rw [if_neg h2,if_neg (by omega)]
  rw [hset]
  congr 4
  rw [wI_of (by omega) (by omega)];omega
 ·dsimp only
  rw [if_neg (by omega)]
  have hend:O 8=b8 x:=by
   refine zjk (by rw [hO,b8_len]) fun j hj=>?_
   rw [hO] at hj
   rw [zc3,if_pos hj,if_pos (by omega),b8_get x j hj]
  rw [hend]
def blk5 (k0:List UInt8) (ks:List (List UInt8)) (nonce:List UInt8) (c:Nat):List UInt8:=encF k0 ks (nonce ++ b8 (UInt64.ofNat c))
def strm (k0:List UInt8) (ks:List (List UInt8)) (nonce:List UInt8) (p:Nat):UInt8:=co (blk5 k0 ks nonce (p / 16)) (p % 16)
def strL (k0:List UInt8) (ks:List (List UInt8)) (nonce:List UInt8) (at_ n:Nat):List UInt8:=(List.range n).map fun i=>strm k0 ks nonce (at_+i)
theorem zd6 (k0:List UInt8) (ks:List (List UInt8)) (nonce:List UInt8) (a n:Nat):(strL k0 ks nonce a n).length=n:=by simp [strL]
theorem co_strL (k0:List UInt8) (ks:List (List UInt8)) (nonce:List UInt8) (a n i:Nat) (h:i<n):co (strL k0 ks nonce a n) i=strm k0 ks nonce (a+i):=by rw [strL,zc3,if_pos h]
structure GoodC (c:Cip) (k0:List UInt8) (ks:List (List UInt8)):Prop where
 eq:c=⟨true,k0 :: ks,boxT,backT⟩
 h0:k0.length=16
 hk:∀ x∈ks,x.length=16
 hn:ks.length<=100
theorem New_good (key:List UInt8) (n:Nat) (hn:n=4∨n=8) (h:key.length=4 * n):∃ c k0 ks,zf9 true key=some (some c,0)/\GoodC c k0 ks/\keysF key=k0 :: ks:=by
 obtain ⟨k0,ks,hK,h0,hks,hsl⟩:=keys_cons key n hn h
 have hN:=New_eq key n hn h
 rw [hK] at hN
 exact ⟨_,k0,ks,hN,⟨rfl,h0,hks,by omega⟩,hK⟩
theorem blk5_len {c:Cip} {k0:List UInt8} {ks:List (List UInt8)} (G:GoodC c k0 ks) (nonce:List UInt8) (hn:nonce.length=8) (i:Nat):(blk5 k0 ks nonce i).length=16 :=
 encF_len k0 ks _ G.h0 G.hk (by rw [List.length_append,b8_len,hn])
theorem Bytes_eq {c:Cip} {k0:List UInt8} {ks:List (List UInt8)} (G:GoodC c k0 ks) (nonce:List UInt8) (hn:nonce.length=8) (a n:Nat) (ha:a<=1073741824) (hn2:n<=1048576) :
  zgr (some c) nonce (a:Int) (n:Int)=some (strL k0 ks nonce a n,0):=by
 have hm:(100000000:Nat)<=most:=by decide
 unfold zgr
 rw [if_neg (by simp),if_pos (by omega),if_neg (by omega),if_neg (by omega),if_neg (by omega),if_neg (by omega)]
 rw [show (16:Int)=((16:Nat):Int) by rfl,zhh _ _ (by omega) (by omega),obs,zch _ _ (by omega)]
 have hr:a % 16<16:=Nat.mod_lt _ (by omega)
 have hw:wI (((a % 16:Nat):Int)+(n:Int))=((a % 16+n:Nat):Int):=zg7 _ _ (by omega)
 have hd:a / 16<=67108864:=by omega
 have key:∀ j:Nat,16 * j+16<=2000000->strL k0 ks nonce (16 * (a / 16)) (16 * j) ++ blk5 k0 ks nonce (a / 16+j)=strL k0 ks nonce (16 * (a / 16)) (16 * (j+1)):=fun j hj=>by
  have hbl:=blk5_len G nonce hn (a / 16+j)
  refine zjk (by rw [List.length_append,zd6,zd6,hbl];omega) fun i hi=>?_
  rw [List.length_append,zd6,hbl] at hi
  rw [co_strL _ _ _ _ _ _ (by omega)]
  by_cases h:i<16 * j
  ·rw [co_left _ _ _ (by rw [zd6];exact h),co_strL _ _ _ _ _ _ h]
  ·have e1:co (strL k0 ks nonce (16 * (a / 16)) (16 * j) ++ blk5 k0 ks nonce (a / 16+j)) i=co (blk5 k0 ks nonce (a / 16+j)) (i - 16 * j):=by
    simp only [co,List.getD_eq_getElem?_getD]
    rw [List.getElem?_append_right (by rw [zd6];omega),zd6]
   rw [e1,strm,show (16 * (a / 16)+i) / 16=a / 16+j by omega,show (16 * (a / 16)+i) % 16=i - 16 * j by omega]
 refine zay (x:=.inl (strL k0 ks nonce (16 * (a / 16)) (16 * ((a % 16+n+15) / 16)))) (zal (fun j=>(strL k0 ks nonce (16 * (a / 16)) (16 * j),((a / 16+j:Nat):Int))) ((a % 16+n+15) / 16) _ rfl ?_ ?_) ?_
 ·intro j hj
  dsimp only
  rw [obs,zd6,hw,if_pos (by omega),put64q _ _ (by omega),obs]
  have hof:UInt64.ofInt ((a / 16+j:Nat):Int)=UInt64.ofNat (a / 16+j):=by
   apply UInt64.toNat_inj.1
   simp [UInt64.ofInt];omega
  rw [hof,G.eq,Encrypt_eq k0 ks _ G.h0 G.hk G.hn (by rw [List.length_append,b8_len,hn]),obs]
  dsimp only
  have hbl:=blk5_len G nonce hn (a / 16+j)
  have hfold:encF k0 ks (nonce ++ b8 (UInt64.ofNat (a / 16+j)))=blk5 k0 ks nonce (a / 16+j):=rfl
  rw [if_pos rfl,hfold]
  unfold appL
  rw [if_pos (by rw [zd6,hbl];omega),obs,key j (by omega),zas _ (by omega)];rfl
 ·dsimp only
  rw [obs,zd6,hw,if_neg (by omega)]
 ·rw [Sum.elim_inl]
  by_cases h0:n=0
  ·subst h0
   rw [if_pos (by rfl)];rfl
  ·rw [if_neg (by omega),obs,obs,obs,hw]
   have h3:subL3 (strL k0 ks nonce (16 * (a / 16)) (16 * ((a % 16+n+15) / 16))) ((a % 16:Nat):Int) ((a % 16+n:Nat):Int) ((a % 16+n:Nat):Int)=some (strL k0 ks nonce a n):=by
    refine zi8.2 ⟨⟨by omega,by omega,by omega,by rw [zd6];omega⟩,?_⟩
    rw [Int.toNat_natCast,Int.toNat_natCast]
    refine zjk (by simp only [List.length_drop,List.length_take,zd6];omega) fun i hi=>?_
    simp only [List.length_drop,List.length_take,zd6] at hi
    rw [co_drop,zkc,if_pos (by omega),co_strL _ _ _ _ _ _ (by omega),co_strL _ _ _ _ _ _ (by omega)]
    congr 1;omega
   rw [h3,obs]
theorem SXor_eq {c:Cip} {k0:List UInt8} {ks:List (List UInt8)} (G:GoodC c k0 ks) (nonce:List UInt8) (hn:nonce.length=8) (b:List UInt8) (hb:b.length<=1048576) :
  zjs (some c) nonce b=some (xr (strL k0 ks nonce 0 b.length) b,0):=by
 have hm:(100000000:Nat)<=most:=by decide
 unfold zjs
 have:=Bytes_eq G nonce hn 0 b.length (by omega) hb
 rw [show ((0:Nat):Int)=0 by rfl] at this
 rw [this,obs]
 dsimp only
 rw [if_pos rfl,wXor_eq _ _ (by rw [zd6];omega),obs]
end Gk

/- Printed by gen.py: for each Go function a pure function, and that the Go code comes to it. No condition beside the equation that says what the pure function gives. -/
namespace Gk
open Go Go.Proofs
noncomputable def zhk (n:List UInt32) (z:List UInt8):Option (List UInt32) :=
(((lenA 8 n).bind fun P =>
((zep z).bind fun x =>
((za6).bind fun v =>
((lenA 64 (List.replicate 64 (0:UInt32))).bind fun J =>
((lenA 64 x).bind fun M =>
((lenA 64 v).bind fun N =>
((lenA 8 (List.replicate 8 (0:UInt32))).bind fun O => some (x,v,n)))))))).bind fun e =>
((iterC (fun a:List UInt32×Int =>
(if a.2<64 then
((lenA 8 a.1).bind fun D =>
((idx a.1 7).bind fun f =>
((idx a.1 4).bind fun b =>
((idx a.1 5).bind fun g =>
((idx a.1 6).bind fun h =>
((lenA 64 e.2.1).bind fun E =>
((idx e.2.1 a.2).bind fun i =>
((lenA 64 e.1).bind fun F =>
((idx e.1 a.2).bind fun j =>
((zej b 6 11 25).bind fun m =>
((lenA 8 a.1).bind fun G =>
((idx a.1 0).bind fun d =>
((idx a.1 1).bind fun k =>
((idx a.1 2).bind fun l =>
((zej d 2 13 22).bind fun w =>
((lenA 8 a.1).bind fun H =>
((idx a.1 0).bind fun o =>
((idx a.1 1).bind fun p =>
((idx a.1 2).bind fun q =>
((idx a.1 3).bind fun r =>
((idx a.1 4).bind fun s =>
((idx a.1 5).bind fun t =>
((idx a.1 6).bind fun u =>
((lenA 8 ([(((((f+m)+((b &&& g)^^^(((4294967295:UInt32)^^^b) &&& h)))+i)+j)+(w+(((d &&& k)^^^(d &&& l))^^^(k &&& l)))),o,p,q,(r+((((f+m)+((b &&& g)^^^(((4294967295:UInt32)^^^b) &&& h)))+i)+j)),s,t,u]:List UInt32)).bind fun I => some (.inl (([(((((f+m)+((b &&& g)^^^(((4294967295:UInt32)^^^b) &&& h)))+i)+j)+(w+(((d &&& k)^^^(d &&& l))^^^(k &&& l)))),o,p,q,(r+((((f+m)+((b &&& g)^^^(((4294967295:UInt32)^^^b) &&& h)))+i)+j)),s,t,u]:List UInt32),wI (a.2+1)))))))))))))))))))))))))))
else some (.inr a.1))) (e.2.2,0)).bind fun y =>
((iterC (fun c:List UInt32×Int =>
(if c.2<8 then
((lenA 8 c.1).bind fun K =>
((idx c.1 c.2).bind fun A =>
((lenA 8 y).bind fun L =>
((idx y c.2).bind fun B => some (.inl (c.1.set (c.2:Int).toNat (A+B),wI (c.2+1)))))))
else some (.inr c.1))) (n,0)).bind fun C => some C)))
theorem hash_block_calls (h:List UInt32) (D:List UInt8) (a:Nat) (i:Value) (pL:List UInt32) (w0:World) (I:Blk w0 a 116 (ac u32 h)) (aS:By w0 [bp a] i D) (bE:zhk h D=some pL) :
  Calls Tryz.prog 88 [bp a,i].toArray w0 (fun sN sG=>sN=.returned (.tuple #[])/\ExG [bp a] w0 sG/\Blk sG a 116 (ac u32 pL)):=by
 have vU:ExG [bp a] w0 w0:=ExG.refl _ w0;unfold zhk at bE;refine zai (n:=104) Tryz.func88 V V V<|W_seq ?_;obtain ⟨x,e,bE⟩:=bsi bE;refine W_mid (fun c d=>∃ cJ:Nat,∃ cK:Nat,∃ cL:Nat,c 0=bp a/\c 4=bp cJ/\c 5=bp cK/\c 6=bp cL/\c 104=undef/\ExG [bp a] w0 d/\Blk d a 116 (ac u32 h)/\NS [bp a] w0 (bp a)/\Blk d cJ 136 (ac u32 x.1)/\NS [bp a] w0 (bp cJ)/\Blk d cK 136 (ac u32 x.2.1)/\NS [bp a] w0 (bp cK)/\Blk d cL 116 (ac u32 x.2.2)/\NS [bp a] w0 (bp cL)/\Nq (bp a) (bp cJ)/\Nq (bp a) (bp cK)/\Nq (bp a) (bp cL)/\Nq (bp cJ) (bp cK)/\Nq (bp cJ) (bp cL)/\Nq (bp cK) (bp cL)) ?_ ?_
 ·refine W_drawTB (B:=(World.drew w0).heap.size) [5] [(0,0),(3,0),(4,0),(5,1)] (.br 1 [] (.br 2 [] (.br 6 [] (.br 7 [(8,2),(9,2),(10,2),(11,2)] .fin (.br 8 [(7,2),(9,2),(10,2),(11,2)] .fin .fin)) (.br 7 [] (.br 6 [(8,2),(9,2),(10,2),(11,2)] .fin (.br 8 [(6,2),(9,2),(10,2),(11,2)] .fin .fin)) (.br 8 [] (.br 6 [(7,2),(9,2),(10,2),(11,2)] .fin (.br 7 [(6,2),(9,2),(10,2),(11,2)] .fin .fin)) .fin))) (.br 6 [] (.br 2 [] (.br 7 [(8,2),(9,2),(10,2),(11,2)] .fin (.br 8 [(7,2),(9,2),(10,2),(11,2)] .fin .fin)) (.br 7 [] (.br 2 [(8,2),(9,2),(10,2),(11,2)] .fin (.br 8 [(2,2),(9,2),(10,2),(11,2)] .fin .fin)) (.br 8 [] (.br 2 [(7,2),(9,2),(10,2),(11,2)] .fin (.br 7 [(2,2),(9,2),(10,2),(11,2)] .fin .fin)) .fin))) (.br 7 [] (.br 2 [] (.br 6 [(8,2),(9,2),(10,2),(11,2)] .fin (.br 8 [(6,2),(9,2),(10,2),(11,2)] .fin .fin)) (.br 6 [] (.br 2 [(8,2),(9,2),(10,2),(11,2)] .fin (.br 8 [(2,2),(9,2),(10,2),(11,2)] .fin .fin)) (.br 8 [] (.br 2 [(6,2),(9,2),(10,2),(11,2)] .fin (.br 6 [(2,2),(9,2),(10,2),(11,2)] .fin .fin)) .fin))) (.br 8 [] (.br 2 [] (.br 6 [(7,2),(9,2),(10,2),(11,2)] .fin (.br 7 [(6,2),(9,2),(10,2),(11,2)] .fin .fin)) (.br 6 [] (.br 2 [(7,2),(9,2),(10,2),(11,2)] .fin (.br 7 [(2,2),(9,2),(10,2),(11,2)] .fin .fin)) (.br 7 [] (.br 2 [(6,2),(9,2),(10,2),(11,2)] .fin (.br 6 [(2,2),(9,2),(10,2),(11,2)] .fin .fin)) .fin))) .fin)))) (.br 6 [] (.br 1 [] (.br 2 [] (.br 7 [(8,2),(9,2),(10,2),(11,2)] .fin (.br 8 [(7,2),(9,2),(10,2),(11,2)] .fin .fin)) (.br 7 [] (.br 2 [(8,2),(9,2),(10,2),(11,2)] .fin (.br 8 [(2,2),(9,2),(10,2),(11,2)] .fin .fin)) (.br 8 [] (.br 2 [(7,2),(9,2),(10,2),(11,2)] .fin (.br 7 [(2,2),(9,2),(10,2),(11,2)] .fin .fin)) .fin))) (.br 7 [] (.br 1 [] (.br 2 [(8,2),(9,2),(10,2),(11,2)] .fin (.br 8 [(2,2),(9,2),(10,2),(11,2)] .fin .fin)) (.br 8 [(1,2),(2,2),(9,2),(10,2),(11,2)] .fin .fin)) (.br 8 [] (.br 1 [] (.br 2 [(7,2),(9,2),(10,2),(11,2)] .fin (.br 7 [(2,2),(9,2),(10,2),(11,2)] .fin .fin)) (.br 7 [(1,2),(2,2),(9,2),(10,2),(11,2)] .fin .fin)) .fin))) (.br 7 [] (.br 1 [] (.br 2 [] (.br 6 [(8,2),(9,2),(10,2),(11,2)] .fin (.br 8 [(6,2),(9,2),(10,2),(11,2)] .fin .fin)) (.br 6 [] (.br 2 [(8,2),(9,2),(10,2),(11,2)] .fin (.br 8 [(2,2),(9,2),(10,2),(11,2)] .fin .fin)) (.br 8 [] (.br 2 [(6,2),(9,2),(10,2),(11,2)] .fin (.br 6 [(2,2),(9,2),(10,2),(11,2)] .fin .fin)) .fin))) (.br 6 [] (.br 1 [] (.br 2 [(8,2),(9,2),(10,2),(11,2)] .fin (.br 8 [(2,2),(9,2),(10,2),(11,2)] .fin .fin)) (.br 8 [(1,2),(2,2),(9,2),(10,2),(11,2)] .fin .fin)) (.br 8 [] (.br 1 [] (.br 2 [(6,2),(9,2),(10,2),(11,2)] .fin (.br 6 [(2,2),(9,2),(10,2),(11,2)] .fin .fin)) (.br 6 [(1,2),(2,2),(9,2),(10,2),(11,2)] .fin .fin)) .fin))) (.br 8 [] (.br 1 [] (.br 2 [] (.br 6 [(7,2),(9,2),(10,2),(11,2)] .fin (.br 7 [(6,2),(9,2),(10,2),(11,2)] .fin .fin)) (.br 6 [] (.br 2 [(7,2),(9,2),(10,2),(11,2)] .fin (.br 7 [(2,2),(9,2),(10,2),(11,2)] .fin .fin)) (.br 7 [] (.br 2 [(6,2),(9,2),(10,2),(11,2)] .fin (.br 6 [(2,2),(9,2),(10,2),(11,2)] .fin .fin)) .fin))) (.br 6 [] (.br 1 [] (.br 2 [(7,2),(9,2),(10,2),(11,2)] .fin (.br 7 [(2,2),(9,2),(10,2),(11,2)] .fin .fin)) (.br 7 [(1,2),(2,2),(9,2),(10,2),(11,2)] .fin .fin)) (.br 7 [] (.br 1 [] (.br 2 [(6,2),(9,2),(10,2),(11,2)] .fin (.br 6 [(2,2),(9,2),(10,2),(11,2)] .fin .fin)) (.br 6 [(1,2),(2,2),(9,2),(10,2),(11,2)] .fin .fin)) .fin))) .fin)))) mixed (by kernel_rfl) (by kernel_rfl) (by kernel_rfl) (by kernel_rfl) ?_
  have sH:=Ext.drew w0;replace I:=I.ext sH;have bH:=vU.trans sH;have a6:EB (World.drew w0).heap.size (World.drew w0) (World.drew w0):=EB.refl _;have CV:=I;refine wba V V V (zbd (v:=i) V V)<|wba V V V (zbd (v:=bp a) V V)<|wba V V V (zbl V V) ?_;obtain ⟨D9,o1,e⟩:=bsi e;refine wbq V V V (Qb.of fun H9 vT=>ziz (m:=0) V A116 V (Blk.ebs CV (EB.trans a6 vT)) (zaf _ _) (zad o1))<|zbw<|zc8 (fun q C=>∀ (f:List UInt32) (p:List UInt32) (r:Nat) (M:Nat) (P:Nat) (c:Nat->Value) (d:World),((lenA 64 (List.replicate 64 (0:UInt32))).bind fun E=>((lenA 64 f).bind fun F=>((lenA 64 p).bind fun G=>((lenA 8 (List.replicate 8 (0:UInt32))).bind fun H=>some (f,p,h)))))=some x->(c 0=bp a/\c 1=i/\c 4=bp r/\c 5=bp M/\c 6=bp P/\c 11=i/\c 12=ag u32 f/\c 13=ag u32 p/\c 14=bp a/\c 15=bp a/\c 16=ag u32 h/\c 104=undef/\ExG [bp a] w0 d/\Blk d a 116 (ac u32 h)/\NS [bp a] w0 (bp a)/\Blk d r 136 (ac u32 (List.replicate 64 (0:UInt32)))/\NS [bp a] w0 (bp r)/\Blk d M 136 (ac u32 (List.replicate 64 (0:UInt32)))/\NS [bp a] w0 (bp M)/\Blk d P 116 (ac u32 (List.replicate 8 (0:UInt32)))/\NS [bp a] w0 (bp P)/\Nq (bp a) (bp r)/\Nq (bp a) (bp M)/\Nq (bp a) (bp P)/\Nq (bp r) (bp M)/\Nq (bp r) (bp P)/\Nq (bp M) (bp P))->EB (World.drew w0).heap.size (World.drew w0) d->(∀ g,Hs (bp r) g->(World.drew w0).heap.size<=g)->(∀ g,Hs (bp M) g->(World.drew w0).heap.size<=g)->(∀ g,Hs (bp P) g->(World.drew w0).heap.size<=g)->C [(9,2),(10,2),(11,2)] c d) ?_ (fun X=>?_)
  ·rintro f p r M P c CZ e ⟨CH,ES,s0,s6,sE,EP,CO,CP,EQ,ER,CQ,CK,vV,dR,x4,yW,oK,iI,oS,iL,oT,p2,pB,pC,iV,iW,iX⟩ lO vR vS DA;obtain ⟨E,nY,e⟩:=bsi e;obtain ⟨F,w9,e⟩:=bsi e;refine wbm V V V (zbm [bp a] [bp M,bp P] V A136 (by exact s0) (by exact CO) (zad nY) (zad w9) yW zdo ?_);intro GW iM d4 EA;have z:=EB.own lO.1 d4 vR;refine ⟨z,?_⟩;have vL:=EB.trans lO z;replace iI:=iI.other d4 iV.symm;have u8:=vV.grown d4 oK;obtain ⟨G,wA,e⟩:=bsi e;refine wbm V V V (zbm [bp a,bp r] [bp P] V A136 (by exact s6) (by exact CP) (zad nY) (zad wA) iI zdo ?_);intro H1 iN d5 EE;have z:=EB.own vL.1 d5 vS;refine ⟨z,?_⟩;replace dR:=(dR.other d4 p2).other d5 pB;replace iL:=(iL.other d4 iW.symm).other d5 iX.symm;have u9:=u8.grown d5 oS;obtain ⟨H,wB,e⟩:=bsi e;refine wbn V (by kernel_rfl) V V (zbm [bp a,bp r,bp M] [] V A116 (by exact sE) (by exact CQ) (zad wB) (zad o1) iL zdo ?_);intro CZ zK eZ EF;replace dR:=dR.other eZ pC;replace iM:=(iM.other d5 iV).other eZ iW;replace iN:=iN.other eZ iX;have uA:=u9.grown eZ oT;refine zbw<|wt_fin ?_;obtain rfl:=osi e;exact ⟨r,M,P,CH,s0,s6,sE,CK,uA,dR,x4,iM,oK,iN,oS,zK,oT,p2,pB,pC,iV,iW,iX⟩
  refine zc8 (fun q C=>∀ (f:List UInt32) (p:List UInt32) (r:Nat) (c:Nat->Value) (d:World),((lenA 64 (List.replicate 64 (0:UInt32))).bind fun E=>((lenA 64 f).bind fun F=>((lenA 64 p).bind fun G=>((lenA 8 (List.replicate 8 (0:UInt32))).bind fun H=>some (f,p,h)))))=some x->(c 0=bp a/\c 1=i/\c 4=bp r/\c 11=i/\c 12=ag u32 f/\c 13=ag u32 p/\c 14=bp a/\c 15=bp a/\c 16=ag u32 h/\c 104=undef/\ExG [bp a] w0 d/\Blk d a 116 (ac u32 h)/\NS [bp a] w0 (bp a)/\Blk d r 136 (ac u32 (List.replicate 64 (0:UInt32)))/\NS [bp a] w0 (bp r)/\Nq (bp a) (bp r))->EB (World.drew w0).heap.size (World.drew w0) d->(∀ g,Hs (bp r) g->(World.drew w0).heap.size<=g)->q (.br 7 [(8,2),(9,2),(10,2),(11,2)] .fin (.br 8 [(7,2),(9,2),(10,2),(11,2)] .fin .fin)) c d) ?_ (fun nG=>?_)
  ·rintro f p r c FQ e ⟨pZ,rQ,rX,qK,qQ,qT,qZ,r8,rH,q9,f4,a0,o6,a3,oG,oY⟩ bJ lW;refine zbs ?_ ?_
   ·refine wbs V V V (sal u32 (List.replicate 64 (0:UInt32)) [bp a,bp r] V Z136 ?_);intro M FX fX fK mQ DV;have z:=EB.ext bJ.1 (zaa mQ);refine ⟨z,?_⟩;have gN:=zaa mQ;have h4:=EB.trans bJ (EB.ext bJ.1 gN);have BB:Nq (bp a) (bp M):=a0.nq fK;have BE:Nq (bp r) (bp M):=a3.nq fK;replace a0:=a0.ext gN;replace a3:=a3.ext gN;have y3:=NS.ext f4 fK;have l9:=f4.trans gN;refine wbs V V V (sal u32 (List.replicate 8 (0:UInt32)) [bp M,bp a,bp r] V Z116 ?_);intro P GC zA dM mW E2;have z:=EB.ext h4.1 (zaa mW);refine ⟨z,?_⟩;have eE:=zaa mW;have vB:=h4.e eE;have BO:Nq (bp M) (bp P):=fX.nq dM;have BT:Nq (bp a) (bp P):=a0.nq dM;have BW:Nq (bp r) (bp P):=a3.nq dM;replace fX:=fX.ext eE;replace a0:=a0.ext eE;replace a3:=a3.ext eE;have yA:=NS.ext l9 dM;have tW:=l9.trans eE;exact X f p r M P _ _ e ⟨pZ,rQ,rX,rfl,rfl,qK,qQ,qT,qZ,r8,rH,q9,tW,a0,o6,a3,oG,fX,y3,zA,yA,oY,BB,BT,BE,BW,BO⟩ vB lW (lt2 bJ.1 fK) (lt2 h4.1 dM)
   refine zbs ?_ ?_
   ·refine wbs V V V (sal u32 (List.replicate 8 (0:UInt32)) [bp a,bp r] V Z116 ?_);intro d6 H2 fY fS n4 EG;have z:=EB.ext bJ.1 (zaa n4);refine ⟨z,?_⟩;have gV:=zaa n4;have h5:=EB.trans bJ (EB.ext bJ.1 gV);have C3:Nq (bp a) (bp d6):=a0.nq fS;have C4:Nq (bp r) (bp d6):=a3.nq fS;replace a0:=a0.ext gV;replace a3:=a3.ext gV;have yE:=NS.ext f4 fS;have lC:=f4.trans gV;refine wbs V V V (sal u32 (List.replicate 64 (0:UInt32)) [bp d6,bp a,bp r] V Z136 ?_);intro f0 H3 zL dO n5 EH;have z:=EB.ext h5.1 (zaa n5);refine ⟨z,?_⟩;have eK:=zaa n5;have vM:=h5.e eK;have C5:Nq (bp d6) (bp f0):=fY.nq dO;have C6:Nq (bp a) (bp f0):=a0.nq dO;have C7:Nq (bp r) (bp f0):=a3.nq dO;replace fY:=fY.ext eK;replace a0:=a0.ext eK;replace a3:=a3.ext eK;have yF:=NS.ext lC dO;have uB:=lC.trans eK;exact X f p r f0 d6 _ _ e ⟨pZ,rQ,rX,rfl,rfl,qK,qQ,qT,qZ,r8,rH,q9,uB,a0,o6,a3,oG,zL,yF,fY,yE,oY,C6,C3,C7,C4,C5.symm⟩ vM lW (lt2 h5.1 dO) (lt2 bJ.1 fS)
   trivial
  refine zc8 (fun q C=>∀ (f:List UInt32) (p:List UInt32) (A:Nat) (c:Nat->Value) (d:World),((lenA 64 (List.replicate 64 (0:UInt32))).bind fun E=>((lenA 64 f).bind fun F=>((lenA 64 p).bind fun G=>((lenA 8 (List.replicate 8 (0:UInt32))).bind fun H=>some (f,p,h)))))=some x->(c 0=bp a/\c 1=i/\c 5=bp A/\c 11=i/\c 12=ag u32 f/\c 13=ag u32 p/\c 14=bp a/\c 15=bp a/\c 16=ag u32 h/\c 104=undef/\ExG [bp a] w0 d/\Blk d a 116 (ac u32 h)/\NS [bp a] w0 (bp a)/\Blk d A 136 (ac u32 (List.replicate 64 (0:UInt32)))/\NS [bp a] w0 (bp A)/\Nq (bp a) (bp A))->EB (World.drew w0).heap.size (World.drew w0) d->(∀ g,Hs (bp A) g->(World.drew w0).heap.size<=g)->q (.br 6 [(8,2),(9,2),(10,2),(11,2)] .fin (.br 8 [(6,2),(9,2),(10,2),(11,2)] .fin .fin)) c d) ?_ (fun nL=>?_)
  ·rintro f p A c H6 e ⟨q4,rU,s8,qL,qR,qU,r3,rC,rL,qF,f8,a1,oB,a4,oL,p4⟩ bK m3;refine zbs ?_ ?_
   ·refine wbs V V V (sal u32 (List.replicate 64 (0:UInt32)) [bp a,bp A] V Z136 ?_);intro d7 H7 fZ fT n7 EJ;have z:=EB.ext bK.1 (zaa n7);refine ⟨z,?_⟩;have gX:=zaa n7;have h6:=EB.trans bK (EB.ext bK.1 gX);have C9:Nq (bp a) (bp d7):=a1.nq fT;have CA:Nq (bp A) (bp d7):=a4.nq fT;replace a1:=a1.ext gX;replace a4:=a4.ext gX;have yH:=NS.ext f8 fT;have lD:=f8.trans gX;refine wbs V V V (sal u32 (List.replicate 8 (0:UInt32)) [bp d7,bp a,bp A] V Z116 ?_);intro f1 H8 zN dP n8 EK;have z:=EB.ext h6.1 (zaa n8);refine ⟨z,?_⟩;have eL:=zaa n8;have vP:=h6.e eL;have CB:Nq (bp d7) (bp f1):=fZ.nq dP;have CC:Nq (bp a) (bp f1):=a1.nq dP;have CD:Nq (bp A) (bp f1):=a4.nq dP;replace fZ:=fZ.ext eL;replace a1:=a1.ext eL;replace a4:=a4.ext eL;have yI:=NS.ext lD dP;have uD:=lD.trans eL;exact X f p d7 A f1 _ _ e ⟨q4,rU,rfl,s8,rfl,qL,qR,qU,r3,rC,rL,qF,uD,a1,oB,fZ,yH,a4,oL,zN,yI,C9,p4,CC,CA.symm,CB,CD⟩ vP (lt2 bK.1 fT) m3 (lt2 h6.1 dP)
   refine zbs ?_ ?_
   ·refine wbs V V V (sal u32 (List.replicate 8 (0:UInt32)) [bp a,bp A] V Z116 ?_);intro d8 HA g0 fU n9 EL;have z:=EB.ext bK.1 (zaa n9);refine ⟨z,?_⟩;have gY:=zaa n9;have h7:=EB.trans bK (EB.ext bK.1 gY);have CE:Nq (bp a) (bp d8):=a1.nq fU;have CF:Nq (bp A) (bp d8):=a4.nq fU;replace a1:=a1.ext gY;replace a4:=a4.ext gY;have yJ:=NS.ext f8 fU;have lE:=f8.trans gY;refine wbs V V V (sal u32 (List.replicate 64 (0:UInt32)) [bp d8,bp a,bp A] V Z136 ?_);intro f2 HB zO dQ nA EM;have z:=EB.ext h7.1 (zaa nA);refine ⟨z,?_⟩;have eM:=zaa nA;have vQ:=h7.e eM;have CG:Nq (bp d8) (bp f2):=g0.nq dQ;have zV:Nq (bp a) (bp f2):=a1.nq dQ;have zW:Nq (bp A) (bp f2):=a4.nq dQ;replace g0:=g0.ext eM;replace a1:=a1.ext eM;replace a4:=a4.ext eM;have x7:=NS.ext lE dQ;have sO:=lE.trans eM;exact X f p f2 A d8 _ _ e ⟨q4,rU,rfl,s8,rfl,qL,qR,qU,r3,rC,rL,qF,sO,a1,oB,zO,x7,a4,oL,g0,yJ,zV,p4,CE,zW.symm,CG.symm,CF⟩ vQ (lt2 h7.1 dQ) m3 (lt2 bK.1 fU)
   trivial
  refine zc8 (fun q C=>∀ (f:List UInt32) (p:List UInt32) (y:Nat) (c:Nat->Value) (d:World),((lenA 64 (List.replicate 64 (0:UInt32))).bind fun E=>((lenA 64 f).bind fun F=>((lenA 64 p).bind fun G=>((lenA 8 (List.replicate 8 (0:UInt32))).bind fun H=>some (f,p,h)))))=some x->(c 0=bp a/\c 1=i/\c 6=bp y/\c 11=i/\c 12=ag u32 f/\c 13=ag u32 p/\c 14=bp a/\c 15=bp a/\c 16=ag u32 h/\c 104=undef/\ExG [bp a] w0 d/\Blk d a 116 (ac u32 h)/\NS [bp a] w0 (bp a)/\Blk d y 116 (ac u32 (List.replicate 8 (0:UInt32)))/\NS [bp a] w0 (bp y)/\Nq (bp a) (bp y))->EB (World.drew w0).heap.size (World.drew w0) d->(∀ g,Hs (bp y) g->(World.drew w0).heap.size<=g)->q (.br 6 [(7,2),(9,2),(10,2),(11,2)] .fin (.br 7 [(6,2),(9,2),(10,2),(11,2)] .fin .fin)) c d) ?_ (fun nD=>?_)
  ·rintro f p y c EV e ⟨pV,rM,s9,qG,qM,qS,qV,r4,rD,q5,f3,Z,o2,a2,oC,oU⟩ bI lP;refine zbs ?_ ?_
   ·refine wbs V V V (sal u32 (List.replicate 64 (0:UInt32)) [bp a,bp y] V Z136 ?_);intro d2 EW fV fD m5 DC;have z:=EB.ext bI.1 (zaa m5);refine ⟨z,?_⟩;have gF:=zaa m5;have gZ:=EB.trans bI (EB.ext bI.1 gF);have zY:Nq (bp a) (bp d2):=Z.nq fD;have zZ:Nq (bp y) (bp d2):=a2.nq fD;replace Z:=Z.ext gF;replace a2:=a2.ext gF;have x9:=NS.ext f3 fD;have l3:=f3.trans gF;refine wbs V V V (sal u32 (List.replicate 64 (0:UInt32)) [bp d2,bp a,bp y] V Z136 ?_);intro eN EX yO dC m6 DD;have z:=EB.ext gZ.1 (zaa m6);refine ⟨z,?_⟩;have e0:=zaa m6;have uG:=gZ.e e0;have A0:Nq (bp d2) (bp eN):=fV.nq dC;have A1:Nq (bp a) (bp eN):=Z.nq dC;have A2:Nq (bp y) (bp eN):=a2.nq dC;replace fV:=fV.ext e0;replace Z:=Z.ext e0;replace a2:=a2.ext e0;have xA:=NS.ext l3 dC;have sQ:=l3.trans e0;exact X f p d2 eN y _ _ e ⟨pV,rM,rfl,rfl,s9,qG,qM,qS,qV,r4,rD,q5,sQ,Z,o2,fV,x9,yO,xA,a2,oC,zY,A1,oU,A0,zZ.symm,A2.symm⟩ uG (lt2 bI.1 fD) (lt2 gZ.1 dC) lP
   refine zbs ?_ ?_
   ·refine wbs V V V (sal u32 (List.replicate 64 (0:UInt32)) [bp a,bp y] V Z136 ?_);intro d3 EY fW fE m7 DE;have z:=EB.ext bI.1 (zaa m7);refine ⟨z,?_⟩;have gG:=zaa m7;have h0:=EB.trans bI (EB.ext bI.1 gG);have A3:Nq (bp a) (bp d3):=Z.nq fE;have A4:Nq (bp y) (bp d3):=a2.nq fE;replace Z:=Z.ext gG;replace a2:=a2.ext gG;have xB:=NS.ext f3 fE;have l4:=f3.trans gG;refine wbs V V V (sal u32 (List.replicate 64 (0:UInt32)) [bp d3,bp a,bp y] V Z136 ?_);intro eO F0 yP dD m8 DF;have z:=EB.ext h0.1 (zaa m8);refine ⟨z,?_⟩;have e1:=zaa m8;have uH:=h0.e e1;have A5:Nq (bp d3) (bp eO):=fW.nq dD;have A6:Nq (bp a) (bp eO):=Z.nq dD;have A7:Nq (bp y) (bp eO):=a2.nq dD;replace fW:=fW.ext e1;replace Z:=Z.ext e1;replace a2:=a2.ext e1;have xC:=NS.ext l4 dD;have sR:=l4.trans e1;exact X f p eO d3 y _ _ e ⟨pV,rM,rfl,rfl,s9,qG,qM,qS,qV,r4,rD,q5,sR,Z,o2,yP,xC,fW,xB,a2,oC,A6,A3,oU,A5.symm,A7.symm,A4.symm⟩ uH (lt2 h0.1 dD) (lt2 bI.1 fE) lP
   trivial
  refine zc8 (fun q C=>∀ (f:List UInt32) (p:List UInt32) (c:Nat->Value) (d:World),((lenA 64 (List.replicate 64 (0:UInt32))).bind fun E=>((lenA 64 f).bind fun F=>((lenA 64 p).bind fun G=>((lenA 8 (List.replicate 8 (0:UInt32))).bind fun H=>some (f,p,h)))))=some x->(c 0=bp a/\c 1=i/\c 11=i/\c 12=ag u32 f/\c 13=ag u32 p/\c 14=bp a/\c 15=bp a/\c 16=ag u32 h/\c 104=undef/\ExG [bp a] w0 d/\Blk d a 116 (ac u32 h)/\NS [bp a] w0 (bp a))->EB (World.drew w0).heap.size (World.drew w0) d->q (.br 6 [] (.br 7 [(8,2),(9,2),(10,2),(11,2)] .fin (.br 8 [(7,2),(9,2),(10,2),(11,2)] .fin .fin)) (.br 7 [] (.br 6 [(8,2),(9,2),(10,2),(11,2)] .fin (.br 8 [(6,2),(9,2),(10,2),(11,2)] .fin .fin)) (.br 8 [] (.br 6 [(7,2),(9,2),(10,2),(11,2)] .fin (.br 7 [(6,2),(9,2),(10,2),(11,2)] .fin .fin)) .fin))) c d) ?_ (fun w1=>?_)
  ·rintro f p c F7 e ⟨iZ,k9,jE,jI,jL,jN,jU,k1,j7,cM,a8,hR⟩ a7;refine zbs ?_ ?_
   ·refine wbs V V V (sal u32 (List.replicate 64 (0:UInt32)) [bp a] V Z136 ?_);intro r FE yU i0 mG DL;have z:=EB.ext a7.1 (zaa mG);refine ⟨z,?_⟩;have kO:=zaa mG;have uQ:=EB.trans a7 (EB.ext a7.1 kO);have AT:Nq (bp a) (bp r):=a8.nq i0;replace a8:=a8.ext kO;have xR:=NS.ext cM i0;have t5:=cM.trans kO;refine zbw<|wt_br ?_;exact nG f p r _ _ e ⟨iZ,k9,rfl,jE,jI,jL,jN,jU,k1,j7,t5,a8,hR,yU,xR,AT⟩ uQ (lt2 a7.1 i0)
   refine zbs ?_ ?_
   ·refine wbs V V V (sal u32 (List.replicate 64 (0:UInt32)) [bp a] V Z136 ?_);intro A H5 zM iD n6 EI;have z:=EB.ext a7.1 (zaa n6);refine ⟨z,?_⟩;have kV:=zaa n6;have vN:=EB.trans a7 (EB.ext a7.1 kV);have C8:Nq (bp a) (bp A):=a8.nq iD;replace a8:=a8.ext kV;have yG:=NS.ext cM iD;have uC:=cM.trans kV;refine zbw<|wt_br ?_;exact nL f p A _ _ e ⟨iZ,k9,rfl,jE,jI,jL,jN,jU,k1,j7,uC,a8,hR,zM,yG,C8⟩ vN (lt2 a7.1 iD)
   refine zbs ?_ ?_
   ·refine wbs V V V (sal u32 (List.replicate 8 (0:UInt32)) [bp a] V Z116 ?_);intro y EU yN hY m4 DB;have z:=EB.ext a7.1 (zaa m4);refine ⟨z,?_⟩;have kM:=zaa m4;have uF:=EB.trans a7 (EB.ext a7.1 kM);have zX:Nq (bp a) (bp y):=a8.nq hY;replace a8:=a8.ext kM;have x8:=NS.ext cM hY;have sP:=cM.trans kM;refine zbw<|wt_br ?_;exact nD f p y _ _ e ⟨iZ,k9,rfl,jE,jI,jL,jN,jU,k1,j7,sP,a8,hR,yN,x8,zX⟩ uF (lt2 a7.1 hY)
   trivial
  refine zc8 (fun q C=>∀ (f:List UInt32) (k:Nat) (J:Nat) (c:Nat->Value) (d:World),((za6).bind fun bN=>((lenA 64 (List.replicate 64 (0:UInt32))).bind fun E=>((lenA 64 f).bind fun F=>((lenA 64 bN).bind fun G=>((lenA 8 (List.replicate 8 (0:UInt32))).bind fun H=>some (f,bN,h))))))=some x->(c 0=bp a/\c 1=i/\c 4=bp k/\c 5=bp J/\c 11=i/\c 12=ag u32 f/\c 14=bp a/\c 15=bp a/\c 16=ag u32 h/\c 104=undef/\ExG [bp a] w0 d/\Blk d a 116 (ac u32 h)/\NS [bp a] w0 (bp a)/\Blk d k 136 (ac u32 (List.replicate 64 (0:UInt32)))/\NS [bp a] w0 (bp k)/\Blk d J 136 (ac u32 (List.replicate 64 (0:UInt32)))/\NS [bp a] w0 (bp J)/\Nq (bp a) (bp k)/\Nq (bp a) (bp J)/\Nq (bp k) (bp J))->EB (World.drew w0).heap.size (World.drew w0) d->(∀ g,Hs (bp k) g->(World.drew w0).heap.size<=g)->(∀ g,Hs (bp J) g->(World.drew w0).heap.size<=g)->q (.br 2 [(8,2),(9,2),(10,2),(11,2)] .fin (.br 8 [(2,2),(9,2),(10,2),(11,2)] .fin .fin)) c d) ?_ (fun hN=>?_)
  ·rintro f k J c F5 e ⟨pW,rN,rV,s2,qH,qN,qW,r5,rE,q6,hK,aT,o3,aX,oD,b1,oM,oV,p5,pD⟩ c0 lQ lR;refine zbs ?_ ?_
   ·obtain ⟨bN,wE,e⟩:=bsi e;refine wbs V V V (zab (vs:=[]) Tryz.func118 V V V (ar0) (za2   bN _  wE) ?_);rintro _ F6 ⟨rfl,cU⟩;refine ⟨_,rfl,EB.ext c0.1 cU,?_⟩;have h1:=EB.trans c0 (EB.ext c0.1 cU);replace aT:=aT.ext cU;replace aX:=aX.ext cU;replace b1:=b1.ext cU;have l5:=hK.trans cU;refine wbs V V V (sal u32 (List.replicate 8 (0:UInt32)) [bp a,bp k,bp J] V Z116 ?_);intro eP F8 yS dE mB DI;have z:=EB.ext h1.1 (zaa mB);refine ⟨z,?_⟩;have e3:=zaa mB;have uM:=h1.e e3;have AB:Nq (bp a) (bp eP):=aT.nq dE;have AC:Nq (bp k) (bp eP):=aX.nq dE;have AD:Nq (bp J) (bp eP):=b1.nq dE;replace aT:=aT.ext e3;replace aX:=aX.ext e3;replace b1:=b1.ext e3;have xF:=NS.ext l5 dE;have sW:=l5.trans e3;exact X f bN k J eP _ _ e ⟨pW,rN,rV,s2,rfl,qH,qN,rfl,qW,r5,rE,q6,sW,aT,o3,aX,oD,b1,oM,yS,xF,oV,p5,AB,pD,AC,AD⟩ uM lQ lR (lt2 h1.1 dE)
   refine zbs ?_ ?_
   ·refine wbs V V V (sal u32 (List.replicate 8 (0:UInt32)) [bp a,bp k,bp J] V Z116 ?_);intro eQ F9 iE dF mC DJ;have z:=EB.ext c0.1 (zaa mC);refine ⟨z,?_⟩;have e4:=zaa mC;have lF:=EB.trans c0 (EB.ext c0.1 e4);have AE:Nq (bp a) (bp eQ):=aT.nq dF;have AF:Nq (bp k) (bp eQ):=aX.nq dF;have AG:Nq (bp J) (bp eQ):=b1.nq dF;have xG:=NS.ext hK dF;have sX:=hK.trans e4;obtain ⟨pM,wF,e⟩:=bsi e;refine wbs V V V (zab (vs:=[]) Tryz.func118 V V V (ar0) (za2   pM _  wF) ?_);rintro _ FA ⟨rfl,cA⟩;refine ⟨_,rfl,EB.ext lF.1 cA,?_⟩;have uN:=lF.e cA;replace iE:=iE.ext cA;replace aT:=(aT.ext e4).ext cA;replace aX:=(aX.ext e4).ext cA;replace b1:=(b1.ext e4).ext cA;have sY:=sX.trans cA;exact X f pM k J eQ _ _ e ⟨pW,rN,rV,s2,rfl,qH,qN,rfl,qW,r5,rE,q6,sY,aT,o3,aX,oD,b1,oM,iE,xG,oV,p5,AE,pD,AF,AG⟩ uN lQ lR (lt2 c0.1 dF)
   trivial
  refine zc8 (fun q C=>∀ (f:List UInt32) (k:Nat) (K:Nat) (c:Nat->Value) (d:World),((za6).bind fun bO=>((lenA 64 (List.replicate 64 (0:UInt32))).bind fun E=>((lenA 64 f).bind fun F=>((lenA 64 bO).bind fun G=>((lenA 8 (List.replicate 8 (0:UInt32))).bind fun H=>some (f,bO,h))))))=some x->(c 0=bp a/\c 1=i/\c 4=bp k/\c 6=bp K/\c 11=i/\c 12=ag u32 f/\c 14=bp a/\c 15=bp a/\c 16=ag u32 h/\c 104=undef/\ExG [bp a] w0 d/\Blk d a 116 (ac u32 h)/\NS [bp a] w0 (bp a)/\Blk d k 136 (ac u32 (List.replicate 64 (0:UInt32)))/\NS [bp a] w0 (bp k)/\Blk d K 116 (ac u32 (List.replicate 8 (0:UInt32)))/\NS [bp a] w0 (bp K)/\Nq (bp a) (bp k)/\Nq (bp a) (bp K)/\Nq (bp k) (bp K))->EB (World.drew w0).heap.size (World.drew w0) d->(∀ g,Hs (bp k) g->(World.drew w0).heap.size<=g)->(∀ g,Hs (bp K) g->(World.drew w0).heap.size<=g)->q (.br 2 [(7,2),(9,2),(10,2),(11,2)] .fin (.br 7 [(2,2),(9,2),(10,2),(11,2)] .fin .fin)) c d) ?_ (fun hO=>?_)
  ·rintro f k K c FC e ⟨pX,rO,rW,sA,qI,qO,qX,r6,rF,q7,hL,aU,o4,aY,oE,b2,oN,oW,p6,pE⟩ c1 lS lT;refine zbs ?_ ?_
   ·obtain ⟨bO,wG,e⟩:=bsi e;refine wbs V V V (zab (vs:=[]) Tryz.func118 V V V (ar0) (za2   bO _  wG) ?_);rintro _ FD ⟨rfl,cV⟩;refine ⟨_,rfl,EB.ext c1.1 cV,?_⟩;have h2:=EB.trans c1 (EB.ext c1.1 cV);replace aU:=aU.ext cV;replace aY:=aY.ext cV;replace b2:=b2.ext cV;have l6:=hL.trans cV;refine wbs V V V (sal u32 (List.replicate 64 (0:UInt32)) [bp a,bp k,bp K] V Z136 ?_);intro eR FF yV dG mE DM;have z:=EB.ext h2.1 (zaa mE);refine ⟨z,?_⟩;have e5:=zaa mE;have uP:=h2.e e5;have AJ:Nq (bp a) (bp eR):=aU.nq dG;have AK:Nq (bp k) (bp eR):=aY.nq dG;have AL:Nq (bp K) (bp eR):=b2.nq dG;replace aU:=aU.ext e5;replace aY:=aY.ext e5;replace b2:=b2.ext e5;have xI:=NS.ext l6 dG;have t0:=l6.trans e5;exact X f bO k eR K _ _ e ⟨pX,rO,rW,rfl,sA,qI,qO,rfl,qX,r6,rF,q7,t0,aU,o4,aY,oE,yV,xI,b2,oN,oW,AJ,p6,AK,pE,AL.symm⟩ uP lS (lt2 h2.1 dG) lT
   refine zbs ?_ ?_
   ·refine wbs V V V (sal u32 (List.replicate 64 (0:UInt32)) [bp a,bp k,bp K] V Z136 ?_);intro eS FG iF dH mF DN;have z:=EB.ext c1.1 (zaa mF);refine ⟨z,?_⟩;have e6:=zaa mF;have lG:=EB.trans c1 (EB.ext c1.1 e6);have AM:Nq (bp a) (bp eS):=aU.nq dH;have AQ:Nq (bp k) (bp eS):=aY.nq dH;have AR:Nq (bp K) (bp eS):=b2.nq dH;have xN:=NS.ext hL dH;have t1:=hL.trans e6;obtain ⟨pN,wH,e⟩:=bsi e;refine wbs V V V (zab (vs:=[]) Tryz.func118 V V V (ar0) (za2   pN _  wH) ?_);rintro _ FH ⟨rfl,cB⟩;refine ⟨_,rfl,EB.ext lG.1 cB,?_⟩;have uR:=lG.e cB;replace iF:=iF.ext cB;replace aU:=(aU.ext e6).ext cB;replace aY:=(aY.ext e6).ext cB;replace b2:=(b2.ext e6).ext cB;have t2:=t1.trans cB;exact X f pN k eS K _ _ e ⟨pX,rO,rW,rfl,sA,qI,qO,rfl,qX,r6,rF,q7,t2,aU,o4,aY,oE,iF,xN,b2,oN,oW,AM,p6,AQ,pE,AR.symm⟩ uR lS (lt2 c1.1 dH) lT
   trivial
  refine zc8 (fun q C=>∀ (f:List UInt32) (k:Nat) (c:Nat->Value) (d:World),((za6).bind fun bM=>((lenA 64 (List.replicate 64 (0:UInt32))).bind fun E=>((lenA 64 f).bind fun F=>((lenA 64 bM).bind fun G=>((lenA 8 (List.replicate 8 (0:UInt32))).bind fun H=>some (f,bM,h))))))=some x->(c 0=bp a/\c 1=i/\c 4=bp k/\c 11=i/\c 12=ag u32 f/\c 14=bp a/\c 15=bp a/\c 16=ag u32 h/\c 104=undef/\ExG [bp a] w0 d/\Blk d a 116 (ac u32 h)/\NS [bp a] w0 (bp a)/\Blk d k 136 (ac u32 (List.replicate 64 (0:UInt32)))/\NS [bp a] w0 (bp k)/\Nq (bp a) (bp k))->EB (World.drew w0).heap.size (World.drew w0) d->(∀ g,Hs (bp k) g->(World.drew w0).heap.size<=g)->q (.br 2 [] (.br 7 [(8,2),(9,2),(10,2),(11,2)] .fin (.br 8 [(7,2),(9,2),(10,2),(11,2)] .fin .fin)) (.br 7 [] (.br 2 [(8,2),(9,2),(10,2),(11,2)] .fin (.br 8 [(2,2),(9,2),(10,2),(11,2)] .fin .fin)) (.br 8 [] (.br 2 [(7,2),(9,2),(10,2),(11,2)] .fin (.br 7 [(2,2),(9,2),(10,2),(11,2)] .fin .fin)) .fin))) c d) ?_ (fun nE=>?_)
  ·rintro f k c F2 e ⟨iY,k8,kF,jD,jH,jM,jT,k0,j6,d9,aF,hQ,aL,i1,iO⟩ a9 h8;refine zbs ?_ ?_
   ·obtain ⟨bM,wD,e⟩:=bsi e;refine wbs V V V (zab (vs:=[]) Tryz.func118 V V V (ar0) (za2   bM _  wD) ?_);rintro _ F3 ⟨rfl,e2⟩;refine ⟨_,rfl,EB.ext a9.1 e2,?_⟩;have uK:=EB.trans a9 (EB.ext a9.1 e2);replace aF:=aF.ext e2;replace aL:=aL.ext e2;have sT:=d9.trans e2;refine zbw<|wt_br ?_;exact nG f bM k _ _ e ⟨iY,k8,kF,jD,jH,rfl,jM,jT,k0,j6,sT,aF,hQ,aL,i1,iO⟩ uK h8
   refine zbs ?_ ?_
   ·refine wbs V V V (sal u32 (List.replicate 64 (0:UInt32)) [bp a,bp k] V Z136 ?_);intro J F4 yR fF mA DH;have z:=EB.ext a9.1 (zaa mA);refine ⟨z,?_⟩;have gI:=zaa mA;have uL:=EB.trans a9 (EB.ext a9.1 gI);have A9:Nq (bp a) (bp J):=aF.nq fF;have AA:Nq (bp k) (bp J):=aL.nq fF;replace aF:=aF.ext gI;replace aL:=aL.ext gI;have xE:=NS.ext d9 fF;have sV:=d9.trans gI;refine zbw<|wt_br ?_;exact hN f k J _ _ e ⟨iY,k8,kF,rfl,jD,jH,jM,jT,k0,j6,sV,aF,hQ,aL,i1,yR,xE,iO,A9,AA⟩ uL h8 (lt2 a9.1 fF)
   refine zbs ?_ ?_
   ·refine wbs V V V (sal u32 (List.replicate 8 (0:UInt32)) [bp a,bp k] V Z116 ?_);intro K FB yT fG mD DK;have z:=EB.ext a9.1 (zaa mD);refine ⟨z,?_⟩;have gJ:=zaa mD;have uO:=EB.trans a9 (EB.ext a9.1 gJ);have AH:Nq (bp a) (bp K):=aF.nq fG;have AI:Nq (bp k) (bp K):=aL.nq fG;replace aF:=aF.ext gJ;replace aL:=aL.ext gJ;have xH:=NS.ext d9 fG;have sZ:=d9.trans gJ;refine zbw<|wt_br ?_;exact hO f k K _ _ e ⟨iY,k8,kF,rfl,jD,jH,jM,jT,k0,j6,sZ,aF,hQ,aL,i1,yT,xH,iO,AH,AI⟩ uO h8 (lt2 a9.1 fG)
   trivial
  refine zc8 (fun q C=>∀ (f:List UInt32) (s:Nat) (L:Nat) (c:Nat->Value) (d:World),((za6).bind fun bQ=>((lenA 64 (List.replicate 64 (0:UInt32))).bind fun E=>((lenA 64 f).bind fun F=>((lenA 64 bQ).bind fun G=>((lenA 8 (List.replicate 8 (0:UInt32))).bind fun H=>some (f,bQ,h))))))=some x->(c 0=bp a/\c 1=i/\c 5=bp s/\c 6=bp L/\c 11=i/\c 12=ag u32 f/\c 14=bp a/\c 15=bp a/\c 16=ag u32 h/\c 104=undef/\ExG [bp a] w0 d/\Blk d a 116 (ac u32 h)/\NS [bp a] w0 (bp a)/\Blk d s 136 (ac u32 (List.replicate 64 (0:UInt32)))/\NS [bp a] w0 (bp s)/\Blk d L 116 (ac u32 (List.replicate 8 (0:UInt32)))/\NS [bp a] w0 (bp L)/\Nq (bp a) (bp s)/\Nq (bp a) (bp L)/\Nq (bp s) (bp L))->EB (World.drew w0).heap.size (World.drew w0) d->(∀ g,Hs (bp s) g->(World.drew w0).heap.size<=g)->(∀ g,Hs (bp L) g->(World.drew w0).heap.size<=g)->q (.br 2 [(6,2),(9,2),(10,2),(11,2)] .fin (.br 6 [(2,2),(9,2),(10,2),(11,2)] .fin .fin)) c d) ?_ (fun hP=>?_)
  ·rintro f s L c FN e ⟨pY,rP,s3,sB,qJ,qP,qY,r7,rG,q8,hM,aV,o5,aZ,oF,b3,oO,oX,p7,pF⟩ c2 lU lV;refine zbs ?_ ?_
   ·obtain ⟨bQ,wK,e⟩:=bsi e;refine wbs V V V (zab (vs:=[]) Tryz.func118 V V V (ar0) (za2   bQ _  wK) ?_);rintro _ FO ⟨rfl,cW⟩;refine ⟨_,rfl,EB.ext c2.1 cW,?_⟩;have h3:=EB.trans c2 (EB.ext c2.1 cW);replace aV:=aV.ext cW;replace aZ:=aZ.ext cW;replace b3:=b3.ext cW;have l7:=hM.trans cW;refine wbs V V V (sal u32 (List.replicate 64 (0:UInt32)) [bp a,bp s,bp L] V Z136 ?_);intro eT FP z2 dI mK DR;have z:=EB.ext h3.1 (zaa mK);refine ⟨z,?_⟩;have e8:=zaa mK;have uW:=h3.e e8;have AY:Nq (bp a) (bp eT):=aV.nq dI;have AZ:Nq (bp s) (bp eT):=aZ.nq dI;have B0:Nq (bp L) (bp eT):=b3.nq dI;replace aV:=aV.ext e8;replace aZ:=aZ.ext e8;replace b3:=b3.ext e8;have xS:=NS.ext l7 dI;have t8:=l7.trans e8;exact X f bQ eT s L _ _ e ⟨pY,rP,rfl,s3,sB,qJ,qP,rfl,qY,r7,rG,q8,t8,aV,o5,z2,xS,aZ,oF,b3,oO,AY,oX,p7,AZ.symm,B0.symm,pF⟩ uW (lt2 h3.1 dI) lU lV
   refine zbs ?_ ?_
   ·refine wbs V V V (sal u32 (List.replicate 64 (0:UInt32)) [bp a,bp s,bp L] V Z136 ?_);intro eU FR iG dJ mL DS;have z:=EB.ext c2.1 (zaa mL);refine ⟨z,?_⟩;have e9:=zaa mL;have lH:=EB.trans c2 (EB.ext c2.1 e9);have B1:Nq (bp a) (bp eU):=aV.nq dJ;have B2:Nq (bp s) (bp eU):=aZ.nq dJ;have B3:Nq (bp L) (bp eU):=b3.nq dJ;have xT:=NS.ext hM dJ;have t9:=hM.trans e9;obtain ⟨pO,wL,e⟩:=bsi e;refine wbs V V V (zab (vs:=[]) Tryz.func118 V V V (ar0) (za2   pO _  wL) ?_);rintro _ FS ⟨rfl,cC⟩;refine ⟨_,rfl,EB.ext lH.1 cC,?_⟩;have uX:=lH.e cC;replace iG:=iG.ext cC;replace aV:=(aV.ext e9).ext cC;replace aZ:=(aZ.ext e9).ext cC;replace b3:=(b3.ext e9).ext cC;have tA:=t9.trans cC;exact X f pO eU s L _ _ e ⟨pY,rP,rfl,s3,sB,qJ,qP,rfl,qY,r7,rG,q8,tA,aV,o5,iG,xT,aZ,oF,b3,oO,B1,oX,p7,B2.symm,B3.symm,pF⟩ uX (lt2 c2.1 dJ) lU lV
   trivial
  refine zc8 (fun q C=>∀ (f:List UInt32) (s:Nat) (c:Nat->Value) (d:World),((za6).bind fun bP=>((lenA 64 (List.replicate 64 (0:UInt32))).bind fun E=>((lenA 64 f).bind fun F=>((lenA 64 bP).bind fun G=>((lenA 8 (List.replicate 8 (0:UInt32))).bind fun H=>some (f,bP,h))))))=some x->(c 0=bp a/\c 1=i/\c 5=bp s/\c 11=i/\c 12=ag u32 f/\c 14=bp a/\c 15=bp a/\c 16=ag u32 h/\c 104=undef/\ExG [bp a] w0 d/\Blk d a 116 (ac u32 h)/\NS [bp a] w0 (bp a)/\Blk d s 136 (ac u32 (List.replicate 64 (0:UInt32)))/\NS [bp a] w0 (bp s)/\Nq (bp a) (bp s))->EB (World.drew w0).heap.size (World.drew w0) d->(∀ g,Hs (bp s) g->(World.drew w0).heap.size<=g)->q (.br 2 [] (.br 6 [(8,2),(9,2),(10,2),(11,2)] .fin (.br 8 [(6,2),(9,2),(10,2),(11,2)] .fin .fin)) (.br 6 [] (.br 2 [(8,2),(9,2),(10,2),(11,2)] .fin (.br 8 [(2,2),(9,2),(10,2),(11,2)] .fin .fin)) (.br 8 [] (.br 2 [(6,2),(9,2),(10,2),(11,2)] .fin (.br 6 [(2,2),(9,2),(10,2),(11,2)] .fin .fin)) .fin))) c d) ?_ (fun nF=>?_)
  ·rintro f s c FJ e ⟨j0,kA,kH,jF,jJ,jO,jV,k2,j8,dA,aG,hS,aM,i2,iP⟩ aA h9;refine zbs ?_ ?_
   ·obtain ⟨bP,wJ,e⟩:=bsi e;refine wbs V V V (zab (vs:=[]) Tryz.func118 V V V (ar0) (za2   bP _  wJ) ?_);rintro _ FK ⟨rfl,e7⟩;refine ⟨_,rfl,EB.ext aA.1 e7,?_⟩;have uT:=EB.trans aA (EB.ext aA.1 e7);replace aG:=aG.ext e7;replace aM:=aM.ext e7;have t4:=dA.trans e7;refine zbw<|wt_br ?_;exact nL f bP s _ _ e ⟨j0,kA,kH,jF,jJ,rfl,jO,jV,k2,j8,t4,aG,hS,aM,i2,iP⟩ uT h9
   refine zbs ?_ ?_
   ·refine wbs V V V (sal u32 (List.replicate 64 (0:UInt32)) [bp a,bp s] V Z136 ?_);intro hE FL z0 fH mI DP;have z:=EB.ext aA.1 (zaa mI);refine ⟨z,?_⟩;have gK:=zaa mI;have uU:=EB.trans aA (EB.ext aA.1 gK);have AU:Nq (bp a) (bp hE):=aG.nq fH;have AV:Nq (bp s) (bp hE):=aM.nq fH;replace aG:=aG.ext gK;replace aM:=aM.ext gK;have xP:=NS.ext dA fH;have t6:=dA.trans gK;refine zbw<|wt_br ?_;exact hN f hE s _ _ e ⟨j0,kA,rfl,kH,jF,jJ,jO,jV,k2,j8,t6,aG,hS,z0,xP,aM,i2,AU,iP,AV.symm⟩ uU (lt2 aA.1 fH) h9
   refine zbs ?_ ?_
   ·refine wbs V V V (sal u32 (List.replicate 8 (0:UInt32)) [bp a,bp s] V Z116 ?_);intro L FM z1 fI mJ DQ;have z:=EB.ext aA.1 (zaa mJ);refine ⟨z,?_⟩;have gL:=zaa mJ;have uV:=EB.trans aA (EB.ext aA.1 gL);have AW:Nq (bp a) (bp L):=aG.nq fI;have AX:Nq (bp s) (bp L):=aM.nq fI;replace aG:=aG.ext gL;replace aM:=aM.ext gL;have xQ:=NS.ext dA fI;have t7:=dA.trans gL;refine zbw<|wt_br ?_;exact hP f s L _ _ e ⟨j0,kA,kH,rfl,jF,jJ,jO,jV,k2,j8,t7,aG,hS,aM,i2,z1,xQ,iP,AW,AX⟩ uV h9 (lt2 aA.1 fI)
   trivial
  refine zc8 (fun q C=>∀ (f:List UInt32) (O:Nat) (c:Nat->Value) (d:World),((za6).bind fun bR=>((lenA 64 (List.replicate 64 (0:UInt32))).bind fun E=>((lenA 64 f).bind fun F=>((lenA 64 bR).bind fun G=>((lenA 8 (List.replicate 8 (0:UInt32))).bind fun H=>some (f,bR,h))))))=some x->(c 0=bp a/\c 1=i/\c 6=bp O/\c 11=i/\c 12=ag u32 f/\c 14=bp a/\c 15=bp a/\c 16=ag u32 h/\c 104=undef/\ExG [bp a] w0 d/\Blk d a 116 (ac u32 h)/\NS [bp a] w0 (bp a)/\Blk d O 116 (ac u32 (List.replicate 8 (0:UInt32)))/\NS [bp a] w0 (bp O)/\Nq (bp a) (bp O))->EB (World.drew w0).heap.size (World.drew w0) d->(∀ g,Hs (bp O) g->(World.drew w0).heap.size<=g)->q (.br 2 [] (.br 6 [(7,2),(9,2),(10,2),(11,2)] .fin (.br 7 [(6,2),(9,2),(10,2),(11,2)] .fin .fin)) (.br 6 [] (.br 2 [(7,2),(9,2),(10,2),(11,2)] .fin (.br 7 [(2,2),(9,2),(10,2),(11,2)] .fin .fin)) (.br 7 [] (.br 2 [(6,2),(9,2),(10,2),(11,2)] .fin (.br 6 [(2,2),(9,2),(10,2),(11,2)] .fin .fin)) .fin))) c d) ?_ (fun nH=>?_)
  ·rintro f O c FU e ⟨j1,kB,kJ,jG,jK,jP,jW,k3,j9,dB,aH,hT,aN,i3,iQ⟩ aB hA;refine zbs ?_ ?_
   ·obtain ⟨bR,wM,e⟩:=bsi e;refine wbs V V V (zab (vs:=[]) Tryz.func118 V V V (ar0) (za2   bR _  wM) ?_);rintro _ FV ⟨rfl,eA⟩;refine ⟨_,rfl,EB.ext aB.1 eA,?_⟩;have uZ:=EB.trans aB (EB.ext aB.1 eA);replace aH:=aH.ext eA;replace aN:=aN.ext eA;have tC:=dB.trans eA;refine zbw<|wt_br ?_;exact nD f bR O _ _ e ⟨j1,kB,kJ,jG,jK,rfl,jP,jW,k3,j9,tC,aH,hT,aN,i3,iQ⟩ uZ hA
   refine zbs ?_ ?_
   ·refine wbs V V V (sal u32 (List.replicate 64 (0:UInt32)) [bp a,bp O] V Z136 ?_);intro hF FW z4 fJ mN DU;have z:=EB.ext aB.1 (zaa mN);refine ⟨z,?_⟩;have gM:=zaa mN;have v0:=EB.trans aB (EB.ext aB.1 gM);have B5:Nq (bp a) (bp hF):=aH.nq fJ;have B6:Nq (bp O) (bp hF):=aN.nq fJ;replace aH:=aH.ext gM;replace aN:=aN.ext gM;have xV:=NS.ext dB fJ;have tD:=dB.trans gM;refine zbw<|wt_br ?_;exact hO f hF O _ _ e ⟨j1,kB,rfl,kJ,jG,jK,jP,jW,k3,j9,tD,aH,hT,z4,xV,aN,i3,B5,iQ,B6.symm⟩ v0 (lt2 aB.1 fJ) hA
   refine zbs ?_ ?_
   ·refine wbs V V V (sal u32 (List.replicate 64 (0:UInt32)) [bp a,bp O] V Z136 ?_);intro hG FY z5 fL mO DW;have z:=EB.ext aB.1 (zaa mO);refine ⟨z,?_⟩;have gO:=zaa mO;have v1:=EB.trans aB (EB.ext aB.1 gO);have B7:Nq (bp a) (bp hG):=aH.nq fL;have B8:Nq (bp O) (bp hG):=aN.nq fL;replace aH:=aH.ext gO;replace aN:=aN.ext gO;have xW:=NS.ext dB fL;have tE:=dB.trans gO;refine zbw<|wt_br ?_;exact hP f hG O _ _ e ⟨j1,kB,rfl,kJ,jG,jK,jP,jW,k3,j9,tE,aH,hT,z5,xW,aN,i3,B7,iQ,B8.symm⟩ v1 (lt2 aB.1 fL) hA
   trivial
  refine zc8 (fun q C=>∀ (f:List UInt32) (c:Nat->Value) (d:World),((za6).bind fun p=>((lenA 64 (List.replicate 64 (0:UInt32))).bind fun E=>((lenA 64 f).bind fun F=>((lenA 64 p).bind fun G=>((lenA 8 (List.replicate 8 (0:UInt32))).bind fun H=>some (f,p,h))))))=some x->(c 0=bp a/\c 1=i/\c 11=i/\c 12=ag u32 f/\c 14=bp a/\c 15=bp a/\c 16=ag u32 h/\c 104=undef/\ExG [bp a] w0 d/\Blk d a 116 (ac u32 h)/\NS [bp a] w0 (bp a))->EB (World.drew w0).heap.size (World.drew w0) d->q (.br 2 [] (.br 6 [] (.br 7 [(8,2),(9,2),(10,2),(11,2)] .fin (.br 8 [(7,2),(9,2),(10,2),(11,2)] .fin .fin)) (.br 7 [] (.br 6 [(8,2),(9,2),(10,2),(11,2)] .fin (.br 8 [(6,2),(9,2),(10,2),(11,2)] .fin .fin)) (.br 8 [] (.br 6 [(7,2),(9,2),(10,2),(11,2)] .fin (.br 7 [(6,2),(9,2),(10,2),(11,2)] .fin .fin)) .fin))) (.br 6 [] (.br 2 [] (.br 7 [(8,2),(9,2),(10,2),(11,2)] .fin (.br 8 [(7,2),(9,2),(10,2),(11,2)] .fin .fin)) (.br 7 [] (.br 2 [(8,2),(9,2),(10,2),(11,2)] .fin (.br 8 [(2,2),(9,2),(10,2),(11,2)] .fin .fin)) (.br 8 [] (.br 2 [(7,2),(9,2),(10,2),(11,2)] .fin (.br 7 [(2,2),(9,2),(10,2),(11,2)] .fin .fin)) .fin))) (.br 7 [] (.br 2 [] (.br 6 [(8,2),(9,2),(10,2),(11,2)] .fin (.br 8 [(6,2),(9,2),(10,2),(11,2)] .fin .fin)) (.br 6 [] (.br 2 [(8,2),(9,2),(10,2),(11,2)] .fin (.br 8 [(2,2),(9,2),(10,2),(11,2)] .fin .fin)) (.br 8 [] (.br 2 [(6,2),(9,2),(10,2),(11,2)] .fin (.br 6 [(2,2),(9,2),(10,2),(11,2)] .fin .fin)) .fin))) (.br 8 [] (.br 2 [] (.br 6 [(7,2),(9,2),(10,2),(11,2)] .fin (.br 7 [(6,2),(9,2),(10,2),(11,2)] .fin .fin)) (.br 6 [] (.br 2 [(7,2),(9,2),(10,2),(11,2)] .fin (.br 7 [(2,2),(9,2),(10,2),(11,2)] .fin .fin)) (.br 7 [] (.br 2 [(6,2),(9,2),(10,2),(11,2)] .fin (.br 6 [(2,2),(9,2),(10,2),(11,2)] .fin .fin)) .fin))) .fin)))) c d) ?_ (fun vZ=>?_)
  ·rintro f c ET e ⟨g1,gE,g3,gA,gB,gC,gD,g2,c8,Y,fC⟩ R;refine zbs ?_ ?_
   ·obtain ⟨p,wC,e⟩:=bsi e;refine wbs V V V (zab (vs:=[]) Tryz.func118 V V V (ar0) (za2   p _  wC) ?_);rintro _ EZ ⟨rfl,gH⟩;refine ⟨_,rfl,EB.ext R.1 gH,?_⟩;have uJ:=EB.trans R (EB.ext R.1 gH);replace Y:=Y.ext gH;have sU:=c8.trans gH;refine zbw<|wt_br ?_;exact w1 f p _ _ e ⟨g1,gE,g3,gA,rfl,gB,gC,gD,g2,sU,Y,fC⟩ uJ
   refine zbs ?_ ?_
   ·refine wbs V V V (sal u32 (List.replicate 64 (0:UInt32)) [bp a] V Z136 ?_);intro k F1 yQ hZ m9 DG;have z:=EB.ext R.1 (zaa m9);refine ⟨z,?_⟩;have kN:=zaa m9;have uI:=EB.trans R (EB.ext R.1 kN);have A8:Nq (bp a) (bp k):=Y.nq hZ;replace Y:=Y.ext kN;have xD:=NS.ext c8 hZ;have sS:=c8.trans kN;refine zbw<|wt_br ?_;exact nE f k _ _ e ⟨g1,gE,rfl,g3,gA,gB,gC,gD,g2,sS,Y,fC,yQ,xD,A8⟩ uI (lt2 R.1 hZ)
   refine zbs ?_ ?_
   ·refine wbs V V V (sal u32 (List.replicate 64 (0:UInt32)) [bp a] V Z136 ?_);intro s FI yZ i7 mH DO;have z:=EB.ext R.1 (zaa mH);refine ⟨z,?_⟩;have kP:=zaa mH;have uS:=EB.trans R (EB.ext R.1 kP);have AS:Nq (bp a) (bp s):=Y.nq i7;replace Y:=Y.ext kP;have xO:=NS.ext c8 i7;have t3:=c8.trans kP;refine zbw<|wt_br ?_;exact nF f s _ _ e ⟨g1,gE,rfl,g3,gA,gB,gC,gD,g2,t3,Y,fC,yZ,xO,AS⟩ uS (lt2 R.1 i7)
   refine zbs ?_ ?_
   ·refine wbs V V V (sal u32 (List.replicate 8 (0:UInt32)) [bp a] V Z116 ?_);intro O FT z3 i8 mM DT;have z:=EB.ext R.1 (zaa mM);refine ⟨z,?_⟩;have kQ:=zaa mM;have uY:=EB.trans R (EB.ext R.1 kQ);have B4:Nq (bp a) (bp O):=Y.nq i8;replace Y:=Y.ext kQ;have xU:=NS.ext c8 i8;have tB:=c8.trans kQ;refine zbw<|wt_br ?_;exact nH f O _ _ e ⟨g1,gE,rfl,g3,gA,gB,gC,gD,g2,tB,Y,fC,z3,xU,B4⟩ uY (lt2 R.1 i8)
   trivial
  refine zc8 (fun q C=>∀ (o:Nat) (S:Nat) (c:Nat->Value) (d:World),((zep D).bind fun dU=>((za6).bind fun bN=>((lenA 64 (List.replicate 64 (0:UInt32))).bind fun E=>((lenA 64 dU).bind fun F=>((lenA 64 bN).bind fun G=>((lenA 8 (List.replicate 8 (0:UInt32))).bind fun H=>some (dU,bN,h)))))))=some x->(c 0=bp a/\c 1=i/\c 4=bp o/\c 5=bp S/\c 11=i/\c 14=bp a/\c 15=bp a/\c 16=ag u32 h/\c 104=undef/\ExG [bp a] w0 d/\Blk d a 116 (ac u32 h)/\NS [bp a] w0 (bp a)/\Blk d o 136 (ac u32 (List.replicate 64 (0:UInt32)))/\NS [bp a] w0 (bp o)/\Blk d S 136 (ac u32 (List.replicate 64 (0:UInt32)))/\NS [bp a] w0 (bp S)/\Nq (bp a) (bp o)/\Nq (bp a) (bp S)/\Nq (bp o) (bp S))->EB (World.drew w0).heap.size (World.drew w0) d->(∀ g,Hs (bp o) g->(World.drew w0).heap.size<=g)->(∀ g,Hs (bp S) g->(World.drew w0).heap.size<=g)->q (.br 1 [] (.br 2 [(8,2),(9,2),(10,2),(11,2)] .fin (.br 8 [(2,2),(9,2),(10,2),(11,2)] .fin .fin)) (.br 8 [(1,2),(2,2),(9,2),(10,2),(11,2)] .fin .fin)) c d) ?_ (fun nI=>?_)
  ·rintro o S c G3 e ⟨q0,rR,rY,s4,g5,r0,r9,rI,qA,f5,b5,o7,b8,oH,bB,oP,oZ,p8,pG⟩ c3 lX lY;refine zbs ?_ ?_
   ·obtain ⟨dU,wO,e⟩:=bsi e;refine wbs V V V (zab (vs:=[i]) Tryz.func117 V V V (ar1 (by exact g5)) (zb1 D i dU _ (aS.lift (Lift.exg0 f5)) wO) ?_);rintro _ G4 ⟨rfl,cX⟩;refine ⟨_,rfl,EB.ext c3.1 cX,?_⟩;have v5:=EB.trans c3 (EB.ext c3.1 cX);replace b5:=b5.ext cX;replace b8:=b8.ext cX;replace bB:=bB.ext cX;have tI:=f5.trans cX;refine zbw<|wt_br ?_;exact hN dU o S _ _ e ⟨q0,rR,rY,s4,g5,rfl,r0,r9,rI,qA,tI,b5,o7,b8,oH,bB,oP,oZ,p8,pG⟩ v5 lX lY
   refine zbs ?_ ?_
   ·refine wbs V V V (sal u32 (List.replicate 8 (0:UInt32)) [bp a,bp o,bp S] V Z116 ?_);intro eV G5 iH dK mS DZ;have z:=EB.ext c3.1 (zaa mS);refine ⟨z,?_⟩;have eC:=zaa mS;have lI:=EB.trans c3 (EB.ext c3.1 eC);have BF:Nq (bp a) (bp eV):=b5.nq dK;have BG:Nq (bp o) (bp eV):=b8.nq dK;have BH:Nq (bp S) (bp eV):=bB.nq dK;have y1:=NS.ext f5 dK;have l8:=f5.trans eC;obtain ⟨pP,wP,e⟩:=bsi e;refine wbs V V V (zab (vs:=[i]) Tryz.func117 V V V (ar1 (by exact g5)) (zb1 D i pP _ (aS.lift (Lift.exg0 l8)) wP) ?_);rintro _ G6 ⟨rfl,cD⟩;refine ⟨_,rfl,EB.ext lI.1 cD,?_⟩;have lJ:=lI.e cD;replace b5:=(b5.ext eC).ext cD;replace b8:=(b8.ext eC).ext cD;replace bB:=(bB.ext eC).ext cD;have tJ:=l8.trans cD;obtain ⟨pQ,wQ,e⟩:=bsi e;refine wbs V V V (zab (vs:=[]) Tryz.func118 V V V (ar0) (za2   pQ _  wQ) ?_);rintro _ G7 ⟨rfl,cE⟩;refine ⟨_,rfl,EB.ext lJ.1 cE,?_⟩;have v6:=lJ.e cE;replace iH:=(iH.ext cD).ext cE;replace b5:=b5.ext cE;replace b8:=b8.ext cE;replace bB:=bB.ext cE;have tK:=tJ.trans cE;exact X pP pQ o S eV _ _ e ⟨q0,rR,rY,s4,rfl,g5,rfl,rfl,r0,r9,rI,qA,tK,b5,o7,b8,oH,bB,oP,iH,y1,oZ,p8,BF,pG,BG,BH⟩ v6 lX lY (lt2 c3.1 dK)
   trivial
  refine zc8 (fun q C=>∀ (o:Nat) (T:Nat) (c:Nat->Value) (d:World),((zep D).bind fun dV=>((za6).bind fun bO=>((lenA 64 (List.replicate 64 (0:UInt32))).bind fun E=>((lenA 64 dV).bind fun F=>((lenA 64 bO).bind fun G=>((lenA 8 (List.replicate 8 (0:UInt32))).bind fun H=>some (dV,bO,h)))))))=some x->(c 0=bp a/\c 1=i/\c 4=bp o/\c 6=bp T/\c 11=i/\c 14=bp a/\c 15=bp a/\c 16=ag u32 h/\c 104=undef/\ExG [bp a] w0 d/\Blk d a 116 (ac u32 h)/\NS [bp a] w0 (bp a)/\Blk d o 136 (ac u32 (List.replicate 64 (0:UInt32)))/\NS [bp a] w0 (bp o)/\Blk d T 116 (ac u32 (List.replicate 8 (0:UInt32)))/\NS [bp a] w0 (bp T)/\Nq (bp a) (bp o)/\Nq (bp a) (bp T)/\Nq (bp o) (bp T))->EB (World.drew w0).heap.size (World.drew w0) d->(∀ g,Hs (bp o) g->(World.drew w0).heap.size<=g)->(∀ g,Hs (bp T) g->(World.drew w0).heap.size<=g)->q (.br 1 [] (.br 2 [(7,2),(9,2),(10,2),(11,2)] .fin (.br 7 [(2,2),(9,2),(10,2),(11,2)] .fin .fin)) (.br 7 [(1,2),(2,2),(9,2),(10,2),(11,2)] .fin .fin)) c d) ?_ (fun nJ=>?_)
  ·rintro o T c G9 e ⟨q1,rS,rZ,sC,g6,r1,rA,rJ,qB,f6,b6,o8,b9,oI,bC,oQ,p0,p9,pH⟩ c4 lZ m0;refine zbs ?_ ?_
   ·obtain ⟨dV,wR,e⟩:=bsi e;refine wbs V V V (zab (vs:=[i]) Tryz.func117 V V V (ar1 (by exact g6)) (zb1 D i dV _ (aS.lift (Lift.exg0 f6)) wR) ?_);rintro _ GA ⟨rfl,cY⟩;refine ⟨_,rfl,EB.ext c4.1 cY,?_⟩;have v8:=EB.trans c4 (EB.ext c4.1 cY);replace b6:=b6.ext cY;replace b9:=b9.ext cY;replace bC:=bC.ext cY;have tM:=f6.trans cY;refine zbw<|wt_br ?_;exact hO dV o T _ _ e ⟨q1,rS,rZ,sC,g6,rfl,r1,rA,rJ,qB,tM,b6,o8,b9,oI,bC,oQ,p0,p9,pH⟩ v8 lZ m0
   refine zbs ?_ ?_
   ·refine wbs V V V (sal u32 (List.replicate 64 (0:UInt32)) [bp a,bp o,bp T] V Z136 ?_);intro eW GB iJ dL mU E1;have z:=EB.ext c4.1 (zaa mU);refine ⟨z,?_⟩;have eD:=zaa mU;have lK:=EB.trans c4 (EB.ext c4.1 eD);have BK:Nq (bp a) (bp eW):=b6.nq dL;have BL:Nq (bp o) (bp eW):=b9.nq dL;have BM:Nq (bp T) (bp eW):=bC.nq dL;have y4:=NS.ext f6 dL;have lA:=f6.trans eD;obtain ⟨pR,wS,e⟩:=bsi e;refine wbs V V V (zab (vs:=[i]) Tryz.func117 V V V (ar1 (by exact g6)) (zb1 D i pR _ (aS.lift (Lift.exg0 lA)) wS) ?_);rintro _ GD ⟨rfl,cF⟩;refine ⟨_,rfl,EB.ext lK.1 cF,?_⟩;have lL:=lK.e cF;replace b6:=(b6.ext eD).ext cF;replace b9:=(b9.ext eD).ext cF;replace bC:=(bC.ext eD).ext cF;have tN:=lA.trans cF;obtain ⟨pS,wT,e⟩:=bsi e;refine wbs V V V (zab (vs:=[]) Tryz.func118 V V V (ar0) (za2   pS _  wT) ?_);rintro _ GE ⟨rfl,cG⟩;refine ⟨_,rfl,EB.ext lL.1 cG,?_⟩;have v9:=lL.e cG;replace iJ:=(iJ.ext cF).ext cG;replace b6:=b6.ext cG;replace b9:=b9.ext cG;replace bC:=bC.ext cG;have tO:=tN.trans cG;exact X pR pS o eW T _ _ e ⟨q1,rS,rZ,rfl,sC,g6,rfl,rfl,r1,rA,rJ,qB,tO,b6,o8,b9,oI,iJ,y4,bC,oQ,p0,BK,p9,BL,pH,BM.symm⟩ v9 lZ (lt2 c4.1 dL) m0
   trivial
  refine zc8 (fun q C=>∀ (o:Nat) (c:Nat->Value) (d:World),((zep D).bind fun dT=>((za6).bind fun bM=>((lenA 64 (List.replicate 64 (0:UInt32))).bind fun E=>((lenA 64 dT).bind fun F=>((lenA 64 bM).bind fun G=>((lenA 8 (List.replicate 8 (0:UInt32))).bind fun H=>some (dT,bM,h)))))))=some x->(c 0=bp a/\c 1=i/\c 4=bp o/\c 11=i/\c 14=bp a/\c 15=bp a/\c 16=ag u32 h/\c 104=undef/\ExG [bp a] w0 d/\Blk d a 116 (ac u32 h)/\NS [bp a] w0 (bp a)/\Blk d o 136 (ac u32 (List.replicate 64 (0:UInt32)))/\NS [bp a] w0 (bp o)/\Nq (bp a) (bp o))->EB (World.drew w0).heap.size (World.drew w0) d->(∀ g,Hs (bp o) g->(World.drew w0).heap.size<=g)->q (.br 1 [] (.br 2 [] (.br 7 [(8,2),(9,2),(10,2),(11,2)] .fin (.br 8 [(7,2),(9,2),(10,2),(11,2)] .fin .fin)) (.br 7 [] (.br 2 [(8,2),(9,2),(10,2),(11,2)] .fin (.br 8 [(2,2),(9,2),(10,2),(11,2)] .fin .fin)) (.br 8 [] (.br 2 [(7,2),(9,2),(10,2),(11,2)] .fin (.br 7 [(2,2),(9,2),(10,2),(11,2)] .fin .fin)) .fin))) (.br 7 [] (.br 1 [] (.br 2 [(8,2),(9,2),(10,2),(11,2)] .fin (.br 8 [(2,2),(9,2),(10,2),(11,2)] .fin .fin)) (.br 8 [(1,2),(2,2),(9,2),(10,2),(11,2)] .fin .fin)) (.br 8 [] (.br 1 [] (.br 2 [(7,2),(9,2),(10,2),(11,2)] .fin (.br 7 [(2,2),(9,2),(10,2),(11,2)] .fin .fin)) (.br 7 [(1,2),(2,2),(9,2),(10,2),(11,2)] .fin .fin)) .fin))) c d) ?_ (fun w2=>?_)
  ·rintro o c G0 e ⟨j2,kC,kG,g4,jQ,jX,k4,jA,cN,aI,hU,aO,i4,iR⟩ aC hB;refine zbs ?_ ?_
   ·obtain ⟨dT,wN,e⟩:=bsi e;refine wbs V V V (zab (vs:=[i]) Tryz.func117 V V V (ar1 (by exact g4)) (zb1 D i dT _ (aS.lift (Lift.exg0 cN)) wN) ?_);rintro _ G1 ⟨rfl,eB⟩;refine ⟨_,rfl,EB.ext aC.1 eB,?_⟩;have v3:=EB.trans aC (EB.ext aC.1 eB);replace aI:=aI.ext eB;replace aO:=aO.ext eB;have tG:=cN.trans eB;refine zbw<|wt_br ?_;exact nE dT o _ _ e ⟨j2,kC,kG,g4,rfl,jQ,jX,k4,jA,tG,aI,hU,aO,i4,iR⟩ v3 hB
   refine zbs ?_ ?_
   ·refine wbs V V V (sal u32 (List.replicate 64 (0:UInt32)) [bp a,bp o] V Z136 ?_);intro S G2 z7 fM mR DY;have z:=EB.ext aC.1 (zaa mR);refine ⟨z,?_⟩;have gP:=zaa mR;have v4:=EB.trans aC (EB.ext aC.1 gP);have BA:Nq (bp a) (bp S):=aI.nq fM;have BC:Nq (bp o) (bp S):=aO.nq fM;replace aI:=aI.ext gP;replace aO:=aO.ext gP;have xY:=NS.ext cN fM;have tH:=cN.trans gP;refine zbw<|wt_br ?_;exact nI o S _ _ e ⟨j2,kC,kG,rfl,g4,jQ,jX,k4,jA,tH,aI,hU,aO,i4,z7,xY,iR,BA,BC⟩ v4 hB (lt2 aC.1 fM)
   refine zbs ?_ ?_
   ·refine wbs V V V (sal u32 (List.replicate 8 (0:UInt32)) [bp a,bp o] V Z116 ?_);intro T G8 z9 fN mT E0;have z:=EB.ext aC.1 (zaa mT);refine ⟨z,?_⟩;have gQ:=zaa mT;have v7:=EB.trans aC (EB.ext aC.1 gQ);have BI:Nq (bp a) (bp T):=aI.nq fN;have BJ:Nq (bp o) (bp T):=aO.nq fN;replace aI:=aI.ext gQ;replace aO:=aO.ext gQ;have y2:=NS.ext cN fN;have tL:=cN.trans gQ;refine zbw<|wt_br ?_;exact nJ o T _ _ e ⟨j2,kC,kG,rfl,g4,jQ,jX,k4,jA,tL,aI,hU,aO,i4,z9,y2,iR,BI,BJ⟩ v7 hB (lt2 aC.1 fN)
   trivial
  refine zc8 (fun q C=>∀ (t:Nat) (U:Nat) (c:Nat->Value) (d:World),((zep D).bind fun dX=>((za6).bind fun bQ=>((lenA 64 (List.replicate 64 (0:UInt32))).bind fun E=>((lenA 64 dX).bind fun F=>((lenA 64 bQ).bind fun G=>((lenA 8 (List.replicate 8 (0:UInt32))).bind fun H=>some (dX,bQ,h)))))))=some x->(c 0=bp a/\c 1=i/\c 5=bp t/\c 6=bp U/\c 11=i/\c 14=bp a/\c 15=bp a/\c 16=ag u32 h/\c 104=undef/\ExG [bp a] w0 d/\Blk d a 116 (ac u32 h)/\NS [bp a] w0 (bp a)/\Blk d t 136 (ac u32 (List.replicate 64 (0:UInt32)))/\NS [bp a] w0 (bp t)/\Blk d U 116 (ac u32 (List.replicate 8 (0:UInt32)))/\NS [bp a] w0 (bp U)/\Nq (bp a) (bp t)/\Nq (bp a) (bp U)/\Nq (bp t) (bp U))->EB (World.drew w0).heap.size (World.drew w0) d->(∀ g,Hs (bp t) g->(World.drew w0).heap.size<=g)->(∀ g,Hs (bp U) g->(World.drew w0).heap.size<=g)->q (.br 1 [] (.br 2 [(6,2),(9,2),(10,2),(11,2)] .fin (.br 6 [(2,2),(9,2),(10,2),(11,2)] .fin .fin)) (.br 6 [(1,2),(2,2),(9,2),(10,2),(11,2)] .fin .fin)) c d) ?_ (fun nK=>?_)
  ·rintro t U c GK e ⟨q2,rT,s5,sD,g8,r2,rB,rK,qC,f7,b7,o9,bA,oJ,bD,oR,p1,pA,pI⟩ c5 m1 m2;refine zbs ?_ ?_
   ·obtain ⟨dX,wV,e⟩:=bsi e;refine wbs V V V (zab (vs:=[i]) Tryz.func117 V V V (ar1 (by exact g8)) (zb1 D i dX _ (aS.lift (Lift.exg0 f7)) wV) ?_);rintro _ GL ⟨rfl,cZ⟩;refine ⟨_,rfl,EB.ext c5.1 cZ,?_⟩;have vF:=EB.trans c5 (EB.ext c5.1 cZ);replace b7:=b7.ext cZ;replace bA:=bA.ext cZ;replace bD:=bD.ext cZ;have tT:=f7.trans cZ;refine zbw<|wt_br ?_;exact hP dX t U _ _ e ⟨q2,rT,s5,sD,g8,rfl,r2,rB,rK,qC,tT,b7,o9,bA,oJ,bD,oR,p1,pA,pI⟩ vF m1 m2
   refine zbs ?_ ?_
   ·refine wbs V V V (sal u32 (List.replicate 64 (0:UInt32)) [bp a,bp t,bp U] V Z136 ?_);intro eX GM iK dN mZ E6;have z:=EB.ext c5.1 (zaa mZ);refine ⟨z,?_⟩;have eG:=zaa mZ;have lM:=EB.trans c5 (EB.ext c5.1 eG);have BU:Nq (bp a) (bp eX):=b7.nq dN;have BV:Nq (bp t) (bp eX):=bA.nq dN;have BX:Nq (bp U) (bp eX):=bD.nq dN;have y8:=NS.ext f7 dN;have lB:=f7.trans eG;obtain ⟨pT,wW,e⟩:=bsi e;refine wbs V V V (zab (vs:=[i]) Tryz.func117 V V V (ar1 (by exact g8)) (zb1 D i pT _ (aS.lift (Lift.exg0 lB)) wW) ?_);rintro _ GN ⟨rfl,cH⟩;refine ⟨_,rfl,EB.ext lM.1 cH,?_⟩;have lN:=lM.e cH;replace b7:=(b7.ext eG).ext cH;replace bA:=(bA.ext eG).ext cH;replace bD:=(bD.ext eG).ext cH;have tU:=lB.trans cH;obtain ⟨pU,wX,e⟩:=bsi e;refine wbs V V V (zab (vs:=[]) Tryz.func118 V V V (ar0) (za2   pU _  wX) ?_);rintro _ GO ⟨rfl,cI⟩;refine ⟨_,rfl,EB.ext lN.1 cI,?_⟩;have vG:=lN.e cI;replace iK:=(iK.ext cH).ext cI;replace b7:=b7.ext cI;replace bA:=bA.ext cI;replace bD:=bD.ext cI;have tV:=tU.trans cI;exact X pT pU eX t U _ _ e ⟨q2,rT,rfl,s5,sD,g8,rfl,rfl,r2,rB,rK,qC,tV,b7,o9,iK,y8,bA,oJ,bD,oR,BU,p1,pA,BV.symm,BX.symm,pI⟩ vG (lt2 c5.1 dN) m1 m2
   trivial
  refine zc8 (fun q C=>∀ (t:Nat) (c:Nat->Value) (d:World),((zep D).bind fun dW=>((za6).bind fun bP=>((lenA 64 (List.replicate 64 (0:UInt32))).bind fun E=>((lenA 64 dW).bind fun F=>((lenA 64 bP).bind fun G=>((lenA 8 (List.replicate 8 (0:UInt32))).bind fun H=>some (dW,bP,h)))))))=some x->(c 0=bp a/\c 1=i/\c 5=bp t/\c 11=i/\c 14=bp a/\c 15=bp a/\c 16=ag u32 h/\c 104=undef/\ExG [bp a] w0 d/\Blk d a 116 (ac u32 h)/\NS [bp a] w0 (bp a)/\Blk d t 136 (ac u32 (List.replicate 64 (0:UInt32)))/\NS [bp a] w0 (bp t)/\Nq (bp a) (bp t))->EB (World.drew w0).heap.size (World.drew w0) d->(∀ g,Hs (bp t) g->(World.drew w0).heap.size<=g)->q (.br 1 [] (.br 2 [] (.br 6 [(8,2),(9,2),(10,2),(11,2)] .fin (.br 8 [(6,2),(9,2),(10,2),(11,2)] .fin .fin)) (.br 6 [] (.br 2 [(8,2),(9,2),(10,2),(11,2)] .fin (.br 8 [(2,2),(9,2),(10,2),(11,2)] .fin .fin)) (.br 8 [] (.br 2 [(6,2),(9,2),(10,2),(11,2)] .fin (.br 6 [(2,2),(9,2),(10,2),(11,2)] .fin .fin)) .fin))) (.br 6 [] (.br 1 [] (.br 2 [(8,2),(9,2),(10,2),(11,2)] .fin (.br 8 [(2,2),(9,2),(10,2),(11,2)] .fin .fin)) (.br 8 [(1,2),(2,2),(9,2),(10,2),(11,2)] .fin .fin)) (.br 8 [] (.br 1 [] (.br 2 [(6,2),(9,2),(10,2),(11,2)] .fin (.br 6 [(2,2),(9,2),(10,2),(11,2)] .fin .fin)) (.br 6 [(1,2),(2,2),(9,2),(10,2),(11,2)] .fin .fin)) .fin))) c d) ?_ (fun w3=>?_)
  ·rintro t c GG e ⟨j3,kD,kI,g7,jR,jY,k5,jB,cO,aJ,hV,aP,i5,iS⟩ aD hC;refine zbs ?_ ?_
   ·obtain ⟨dW,wU,e⟩:=bsi e;refine wbs V V V (zab (vs:=[i]) Tryz.func117 V V V (ar1 (by exact g7)) (zb1 D i dW _ (aS.lift (Lift.exg0 cO)) wU) ?_);rintro _ GH ⟨rfl,eF⟩;refine ⟨_,rfl,EB.ext aD.1 eF,?_⟩;have vC:=EB.trans aD (EB.ext aD.1 eF);replace aJ:=aJ.ext eF;replace aP:=aP.ext eF;have tQ:=cO.trans eF;refine zbw<|wt_br ?_;exact nF dW t _ _ e ⟨j3,kD,kI,g7,rfl,jR,jY,k5,jB,tQ,aJ,hV,aP,i5,iS⟩ vC hC
   refine zbs ?_ ?_
   ·refine wbs V V V (sal u32 (List.replicate 64 (0:UInt32)) [bp a,bp t] V Z136 ?_);intro hH GI zC fO mX E4;have z:=EB.ext aD.1 (zaa mX);refine ⟨z,?_⟩;have gR:=zaa mX;have vD:=EB.trans aD (EB.ext aD.1 gR);have BP:Nq (bp a) (bp hH):=aJ.nq fO;have BQ:Nq (bp t) (bp hH):=aP.nq fO;replace aJ:=aJ.ext gR;replace aP:=aP.ext gR;have y6:=NS.ext cO fO;have tR:=cO.trans gR;refine zbw<|wt_br ?_;exact nI hH t _ _ e ⟨j3,kD,rfl,kI,g7,jR,jY,k5,jB,tR,aJ,hV,zC,y6,aP,i5,BP,iS,BQ.symm⟩ vD (lt2 aD.1 fO) hC
   refine zbs ?_ ?_
   ·refine wbs V V V (sal u32 (List.replicate 8 (0:UInt32)) [bp a,bp t] V Z116 ?_);intro U GJ zD fP mY E5;have z:=EB.ext aD.1 (zaa mY);refine ⟨z,?_⟩;have gS:=zaa mY;have vE:=EB.trans aD (EB.ext aD.1 gS);have BR:Nq (bp a) (bp U):=aJ.nq fP;have BS:Nq (bp t) (bp U):=aP.nq fP;replace aJ:=aJ.ext gS;replace aP:=aP.ext gS;have y7:=NS.ext cO fP;have tS:=cO.trans gS;refine zbw<|wt_br ?_;exact nK t U _ _ e ⟨j3,kD,kI,rfl,g7,jR,jY,k5,jB,tS,aJ,hV,aP,i5,zD,y7,iS,BR,BS⟩ vE hC (lt2 aD.1 fP)
   trivial
  refine zc8 (fun q C=>∀ (Q:Nat) (c:Nat->Value) (d:World),((zep D).bind fun dY=>((za6).bind fun bR=>((lenA 64 (List.replicate 64 (0:UInt32))).bind fun E=>((lenA 64 dY).bind fun F=>((lenA 64 bR).bind fun G=>((lenA 8 (List.replicate 8 (0:UInt32))).bind fun H=>some (dY,bR,h)))))))=some x->(c 0=bp a/\c 1=i/\c 6=bp Q/\c 11=i/\c 14=bp a/\c 15=bp a/\c 16=ag u32 h/\c 104=undef/\ExG [bp a] w0 d/\Blk d a 116 (ac u32 h)/\NS [bp a] w0 (bp a)/\Blk d Q 116 (ac u32 (List.replicate 8 (0:UInt32)))/\NS [bp a] w0 (bp Q)/\Nq (bp a) (bp Q))->EB (World.drew w0).heap.size (World.drew w0) d->(∀ g,Hs (bp Q) g->(World.drew w0).heap.size<=g)->q (.br 1 [] (.br 2 [] (.br 6 [(7,2),(9,2),(10,2),(11,2)] .fin (.br 7 [(6,2),(9,2),(10,2),(11,2)] .fin .fin)) (.br 6 [] (.br 2 [(7,2),(9,2),(10,2),(11,2)] .fin (.br 7 [(2,2),(9,2),(10,2),(11,2)] .fin .fin)) (.br 7 [] (.br 2 [(6,2),(9,2),(10,2),(11,2)] .fin (.br 6 [(2,2),(9,2),(10,2),(11,2)] .fin .fin)) .fin))) (.br 6 [] (.br 1 [] (.br 2 [(7,2),(9,2),(10,2),(11,2)] .fin (.br 7 [(2,2),(9,2),(10,2),(11,2)] .fin .fin)) (.br 7 [(1,2),(2,2),(9,2),(10,2),(11,2)] .fin .fin)) (.br 7 [] (.br 1 [] (.br 2 [(6,2),(9,2),(10,2),(11,2)] .fin (.br 6 [(2,2),(9,2),(10,2),(11,2)] .fin .fin)) (.br 6 [(1,2),(2,2),(9,2),(10,2),(11,2)] .fin .fin)) .fin))) c d) ?_ (fun w4=>?_)
  ·rintro Q c GQ e ⟨j4,kE,kK,g9,jS,jZ,k6,jC,cP,aK,hW,aQ,i6,iT⟩ aE hD;refine zbs ?_ ?_
   ·obtain ⟨dY,wY,e⟩:=bsi e;refine wbs V V V (zab (vs:=[i]) Tryz.func117 V V V (ar1 (by exact g9)) (zb1 D i dY _ (aS.lift (Lift.exg0 cP)) wY) ?_);rintro _ GR ⟨rfl,eH⟩;refine ⟨_,rfl,EB.ext aE.1 eH,?_⟩;have vI:=EB.trans aE (EB.ext aE.1 eH);replace aK:=aK.ext eH;replace aQ:=aQ.ext eH;have tY:=cP.trans eH;refine zbw<|wt_br ?_;exact nH dY Q _ _ e ⟨j4,kE,kK,g9,rfl,jS,jZ,k6,jC,tY,aK,hW,aQ,i6,iT⟩ vI hD
   refine zbs ?_ ?_
   ·refine wbs V V V (sal u32 (List.replicate 64 (0:UInt32)) [bp a,bp Q] V Z136 ?_);intro hI GS zF fQ n1 E8;have z:=EB.ext aE.1 (zaa n1);refine ⟨z,?_⟩;have gT:=zaa n1;have vJ:=EB.trans aE (EB.ext aE.1 gT);have BZ:Nq (bp a) (bp hI):=aK.nq fQ;have C0:Nq (bp Q) (bp hI):=aQ.nq fQ;replace aK:=aK.ext gT;replace aQ:=aQ.ext gT;have yB:=NS.ext cP fQ;have tZ:=cP.trans gT;refine zbw<|wt_br ?_;exact nJ hI Q _ _ e ⟨j4,kE,rfl,kK,g9,jS,jZ,k6,jC,tZ,aK,hW,zF,yB,aQ,i6,BZ,iT,C0.symm⟩ vJ (lt2 aE.1 fQ) hD
   refine zbs ?_ ?_
   ·refine wbs V V V (sal u32 (List.replicate 64 (0:UInt32)) [bp a,bp Q] V Z136 ?_);intro hJ GT zG fR n2 E9;have z:=EB.ext aE.1 (zaa n2);refine ⟨z,?_⟩;have gU:=zaa n2;have vK:=EB.trans aE (EB.ext aE.1 gU);have C1:Nq (bp a) (bp hJ):=aK.nq fR;have C2:Nq (bp Q) (bp hJ):=aQ.nq fR;replace aK:=aK.ext gU;replace aQ:=aQ.ext gU;have yD:=NS.ext cP fR;have u0:=cP.trans gU;refine zbw<|wt_br ?_;exact nK hJ Q _ _ e ⟨j4,kE,rfl,kK,g9,jS,jZ,k6,jC,u0,aK,hW,zG,yD,aQ,i6,C1,iT,C2.symm⟩ vK (lt2 aE.1 fR) hD
   trivial
  refine zbs ?_ ?_
  ·obtain ⟨f,x3,e⟩:=bsi e;refine wbs V V V (zab (vs:=[i]) Tryz.func117 V V V (ar1 V) (zb1 D i f _ (aS.lift (Lift.exg0 bH)) x3) ?_);rintro _ H4 ⟨rfl,gW⟩;refine ⟨_,rfl,EB.ext a6.1 gW,?_⟩;have vO:=a6.e gW;replace I:=I.ext gW;have uE:=bH.trans gW;refine zbw<|wt_br ?_;exact vZ f _ _ e ⟨rfl,rfl,rfl,rfl,rfl,rfl,rfl,rfl,uE,I,NS.own⟩ vO
  refine zbs ?_ ?_
  ·refine wbs V V V (sal u32 (List.replicate 64 (0:UInt32)) [bp a] V Z136 ?_);intro o FZ z6 i9 mP DX;have z:=EB.ext a6.1 (zaa mP);refine ⟨z,?_⟩;have kR:=zaa mP;have v2:=a6.e kR;have B9:Nq (bp a) (bp o):=I.nq i9;replace I:=I.ext kR;have xX:=NS.ext bH i9;have tF:=bH.trans kR;refine zbw<|wt_br ?_;exact w2 o _ _ e ⟨rfl,rfl,rfl,rfl,rfl,rfl,rfl,rfl,tF,I,NS.own,z6,xX,B9⟩ v2 (lt2 a6.1 i9)
  refine zbs ?_ ?_
  ·refine wbs V V V (sal u32 (List.replicate 64 (0:UInt32)) [bp a] V Z136 ?_);intro t GF zB iA mV E3;have z:=EB.ext a6.1 (zaa mV);refine ⟨z,?_⟩;have kS:=zaa mV;have vA:=a6.e kS;have BN:Nq (bp a) (bp t):=I.nq iA;replace I:=I.ext kS;have y5:=NS.ext bH iA;have tP:=bH.trans kS;refine zbw<|wt_br ?_;exact w3 t _ _ e ⟨rfl,rfl,rfl,rfl,rfl,rfl,rfl,rfl,tP,I,NS.own,zB,y5,BN⟩ vA (lt2 a6.1 iA)
  refine zbs ?_ ?_
  ·refine wbs V V V (sal u32 (List.replicate 8 (0:UInt32)) [bp a] V Z116 ?_);intro Q GP zE iB n0 E7;have z:=EB.ext a6.1 (zaa n0);refine ⟨z,?_⟩;have kT:=zaa n0;have vH:=a6.e kT;have BY:Nq (bp a) (bp Q):=I.nq iB;replace I:=I.ext kT;have y9:=NS.ext bH iB;have tX:=bH.trans kT;refine zbw<|wt_br ?_;exact w4 Q _ _ e ⟨rfl,rfl,rfl,rfl,rfl,rfl,rfl,rfl,tX,I,NS.own,zE,y9,BY⟩ vH (lt2 a6.1 iB)
  trivial
 rintro _ GU ⟨c6,c7,W,CI,CR,CS,CT,CL,vW,yK,x5,yX,xJ,z8,xZ,zH,yC,zP,zS,zU,AN,AP,BD⟩;refine W_th<|W_seq<|W_sr<|mv (i64 0) V V<|wnt<|?_;obtain ⟨sI,sJ,bE⟩:=bsi bE;refine W_mid (fun c d=>c 0=bp a/\c 6=bp W/\c 104=undef/\ExG [bp a] w0 d/\Blk d a 116 (ac u32 h)/\NS [bp a] w0 (bp a)/\Blk d W 116 (ac u32 sI)/\NS [bp a] w0 (bp W)/\Nq (bp a) (bp W)) ?_ ?_
 ·refine zac<|zau (fun bT c d=>c 0=bp a/\c 4=bp c6/\c 5=bp c7/\c 6=bp W/\c 17=i64 bT.2/\c 104=undef/\ExG [bp a] w0 d/\Blk d a 116 (ac u32 h)/\NS [bp a] w0 (bp a)/\Blk d c6 136 (ac u32 x.1)/\NS [bp a] w0 (bp c6)/\Blk d c7 136 (ac u32 x.2.1)/\NS [bp a] w0 (bp c7)/\Blk d W 116 (ac u32 bT.1)/\NS [bp a] w0 (bp W)/\Nq (bp a) (bp c6)/\Nq (bp a) (bp c7)/\Nq (bp a) (bp W)/\Nq (bp c6) (bp c7)/\Nq (bp c6) (bp W)/\Nq (bp c7) (bp W)) sJ ?_ ?_
  ·exact ⟨CI,CR,CS,CT,rfl,CL,vW,yK,x5,yX,xJ,z8,xZ,zH,yC,zP,zS,zU,AN,AP,BD⟩
  rintro bT _ _ CW ⟨q3,s1,s7,w,k7,qD,nB,aW,oA,b0,xK,b4,y0,u,iC,zQ,zT,iU,AO,pJ,pK⟩ j wZ;refine W_sr<|wa V (q_ltI V k7 V)<|wnt<|W_seq<|wci j V V (fun j=>?_) (fun j=>?_)
  ·refine zae<|W_th<|W_seq<|zac<|W_sr<|mv (i64 bT.2) V k7<|av (i64 bT.2) V V<|wnt<|W_seq<|zba [1,3,7,9,12,15,21,25] [(0,0),(1,1),(2,0),(3,1),(6,0),(7,1),(8,0),(9,1),(10,0),(11,0),(12,1),(13,0),(14,0),(15,1),(16,0),(17,0),(19,0),(20,0),(21,1),(23,0),(24,0),(25,1),(4,2),(5,0),(18,0),(22,0),(26,0),(27,0)] mixed (by kernel_rfl) (by kernel_rfl) (by kernel_rfl) (by kernel_rfl) ?_;have eI:=Ext.drew CW;replace aW:=aW.ext eI;replace b0:=b0.ext eI;replace b4:=b4.ext eI;replace u:=u.ext eI;have u1:=nB.trans eI;obtain ⟨D1,cQ,j⟩:=bsi j;obtain ⟨bV,nM,j⟩:=bsi j;refine sa V V (q_ixA (m:=0) V A116 (by exact w) V (zad cQ) nM)<|sq V V (zax (m:=0) V A116 V u (zaf _ _) nM)<|bse j fun N cR j=>sa V V (q_ixA (m:=0) V A116 (by exact w) V (zad cQ) cR)<|sq V V (zax (m:=0) V A116 V u (zaf _ _) cR)<|sa V V (q_ixA (m:=0) V A116 (by exact w) V (zad cQ) cR)<|sq V V (zax (m:=0) V A116 V u (zaf _ _) cR)<|bse j fun bW nN j=>sa V V (q_ixA (m:=0) V A116 (by exact w) V (zad cQ) nN)<|sq V V (zax (m:=0) V A116 V u (zaf _ _) nN)<|sa V V (ziy V V V)<|sa V V (q_ixA (m:=0) V A116 (by exact w) V (zad cQ) cR)<|sq V V (zax (m:=0) V A116 V u (zaf _ _) cR)<|sa V V (q_not32 V V)<|?_;obtain ⟨bX,nO,j⟩:=bsi j;refine sa V V (q_ixA (m:=0) V A116 (by exact w) V (zad cQ) nO)<|sq V V (zax (m:=0) V A116 V u (zaf _ _) nO)<|sa V V (ziy V V V)<|sa V V (zdy V V V)<|sv (i64 bT.2) V V V<|?_;obtain ⟨D2,w5,j⟩:=bsi j;obtain ⟨bY,nP,j⟩:=bsi j;refine sa V V (q_ixA (m:=0) V A136 (by exact s7) V (zad w5) nP)<|sq V V (zax (m:=0) V A136 V b4 (zaf _ _) nP)<|sv (i64 bT.2) V V V<|?_;obtain ⟨D3,w6,j⟩:=bsi j
   obtain ⟨bZ,nQ,j⟩:=bsi j;refine sa V V (q_ixA (m:=0) V A136 (by exact s1) V (zad w6) nQ)<|sq V V (zax (m:=0) V A136 V b0 (zaf _ _) nQ)<|?_;obtain ⟨bS,x0,j⟩:=bsi j;refine wss V V V (zab (vs:=[u32 N,i64 6,i64 11,i64 25]) Tryz.func119 V V V (ar4 V V V V) (zjc N 6 11 25  bS _  x0) ?_);rintro _ CX ⟨rfl,d0⟩;refine ⟨_,rfl,d0,?_⟩;have u2:=u1.trans d0;refine sa V V (zdc V V V)<|sa V V (zdc V V V)<|sa V V (zdc V V V)<|sa V V (zdc V V V)<|sa V V (zat (v:=u32 ((((bV+bS)+((N &&& bW)^^^(((4294967295:UInt32)^^^N) &&& bX)))+bY)+bZ)) V V)<|za1<|W_th<|W_seq<|zba [1,4,6,9,11,15,17] [(0,0),(1,1),(3,0),(4,1),(5,0),(6,1),(7,0),(8,0),(9,1),(10,0),(11,1),(12,0),(13,0),(14,0),(15,1),(16,0),(17,1),(18,0),(19,0),(2,2),(20,0),(21,0)] mixed (by kernel_rfl) (by kernel_rfl) (by kernel_rfl) (by kernel_rfl) ?_;have eJ:=Ext.drew CX;replace aW:=(aW.ext d0).ext eJ;replace b0:=(b0.ext d0).ext eJ;replace b4:=(b4.ext d0).ext eJ;replace u:=(u.ext d0).ext eJ;have u3:=u2.trans eJ;obtain ⟨D4,c9,j⟩:=bsi j;obtain ⟨aR,cS,j⟩:=bsi j;refine sa V V (q_ixA (m:=0) V A116 (by exact w) V (zad c9) cS)<|sq V V (zax (m:=0) V A116 V u (zaf _ _) cS)<|sa V V (q_ixA (m:=0) V A116 (by exact w) V (zad c9) cS)<|sq V V (zax (m:=0) V A116 V u (zaf _ _) cS)<|bse j fun bF f9 j=>sa V V (q_ixA (m:=0) V A116 (by exact w) V (zad c9) f9)<|sq V V (zax (m:=0) V A116 V u (zaf _ _) f9)<|sa V V (ziy V V V)<|sa V V (q_ixA (m:=0) V A116 (by exact w) V (zad c9) cS)<|sq V V (zax (m:=0) V A116 V u (zaf _ _) cS)<|bse j fun bG fA j=>sa V V (q_ixA (m:=0) V A116 (by exact w) V (zad c9) fA)<|sq V V (zax (m:=0) V A116 V u (zaf _ _) fA)<|sa V V (ziy V V V)<|sa V V (zdy V V V)<|sa V V (q_ixA (m:=0) V A116 (by exact w) V (zad c9) f9)<|?_
   refine sq V V (zax (m:=0) V A116 V u (zaf _ _) f9)<|sa V V (q_ixA (m:=0) V A116 (by exact w) V (zad c9) fA)<|sq V V (zax (m:=0) V A116 V u (zaf _ _) fA)<|sa V V (ziy V V V)<|sa V V (zdy V V V)<|?_;obtain ⟨dZ,x1,j⟩:=bsi j;refine wss V V V (zab (vs:=[u32 aR,i64 2,i64 13,i64 22]) Tryz.func119 V V V (ar4 V V V V) (zjc aR 2 13 22  dZ _  x1) ?_);rintro _ GV ⟨rfl,d1⟩;refine ⟨_,rfl,d1,?_⟩;replace aW:=aW.ext d1;replace b0:=b0.ext d1;replace b4:=b4.ext d1;replace u:=u.ext d1;have u4:=u3.trans d1;refine sa V V (zdc V V V)<|sa V V (zat (v:=u32 (dZ+(((aR &&& bF)^^^(aR &&& bG))^^^(bF &&& bG)))) V V)<|za1<|W_th<|W_rg<|mv (u32 ((((bV+bS)+((N &&& bW)^^^(((4294967295:UInt32)^^^N) &&& bX)))+bY)+bZ)) V V<|mv (u32 (dZ+(((aR &&& bF)^^^(aR &&& bG))^^^(bF &&& bG)))) V V<|wa V (zdc V V V)<|?_;obtain ⟨D5,bL,j⟩:=bsi j;obtain ⟨kW,nR,j⟩:=bsi j;refine wa V (q_ixA (m:=0) V A116 (by exact w) V (zad bL) nR)<|wq V (zax (m:=0) V A116 V u (zaf _ _) nR)<|bse j fun kX nS j=>wa V (q_ixA (m:=0) V A116 (by exact w) V (zad bL) nS)<|wq V (zax (m:=0) V A116 V u (zaf _ _) nS)<|bse j fun kY nT j=>wa V (q_ixA (m:=0) V A116 (by exact w) V (zad bL) nT)<|wq V (zax (m:=0) V A116 V u (zaf _ _) nT)<|bse j fun kZ nU j=>wa V (q_ixA (m:=0) V A116 (by exact w) V (zad bL) nU)<|wq V (zax (m:=0) V A116 V u (zaf _ _) nU)<|mv (u32 ((((bV+bS)+((N &&& bW)^^^(((4294967295:UInt32)^^^N) &&& bX)))+bY)+bZ)) V V<|wa V (zdc V V V)<|bse j fun l0 nV j=>wa V (q_ixA (m:=0) V A116 (by exact w) V (zad bL) nV)<|wq V (zax (m:=0) V A116 V u (zaf _ _) nV)<|bse j fun l1 nW j=>wa V (q_ixA (m:=0) V A116 (by exact w) V (zad bL) nW) ?_
   refine wq V (zax (m:=0) V A116 V u (zaf _ _) nW) ?_;obtain ⟨l2,nX,j⟩:=bsi j;refine wa V (q_ixA (m:=0) V A116 (by exact w) V (zad bL) nX)<|wq V (zax (m:=0) V A116 V u (zaf _ _) nX)<|wa V (q_buildAF (l:=([(((((bV+bS)+((N &&& bW)^^^(((4294967295:UInt32)^^^N) &&& bX)))+bY)+bZ)+(dZ+(((aR &&& bF)^^^(aR &&& bG))^^^(bF &&& bG)))),kW,kX,kY,(kZ+((((bV+bS)+((N &&& bW)^^^(((4294967295:UInt32)^^^N) &&& bX)))+bY)+bZ)),l0,l1,l2]:List UInt32)) (us:=[u32 (((((bV+bS)+((N &&& bW)^^^(((4294967295:UInt32)^^^N) &&& bX)))+bY)+bZ)+(dZ+(((aR &&& bF)^^^(aR &&& bG))^^^(bF &&& bG)))),u32 kW,u32 kX,u32 kY,u32 (kZ+((((bV+bS)+((N &&& bW)^^^(((4294967295:UInt32)^^^N) &&& bX)))+bY)+bZ)),u32 l0,u32 l1,u32 l2]) (z:=(0:UInt32)) V A116 Z116 (by exact ⟨rfl,rfl,rfl,rfl,rfl,rfl,rfl,rfl,rfl,rfl,rfl,rfl,rfl,rfl,rfl,rfl,trivial⟩) V V cel_u32)<|?_;obtain ⟨D6,w7,j⟩:=bsi j;refine wln V V (zbm [bp a,bp c6,bp c7] [] V A116 (by exact w) V (zad bL) (zad w7) u zdo ?_);intro GX zI eY EC;replace aW:=aW.other eY iU;replace b0:=b0.other eY pJ;replace b4:=b4.other eY pK;have u5:=u4.grown eY iC;refine zag<|bk_n<|W_th<|W_rg<|wa V (zak V k7 V)<|mv (i64 (wI (bT.2+1))) V V<|zag<|?_;obtain rfl:=osi j;exact ⟨_,rfl,q3,s1,s7,w,rfl,qD,u5,aW,oA,b0,xK,b4,y0,zI,iC,zQ,zT,iU,AO,pJ,pK⟩
  refine zar<|th_x<|?_;obtain rfl:=osi j;obtain rfl:=wZ _ rfl;refine th_x<|bk_x<|?_;exact ⟨q3,w,qD,nB,aW,oA,u,iC,iU⟩
 rintro _ GY ⟨CJ,CU,CM,vX,yL,x6,yY,xL,zR⟩;refine W_th<|W_sr<|mv (i64 0) V V<|wnt<|?_;obtain ⟨D0,sK,bE⟩:=bsi bE;refine W_mid (fun c d=>c 0=bp a/\c 104=undef/\ExG [bp a] w0 d/\Blk d a 116 (ac u32 D0)/\NS [bp a] w0 (bp a)) ?_ ?_
 ·refine zac<|zau (fun bU c d=>c 0=bp a/\c 6=bp W/\c 89=i64 bU.2/\c 104=undef/\ExG [bp a] w0 d/\Blk d a 116 (ac u32 bU.1)/\NS [bp a] w0 (bp a)/\Blk d W 116 (ac u32 sI)/\NS [bp a] w0 (bp W)/\Nq (bp a) (bp W)) sK ?_ ?_
  ·exact ⟨CJ,CU,rfl,CM,vX,yL,x6,yY,xL,zR⟩
  rintro bU _ _ CY ⟨j5,sF,kL,qE,nC,dS,hX,cT,xM,p3⟩ a5 x2;refine W_sr<|wa V (q_ltI V kL V)<|wnt<|W_seq<|wci a5 V V (fun a5=>?_) (fun a5=>?_)
  ·refine zae<|W_th<|W_seq<|zac<|W_sr<|mv (i64 bU.2) V kL<|av (i64 bU.2) V V<|wnt<|zba [4,7] [(0,0),(1,0),(2,0),(3,0),(4,1),(5,0),(6,0),(7,1),(8,0),(9,0),(10,0),(11,2)] mixed (by kernel_rfl) (by kernel_rfl) (by kernel_rfl) (by kernel_rfl) ?_;have kU:=Ext.drew CY;replace dS:=dS.ext kU;replace cT:=cT.ext kU;have u6:=nC.trans kU;refine sv (bp a) V V j5<|sv (i64 bU.2) V V V<|sa V V (zbl V V)<|?_;obtain ⟨D7,nZ,a5⟩:=bsi a5;obtain ⟨sL,fB,a5⟩:=bsi a5;refine sa V V (q_ixA (m:=0) V A116 V V (zad nZ) fB)<|sq V V (zax (m:=0) V A116 V dS (zaf _ _) fB)<|sv (i64 bU.2) V V V<|?_;obtain ⟨D8,w8,a5⟩:=bsi a5;obtain ⟨sM,o0,a5⟩:=bsi a5;refine sa V V (q_ixA (m:=0) V A116 (by exact sF) V (zad w8) o0)<|sq V V (zax (m:=0) V A116 V cT (zaf _ _) o0)<|sa V V (zdc V V V)<|sa V V (zbl V V)<|sa V V (q_ixA (m:=0) V A116 V V (zad nZ) fB)<|wsn V (by kernel_rfl) V V (zcz (b:=(sL+sM)) [] [bp W] V A116 V V dS fB (zdo _) ?_);intro GZ zJ n3 ED;replace cT:=cT.other n3 p3.symm;have u7:=u6.grown n3 hX;refine za1<|bk_n<|W_th<|W_rg<|wa V (zak V kL V)<|mv (i64 (wI (bU.2+1))) V V<|zag<|?_;obtain rfl:=osi a5;exact ⟨_,rfl,j5,sF,rfl,qE,u7,zJ,hX,cT,xM,p3⟩
  refine zar<|th_x<|?_;obtain rfl:=osi a5;obtain rfl:=x2 _ rfl;refine th_x<|bk_x<|?_;exact ⟨j5,qE,nC,dS,hX⟩
 rintro _ H0 ⟨EO,CN,vY,yM,EN⟩;refine rtn ?_;obtain rfl:=osi bE;refine rt0 V CN ?_;exact ⟨rfl,vY,yM⟩
end Gk

/- Printed by gen.py: for each Go function a pure function, and that the Go code comes to it. No condition beside the equation that says what the pure function gives. -/
namespace Gk
open Go Go.Proofs
noncomputable def zki (g:List (List UInt8)):Option (List UInt8) :=
((za0 g).bind fun d =>
((appL d ([(128:UInt8)]:List UInt8)).bind fun c =>
((remI (c.length:Int) 64).bind fun l =>
((remI (wI (120 - l)) 64).bind fun h =>
((makeL h (0:UInt8)).bind fun i =>
((appL c i).bind fun j =>
((zcs j (shl64 (UInt64.ofInt (d.length:Int)) 3)).bind fun e =>
((zjp).bind fun f =>
((lenA 8 (List.replicate 8 (0:UInt32))).bind fun r =>
((lenA 8 f).bind fun s =>
((lim (e.length+64)).bind fun v =>
((zjh (fun (o:List UInt32) (q:Int×List UInt8) =>
((zhk o q.2).bind fun m => some m)) (za3 e 64) f).bind fun b =>
((lenA 8 b).bind fun t =>
((iterC (fun a:List UInt8×Int =>
(if a.2<8 then
((lenA 8 b).bind fun u =>
((idx b a.2).bind fun k =>
((zem a.1 k).bind fun n => some (.inl (n,wI (a.2+1))))))
else some (.inr a.1))) (([]:List UInt8),0)).bind fun p => some p))))))))))))))
theorem hash_Sum_calls (U:List (List UInt8)) (A:Value) (aR:List UInt8) (w0:World) (bZ:Rw w0 [] A U) (a:zki U=some aR) :
  Calls Tryz.prog 57 [A].toArray w0 (fun b3 aY=>∃ a5:Value,b3=.returned a5/\Ext w0 aY/\Nw w0 a5/\OwK (Sc u8) aY [] 5 a5 aR):=by
 have Z:Ext w0 w0:=Ext.refl w0;unfold zki at a;refine zai (n:=44) Tryz.func57 V V V<|W_sr<|av (.slice none 0 0) V V<|wnt<|W_sr<|mv A V V<|?_;obtain ⟨t,c0,a⟩:=bsi a;refine wls V V (zab (vs:=[A]) Tryz.func29 V V V (ar1 V) (za7 U A t _ (bZ.lift (le_ Z)) c0) ?_);rintro _ e7 ⟨q,rfl,eD,cM,d7⟩;refine ⟨_,rfl,?_⟩;have y:OwK (Sc u8) e7 (q::[]) 5 q t:=OwK.scal d7 _;have aK:=Nw.ext Z cM;have b5:=Z.trans eD;refine av q V V<|wnt<|W_sr<|mv q V V<|wa V (q_len V T22.sl V (y.rd (Sc.stab _)))<|av (i64 (t.length:Int)) V V<|wnt<|W_sr<|mv q V V<|wls V V (zaz (L:=[q]) (R:=Sc u8) [u8 128] ([(128:UInt8)]:List UInt8) V T22 V (by exact ⟨rfl,cst8 (128:UInt8) V,trivial⟩) V (litC u8 zbi (us:=[u8 128]) (l:=([(128:UInt8)]:List UInt8)) V) V (litS u8 (us:=[u8 128]) (l:=([(128:UInt8)]:List UInt8)) V) ?_);intro aX eA dG cX bC eU;have a9:=zaa bC;have c7:By eA [q] aX ([(128:UInt8)]:List UInt8):=OwK.slk (Sc.stab _) _ dG (fun F a1=>(Old.cons (Old.nil _) y.lt) F (cX F a1)) (fun _ d=>d.2);replace y:=y.extL (Sc.stab _) a9 (le_ a9);have aC:=b5.trans a9;obtain ⟨eQ,bV,a⟩:=bsi a;refine wls V V (zav (R:=Sc u8) (v:=q) (u:=aX) (Sc.stab _) [] [] V T22 V V y c7 (fun _ _ d=>d) bV oc_u8 ?_);intro M fI aN bD d1 eV;have b9:=aC.grown bD aK;have d0:=Nw.nxt aC aK d1;refine av M V V<|wnt<|W_sr<|mv M V V<|mv M V V<|wa V (q_len V T22.sl V (aN.rd (Sc.stab _)))<|bse a fun eR bW a=>wa V (zdm V V V bW)<|wa V (za9 V V V)<|bse a fun eK bN a=>wa V (zdm V V V bN) ?_;obtain ⟨eL,bO,a⟩:=bsi a;obtain ⟨b2,bP,a⟩:=bsi a;refine wls V V (stp_appz (R:=Sc u8) (v:=M) (Sc.stab _) [] [] V T22 Tryz.underlying3 V V V aN bO (fun _ _=>rfl) bP ?_);intro s fC d5 bA f1 eS;have aA:=b9.grown bA d0
 refine av s V V<|wnt<|W_sr<|mv s V V<|mv (i64 (t.length:Int)) V V<|wa V (zgi V V V V)<|wa V (q_shl64 3 V V V V)<|?_;obtain ⟨r,c1,a⟩:=bsi a;refine wls V V (zab (vs:=[s,u64 (shl64 (UInt64.ofInt (t.length:Int)) 3)]) Tryz.func85 V V V (ar2 V V) (zgz b2 (shl64 (UInt64.ofInt (t.length:Int)) 3) s r _ (d5.rd (Sc.stab _)) c1) ?_);rintro _ e8 ⟨b,rfl,eE,cK,d6⟩;refine ⟨_,rfl,?_⟩;have k:OwK (Sc u8) e8 (b::[s]) 5 b r:=OwK.scal d6 _;have cL:=Nw.ext aA cK;have b4:=aA.trans eE;refine av b V V<|wnt<|W_sr<|?_;obtain ⟨e3,c2,a⟩:=bsi a;refine wls V V (zab (vs:=[]) Tryz.func86 V V V (ar0) (hash_first_calls   e3 _  c2) ?_);rintro _ fD ⟨rfl,a7⟩;refine ⟨_,rfl,?_⟩;replace k:=k.extL (Sc.stab _) a7 (le_ a7);have aB:=b4.trans a7;refine wls V V (sal u32 (List.replicate 8 (0:UInt32)) [b,s] V Z116 ?_);intro g fE dB a2 bB eT;have a8:=zaa bB;have aQ:Nq b (bp g):=k.nq a2;have aJ:=Nw.ext aB a2;have b6:=aB.trans a8;obtain ⟨eM,bQ,a⟩:=bsi a;obtain ⟨eN,bR,a⟩:=bsi a;refine wln V V (zbm [] [b,s] V A116 V V (zad bQ) (zad bR) dB zdo ?_);intro fF z aD cD;replace k:=(k.extL (Sc.stab _) a8 (Lift.call _ a8 a2)).other (Sc.stab _) aD aQ cD;have X:=b6.grown aD aJ;refine wnt<|W_seq<|W_sr<|mv b V V<|wls V V (zab (vs:=[b,i64 64]) Tryz.func87 V V V (ar2 V V) (zi2 b (cells_own k) 64 (by decide) _) ?_);rintro _ e9 ⟨i,j,rfl,G,H,e2,aE,aF,Q⟩;refine ⟨_,rfl,?_⟩;have dY:Nq (bp g) (bp i):=z.nq G;have dZ:Nq (bp g) (bp j):=z.nq H;have e0:Nq b (bp i):=k.nq G
 have e1:Nq b (bp j):=k.nq H;replace z:=z.ext Q;replace k:=k.extL (Sc.stab _) Q (Lift.call2 _ Q G H);have cS:=Nw.ext X G;have cT:=Nw.ext X H;have Y:=X.trans Q;refine wnt<|zac<|?_;obtain ⟨eW,bY,a⟩:=bsi a;obtain ⟨eF,b0,a⟩:=bsi a;refine W_rangeDS (π:=fun c:ChEl r 64=>c.1) (xs:=za3 r 64) (ea:=fun c=>subW b c.1.1.toNat (c.1.1+(c.1.2.length:Int)).toNat (c.1.1+(c.1.2.length:Int)).toNat) (Rd:=zb6 r 64 i j b) (gf:=116) (lb:=#[bp i,bp j]) b0 V V V (enters Tryz.func116 V V) V (chunk_bytes r 64 (by decide) b i j _ ⟨aE,aF,k.rd (Sc.stab _)⟩ (zjt bY)) (fun fK d=>d) (fun c=>c.2.2) (fun _ _ f d=>zb6.tn f d) V (fun B h=>Ext w0 h/\OwK (Sc u8) h [b,bp g,bp i,bp j] 5 b r/\Nw w0 b/\Blk h g 116 (ac u32 B)/\Nw w0 (bp g)/\Blk h i 22 #[b]/\Nw w0 (bp i)/\Blk h j 3 #[i64 64]/\Nw w0 (bp j)/\Nq b (bp g)/\Nq b (bp i)/\Nq b (bp j)/\Nq (bp g) (bp i)/\Nq (bp g) (bp j)/\Nq (bp i) (bp j)) ?_ ?_ ⟨Y,k.weak (Sc.stab _) (fun _ d=>⟨d.2.2.2.1,d.2.2.1,d.1,d.2.1,trivial⟩),cL,z,aJ,aE,cS,aF,cT,aQ,e0,e1,dY,dZ,e2⟩ (fun c p=>upd p 6 (subW b c.1.1.toNat (c.1.1+(c.1.2.length:Int)).toNat (c.1.1+(c.1.2.length:Int)).toNat)) ?_ ?_ ?_
 ·rintro B W eI f ⟨bF,d2,cF,d8,cN,dC,cP,dE,cU,dJ,dL,dO,dR,dT,dV⟩;exact ⟨bF.tn f Y.size,d2.tn (Sc.stab _) f,cF,d8.tn f,cN,dC.tn f,cP,dE.tn f,cU,dJ,dL,dO,dR,dT,dV⟩
 ·rintro B W ⟨bG,d3,cG,d9,cO,dD,cQ,dF,cV,dK,dM,dP,dS,dU,dW⟩;have f:=Ext.drew W;exact ⟨bG.trans f,d3.extL (Sc.stab _) f (le_ f),cG,d9.ext f,cO,dD.ext f,cQ,dF.ext f,cV,dK,dM,dP,dS,dU,dW⟩
 ·intro l c eJ eH bK;refine W_rg<|av (subW b c.1.1.toNat (c.1.1+(c.1.2.length:Int)).toNat (c.1.1+(c.1.2.length:Int)).toNat) V V<|zag<|?_;exact bK
 ·rintro l ⟨e,c6⟩ B fB eB ⟨bH,x,cH,aM,aI,I,cR,J,cW,a3,dN,dQ,aO,aP,dX⟩ T;have cC:=KeepsFrom.refl e9.heap.size eB;refine zac<|W_rg<|mv (subW b e.1.toNat (e.1+(e.2.length:Int)).toNat (e.1+(e.2.length:Int)).toNat) V V<|?_;obtain ⟨e4,c3,T⟩:=bsi T;refine wls V V (zab (vs:=[bp g,subW b e.1.toNat (e.1+(e.2.length:Int)).toNat (e.1+(e.2.length:Int)).toNat]) Tryz.func88 V V V (ar2 V V) (hash_block_calls B e.2 g (subW b e.1.toNat (e.1+(e.2.length:Int)).toNat (e.1+(e.2.length:Int)).toNat) e4 _ aM (SlK.cut3 (L:=[bp g]) (OwK.slk (Sc.stab _) [bp g] x (fun F a1=>⟨a3 F a1,trivial⟩) (fun _ d=>⟨d.2.1,trivial⟩)) c6.1) c3) ?_);rintro _ fG ⟨rfl,w,bM⟩;refine ⟨_,rfl,?_⟩;have cE:=Lift.ownX [b] [bp i,bp j] w;have c9:=cC.ownX w aM.cl;replace x:=x.otherX (Sc.stab _) w a3 cE;replace I:=I.otherX w aO.symm;replace J:=J.otherX w aP.symm;have b7:=bH.grownX w aI;refine zag<|bk_n<|?_;obtain rfl:=osi T;exact ⟨c9,⟨I,J,x.rd (Sc.stab _)⟩,b7,x,cH,bM,aI,I,cR,J,cW,a3,dN,dQ,aO,aP,dX⟩
 intro S a6 bE ⟨bI,f2,eX,dA,eY,f3,eZ,f4,f0,f5,f6,f7,f8,f9,fA⟩ bL;have bX:=Nat.le_trans Y.size bE;have cB:=KeepsFrom.refl 0 a6;refine bk_n<|W_th<|W_sr<|av (.slice none 0 0) V V<|wnt<|W_seq<|W_seq<|W_rg<|bse a fun eO bS a=>wq V (ziz (m:=0) V A116 V dA (zaf _ _) (zad bS))<|mv (i64 0) V V<|wnt<|?_;obtain ⟨eG,b1,a⟩:=bsi a;refine W_mid (fun p h=>∃ P:Value,p 7=P/\p 44=bp S/\Ext w0 h/\KeepsFrom 0 a6 h/\OwK (Sc u8) h [P] 5 P eG/\Nw w0 P) ?_ ?_
 ·refine zac<|zau (fun C p h=>∃ N:Value,p 7=N/\p 35=ag u32 eF/\p 36=i64 C.2/\p 44=bp S/\Ext w0 h/\KeepsFrom 0 a6 h/\OwK (Sc u8) h [N] 5 N C.1/\Nw w0 N) b1 ?_ ?_
  ·exact ⟨.slice none 0 0,rfl,rfl,rfl,rfl,bI,cB,OwK.nil _ _ _ _,Nw.nil _⟩
  rintro C _ _ fH ⟨D,aV,aT,a4,aU,a0,aH,aL,cI⟩ o c4;refine W_sr<|wa V (q_ltI V a4 V)<|wnt<|W_seq<|wci o V V (fun o=>?_) (fun o=>?_)
  ·refine zae<|W_th<|W_seq<|zac<|W_sr<|?_;obtain ⟨eP,bT,o⟩:=bsi o;obtain ⟨E,bU,o⟩:=bsi o;refine wa V (q_index V A116 (by exact aT) (by exact a4) (zad bT) bU)<|av (u32 E) V V<|wnt<|W_rg<|mv D V aV<|mv (u32 E) V V<|?_;obtain ⟨aS,c5,o⟩:=bsi o;refine wls V V (zab (vs:=[D,u32 E]) Tryz.func89 V V V (ar2 V V) (word_Put_uint32_calls C.1 E D aS _ (aL.rd (Sc.stab _)) c5) ?_);rintro _ eC ⟨K,rfl,aZ,cY,dI⟩;refine ⟨_,rfl,?_⟩;have dH:OwK (Sc u8) eC (K::[D]) 5 K aS:=OwK.scal dI _;have cA:=aH.ext aZ;have cZ:=Nw.ext a0 cY;have b8:=a0.trans aZ;refine av K V V<|zag<|bk_n<|W_th<|W_rg<|wa V (zak V a4 V)<|mv (i64 (wI (C.2+1))) V V<|zag<|?_;obtain rfl:=osi o;exact ⟨_,rfl,K,rfl,aT,rfl,aU,b8,cA,dH.weak (Sc.stab _) (fun _ d=>⟨d.1,trivial⟩),cZ⟩
  refine zar<|th_x<|?_;obtain rfl:=osi o;obtain rfl:=c4 _ rfl;refine th_x<|bk_x<|?_;exact ⟨D,aV,aU,a0,aH,aL,cI⟩
 rintro _ fJ ⟨O,e6,e5,bJ,c8,d4,cJ⟩;refine W_th<|W_sr<|mv O V e6<|av O V V<|wnt<|W_ret<|?_;obtain rfl:=osi a;have aG:=c8.same S _ (Nat.zero_le _) bL V;have aW:=Tn.put aG bX (.deferred none);refine rtm1 O V V V e5 aG ?_;exact ⟨O,rfl,bJ.tn aW (Nat.le_refl _),cJ,((d4.tn (Sc.stab _) aW).weak (Sc.stab _) (fun _ _=>trivial))⟩
end Gk

/- Words and the sum of bytes (chapters 1 and 7), in plain Lean. No condition but lengths. -/
namespace Gk
open Gf
theorem Bits32_eq:zc1=some 32:=by
 unfold zc1
 rw [zec.2 ⟨33,by kernel_rfl⟩];rfl
theorem Bits64_eq:zc0=some 64:=by
 unfold zc0
 rw [zec.2 ⟨65,by kernel_rfl⟩];rfl
def rot (x:UInt32) (k:Nat):UInt32:=shr32 x k ||| shl32 x (32 - k)
theorem zj0 (x:UInt32) (k:Nat) (h0:0<k) (h1:k<32):zbk x (-(k:Int))=some (rot x k):=by
 unfold zbk
 rw [Bits32_eq,obs]
 have e1:remI (-(k:Int)) 32=some (-(k:Int)):=by
  unfold remI;rw [if_neg (by decide),Int.neg_tmod,Int.tmod_eq_emod_of_nonneg (by omega),Int.emod_eq_of_lt (by omega) (by omega)]
 rw [e1,obs,wI_of (by omega) (by omega)]
 rw [show -(k:Int)+32=((32 - k:Nat):Int) by omega,show (32:Int)=((32:Nat):Int) by rfl,zch _ _ (by omega),Nat.mod_eq_of_lt (by omega),obs,if_neg (by omega),zex,obs,
  wI_of (by omega) (by omega),show ((32:Nat):Int) - ((32 - k:Nat):Int)=(k:Int) by omega,zex,obs,UInt32.or_comm];rfl
theorem turned_eq (x:UInt32) (a b c:Nat) (ha:0<a/\a<32) (hb:0<b/\b<32) (hc:0<c/\c<32):zej x a b c=some ((rot x a^^^rot x b)^^^rot x c):=by
 unfold zej
 rw [wI_of (by omega) (by omega),wI_of (by omega) (by omega),wI_of (by omega) (by omega),Int.zero_sub,Int.zero_sub,Int.zero_sub,zj0 _ _ ha.1 ha.2,zj0 _ _ hb.1 hb.2,zj0 _ _ hc.1 hc.2];rfl
def be4 (a b c d:UInt8):UInt32:=((shl32 a.toUInt32 24 ||| shl32 b.toUInt32 16) ||| shl32 c.toUInt32 8) ||| d.toUInt32
def be (p:List UInt8) (i:Nat):UInt32:=be4 (co p i) (co p (i+1)) (co p (i+2)) (co p (i+3))
theorem or_add (a b k:Nat) (h:b<2 ^ k):(a * 2 ^ k) ||| b=a * 2 ^ k+b:=by
 rw [← Nat.shiftLeft_eq,Nat.shiftLeft_add_eq_or_of_lt h]
theorem be4_nat (a b c d:UInt8):(be4 a b c d).toNat=((a.toNat * 256+b.toNat) * 256+c.toNat) * 256+d.toNat:=by
 have ha:=a.toNat_lt;have hb:=b.toNat_lt;have hc:=c.toNat_lt;have hd:=d.toNat_lt
 simp only [be4,shl32,UInt32.toNat_or,UInt32.toNat_ofNat',UInt8.toNat_toUInt32]
 rw [Nat.mod_eq_of_lt (by simp;omega),Nat.mod_eq_of_lt (by simp;omega),Nat.mod_eq_of_lt (by simp;omega)]
 simp only [show min 24 32=24 by rfl,show min 16 32=16 by rfl,show min 8 32=8 by rfl]
 rw [or_add a.toNat (b.toNat * 2 ^ 16) 24 (by omega),show a.toNat * 2 ^ 24+b.toNat * 2 ^ 16=(a.toNat * 256+b.toNat) * 2 ^ 16 by omega,or_add _ (c.toNat * 2 ^ 8) 16 (by omega),
  show (a.toNat * 256+b.toNat) * 2 ^ 16+c.toNat * 2 ^ 8=((a.toNat * 256+b.toNat) * 256+c.toNat) * 2 ^ 8 by omega,or_add _ d.toNat 8 (by omega)]
theorem or64 (x:UInt64) (y:UInt8) (h:x.toNat<2 ^ 48):(shl64 x 8 ||| y.toUInt64).toNat=x.toNat * 256+y.toNat:=by
 have hy:=y.toNat_lt
 simp only [shl64,UInt64.toNat_or,UInt64.toNat_ofNat',UInt8.toNat_toUInt64,show min 8 64=8 by rfl]
 rw [Nat.mod_eq_of_lt (by omega),or_add _ _ 8 (by omega)]
theorem Get_eq (b:List UInt8) (h:4<=b.length) (hm:b.length<=most):zeq b=some (be b 0,true):=by
 obtain ⟨b0,b1,b2,b3,t,rfl⟩:∃ b0 b1 b2 b3 t,b=b0 :: b1 :: b2 :: b3 :: t:=by
  match b,h with
  | b0 :: b1 :: b2 :: b3 :: t,_=>exact ⟨b0,b1,b2,b3,t,rfl⟩
 unfold zeq
 rw [Bits32_eq,obs,show divI 32 8=some 4 by decide,obs,if_neg (by simp only [List.length_cons] at h ⊢;omega)]
 have e:subL (b0 :: b1 :: b2 :: b3 :: t) 0 4=some [b0,b1,b2,b3]:=by
  have:=zd3 (b0 :: b1 :: b2 :: b3 :: t) 0 4 (by omega) (by simp)
  simpa using this
 rw [e,obs]
 let z:UInt64:=((shl64 (shl64 (shl64 (shl64 0 8 ||| b0.toUInt64) 8 ||| b1.toUInt64) 8 ||| b2.toUInt64) 8) ||| b3.toUInt64)
 rw [zec.2 ⟨5,show _=some z by kernel_rfl⟩,obs]
 have ha:=b0.toNat_lt;have hb:=b1.toNat_lt;have hc:=b2.toNat_lt;have hd:=b3.toNat_lt
 have h1:=or64 0 b0 (by decide)
 have h2:=or64 (shl64 0 8 ||| b0.toUInt64) b1 (by rw [h1];simp;omega)
 have h3:=or64 (shl64 (shl64 0 8 ||| b0.toUInt64) 8 ||| b1.toUInt64) b2 (by rw [h2,h1];simp;omega)
 have h4:=or64 (shl64 (shl64 (shl64 0 8 ||| b0.toUInt64) 8 ||| b1.toUInt64) 8 ||| b2.toUInt64) b3 (by rw [h3,h2,h1];simp;omega)
 have:z.toUInt32=be (b0 :: b1 :: b2 :: b3 :: t) 0:=by
  apply UInt32.toNat_inj.1
  show z.toUInt32.toNat=(be4 b0 b1 b2 b3).toNat
  rw [be4_nat,UInt64.toNat_toUInt32,show z.toNat=_ from h4,h3,h2,h1]
  simp only [UInt64.toNat_zero,Nat.zero_mul,Nat.zero_add]
  omega
 rw [this]
theorem put_loop {X:Type} {body:List UInt8×Int->Option ((List UInt8×Int)⊕List UInt8)} (F:Nat->UInt8) (n:Nat) (b:List UInt8) (hb:b.length+n<=most)
  (h1:∀ (l:List UInt8) (j:Nat),j<n->l.length+1<=most->body (l,8 * (j:Int))=some (.inl (l ++ [F j],8 * (j:Int) - 8))) (h2:∀ l,body (l,-8)=some (.inr l)) :
  iterC body (b,8 * (n:Int) - 8)=some (b ++ ((List.range n).map F).reverse):=by
 induction n generalizing b with
 | zero=>rw [zbq];simp [h2]
 | succ n ih =>
  rw [zbq,show 8 * ((n+1:Nat):Int) - 8=8 * (n:Int) by omega,h1 b n (by omega) (by omega),obs]
  simp only []
  rw [ih (b ++ [F n]) (by simp only [List.length_append,List.length_singleton];omega) (fun l j hj hl=>h1 l j (by omega) hl)]
  simp [List.range_succ]
def by4 (x:UInt32):List UInt8:=[(shr32 x 24).toUInt8,(shr32 x 16).toUInt8,(shr32 x 8).toUInt8,x.toUInt8]
def by8 (x:UInt64):List UInt8:=((List.range 8).map fun j=>(shr64 x (8 * j)).toUInt8).reverse
theorem by8_len (x:UInt64):(by8 x).length=8:=by simp [by8]
theorem Clone_eq (b:List UInt8) (h:b.length<=most):zaj b=some b:=by
 unfold zaj;exact zfv b h
theorem appL_one (l:List UInt8) (x:UInt8) (h:l.length+1<=most):appL l [x]=some (l ++ [x]):=by
 unfold appL;rw [if_pos (by simpa using h)]
theorem shr32_zero (x:UInt32):shr32 x 0=x:=by simp [shr32]
theorem Put32_eq (b:List UInt8) (x:UInt32) (h:b.length+4<=most):zem b x=some (b ++ by4 x):=by
 unfold zem
 rw [Clone_eq b (by omega),obs,Bits32_eq,obs,show wI (32 - 8)=8 * ((4:Nat):Int) - 8 by decide]
 rw [put_loop (X:=UInt8) (fun j=>(shr32 x (8 * j)).toUInt8) 4 b h]
 ·simp [List.range,List.range.loop,by4,shr32_zero]
 ·intro l j hj hl
  rw [if_pos (by simp only [];omega)]
  simp only []
  rw [show 8 * (j:Int)=((8 * j:Nat):Int) by omega,zex,obs,appL_one l _ hl,obs,wI_of (by omega) (by omega)]
 ·intro l;rw [if_neg (by simp only [];omega)]
theorem Put64_eq (b:List UInt8) (x:UInt64) (h:b.length+8<=most):zcs b x=some (b ++ by8 x):=by
 unfold zcs
 rw [Clone_eq b (by omega),obs,Bits64_eq,obs,show wI (64 - 8)=8 * ((8:Nat):Int) - 8 by decide]
 rw [put_loop (X:=UInt8) (fun j=>(shr64 x (8 * j)).toUInt8) 8 b h]
 ·rfl
 ·intro l j hj hl
  rw [if_pos (by simp only [];omega)]
  simp only []
  rw [show 8 * (j:Int)=((8 * j:Nat):Int) by omega,zex,obs,appL_one l _ hl,obs,wI_of (by omega) (by omega)]
 ·intro l;rw [if_neg (by simp only [];omega)]
def kL:List UInt32:=[0x428a2f98,0x71374491,0xb5c0fbcf,0xe9b5dba5,0x3956c25b,0x59f111f1,0x923f82a4,0xab1c5ed5,
 0xd807aa98,0x12835b01,0x243185be,0x550c7dc3,0x72be5d74,0x80deb1fe,0x9bdc06a7,0xc19bf174,
 0xe49b69c1,0xefbe4786,0x0fc19dc6,0x240ca1cc,0x2de92c6f,0x4a7484aa,0x5cb0a9dc,0x76f988da,
 0x983e5152,0xa831c66d,0xb00327c8,0xbf597fc7,0xc6e00bf3,0xd5a79147,0x06ca6351,0x14292967,
 0x27b70a85,0x2e1b2138,0x4d2c6dfc,0x53380d13,0x650a7354,0x766a0abb,0x81c2c92e,0x92722c85,
 0xa2bfe8a1,0xa81a664b,0xc24b8b70,0xc76c51a3,0xd192e819,0xd6990624,0xf40e3585,0x106aa070,
 0x19a4c116,0x1e376c08,0x2748774c,0x34b0bcb5,0x391c0cb3,0x4ed8aa4a,0x5b9cca4f,0x682e6ff3,
 0x748f82ee,0x78a5636f,0x84c87814,0x8cc70208,0x90befffa,0xa4506ceb,0xbef9a3f7,0xc67178f2]
def hL:List UInt32:=[0x6a09e667,0xbb67ae85,0x3c6ef372,0xa54ff53a,0x510e527f,0x9b05688c,0x1f83d9ab,0x5be0cd19]
theorem constants_eq:za6=some kL:=by unfold za6;kernel_rfl
theorem first_eq:zjp=some hL:=by unfold zjp;kernel_rfl
def w0 (l:List UInt32) (i:Nat):UInt32:=l.getD i 0
theorem ze6 {l:List UInt32} {i:Nat} (h:i<l.length):idx l (i:Int)=some (w0 l i):=by
 rw [zge,w0,List.getD_eq_getElem?_getD,List.getElem?_eq_getElem h];rfl
theorem zcm {α:Type} {n:Nat} {l:List α} (h:l.length=n):lenA n l=some ():=by unfold lenA;rw [if_pos h]
def nxt (p:List UInt8) (w:List UInt32):UInt32 :=
 if w.length<16 then be p (4 * w.length) else
  ((w0 w (w.length - 16)+w0 w (w.length - 7))+((rot (w0 w (w.length - 15)) 7^^^rot (w0 w (w.length - 15)) 18)^^^shr32 (w0 w (w.length - 15)) 3))+((rot (w0 w (w.length - 2)) 17^^^rot (w0 w (w.length - 2)) 19)^^^shr32 (w0 w (w.length - 2)) 10)
def sched (p:List UInt8):Nat->List UInt32
 | 0=>[]
 | n+1=>sched p n ++ [nxt p (sched p n)]
theorem zdi (p:List UInt8):∀ n,(sched p n).length=n
 | 0=>rfl
 | n+1=>by simp [sched,zdi p n]
def wTo (p:List UInt8) (i:Nat):List UInt32:=sched p i ++ List.replicate (64 - i) 0
theorem wTo_len (p:List UInt8) (i:Nat) (h:i<=64):(wTo p i).length=64:=by simp [wTo,zdi];omega
theorem zkd (p:List UInt8) (i j:Nat) (h:j<i):w0 (wTo p i) j=w0 (sched p i) j:=by
 simp only [w0,wTo,List.getD_eq_getElem?_getD];rw [List.getElem?_append_left (by rw [zdi];exact h)]
theorem wTo_set (p:List UInt8) (i:Nat) (h:i<64):(wTo p i).set i (nxt p (sched p i))=wTo p (i+1):=by
 unfold wTo
 obtain ⟨m,hm⟩:∃ m,64 - i=m+1:=⟨63 - i,by omega⟩
 rw [List.set_append_right _ _ (by rw [zdi];exact Nat.le_refl _),zdi,Nat.sub_self,hm,List.replicate_succ,List.set_cons_zero,show 64 - (i+1)=m by omega]
 simp [sched]
theorem drop_co (p:List UInt8) (i:Nat):be (p.drop i) 0=be p i:=by
 simp only [be,co_drop];rfl
theorem plan_eq (p:List UInt8) (h:p.length=64):zep p=some (sched p 64):=by
 unfold zep
 refine zay (zal (fun i=>(wTo p i,(i:Int))) 64 (wTo p 64) rfl ?_ ?_) ?_
 rotate_left 2
 ·rw [zcm (wTo_len p 64 (by omega)),obs,zcm (by simp),obs]
  simp [wTo,zcm (zdi p 64)]
 ·intro i hi
  have hl:=wTo_len p i (by omega)
  simp only []
  rw [if_pos (by omega)]
  by_cases h16:i<16
  ·rw [if_pos (by omega),wI_of (by omega) (by omega),show 4 * (i:Int)=((4 * i:Nat):Int) by omega,zd3 _ _ _ (by omega) (by omega),obs,List.take_length,
    Get_eq _ (by simp;omega) (by have:=h257;simp;omega),obs,zcm hl,obs,ze6 (by omega),obs,drop_co,zas _ (by omega),Int.toNat_natCast]
   have:be p (4 * i)=nxt p (sched p i):=by unfold nxt;rw [zdi,if_pos h16]
   rw [this,wTo_set p i hi]
  ·rw [if_neg (by omega),zcm hl,obs,wI_of (by omega) (by omega),wI_of (by omega) (by omega),wI_of (by omega) (by omega),wI_of (by omega) (by omega),
    show (i:Int) - 15=((i - 15:Nat):Int) by omega,show (i:Int) - 2=((i - 2:Nat):Int) by omega,show (i:Int) - 16=((i - 16:Nat):Int) by omega,show (i:Int) - 7=((i - 7:Nat):Int) by omega,
    ze6 (by omega),obs,ze6 (by omega),obs,obs,ze6 (by omega),obs,ze6 (by omega),obs,
    show (-7:Int)=-((7:Nat):Int) by rfl,zj0 _ 7 (by omega) (by omega),obs,show (-18:Int)=-((18:Nat):Int) by rfl,zj0 _ 18 (by omega) (by omega),obs,
    show (-17:Int)=-((17:Nat):Int) by rfl,zj0 _ 17 (by omega) (by omega),obs,show (-19:Int)=-((19:Nat):Int) by rfl,zj0 _ 19 (by omega) (by omega),obs,
    ze6 (by omega),obs,zas _ (by omega),Int.toNat_natCast,zkd _ _ _ (by omega),zkd _ _ _ (by omega),zkd _ _ _ (by omega),zkd _ _ _ (by omega)]
   rw [← wTo_set p i hi]
   unfold nxt;rw [zdi,if_neg h16]
 ·simp only [];rw [if_neg (by omega)]
def rnd (k w:UInt32) (t:List UInt32):List UInt32 :=
 let a:=(((w0 t 7+((rot (w0 t 4) 6^^^rot (w0 t 4) 11)^^^rot (w0 t 4) 25))+((w0 t 4 &&& w0 t 5)^^^(((4294967295:UInt32)^^^w0 t 4) &&& w0 t 6)))+k)+w
 [a+(((rot (w0 t 0) 2^^^rot (w0 t 0) 13)^^^rot (w0 t 0) 22)+(((w0 t 0 &&& w0 t 1)^^^(w0 t 0 &&& w0 t 2))^^^(w0 t 1 &&& w0 t 2))),w0 t 0,w0 t 1,w0 t 2,w0 t 3+a,w0 t 4,w0 t 5,w0 t 6]
def rnds (w:List UInt32) (s:List UInt32):Nat->List UInt32
 | 0=>s
 | n+1=>rnd (w0 kL n) (w0 w n) (rnds w s n)
theorem rnds_len (w s:List UInt32) (h:s.length=8):∀ n,(rnds w s n).length=8
 | 0=>h
 | n+1=>rfl
def addW (s t:List UInt32):List UInt32:=[w0 s 0+w0 t 0,w0 s 1+w0 t 1,w0 s 2+w0 t 2,w0 s 3+w0 t 3,w0 s 4+w0 t 4,w0 s 5+w0 t 5,w0 s 6+w0 t 6,w0 s 7+w0 t 7]
def blk (s:List UInt32) (p:List UInt8):List UInt32:=addW s (rnds (sched p 64) s 64)
theorem eight {s:List UInt32} (h:s.length=8):∃ a b c d e f g i,s=[a,b,c,d,e,f,g,i]:=by
 match s,h with
 | [a,b,c,d,e,f,g,i],_=>exact ⟨a,b,c,d,e,f,g,i,rfl⟩
theorem zg6 {l:List UInt32} (i:Nat) (h:i<l.length) (k:Int) (e:k=(i:Int)):idx l k=some (w0 l i):=by rw [e,ze6 h]
theorem add_loop (s t:List UInt32) (hs:s.length=8) (ht:t.length=8):iterC (fun s82:List UInt32×Int =>
  (if s82.2<8 then
  ((lenA 8 s82.1).bind fun c87 =>
  ((idx s82.1 s82.2).bind fun c88 =>
  ((lenA 8 t).bind fun c89 =>
  ((idx t s82.2).bind fun c90 =>
  some (.inl ((s82.1.set (s82.2:Int).toNat ((c88+c90))),(wI (s82.2+1))))))))
  else
  some (.inr s82.1))) (s,0)=some (addW s t):=by
 obtain ⟨a,b,c,d,e,f,g,i,rfl⟩:=eight hs
 obtain ⟨a',b',c',d',e',f',g',i',rfl⟩:=eight ht
 exact zec.2 ⟨9,by kernel_rfl⟩
theorem block_eq (s:List UInt32) (p:List UInt8) (hs:s.length=8) (hp:p.length=64):zhk s p=some (blk s p):=by
 unfold zhk
 simp only [zcm hs,plan_eq p hp,constants_eq,zcm (zdi p 64),zcm (show kL.length=64 from rfl),zcm (List.length_replicate),obs]
 refine zay (zal (fun i=>(rnds (sched p 64) s i,(i:Int))) 64 (rnds (sched p 64) s 64) rfl ?_ ?_) ?_
 rotate_left 2
 ·rw [add_loop s _ hs (rnds_len _ _ hs _)];rfl
 ·intro i hi
  have hl:=rnds_len (sched p 64) s hs i
  simp only []
  rw [if_pos (by omega)]
  have e0:=zg6 (l:=rnds (sched p 64) s i) 0 (by omega) 0 rfl
  have e1:=zg6 (l:=rnds (sched p 64) s i) 1 (by omega) 1 rfl
  have e2:=zg6 (l:=rnds (sched p 64) s i) 2 (by omega) 2 rfl
  have e3:=zg6 (l:=rnds (sched p 64) s i) 3 (by omega) 3 rfl
  have e4:=zg6 (l:=rnds (sched p 64) s i) 4 (by omega) 4 rfl
  have e5:=zg6 (l:=rnds (sched p 64) s i) 5 (by omega) 5 rfl
  have e6:=zg6 (l:=rnds (sched p 64) s i) 6 (by omega) 6 rfl
  have e7:=zg6 (l:=rnds (sched p 64) s i) 7 (by omega) 7 rfl
  simp only [zcm hl,e0,e1,e2,e3,e4,e5,e6,e7,obs,zcm (zdi p 64),zcm (show kL.length=64 from rfl),ze6 (show i<(sched p 64).length by rw [zdi];exact hi),ze6 (show i<kL.length from hi),
   show ∀ x,zej x 6 11 25=some ((rot x 6^^^rot x 11)^^^rot x 25) from fun x=>turned_eq x 6 11 25 (by decide) (by decide) (by decide),
   show ∀ x,zej x 2 13 22=some ((rot x 2^^^rot x 13)^^^rot x 22) from fun x=>turned_eq x 2 13 22 (by decide) (by decide) (by decide),zas i (by omega),
   zcm (List.length_cons.trans (congrArg (·+1) (show [_,_,_,_,_,_,_].length=7 from rfl)))]
  rfl
 ·simp only [];rw [if_neg (by omega)]
end Gk

/- The sum of bytes, whole, in plain Lean. No condition but lengths. -/
namespace Gk
open Gf
def padN (n:Nat):Nat:=(120 - (n+1) % 64) % 64
def padL (b:List UInt8):List UInt8:=(b ++ [128]) ++ List.replicate (padN b.length) 0
def zhu (b:List UInt8):List UInt8:=padL b ++ by8 (UInt64.ofInt (b.length:Int) * 8)
def nbl (n:Nat):Nat:=(n+9+padN n) / 64
theorem nbl_eq (n:Nat):n+9+padN n=64 * nbl n:=by unfold nbl padN;omega
theorem padL_len (b:List UInt8):(padL b).length=b.length+1+padN b.length:=by simp only [padL,List.length_append,List.length_singleton,List.length_replicate]
theorem padded_len (b:List UInt8):(zhu b).length=64 * nbl b.length:=by
 rw [← nbl_eq];simp only [zhu,List.length_append,padL_len,by8_len];omega
def pcS (m:List UInt8) (j:Nat):List UInt8:=(m.drop (64 * j)).take 64
def shaS (m:List UInt8):Nat->List UInt32
 | 0=>hL
 | j+1=>blk (shaS m j) (pcS m j)
theorem shaS_len (m:List UInt8):∀ j,(shaS m j).length=8
 | 0=>rfl
 | j+1=>rfl
def sha (b:List UInt8):List UInt8:=(shaS (zhu b) (nbl b.length)).flatMap by4
theorem flat4_len (x:List UInt32):(x.flatMap by4).length=4 * x.length:=by
 induction x with
 | nil=>rfl
 | cons a x ih=>rw [List.flatMap_cons,List.length_append,ih,List.length_cons];simp only [by4,List.length_cons,List.length_nil];omega
theorem sha_len (b:List UInt8):(sha b).length=32:=by rw [sha,flat4_len,shaS_len]
theorem w0_take {x:List UInt32} {i:Nat} (h:i<x.length):x.take (i+1)=x.take i ++ [w0 x i]:=by
 rw [List.take_add_one,List.getElem?_eq_getElem h,w0,List.getD_eq_getElem?_getD,List.getElem?_eq_getElem h];rfl
theorem out_loop (x:List UInt32) (hx:x.length=8) {body:List UInt8×Int->Option ((List UInt8×Int)⊕List UInt8)}
  (h1:∀ (l:List UInt8) (i:Nat),i<8->l.length<=32->body (l,(i:Int))=some (.inl (l ++ by4 (w0 x i),((i+1:Nat):Int)))) (h2:∀ l,body (l,8)=some (.inr l)) :
  iterC body ([],0)=some (x.flatMap by4):=by
 refine zal (fun i=>((x.take i).flatMap by4,(i:Int))) 8 _ (by simp) ?_ ?_
 ·intro i hi
  rw [h1 _ i hi (by rw [flat4_len,List.length_take];omega),w0_take (by omega)]
  simp
 ·rw [show ((8:Nat):Int)=8 by rfl,h2,List.take_of_length_le (by omega)]
theorem shl3 (x:UInt64):shl64 x 3=x * 8:=by
 apply UInt64.toNat_inj.1
 simp [shl64,UInt64.toNat_mul]
theorem hash_Sum_eq (parts:List (List UInt8)) (h:parts.flatten.length<=1000000) (hl:parts.length<=1000000):zki parts=some (sha parts.flatten):=by
 have hm:(1000000:Nat)+200<=most:=by decide
 unfold zki
 rw [Concat_eq parts (by omega) (by omega),obs]
 generalize hb:parts.flatten=b at *
 have hp:padN b.length<64:=Nat.mod_lt _ (by decide)
 rw [appL_one b 128 (by omega),obs,List.length_append,List.length_singleton,show (64:Int)=((64:Nat):Int) by rfl,zch _ _ (by omega),obs,
  wI_of (by omega) (by omega),show (120:Int) - ((((b.length+1) % 64:Nat)):Int)=((120 - (b.length+1) % 64:Nat):Int) by omega,zch _ _ (by omega),obs,
  zbj _ _ (by omega),obs]
 have e1:appL (b ++ [128]) (List.replicate ((120 - (b.length+1) % 64) % 64) 0)=some (padL b):=by
  unfold appL;rw [if_pos (by simp only [List.length_append,List.length_singleton,List.length_replicate];omega)];rfl
 rw [e1,obs,shl3,Put64_eq _ _ (by rw [padL_len];omega),obs,first_eq,obs,zcm (by simp),obs,zcm (show hL.length=8 from rfl),obs]
 rw [show padL b ++ by8 (UInt64.ofInt (b.length:Int) * 8)=zhu b from rfl]
 have hn:=nbl_eq b.length
 rw [zi4 (by rw [padded_len];omega),obs]
 have hcm:∀ x∈za3 (zhu b) 64,x.2.length=64:=by
  intro x hx
  simp only [za3,List.mem_map,List.mem_range] at hx
  obtain ⟨j,hj,rfl⟩:=hx
  simp only [List.length_take,List.length_drop]
  rw [padded_len] at *
  omega
 have hr:=zhn (f:=fun (s41:List UInt32) (y41:Int×List UInt8)=>(zhk s41 y41.2).bind fun r45=>some r45) (fun s y=>blk s y.2) (xs:=za3 (zhu b) 64) (s0:=hL) (fun _ s=>s.length=8) rfl
  (fun k s x hk hx hs=>⟨by rw [block_eq s x.2 hs (hcm x hx)];rfl,rfl⟩)
 rw [hr.1,obs,zcm hr.2,obs]
 have hf:(za3 (zhu b) 64).foldl (fun s y=>blk s y.2) hL=shaS (zhu b) (nbl b.length):=by
  unfold za3
  rw [show ((zhu b).length+64 - 1) / 64=nbl b.length by rw [padded_len];omega]
  generalize nbl b.length=n
  rw [List.foldl_map]
  induction n with
  | zero=>rfl
  | succ n ih=>rw [List.range_succ,List.foldl_append,ih];simp only [List.foldl_cons,List.foldl_nil,shaS,pcS,Nat.mul_comm]
 have hlen:=hr.2
 rw [hf] at hlen ⊢
 rw [out_loop _ hlen]
 ·rfl
 ·intro l i hi hl
  simp only []
  rw [if_pos (by omega),obs,ze6 (by omega),obs,Put32_eq _ _ (by omega),obs,zas _ (by omega)]
 ·intro l;rfl
end Gk

/- Parts R7, Pm, Pn, Po, F11, L11, Qi, F4, L8a, F9, L9a, L9d, Mq, Mr0, Mu0, Mw, Mx0, Na, Ng, one behind the other. What is proved: said at the head of each part. No condition beside those said there. -/
import Derived.Test.YtmbnjinlfeopaaaGreatRows
import Derived.Orders
import Derived.Deep.Draws
import Derived.Laws.World
import Derived.KernelRfl
import Derived.OrdersIn
import Derived.TacticsIn
import Derived.RangeFuncCalls
import Derived.Deep.LoopGhost
import Derived.Tactics
import Derived.Sort.LoopGhostIn
import Derived.RangeFuncLeaves
import Derived.RangeFuncNested
import Derived.RangeFuncRecord
import Derived.Laws.Sem
import Derived.OwnWalk
import Derived.RangeFuncWrites
import Derived.Laws.IdiomCopy
import Derived.WalkKit
import Derived.ProofKit
import Derived.OpenShut
import Derived.ChangeOld
import Derived.Below
import Derived.Test.YtmbnjinlfeopaaaGreatProg
import Derived.MapKept
import Derived.Lib.AppendZerosOnto
import Derived.Laws.CopyRow
import Derived.Laws.Cells
import Derived.Lib.SlBytesConst
import Derived.Test.YtmbnjinlfeopaaaGreatZPStripeFresh1
import Derived.Test.YtmbnjinlfeopaaaGreatZPStripeFresh2
import Derived.Test.YtmbnjinlfeopaaaGreatZPStripeFresh3
import Derived.Test.YtmbnjinlfeopaaaGreatZPStripeFresh4
set_option maxRecDepth 100000
set_option maxHeartbeats 8000000
set_option linter.unusedVariables false
set_option linter.unusedSimpArgs false
/- Printed by gen.py: for each Go function a pure function, and that the Go code comes to it. No condition beside the equation that says what the pure function gives. -/
namespace Gk
open Go Go.Proofs
noncomputable def za5 (a:UInt32) (b:Int):Option UInt32 :=
((cnt b).bind fun c =>
((cnt (wI (32 - b))).bind fun d => some ((shr32 a c) ||| (shl32 a d))))
theorem zbv (a0x:UInt32) (a1n:Int) (r:UInt32) (w0:World) (H:za5 a0x a1n=some r) :
  Calls Tryz.prog 108 [(u32 a0x),(i64 a1n)].toArray w0 (fun e w'=>e=.returned (u32 r)/\Ext w0 w'):=by
 have hE:Ext w0 w0:=Ext.refl w0;unfold za5 at H;refine zai (n:=13) Tryz.func108 rfl rfl rfl ?_;refine W_seq<|W_rg<|av (u32 0) rfl (cst32 (0:UInt32) rfl)<|wnt<|W_seq<|?_;refine zba [] [(0,0),(1,0),(2,0),(3,0),(4,0),(5,0),(6,0),(7,0),(8,0)] mixed (by kernel_rfl) (by kernel_rfl) (by kernel_rfl) (by kernel_rfl) ?_;have x1:=Ext.drew w0;have e2:=hE.trans x1;refine sv (u32 a0x) rfl rfl rfl<|sv (i64 a1n) rfl rfl rfl<|?_;obtain ⟨c3,hc3,H⟩:=bsi H;refine sa rfl rfl (zhv c3 rfl rfl rfl (zew hc3))<|sv (u32 a0x) rfl rfl rfl<|sv (i64 a1n) rfl rfl rfl<|sa rfl rfl (za9 rfl rfl rfl)<|?_;obtain ⟨c4,hc4,H⟩:=bsi H;refine sa rfl rfl (q_shl32 c4 rfl rfl rfl (zew hc4))<|sa rfl rfl (q_or32 rfl rfl rfl)<|sa rfl rfl (zat (v:=(u32 (((shr32 a0x c3) ||| (shl32 a0x c4))))) rfl rfl)<|?_;refine za1 ?_;refine W_th<|W_ret<|?_;obtain rfl:=osi H;refine rt1 (u32 (((shr32 a0x c3) ||| (shl32 a0x c4)))) rfl rfl rfl rfl ?_;exact ⟨rfl,e2⟩
noncomputable def zid (c:UInt64) (f:Int):Option (List UInt64) :=
((iterC (fun b:Int×List UInt64 =>
(if 0<b.1 then
((iterC (fun a:List UInt64×List UInt64×UInt64×Int =>
(if a.2.2.2<(a.1.length:Int) then
((if a.2.2.2<(a.1.length:Int) then
((idx a.1 a.2.2.2).bind fun g => some (a.2.2.1+(g * c)))
else some a.2.2.1).bind fun d =>
((appL a.2.1 ([(d % (65536:UInt64))]:List UInt64)).bind fun h => some (.inl (a.1,h,(d / (65536:UInt64)),wI (a.2.2.2+1)))))
else
(if (0:UInt64)<a.2.2.1 then
((if a.2.2.2<(a.1.length:Int) then
((idx a.1 a.2.2.2).bind fun i => some (a.2.2.1+(i * c)))
else some a.2.2.1).bind fun e =>
((appL a.2.1 ([(e % (65536:UInt64))]:List UInt64)).bind fun j => some (.inl (a.1,j,(e / (65536:UInt64)),wI (a.2.2.2+1)))))
else some (.inr a.2.1)))) (b.2,([]:List UInt64),(0:UInt64),0)).bind fun k => some (.inl (wI (b.1 - 1),k)))
else some (.inr b.2))) (f,([(1:UInt64)]:List UInt64))).bind fun l => some l)
theorem ref07_power_calls (h:UInt64) (a6:Int) (aL:List UInt64) (w0:World) (K:zid h a6=some aL) :
  Calls Tryz.prog 140 [u64 h,i64 a6].toArray w0 (fun aZ aU=>∃ a0:Value,aZ=.returned a0/\Ext w0 aU/\Nw w0 a0/\OwK (Sc u64) aU [] 105 a0 aL):=by
 have aB:Ext w0 w0:=Ext.refl w0;unfold zid at K;refine zai (n:=46) Tryz.func140 V V V<|W_sr<|av (.slice none 0 0) V V<|wnt<|W_sr<|wls V V (zaz (L:=[]) (R:=Sc u64) [u64 1] ([(1:UInt64)]:List UInt64) V T137 V (by exact ⟨rfl,cst64 (1:UInt64) V,trivial⟩) V (litC u64 zj1 (us:=[u64 1]) (l:=([(1:UInt64)]:List UInt64)) V) V (litS u64 (us:=[u64 1]) (l:=([(1:UInt64)]:List UInt64)) V) ?_);intro aR d1 bY bP b4 cX;have cS:=zaa b4;have bT:=Nw.ext aB bP;have b0:=aB.trans cS;refine av aR V V<|wnt<|W_seq<|?_;obtain ⟨cU,aW,K⟩:=bsi K;refine W_mid (fun a e=>∃ T:Value,a 5=T/\a 46=undef/\Ext w0 e/\OwK (Sc u64) e [T] 105 T cU/\Nw w0 T) ?_ ?_
 ·refine zac<|zau (fun m a e=>∃ Q:Value,a 0=u64 h/\a 1=i64 m.1/\a 5=Q/\a 46=undef/\Ext w0 e/\OwK (Sc u64) e [Q] 105 Q m.2/\Nw w0 Q) aW ?_ ?_
  ·exact ⟨aR,rfl,rfl,rfl,rfl,b0,bY,bT⟩
  rintro m _ _ d9 ⟨b,cA,aM,aO,aN,W,C,aE⟩ s bG;refine W_seq<|W_sr<|mv (i64 m.1) V aM<|wa V (q_gtI V V V)<|wnt<|wci s V V (fun s=>?_) (fun s=>?_)
  ·refine zae<|W_th<|W_seq<|zac<|W_sr<|wls V V (zaz (L:=[b]) (R:=Sc u64) [] ([]:List UInt64) V T137 V (by exact trivial) V (litC u64 zj1 (us:=[]) (l:=([]:List UInt64)) V) V (litS u64 (us:=[]) (l:=([]:List UInt64)) V) ?_);intro a4 dA c3 Z b7 d0;have a5:=zaa b7;have c6:Nq b a4:=C.nq Z;replace C:=C.extL (Sc.stab _) a5 (Lift.call _ a5 Z);have bQ:=Nw.ext W Z;have b3:=W.trans a5;refine av a4 V V<|wnt<|W_sr<|av (u64 0) V (cst64 (0:UInt64) V)<|wnt<|W_seq<|W_seq<|W_rg<|av (i64 0) V V<|wnt<|?_;obtain ⟨cT,aV,s⟩:=bsi s;refine W_mid (fun a e=>∃ U:Value,a 0=u64 h/\a 1=i64 m.1/\a 6=U/\a 46=undef/\Ext w0 e/\OwK (Sc u64) e [U] 105 U cT/\Nw w0 U) ?_ ?_
   ·refine zac<|zau (fun c a e=>∃ y:Value,a 0=u64 h/\a 1=i64 m.1/\a 5=b/\a 6=y/\a 7=u64 c.2.2.1/\a 8=i64 c.2.2.2/\a 46=undef/\Ext w0 e/\OwK (Sc u64) e [b,y] 105 b c.1/\Nw w0 b/\OwK (Sc u64) e [b,y] 105 y c.2.1/\Nw w0 y/\Nq b y) aV ?_ ?_
    ·exact ⟨a4,cA,aM,aO,rfl,rfl,rfl,aN,b3,C.weak (Sc.stab _) (fun _ g=>⟨g.2.1,g.1,trivial⟩),aE,c3.weak (Sc.stab _) (fun _ g=>⟨g.2.1,g.1,trivial⟩),bQ,c6⟩
    rintro c _ _ d2 ⟨d,x,E,o,G,H,p,F,z,i,M,D,B,P⟩ f bF;refine W_seq<|W_sr<|mv (i64 c.2.2.2) V p<|mv b V o<|wa V (q_len V T137.sl V (i.rd (Sc.stab _)))<|wa V (q_ltI V V V)<|wlb V V (zbd (v:=(.bool (decide (c.2.2.2<(c.1.length:Int))))) V V) (fun X=>?_) (fun X=>?_)
    ·replace f:=ifp X f;refine wk V<|wk V<|wa V (zaw (v:=(.bool true)) V V V)<|wnt<|zam true V V (fun _=>?_) (fun bC=>by cases bC);refine zae<|W_th<|W_seq<|zac<|W_seq<|?_;obtain ⟨j,q,f⟩:=bsi f;refine W_mid (fun a e=>a 0=u64 h/\a 1=i64 m.1/\a 5=b/\a 6=d/\a 7=u64 j/\a 8=i64 c.2.2.2/\a 46=undef/\Ext w0 e/\OwK (Sc u64) e [b,d] 105 b c.1/\Nw w0 b/\OwK (Sc u64) e [b,d] 105 d c.2.1/\Nw w0 d/\Nq b d) ?_ ?_
     ·refine W_sr<|mv (i64 c.2.2.2) V p<|mv b V o<|wa V (q_len V T137.sl V (i.rd (Sc.stab _)))<|wa V (q_ltI V V V)<|wnt<|wci q V V (fun q=>?_) (fun q=>?_)
      ·refine W_rg<|mv (u64 c.2.2.1) V H<|mv b V o<|mv (i64 c.2.2.2) V p<|bse q fun aX aC q=>wa V (q_adr V T137 V V (i.rd (Sc.stab _)) aC)<|wq V (zao V T137 V (i.rd (Sc.stab _)) aC)<|mv (u64 h) V x<|wa V (q_mul64 V V V)<|wa V (q_add64 V V V)<|av (u64 (c.2.2.1+(aX * h))) V V<|zag<|?_;obtain rfl:=osi q;exact ⟨x,E,o,G,rfl,p,F,z,i,M,D,B,P⟩
      refine zae ?_;obtain rfl:=osi q;exact ⟨x,E,o,G,H,p,F,z,i,M,D,B,P⟩
     rintro _ d3 ⟨c7,cB,cI,cL,aP,cO,cE,b8,t,bL,N,aF,aJ⟩;refine W_th<|W_sr<|mv d V cL<|mv (u64 j) V aP<|wa V (q_rem64 V V (cst64 (65536:UInt64) V) (by decide))<|?_;refine wls V V (zaz (L:=[b,d]) (R:=Sc u64) [u64 (j % (65536:UInt64))] ([(j % (65536:UInt64))]:List UInt64) V T137 V (by exact ⟨rfl,rfl,trivial⟩) V (litC u64 zj1 (us:=[u64 (j % (65536:UInt64))]) (l:=([(j % (65536:UInt64))]:List UInt64)) V) V (litS u64 (us:=[u64 (j % (65536:UInt64))]) (l:=([(j % (65536:UInt64))]:List UInt64)) V) ?_);intro aS cQ bZ bR b5 cY;have I:=zaa b5;have bH:W64 cQ [b,d] aS ([(j % (65536:UInt64))]:List UInt64):=OwK.slk (Sc.stab _) _ bZ (fun A Y=>(Old.cons (Old.cons (Old.nil _) N.lt) t.lt) A (bR A Y)) (fun _ g=>g.2);replace t:=t.extL (Sc.stab _) I (le_ I);replace N:=N.extL (Sc.stab _) I (le_ I);have a7:=b8.trans I;obtain ⟨cV,bD,f⟩:=bsi f;refine wls V V (zav (R:=Sc u64) (v:=d) (u:=aS) (Sc.stab _) [b] [] V T137 V V N bH (fun _ _ g=>g) bD oc_u64 ?_);intro a1 d4 c0 a9 aH bJ;have c4:Nq b a1:=t.nxt aJ aH;replace t:=t.other (Sc.stab _) a9 aJ bJ;have b1:=a7.grown a9 aF;have bS:=Nw.nxt a7 aF aH;refine av a1 V V<|wnt<|W_rg<|mv (u64 j) V aP<|wa V (q_quo64 V V (cst64 (65536:UInt64) V) (by decide))<|av (u64 (j / (65536:UInt64))) V V<|zag<|bk_n<|?_;refine W_th<|W_rg<|mv (i64 c.2.2.2) V cO<|wa V (zak V V V)<|av (i64 (wI (c.2.2.2+1))) V V<|zag<|?_;obtain rfl:=osi f;exact ⟨_,rfl,a1,c7,cB,cI,rfl,rfl,rfl,cE,b1,t,bL,c0,bS,c4⟩
    replace f:=ifn X f;refine mv (u64 c.2.2.1) V H<|wa V (q_gt64 V V (cst64 (0:UInt64) V))<|wa V (zaq (v:=(.bool (decide ((0:UInt64)<c.2.2.1)))) V V V)<|wnt<|wci f V V (fun f=>?_) (fun f=>?_)
    ·refine zae<|W_th<|W_seq<|zac<|W_seq<|?_;obtain ⟨k,r,f⟩:=bsi f;refine W_mid (fun a e=>a 0=u64 h/\a 1=i64 m.1/\a 5=b/\a 6=d/\a 7=u64 k/\a 8=i64 c.2.2.2/\a 46=undef/\Ext w0 e/\OwK (Sc u64) e [b,d] 105 b c.1/\Nw w0 b/\OwK (Sc u64) e [b,d] 105 d c.2.1/\Nw w0 d/\Nq b d) ?_ ?_
     ·refine W_sr<|mv (i64 c.2.2.2) V p<|mv b V o<|wa V (q_len V T137.sl V (i.rd (Sc.stab _)))<|wa V (q_ltI V V V)<|wnt<|wci r V V (fun r=>?_) (fun r=>?_)
      ·refine W_rg<|mv (u64 c.2.2.1) V H<|mv b V o<|mv (i64 c.2.2.2) V p<|bse r fun aY aD r=>wa V (q_adr V T137 V V (i.rd (Sc.stab _)) aD)<|wq V (zao V T137 V (i.rd (Sc.stab _)) aD)<|mv (u64 h) V x<|wa V (q_mul64 V V V)<|wa V (q_add64 V V V)<|av (u64 (c.2.2.1+(aY * h))) V V<|zag<|?_;obtain rfl:=osi r;exact ⟨x,E,o,G,rfl,p,F,z,i,M,D,B,P⟩
      refine zae ?_;obtain rfl:=osi r;exact ⟨x,E,o,G,H,p,F,z,i,M,D,B,P⟩
     rintro _ d5 ⟨c8,cC,cJ,cM,aQ,cP,cF,b9,w,bM,O,aG,aK⟩;refine W_th<|W_sr<|mv d V cM<|mv (u64 k) V aQ<|wa V (q_rem64 V V (cst64 (65536:UInt64) V) (by decide))<|?_;refine wls V V (zaz (L:=[b,d]) (R:=Sc u64) [u64 (k % (65536:UInt64))] ([(k % (65536:UInt64))]:List UInt64) V T137 V (by exact ⟨rfl,rfl,trivial⟩) V (litC u64 zj1 (us:=[u64 (k % (65536:UInt64))]) (l:=([(k % (65536:UInt64))]:List UInt64)) V) V (litS u64 (us:=[u64 (k % (65536:UInt64))]) (l:=([(k % (65536:UInt64))]:List UInt64)) V) ?_);intro aT cR c1 bU b6 cZ;have J:=zaa b6;have bI:W64 cR [b,d] aT ([(k % (65536:UInt64))]:List UInt64):=OwK.slk (Sc.stab _) _ c1 (fun A Y=>(Old.cons (Old.cons (Old.nil _) O.lt) w.lt) A (bU A Y)) (fun _ g=>g.2);replace w:=w.extL (Sc.stab _) J (le_ J);replace O:=O.extL (Sc.stab _) J (le_ J);have a8:=b9.trans J;obtain ⟨cW,bE,f⟩:=bsi f;refine wls V V (zav (R:=Sc u64) (v:=d) (u:=aT) (Sc.stab _) [b] [] V T137 V V O bI (fun _ _ g=>g) bE oc_u64 ?_);intro a2 d6 c2 aA aI bK;have c5:Nq b a2:=w.nxt aK aI;replace w:=w.other (Sc.stab _) aA aK bK;have b2:=a8.grown aA aG;have bV:=Nw.nxt a8 aG aI;refine av a2 V V<|wnt<|W_rg<|mv (u64 k) V aQ<|wa V (q_quo64 V V (cst64 (65536:UInt64) V) (by decide))<|av (u64 (k / (65536:UInt64))) V V<|zag<|bk_n<|?_;refine W_th<|W_rg<|mv (i64 c.2.2.2) V cP<|wa V (zak V V V)<|av (i64 (wI (c.2.2.2+1))) V V<|zag<|?_;obtain rfl:=osi f;exact ⟨_,rfl,a2,c8,cC,cJ,rfl,rfl,rfl,cF,b2,w,bM,c2,bV,c5⟩
    refine zar<|th_x<|?_;obtain rfl:=osi f;obtain rfl:=bF _ rfl;refine th_x<|bk_x<|?_;exact ⟨d,x,E,G,F,z,D.weak (Sc.stab _) (fun _ g=>⟨g.2.1,trivial⟩),B⟩
   rintro _ d7 ⟨a3,c9,cD,cN,cG,bA,bW,bN⟩;refine W_th<|W_rg<|mv a3 V cN<|av a3 V V<|zag<|bk_n<|W_th<|W_rg<|mv (i64 m.1) V cD<|wa V (za9 V V V)<|av (i64 (wI (m.1 - 1))) V V<|zag<|?_;obtain rfl:=osi s;exact ⟨_,rfl,a3,c9,rfl,rfl,cG,bA,bW,bN⟩
  refine zar<|th_x<|?_;obtain rfl:=osi s;obtain rfl:=bG _ rfl;refine th_x<|bk_x<|?_;exact ⟨b,aO,aN,W,C,aE⟩
 rintro _ d8 ⟨S,cK,cH,bB,bX,bO⟩;refine W_th<|W_sr<|mv S V cK<|av S V V<|wnt<|W_ret<|?_;obtain rfl:=osi K;refine rt1 S V V V cH ?_;exact ⟨S,rfl,bB,bO,bX.weak (Sc.stab _) (fun _ _=>trivial)⟩
noncomputable def zf8 (g:UInt64) (h:UInt64) (c:Int):Option Bool :=
((zid g c).bind fun f =>
((makeL (wI (2 * c)) (0:UInt64)).bind fun j =>
((appL j ([h]:List UInt64)).bind fun e =>
((iterC (fun a:Int =>
(if 0<=a then
((if a<(f.length:Int) then
((idx f a).bind fun i => some i)
else some (0:UInt64)).bind fun b =>
(if a<(e.length:Int) then
((idx e a).bind fun d =>
(if b=d then some (.inl (wI (a - 1)))
else some (.inr (.inr (decide (d<b))))))
else
(if b=(0:UInt64) then some (.inl (wI (a - 1)))
else some (.inr (.inr (decide ((0:UInt64)<b)))))))
else some (.inr (.inl ())))) 15).bind (Sum.elim (fun l => some false) (fun k=>some k))))))
theorem ref07_above_calls (m:UInt64) (f:UInt64) (k:Int) (a1:Bool) (w0:World) (b:zf8 m f k=some a1) :
  Calls Tryz.prog 132 [u64 m,u64 f,i64 k].toArray w0 (fun aA aV=>aA=.returned (.bool a1)/\Ext w0 aV):=by
 have aG:Ext w0 w0:=Ext.refl w0;unfold zf8 at b;refine zai (n:=48) Tryz.func132 V V V<|W_sr<|av (.bool false) V V<|wnt<|W_sr<|mv (u64 m) V V<|mv (i64 k) V V<|?_;obtain ⟨A,aK,b⟩:=bsi b;refine wls V V (zab (vs:=[u64 m,i64 k]) Tryz.func140 V V V (ar2 V V) (ref07_power_calls m k  A _  aK) ?_);rintro _ aW ⟨g,rfl,aY,aO,aR⟩;refine ⟨_,rfl,?_⟩;have r:W64 aW [] g A:=OwK.slk (Sc.stab _) _ (OwK.scal aR (g::[])) (fun s K=>(Old.nil _) s (aO s K)) (fun _ p=>p.2);have P:=aG.trans aY;refine av g V V<|wnt<|W_sr<|mv (i64 k) V V<|wa V (zco V V V)<|?_;obtain ⟨b0,aI,b⟩:=bsi b;refine wls V V (zb3 (L:=[]) (R:=Sc u64) V T137 V V aI (fun _ _=>rfl) ?_);intro x b6 z Y aD b1;have a6:=zaa aD;have Z:=Nw.ext P Y;have aB:=P.trans a6;refine av x V V<|wnt<|W_sr<|mv x V V<|mv (u64 f) V V<|wls V V (zaz (L:=[x]) (R:=Sc u64) [u64 f] ([f]:List UInt64) V T137 V (by exact ⟨rfl,rfl,trivial⟩) V (litC u64 zj1 (us:=[u64 f]) (l:=([f]:List UInt64)) V) V (litS u64 (us:=[u64 f]) (l:=([f]:List UInt64)) V) ?_);intro a5 aX aS aP aE b2;have G:=zaa aE;have aL:W64 aX [x] a5 ([f]:List UInt64):=OwK.slk (Sc.stab _) _ aS (fun s K=>(Old.cons (Old.nil _) z.lt) s (aP s K)) (fun _ p=>p.2);replace r:=(r.lift (Lift.call _ a6 Y)).lift (le_ G);replace z:=z.extL (Sc.stab _) G (le_ G);have Q:=aB.trans G;obtain ⟨O,aJ,b⟩:=bsi b;refine wls V V (zav (R:=Sc u64) (v:=x) (u:=a5) (Sc.stab _) [] [] V T137 V V z aL (fun _ _ p=>p) aJ oc_u64 ?_);intro d b7 aT aF aQ aM;replace r:=r.lift aM;have aC:=Q.grown aF Z;have aN:=Nw.nxt Q Z aQ;refine av d V V<|wnt<|W_seq<|W_sr<|av (i64 15) V V<|wnt<|?_;obtain ⟨aZ,a8,b⟩:=bsi b;refine W_mid (fun c h=>∃ a7,aZ=.inl a7/\c 48=undef/\Ext w0 h) ?_ ?_
 ·refine zac<|zau (fun e c h=>c 7=g/\c 8=d/\c 9=i64 e/\c 48=undef/\Ext w0 h/\OwK (Sc u64) h [d] 105 d O/\Nw w0 d/\W64 h [d] g A) a8 ?_ ?_
  ·exact ⟨rfl,rfl,rfl,rfl,aC,aT,aN,r⟩
  rintro e _ _ b3 ⟨D,a4,w,N,H,a0,W,q⟩ a M;refine W_seq<|W_sr<|mv (i64 e) V w<|wa V (q_geI V V V)<|wnt<|wci a V V (fun a=>?_) (fun a=>?_)
  ·refine zae<|W_th<|W_seq<|zac<|W_sr<|av (u64 0) V (cst64 (0:UInt64) V)<|av (u64 0) V (cst64 (0:UInt64) V)<|wnt<|W_seq<|?_;obtain ⟨i,j,a⟩:=bsi a;refine W_mid (fun c h=>c 7=g/\c 8=d/\c 9=i64 e/\c 10=u64 i/\c 11=u64 0/\c 48=undef/\Ext w0 h/\OwK (Sc u64) h [d] 105 d O/\Nw w0 d/\W64 h [d] g A) ?_ ?_
   ·refine W_sr<|mv (i64 e) V w<|mv g V D<|wa V (q_len V T137.sl V q)<|wa V (q_ltI V V V)<|wnt<|wci j V V (fun j=>?_) (fun j=>?_)
    ·refine W_rg<|mv g V D<|mv (i64 e) V w<|bse j fun a9 S j=>wa V (q_adr V T137 V V q S)<|wq V (zao V T137 V q S)<|av (u64 a9) V V<|zag<|?_;obtain rfl:=osi j;exact ⟨D,a4,w,rfl,rfl,N,H,a0,W,q⟩
    refine zae ?_;obtain rfl:=osi j;exact ⟨D,a4,w,rfl,rfl,N,H,a0,W,q⟩
   rintro _ b4 ⟨a3,E,F,B,a2,C,y,t,X,U⟩;refine W_th<|W_seq<|W_sr<|mv (i64 e) V F<|mv d V E<|wa V (q_len V T137.sl V (t.rd (Sc.stab _)))<|wa V (q_ltI V V V)<|wnt<|wci a V V (fun a=>?_) (fun a=>?_)
   ·refine W_rg<|mv d V E<|mv (i64 e) V F<|bse a fun o T a=>wa V (q_adr V T137 V V (t.rd (Sc.stab _)) T)<|wq V (zao V T137 V (t.rd (Sc.stab _)) T)<|av (u64 o) V V<|wnt<|W_sr<|mv (u64 i) V B<|mv (u64 o) V V<|wa V (q_ne64 V V V)<|wnt<|zam _ V V (fun I=>?_) (fun I=>?_)
    ·replace a:=(if_neg (zbf I)).symm.trans a;refine W_sr<|mv (u64 i) V B<|mv (u64 o) V V<|wa V (q_gt64 V V V)<|av (.bool (decide (o<i))) V V<|wnt<|W_ret<|bk_r<|th_r<|?_;obtain rfl:=osi a;obtain rfl:=M _ rfl;simp only [Sum.elim_inr] at b;refine th_r<|bk_r<|th_r<|th_r<|?_;obtain rfl:=osi b;refine rt1 (.bool (decide (o<i))) V V V C ?_;exact ⟨rfl,y⟩
    replace a:=(if_pos (zbg I)).symm.trans a;refine zae<|bk_n<|W_th<|W_rg<|mv (i64 e) V F<|wa V (za9 V V V)<|av (i64 (wI (e - 1))) V V<|zag<|?_;obtain rfl:=osi a;exact ⟨_,rfl,a3,E,rfl,C,y,t,X,U⟩
   refine zae<|W_th<|W_sr<|mv (u64 i) V B<|mv (u64 0) V a2<|wa V (q_ne64 V V V)<|wnt<|zam _ V V (fun J=>?_) (fun J=>?_)
   ·replace a:=(if_neg (zbf J)).symm.trans a;refine W_sr<|mv (u64 i) V B<|mv (u64 0) V a2<|wa V (q_gt64 V V V)<|av (.bool (decide ((0:UInt64)<i))) V V<|wnt<|W_ret<|bk_r<|th_r<|?_;obtain rfl:=osi a;obtain rfl:=M _ rfl;simp only [Sum.elim_inr] at b;refine th_r<|bk_r<|th_r<|th_r<|?_;obtain rfl:=osi b;refine rt1 (.bool (decide ((0:UInt64)<i))) V V V C ?_;exact ⟨rfl,y⟩
   replace a:=(if_pos (zbg J)).symm.trans a;refine zae<|bk_n<|W_th<|W_rg<|mv (i64 e) V F<|wa V (za9 V V V)<|av (i64 (wI (e - 1))) V V<|zag<|?_;obtain rfl:=osi a;exact ⟨_,rfl,a3,E,rfl,C,y,t,X,U⟩
  refine zar<|th_x<|?_;obtain rfl:=osi a;obtain rfl:=M _ rfl;refine th_x<|bk_x<|?_;exact ⟨_,rfl,N,H⟩
 rintro _ b5 ⟨a7,rfl,aU,aH⟩;simp only [Sum.elim_inl] at b;refine W_th<|W_sr<|av (.bool false) V V<|wnt<|W_ret<|?_;obtain rfl:=osi b;refine rt1 (.bool false) V V V aU ?_;exact ⟨rfl,aH⟩
noncomputable def zd9 (b:UInt64) (c:Int):Option UInt32 :=
((iterC (fun a:UInt64×Int =>
(if 0<=a.2 then
((cnt a.2).bind fun d =>
((zf8 (a.1+(shl64 (1:UInt64) d)) b c).bind fun f =>
(if (!f)=true then
((cnt a.2).bind fun e => some (.inl ((a.1+(shl64 (1:UInt64) e)),wI (a.2 - 1))))
else some (.inl (a.1,wI (a.2 - 1))))))
else some (.inr a.1))) ((0:UInt64),35)).bind fun g => some (g.toUInt32))
theorem zg5 (d:UInt64) (e:Int) (t:UInt32) (w0:World) (g:zd9 d e=some t) :
  Calls Tryz.prog 107 [u64 d,i64 e].toArray w0 (fun v F=>v=.returned (u32 t)/\Ext w0 F):=by
 have w:Ext w0 w0:=Ext.refl w0;unfold zd9 at g;refine zai (n:=25) Tryz.func107 V V V<|W_sr<|av (u32 0) V (cst32 (0:UInt32) V)<|wnt<|W_sr<|av (u64 0) V (cst64 (0:UInt64) V)<|wnt<|W_seq<|W_sr<|av (i64 35) V V<|wnt<|?_;obtain ⟨i,u,g⟩:=bsi g;refine W_mid (fun c p=>c 5=u64 i/\c 25=undef/\Ext w0 p) ?_ ?_
 ·refine zac<|zau (fun b c p=>c 0=u64 d/\c 1=i64 e/\c 5=u64 b.1/\c 6=i64 b.2/\c 25=undef/\Ext w0 p) u ?_ ?_
  ·exact ⟨rfl,rfl,rfl,rfl,rfl,w⟩
  rintro b _ _ I ⟨l,m,h,f,o,s⟩ a A;refine W_seq<|W_sr<|mv (i64 b.2) V f<|wa V (q_geI V V V)<|wnt<|wci a V V (fun a=>?_) (fun a=>?_)
  ·refine zae<|W_th<|W_seq<|zac<|W_sr<|mv (u64 b.1) V h<|mv (i64 b.2) V f<|bse a fun j y a=>wa V (q_shl64 j V (cst64 (1:UInt64) V) V (zew y))<|wa V (q_add64 V V V)<|mv (u64 d) V l<|mv (i64 e) V m<|?_;obtain ⟨C,B,a⟩:=bsi a;refine wls V V (zab (vs:=[u64 (b.1+(shl64 (1:UInt64) j)),u64 d,i64 e]) Tryz.func132 V V V (ar3 V V V) (ref07_above_calls (b.1+(shl64 (1:UInt64) j)) d e  C _  B) ?_);rintro _ J ⟨rfl,G⟩;refine ⟨_,rfl,?_⟩;have r:=s.trans G;refine wa V (q_not V V)<|wnt<|zam _ V V (fun k=>?_) (fun k=>?_)
   ·replace a:=(if_pos k).symm.trans a;refine W_rg<|mv (u64 b.1) V h<|mv (i64 b.2) V f<|bse a fun q z a=>wa V (q_shl64 q V (cst64 (1:UInt64) V) V (zew z))<|wa V (q_add64 V V V)<|av (u64 (b.1+(shl64 (1:UInt64) q))) V V<|zag<|bk_n<|W_th<|W_rg<|mv (i64 b.2) V f<|wa V (za9 V V V)<|av (i64 (wI (b.2 - 1))) V V<|zag<|?_;obtain rfl:=osi a;exact ⟨_,rfl,l,m,rfl,rfl,o,r⟩
   replace a:=(if_neg (ne_true_of_eq_false k)).symm.trans a;refine zae<|bk_n<|W_th<|W_rg<|mv (i64 b.2) V f<|wa V (za9 V V V)<|av (i64 (wI (b.2 - 1))) V V<|zag<|?_;obtain rfl:=osi a;exact ⟨_,rfl,l,m,h,rfl,o,r⟩
  refine zar<|th_x<|?_;obtain rfl:=osi a;obtain rfl:=A _ rfl;refine th_x<|bk_x<|?_;exact ⟨h,o,s⟩
 rintro _ H ⟨E,D,x⟩;refine W_th<|W_sr<|mv (u64 i) V E<|wa V (q_cvt3264 V V V V)<|av (u32 (i.toUInt32)) V V<|wnt<|W_ret<|?_;obtain rfl:=osi g;refine rt1 (u32 (i.toUInt32)) V V V D ?_;exact ⟨rfl,x⟩
noncomputable def zg0 (d:Int):Option (List UInt64) :=
((iterC (fun a:List UInt64×UInt64 =>
(if (a.1.length:Int)<d then
((iterC (fun b:Bool×Int =>
(if b.2<(a.1.length:Int) then
((idx a.1 b.2).bind fun c =>
(if b.1=true then
((nz c).bind fun h => some (.inl ((!decide ((a.2 % c)=(0:UInt64))),wI (b.2+1))))
else some (.inl (false,wI (b.2+1)))))
else some (.inr b.1))) (true,0)).bind fun g =>
(if g=true then
((appL a.1 ([a.2]:List UInt64)).bind fun e => some (.inl (e,(a.2+(1:UInt64)))))
else some (.inl (a.1,(a.2+(1:UInt64))))))
else some (.inr a.1))) (([]:List UInt64),(2:UInt64))).bind fun f => some f)
theorem ref07_Primes_calls (h:Int) (U:List UInt64) (w0:World) (k:zg0 h=some U) :
  Calls Tryz.prog 106 [i64 h].toArray w0 (fun a9 a5=>∃ J:Value,a9=.returned J/\Ext w0 a5/\Nw w0 J/\OwK (Sc u64) a5 [] 105 J U):=by
 have N:Ext w0 w0:=Ext.refl w0;unfold zg0 at k;refine zai (n:=35) Tryz.func106 V V V<|W_sr<|av (.slice none 0 0) V V<|wnt<|W_sr<|wls V V (zaz (L:=[]) (R:=Sc u64) [] ([]:List UInt64) V T137 V (by exact trivial) V (litC u64 zj1 (us:=[]) (l:=([]:List UInt64)) V) V (litS u64 (us:=[]) (l:=([]:List UInt64)) V) ?_);intro a2 b8 aT aN aC b5;have b1:=zaa aC;have aQ:=Nw.ext N aN;have aB:=N.trans b1;refine av a2 V V<|wnt<|W_seq<|W_sr<|av (u64 2) V (cst64 (2:UInt64) V)<|wnt<|?_;obtain ⟨b2,a7,k⟩:=bsi k;refine W_mid (fun b f=>∃ w:Value,b 3=w/\b 35=undef/\Ext w0 f/\OwK (Sc u64) f [w] 105 w b2/\Nw w0 w) ?_ ?_
 ·refine zac<|zau (fun a b f=>∃ s:Value,b 0=i64 h/\b 3=s/\b 4=u64 a.2/\b 35=undef/\Ext w0 f/\OwK (Sc u64) f [s] 105 s a.1/\Nw w0 s) a7 ?_ ?_
  ·exact ⟨a2,rfl,rfl,rfl,rfl,aB,aT,aQ⟩
  rintro a _ _ bC ⟨c,X,q,aY,Z,P,o,T⟩ d aJ;refine W_seq<|W_sr<|mv c V q<|wa V (q_len V T137.sl V (o.rd (Sc.stab _)))<|mv (i64 h) V X<|wa V (q_ltI V V V)<|wnt<|wci d V V (fun d=>?_) (fun d=>?_)
  ·refine zae<|W_th<|W_seq<|zac<|W_sr<|av (.bool true) V V<|wnt<|W_seq<|W_sr<|mv c V q<|wa V (q_len V T137.sl V (o.rd (Sc.stab _)))<|mv (i64 0) V V<|wnt<|?_;obtain ⟨a6,a8,d⟩:=bsi d;refine W_mid (fun b f=>b 0=i64 h/\b 3=c/\b 4=u64 a.2/\b 5=(.bool a6)/\b 35=undef/\Ext w0 f/\OwK (Sc u64) f [c] 105 c a.1/\Nw w0 c) ?_ ?_
   ·refine zac<|zau (fun g b f=>b 0=i64 h/\b 3=c/\b 4=u64 a.2/\b 5=(.bool g.1)/\b 15=c/\b 16=i64 (a.1.length:Int)/\b 17=i64 g.2/\b 35=undef/\Ext w0 f/\OwK (Sc u64) f [c] 105 c a.1/\Nw w0 c) a8 ?_ ?_
    ·exact ⟨X,q,aY,rfl,rfl,rfl,rfl,Z,P,o,T⟩
    rintro g _ _ bD ⟨D,H,r,a1,E,F,p,G,y,j,C⟩ e aK;refine W_sr<|wa V (q_ltI V p F)<|wnt<|W_seq<|wci e V V (fun e=>?_) (fun e=>?_)
    ·refine zae<|W_th<|W_seq<|zac<|W_sr<|bse e fun m Q e=>wa V (q_adr V T137 E p (j.rd (Sc.stab _)) Q)<|wq V (zao V T137 V (j.rd (Sc.stab _)) Q)<|av (u64 m) V V<|wnt<|W_rg<|mv (.bool g.1) V a1<|wlb V V (zbd (v:=(.bool g.1)) V V) (fun z=>?_) (fun z=>?_)
     ·replace e:=(if_pos z).symm.trans e;refine mv (u64 a.2) V r<|mv (u64 m) V V<|bse e fun b3 aG e=>wa V (q_rem64 V V V (nz_ne aG))<|wa V (q_ne64 V V (cst64 (0:UInt64) V))<|wa V (zaw (v:=(.bool (!decide ((a.2 % m)=(0:UInt64))))) V V V)<|av (.bool (!decide ((a.2 % m)=(0:UInt64)))) V V<|zag<|bk_n<|W_th<|W_rg<|wa V (zak V p V)<|mv (i64 (wI (g.2+1))) V V<|zag<|?_;obtain rfl:=osi e;exact ⟨_,rfl,D,H,r,rfl,E,F,rfl,G,y,j,C⟩
     replace e:=(if_neg (ne_true_of_eq_false z)).symm.trans e;refine wk V<|wk V<|wk V<|wk V<|wa V (zaq (v:=(.bool false)) V V V)<|av (.bool false) V V<|zag<|bk_n<|W_th<|W_rg<|wa V (zak V p V)<|mv (i64 (wI (g.2+1))) V V<|zag<|?_;obtain rfl:=osi e;exact ⟨_,rfl,D,H,r,rfl,E,F,rfl,G,y,j,C⟩
    refine zar<|th_x<|?_;obtain rfl:=osi e;obtain rfl:=aK _ rfl;refine th_x<|bk_x<|?_;exact ⟨D,H,r,a1,G,y,j,C⟩
   rintro _ b9 ⟨W,a0,I,aZ,Y,O,i,B⟩;refine W_th<|W_sr<|mv (.bool a6) V aZ<|wnt<|zam _ V V (fun A=>?_) (fun A=>?_)
   ·replace d:=(if_pos A).symm.trans d;refine W_rg<|mv c V a0<|mv (u64 a.2) V I<|wls V V (zaz (L:=[c]) (R:=Sc u64) [u64 a.2] ([a.2]:List UInt64) V T137 V (by exact ⟨rfl,rfl,trivial⟩) V (litC u64 zj1 (us:=[u64 a.2]) (l:=([a.2]:List UInt64)) V) V (litS u64 (us:=[u64 a.2]) (l:=([a.2]:List UInt64)) V) ?_);intro a3 b0 aU aO aD b6;have K:=zaa aD;have aL:W64 b0 [c] a3 ([a.2]:List UInt64):=OwK.slk (Sc.stab _) _ aU (fun S aI=>(Old.cons (Old.nil _) i.lt) S (aO S aI)) (fun _ x=>x.2);replace i:=i.extL (Sc.stab _) K (le_ K);have M:=O.trans K;obtain ⟨b4,aH,d⟩:=bsi d;refine wls V V (zav (R:=Sc u64) (v:=c) (u:=a3) (Sc.stab _) [] [] V T137 V V i aL (fun _ _ x=>x) aH oc_u64 ?_);intro a4 bA aV aE aR b7;have aA:=M.grown aE B;have aP:=Nw.nxt M B aR;refine av a4 V V<|zag<|bk_n<|W_th<|W_rg<|mv (u64 a.2) V I<|wa V (q_add64 V V (cst64 (1:UInt64) V))<|av (u64 (a.2+(1:UInt64))) V V<|zag ?_;obtain rfl:=osi d;exact ⟨_,rfl,a4,W,rfl,rfl,Y,aA,aV,aP⟩
   replace d:=(if_neg (ne_true_of_eq_false A)).symm.trans d;refine zae<|bk_n<|W_th<|W_rg<|mv (u64 a.2) V I<|wa V (q_add64 V V (cst64 (1:UInt64) V))<|av (u64 (a.2+(1:UInt64))) V V<|zag<|?_;obtain rfl:=osi d;exact ⟨_,rfl,c,W,a0,rfl,Y,O,i,B⟩
  refine zar<|th_x<|?_;obtain rfl:=osi d;obtain rfl:=aJ _ rfl;refine th_x<|bk_x<|?_;exact ⟨c,q,Z,P,o,T⟩
 rintro _ bB ⟨t,aX,aW,aF,aS,aM⟩;refine W_th<|W_sr<|mv t V aX<|av t V V<|wnt<|W_ret<|?_;obtain rfl:=osi k;refine rt1 t V V V aW ?_;exact ⟨t,rfl,aF,aM,aS.weak (Sc.stab _) (fun _ _=>trivial)⟩
noncomputable def ref07_Sum (A:List UInt8):Option (List UInt8) :=
((lenA 64 (List.replicate 64 (0:UInt32))).bind fun aY =>
((lenA 8 (List.replicate 8 (0:UInt32))).bind fun aH =>
((zg0 64).bind fun J =>
((iterC (fun b:List UInt32×List UInt32×Int =>
(if b.2.2<(J.length:Int) then
((idx J b.2.2).bind fun I =>
((zd9 I 3).bind fun N =>
((lenA 64 b.1).bind fun aT =>
((idx b.1 b.2.2).bind fun aU =>
(if b.2.2<8 then
((zd9 I 2).bind fun a9 =>
((lenA 8 b.2.1).bind fun aV =>
((idx b.2.1 b.2.2).bind fun aW => some (.inl (b.1.set (b.2.2:Int).toNat N,b.2.1.set (b.2.2:Int).toNat a9,wI (b.2.2+1))))))
else some (.inl (b.1.set (b.2.2:Int).toNat N,b.2.1,wI (b.2.2+1))))))))
else some (.inr (b.1,b.2.1)))) (List.replicate 64 (0:UInt32),List.replicate 8 (0:UInt32),0)).bind fun y =>
((appL ([]:List UInt8) A).bind fun Z =>
((appL Z ([(128:UInt8)]:List UInt8)).bind fun a0 =>
((iterC (fun w:List UInt8 =>
((remI (w.length:Int) 64).bind fun a1 =>
(if a1=56 then some (.inr w)
else
((appL w ([(0:UInt8)]:List UInt8)).bind fun a2 => some (.inl a2))))) a0).bind fun aC =>
((iterC (fun h:List UInt8×Int =>
(if 0<=h.2 then
((cnt h.2).bind fun a3 =>
((appL h.1 ([((shr64 ((UInt64.ofInt (A.length:Int)) * (8:UInt64)) a3).toUInt8)]:List UInt8)).bind fun a4 => some (.inl (a4,wI (h.2 - 8)))))
else some (.inr h.1))) (aC,56)).bind fun i =>
((iterC (fun d:List UInt32×Int =>
(if d.2<(i.length:Int) then
((lenA 64 (List.replicate 64 (0:UInt32))).bind fun aX =>
((lenA 8 d.1).bind fun aZ =>
((lenA 8 (List.replicate 8 (0:UInt32))).bind fun aD =>
((iterC (fun a:List UInt32×List UInt32×Int =>
(if a.2.2<64 then
((if a.2.2<16 then
((idx i (wI (d.2+(wI (4 * a.2.2))))).bind fun P =>
((idx i (wI ((wI (d.2+(wI (4 * a.2.2))))+1))).bind fun Q =>
((idx i (wI ((wI (d.2+(wI (4 * a.2.2))))+2))).bind fun R =>
((idx i (wI ((wI (d.2+(wI (4 * a.2.2))))+3))).bind fun S =>
((lenA 64 a.1).bind fun aE =>
((idx a.1 a.2.2).bind fun aF => some (a.1.set (a.2.2:Int).toNat ((((shl32 (P.toUInt32) 24) ||| (shl32 (Q.toUInt32) 16)) ||| (shl32 (R.toUInt32) 8)) ||| (S.toUInt32)))))))))
else
((lenA 64 a.1).bind fun aG =>
((idx a.1 (wI (a.2.2 - 2))).bind fun u =>
((idx a.1 (wI (a.2.2 - 7))).bind fun T =>
((idx a.1 (wI (a.2.2 - 15))).bind fun v =>
((idx a.1 (wI (a.2.2 - 16))).bind fun U =>
((za5 u 17).bind fun a5 =>
((za5 u 19).bind fun a6 =>
((za5 v 7).bind fun a7 =>
((za5 v 18).bind fun a8 =>
((idx a.1 a.2.2).bind fun aI => some (a.1.set (a.2.2:Int).toNat (((((a5^^^a6)^^^(shr32 u 10))+T)+((a7^^^a8)^^^(shr32 v 3)))+U))))))))))))).bind fun x =>
((lenA 8 a.2.1).bind fun aJ =>
((idx a.2.1 7).bind fun j =>
((idx a.2.1 4).bind fun c =>
((idx a.2.1 5).bind fun k =>
((idx a.2.1 6).bind fun l =>
((lenA 64 y.1).bind fun aK =>
((idx y.1 a.2.2).bind fun m =>
((lenA 64 x).bind fun aL =>
((idx x a.2.2).bind fun n =>
((za5 c 6).bind fun r =>
((za5 c 11).bind fun s =>
((za5 c 25).bind fun t =>
((lenA 8 a.2.1).bind fun aM =>
((idx a.2.1 0).bind fun f =>
((idx a.2.1 1).bind fun o =>
((idx a.2.1 2).bind fun p =>
((za5 f 2).bind fun K =>
((za5 f 13).bind fun L =>
((za5 f 22).bind fun M =>
((lenA 8 a.2.1).bind fun aN =>
((idx a.2.1 0).bind fun B =>
((idx a.2.1 1).bind fun C =>
((idx a.2.1 2).bind fun D =>
((idx a.2.1 3).bind fun E =>
((idx a.2.1 4).bind fun F =>
((idx a.2.1 5).bind fun G =>
((idx a.2.1 6).bind fun H =>
((lenA 8 ([(((((j+((r^^^s)^^^t))+((c &&& k)^^^(((4294967295:UInt32)^^^c) &&& l)))+m)+n)+(((K^^^L)^^^M)+(((f &&& o)^^^(f &&& p))^^^(o &&& p)))),B,C,D,(E+((((j+((r^^^s)^^^t))+((c &&& k)^^^(((4294967295:UInt32)^^^c) &&& l)))+m)+n)),F,G,H]:List UInt32)).bind fun aO => some (.inl (x,([(((((j+((r^^^s)^^^t))+((c &&& k)^^^(((4294967295:UInt32)^^^c) &&& l)))+m)+n)+(((K^^^L)^^^M)+(((f &&& o)^^^(f &&& p))^^^(o &&& p)))),B,C,D,(E+((((j+((r^^^s)^^^t))+((c &&& k)^^^(((4294967295:UInt32)^^^c) &&& l)))+m)+n)),F,G,H]:List UInt32),wI (a.2.2+1))))))))))))))))))))))))))))))))
else some (.inr a.2.1))) (List.replicate 64 (0:UInt32),d.1,0)).bind fun O =>
((iterC (fun e:List UInt32×Int =>
(if e.2<8 then
((lenA 8 e.1).bind fun aP =>
((idx e.1 e.2).bind fun W =>
((lenA 8 O).bind fun aQ =>
((idx O e.2).bind fun X => some (.inl (e.1.set (e.2:Int).toNat (W+X),wI (e.2+1)))))))
else some (.inr e.1))) (d.1,0)).bind fun aA => some (.inl (aA,wI (d.2+64))))))))
else some (.inr d.1))) (y.2,0)).bind fun z =>
((lenA 8 z).bind fun aR =>
((iterC (fun g:List UInt8×Int =>
(if g.2<8 then
((lenA 8 z).bind fun aS =>
((idx z g.2).bind fun q =>
((appL g.1 ([((shr32 q 24).toUInt8),((shr32 q 16).toUInt8),((shr32 q 8).toUInt8),q.toUInt8]:List UInt8)).bind fun Y => some (.inl (Y,wI (g.2+1))))))
else some (.inr g.1))) (([]:List UInt8),0)).bind fun aB => some aB)))))))))))
theorem ref07_Sum_calls (a1:List UInt8) (Z:Value) (hA:List UInt8) (w0:World) (gA:By w0 [] Z a1) (s:ref07_Sum a1=some hA) :
  Calls Tryz.prog 77 [Z].toArray w0 (fun iW iB=>∃ eN:Value,iW=.returned eN/\Ext w0 iB/\Nw w0 eN/\OwK (Sc u8) iB [] 5 eN hA):=by
 have fA:Ext w0 w0:=Ext.refl w0;unfold ref07_Sum at s;refine zai (n:=288) Tryz.func77 V V V<|W_sr<|av (.slice none 0 0) V V<|wnt<|W_sr<|wa V (zjx (l:=([]:List UInt32)) (us:=[]) (z:=(0:UInt32)) V A136 Z136 (by exact trivial) V V cel_u32)<|wa V (zjx (l:=([]:List UInt32)) (us:=[]) (z:=(0:UInt32)) V A115 Z115 (by exact trivial) V V cel_u32)<|wls V V (sal u32 (List.replicate 64 (0:UInt32)) [] V Z136 ?_);intro c r6 cK lZ jX qO;have pQ:=zaa jX;have gJ:=Nw.ext fA lZ;have eZ:=fA.trans pQ;refine wls V V (sal u32 (List.replicate 8 (0:UInt32)) [bp c] V Z115 ?_);intro a rZ dV gL k2 qU;have iF:=zaa k2;have e8:Nq (bp c) (bp a):=cK.nq gL;replace cK:=cK.ext iF;have gO:=Nw.ext eZ gL;have jR:=eZ.trans iF;obtain ⟨qM,g8,s⟩:=bsi s;refine wln V V (zbm [bp a] [] V A136 V V (zad g8) (zad g8) cK zdo ?_);intro s8 bH f9 r2;replace dV:=dV.other f9 e8.symm;have iX:=jR.grown f9 gJ;obtain ⟨pZ,fM,s⟩:=bsi s;refine wln V V (zbm [] [bp c] V A115 V V (zad fM) (zad fM) dV zdo ?_);intro r7 cL f6 qP;replace bH:=bH.other f6 e8;have j5:=iX.grown f6 gO;refine wnt<|W_seq<|W_sr<|?_;obtain ⟨cU,l0,s⟩:=bsi s;refine wls V V (zab (vs:=[i64 64]) Tryz.func106 V V V (ar1 V) (ref07_Primes_calls 64  cU _  l0) ?_);rintro _ pJ ⟨cZ,rfl,eP,m0,mY⟩;refine ⟨_,rfl,?_⟩;have gB:W64 pJ [bp a,bp c] cZ cU:=OwK.slk (Sc.stab _) _ (OwK.scal mY (cZ::[bp a,bp c])) (fun J a4=>(Old.cons (Old.cons (Old.nil _) bH.ltB) cL.ltB) J (m0 J a4)) (fun _ h=>h.2);replace cL:=cL.ext eP;replace bH:=bH.ext eP;have jA:=j5.trans eP;refine wa V (q_len V T137.sl V gB)<|mv (i64 0) V V<|wnt<|?_;obtain ⟨D,iI,s⟩:=bsi s;refine W_mid (fun d e=>d 0=Z/\d 3=bp c/\d 4=bp a/\d 288=undef/\Ext w0 e/\Blk e c 136 (ac u32 D.1)/\Nw w0 (bp c)/\Blk e a 115 (ac u32 D.2)/\Nw w0 (bp a)/\Nq (bp c) (bp a)) ?_ ?_
 ·refine zac<|zau (fun U d e=>d 0=Z/\d 3=bp c/\d 4=bp a/\d 21=cZ/\d 22=i64 (cU.length:Int)/\d 23=i64 U.2.2/\d 288=undef/\Ext w0 e/\Blk e c 136 (ac u32 U.1)/\Nw w0 (bp c)/\Blk e a 115 (ac u32 U.2.1)/\Nw w0 (bp a)/\Nq (bp c) (bp a)/\W64 e [bp c,bp a] cZ cU) iI ?_ ?_
  ·exact ⟨rfl,rfl,rfl,rfl,rfl,rfl,rfl,jA,bH,gJ,cL,gO,e8,gB.lift (Lift.sub (fun _ h=>⟨h.2.1,h.1,trivial⟩))⟩
  rintro U _ _ rJ ⟨e9,cW,cX,eC,eD,c3,eH,fB,cI,cF,b1,cG,bZ,aC⟩ t l5;refine W_sr<|wa V (q_ltI V c3 eD)<|wnt<|W_seq<|wci t V V (fun t=>?_) (fun t=>?_)
  ·refine zae<|W_th<|W_seq<|zac<|W_sr<|mv (i64 U.2.2) V c3<|bse t fun b0 g4 t=>wa V (q_adr V T137 eC c3 aC g4)<|wq V (zao V T137 V aC g4)<|av (i64 U.2.2) V V<|av (u64 b0) V V<|wnt<|W_sr<|mv (i64 U.2.2) V V<|mv (u64 b0) V V ?_;obtain ⟨hF,l9,t⟩:=bsi t;refine wls V V (zab (vs:=[u64 b0,i64 3]) Tryz.func107 V V V (ar2 V V) (zg5 b0 3  hF _  l9) ?_);rintro _ rQ ⟨rfl,d6⟩;refine ⟨_,rfl,?_⟩;replace cI:=cI.ext d6;have jM:=fB.trans d6;obtain ⟨qC,kN,t⟩:=bsi t;obtain ⟨qD,g5,t⟩:=bsi t;refine wa V (q_ixA (m:=0) V A136 (by exact cW) V (zad kN) g5)<|wln V V (zcz (b:=hF) [] [bp a] V A136 V V cI g5 (zdo _) ?_);intro rU cN f7 lN;replace aC:=(aC.lift (le_ d6)).lift lN;replace b1:=(b1.ext d6).other f7 bZ.symm;have f1:=jM.grown f7 cF;refine wnt<|W_sr<|mv (i64 U.2.2) V V<|wa V (q_ltI V V V)<|wnt<|wci t V V (fun t=>?_) (fun t=>?_)
   ·refine W_rg<|mv (i64 U.2.2) V V<|mv (u64 b0) V V<|?_;obtain ⟨hG,lB,t⟩:=bsi t;refine wls V V (zab (vs:=[u64 b0,i64 2]) Tryz.func107 V V V (ar2 V V) (zg5 b0 2  hG _  lB) ?_);rintro _ rV ⟨rfl,d7⟩;refine ⟨_,rfl,?_⟩;replace b1:=b1.ext d7;have jN:=f1.trans d7;obtain ⟨qE,kO,t⟩:=bsi t;obtain ⟨qF,g6,t⟩:=bsi t;refine wa V (q_ixA (m:=0) V A115 (by exact cX) V (zad kO) g6)<|wln V V (zcz (b:=hG) [bp c] [] V A115 V V b1 g6 (zdo _) ?_);intro rW nC f8 lO;replace aC:=(aC.lift (le_ d7)).lift lO;replace cN:=(cN.ext d7).other f8 bZ;have jO:=jN.grown f8 cG;refine zag<|bk_n<|W_th<|W_rg<|wa V (zak V c3 V)<|mv (i64 (wI (U.2.2+1))) V V<|zag<|?_;obtain rfl:=osi t;exact ⟨_,rfl,e9,cW,cX,eC,eD,rfl,eH,jO,cN,cF,nC,cG,bZ,aC⟩
   refine zae<|bk_n<|W_th<|W_rg<|wa V (zak V c3 V)<|mv (i64 (wI (U.2.2+1))) V V<|zag<|?_;obtain rfl:=osi t;exact ⟨_,rfl,e9,cW,cX,eC,eD,rfl,eH,f1,cN,cF,b1,cG,bZ,aC⟩
  refine zar<|th_x<|?_;obtain rfl:=osi t;obtain rfl:=l5 _ rfl;refine th_x<|bk_x<|?_;exact ⟨e9,cW,cX,eH,fB,cI,cF,b1,cG,bZ⟩
 rintro _ rX ⟨hH,oY,p6,oT,fF,O,lV,P,m6,nR⟩;refine W_th<|W_sr<|wls V V (zaz (L:=[bp c,bp a]) (R:=Sc u8) [] ([]:List UInt8) V T22 V (by exact trivial) V (litC u8 zbi (us:=[]) (l:=([]:List UInt8)) V) V (litS u8 (us:=[]) (l:=([]:List UInt8)) V) ?_);intro eO rY nD dO k0 qT;have eR:=zaa k0;have gY:Nq (bp c) eO:=O.nq dO;have gZ:Nq (bp a) eO:=P.nq dO;replace O:=O.ext eR;replace P:=P.ext eR;have gK:=Nw.ext fF dO;have d8:=fF.trans eR;refine mv Z V hH ?_;obtain ⟨qG,kP,s⟩:=bsi s;refine wls V V (zav (R:=Sc u8) (v:=eO) (u:=Z) (Sc.stab _) [] [bp c,bp a] V T22 V V nD (gA.lift (le_ d8)) (fun _ _ h=>h) kP oc_u8 ?_);intro b6 s0 cO d9 dQ qV;have h1:Nq (bp c) b6:=O.nxt gY dQ;have h2:Nq (bp a) b6:=P.nxt gZ dQ;replace O:=O.other d9 gY;replace P:=P.other d9 gZ;have jP:=d8.grown d9 gK;have gM:=Nw.nxt d8 gK dQ;refine av b6 V V<|wnt<|W_sr<|mv b6 V V<|wls V V (zaz (L:=[b6,bp c,bp a]) (R:=Sc u8) [u8 128] ([(128:UInt8)]:List UInt8) V T22 V (by exact ⟨rfl,cst8 (128:UInt8) V,trivial⟩) V (litC u8 zbi (us:=[u8 128]) (l:=([(128:UInt8)]:List UInt8)) V) V (litS u8 (us:=[u8 128]) (l:=([(128:UInt8)]:List UInt8)) V) ?_);intro i8 pN nF mK k1 qW;have c6:=zaa k1;have lG:By pN [b6,bp c,bp a] i8 ([(128:UInt8)]:List UInt8):=OwK.slk (Sc.stab _) _ nF (fun J a4=>(Old.cons (Old.cons (Old.cons (Old.nil _) P.ltB) O.ltB) cO.lt) J (mK J a4)) (fun _ h=>h.2);replace cO:=cO.extL (Sc.stab _) c6 (le_ c6);replace O:=O.ext c6;replace P:=P.ext c6;have f2:=jP.trans c6;obtain ⟨qH,kQ,s⟩:=bsi s;refine wls V V (zav (R:=Sc u8) (v:=b6) (u:=i8) (Sc.stab _) [] [bp c,bp a] V T22 V V cO lG (fun _ _ h=>h) kQ oc_u8 ?_);intro d3 s1 nG dA dR qX;have oF:Nq (bp c) d3:=O.nxt h1 dR;have oG:Nq (bp a) d3:=P.nxt h2 dR;replace O:=O.other dA h1;replace P:=P.other dA h2;have jQ:=f2.grown dA gM;have mL:=Nw.nxt f2 gM dR;refine av d3 V V<|wnt<|W_seq<|?_;obtain ⟨pU,iL,s⟩:=bsi s;refine W_mid (fun d e=>∃ bJ:Value,d 0=Z/\d 3=bp c/\d 4=bp a/\d 7=bJ/\d 288=undef/\Ext w0 e/\OwK (Sc u8) e [bJ,bp c,bp a] 5 bJ pU/\Nw w0 bJ/\Blk e c 136 (ac u32 D.1)/\Nw w0 (bp c)/\Blk e a 115 (ac u32 D.2)/\Nw w0 (bp a)/\Nq bJ (bp c)/\Nq bJ (bp a)/\Nq (bp c) (bp a)) ?_ ?_
 ·refine zac<|zau (fun hZ d e=>∃ bL:Value,d 0=Z/\d 3=bp c/\d 4=bp a/\d 7=bL/\d 288=undef/\Ext w0 e/\OwK (Sc u8) e [bL,bp c,bp a] 5 bL hZ/\Nw w0 bL/\Blk e c 136 (ac u32 D.1)/\Nw w0 (bp c)/\Blk e a 115 (ac u32 D.2)/\Nw w0 (bp a)/\Nq bL (bp c)/\Nq bL (bp a)/\Nq (bp c) (bp a)) iL ?_ ?_
  ·exact ⟨d3,hH,oY,p6,rfl,oT,jQ,nG,mL,O,lV,P,m6,oF.symm,oG.symm,nR⟩
  rintro hZ _ _ s2 ⟨bK,hI,hV,hX,eL,hQ,fG,bF,dJ,aE,gE,aG,gG,dX,e1,gT⟩ W lC;refine W_seq<|W_sr<|mv bK V eL<|wa V (q_len V T22.sl V (bF.rd (Sc.stab _)))<|bse W fun qI kR W=>wa V (zdm V V V kR)<|wa V (q_neI V V V)<|wnt<|zam _ V V (fun dG=>?_) (fun dG=>?_)
  ·replace W:=(if_neg (zbf dG)).symm.trans W;refine zae<|W_th<|zac<|W_rg<|mv bK V eL<|wls V V (zaz (L:=[bK,bp c,bp a]) (R:=Sc u8) [u8 0] ([(0:UInt8)]:List UInt8) V T22 V (by exact ⟨rfl,cst8 (0:UInt8) V,trivial⟩) V (litC u8 zbi (us:=[u8 0]) (l:=([(0:UInt8)]:List UInt8)) V) V (litS u8 (us:=[u8 0]) (l:=([(0:UInt8)]:List UInt8)) V) ?_);intro i9 pO nH mM k3 qY;have c7:=zaa k3;have lH:By pO [bK,bp c,bp a] i9 ([(0:UInt8)]:List UInt8):=OwK.slk (Sc.stab _) _ nH (fun J a4=>(Old.cons (Old.cons (Old.cons (Old.nil _) aG.ltB) aE.ltB) bF.lt) J (mM J a4)) (fun _ h=>h.2);replace bF:=bF.extL (Sc.stab _) c7 (le_ c7);replace aE:=aE.ext c7;replace aG:=aG.ext c7;have f3:=fG.trans c7;obtain ⟨qJ,kS,W⟩:=bsi W;refine wls V V (zav (R:=Sc u8) (v:=bK) (u:=i9) (Sc.stab _) [] [bp c,bp a] V T22 V V bF lH (fun _ _ h=>h) kS oc_u8 ?_);intro d4 s3 nI dB dS qZ;have oH:Nq (bp c) d4:=aE.nxt dX.symm dS;have oI:Nq (bp a) d4:=aG.nxt e1.symm dS;replace aE:=aE.other dB dX.symm;replace aG:=aG.other dB e1.symm;have jS:=f3.grown dB dJ;have mN:=Nw.nxt f3 dJ dS;refine av d4 V V<|zag<|bk_n<|?_;obtain rfl:=osi W;exact ⟨_,rfl,d4,hI,hV,hX,rfl,hQ,jS,nI,mN,aE,gE,aG,gG,oH.symm,oI.symm,gT⟩
  replace W:=(if_pos (zbg dG)).symm.trans W;refine zar<|th_x<|?_;obtain rfl:=osi W;obtain rfl:=lC _ rfl;refine th_x<|bk_x<|?_;exact ⟨bK,hI,hV,hX,eL,hQ,fG,bF,dJ,aE,gE,aG,gG,dX,e1,gT⟩
 rintro _ s4 ⟨pH,oL,oZ,p7,pC,oU,kB,mU,lW,n4,m7,nA,mF,nS,nY,o7⟩;refine W_th<|W_seq<|W_sr<|av (i64 56) V V<|wnt<|?_;obtain ⟨bB,iM,s⟩:=bsi s;refine W_mid (fun d e=>∃ bI:Value,d 3=bp c/\d 4=bp a/\d 7=bI/\d 288=undef/\Ext w0 e/\OwK (Sc u8) e [bI,bp c,bp a] 5 bI bB/\Nw w0 bI/\Blk e c 136 (ac u32 D.1)/\Nw w0 (bp c)/\Blk e a 115 (ac u32 D.2)/\Nw w0 (bp a)/\Nq bI (bp c)/\Nq bI (bp a)/\Nq (bp c) (bp a)) ?_ ?_
 ·refine zac<|zau (fun b3 d e=>∃ bM:Value,d 0=Z/\d 3=bp c/\d 4=bp a/\d 7=bM/\d 8=i64 b3.2/\d 288=undef/\Ext w0 e/\OwK (Sc u8) e [bM,bp c,bp a] 5 bM b3.1/\Nw w0 bM/\Blk e c 136 (ac u32 D.1)/\Nw w0 (bp c)/\Blk e a 115 (ac u32 D.2)/\Nw w0 (bp a)/\Nq bM (bp c)/\Nq bM (bp a)/\Nq (bp c) (bp a)) iM ?_ ?_
  ·exact ⟨pH,oL,oZ,p7,pC,rfl,oU,kB,mU,lW,n4,m7,nA,mF,nS,nY,o7⟩
  rintro b3 _ _ s5 ⟨c5,hJ,hW,hY,i1,eM,hR,dE,bX,dK,aF,gF,aH,gH,dY,e2,gU⟩ a0 lD;refine W_seq<|W_sr<|mv (i64 b3.2) V eM<|wa V (q_geI V V V)<|wnt<|wci a0 V V (fun a0=>?_) (fun a0=>?_)
  ·refine zae<|W_th<|W_seq<|zac<|W_rg<|mv c5 V i1<|mv Z V hJ<|wa V (q_len V T22.sl V (gA.lift (le_ dE)))<|wa V (zgi V V V V)<|wa V (q_mul64 V V (cst64 (8:UInt64) V))<|mv (i64 b3.2) V eM<|bse a0 fun a9 kT a0=>wa V (q_shr64 a9 V V V (zew kT))<|wa V (q_cvt864 V V V V)<|wls V V (zaz (L:=[c5,bp c,bp a]) (R:=Sc u8) [u8 ((shr64 ((UInt64.ofInt (a1.length:Int)) * (8:UInt64)) a9).toUInt8)] ([((shr64 ((UInt64.ofInt (a1.length:Int)) * (8:UInt64)) a9).toUInt8)]:List UInt8) V T22 V (by exact ⟨rfl,rfl,trivial⟩) V (litC u8 zbi (us:=[u8 ((shr64 ((UInt64.ofInt (a1.length:Int)) * (8:UInt64)) a9).toUInt8)]) (l:=([((shr64 ((UInt64.ofInt (a1.length:Int)) * (8:UInt64)) a9).toUInt8)]:List UInt8)) V) V (litS u8 (us:=[u8 ((shr64 ((UInt64.ofInt (a1.length:Int)) * (8:UInt64)) a9).toUInt8)]) (l:=([((shr64 ((UInt64.ofInt (a1.length:Int)) * (8:UInt64)) a9).toUInt8)]:List UInt8)) V) ?_);intro iA pP nJ mO k4 r0;have c8:=zaa k4;have lI:By pP [c5,bp c,bp a] iA ([((shr64 ((UInt64.ofInt (a1.length:Int)) * (8:UInt64)) a9).toUInt8)]:List UInt8):=OwK.slk (Sc.stab _) _ nJ (fun J a4=>(Old.cons (Old.cons (Old.cons (Old.nil _) aH.ltB) aF.ltB) bX.lt) J (mO J a4)) (fun _ h=>h.2);replace bX:=bX.extL (Sc.stab _) c8 (le_ c8);replace aF:=aF.ext c8;replace aH:=aH.ext c8;have f4:=dE.trans c8;obtain ⟨qK,kU,a0⟩:=bsi a0;refine wls V V (zav (R:=Sc u8) (v:=c5) (u:=iA) (Sc.stab _) [] [bp c,bp a] V T22 V V bX lI (fun _ _ h=>h) kU oc_u8 ?_);intro d5 s6 nK dC dT r1;have oJ:Nq (bp c) d5:=aF.nxt dY.symm dT;have oK:Nq (bp a) d5:=aH.nxt e2.symm dT;replace aF:=aF.other dC dY.symm;replace aH:=aH.other dC e2.symm;have jT:=f4.grown dC dK;have mP:=Nw.nxt f4 dK dT;refine av d5 V V<|zag<|bk_n<|W_th<|W_rg<|mv (i64 b3.2) V eM<|wa V (za9 V V V)<|av (i64 (wI (b3.2 - 8))) V V<|zag ?_;obtain rfl:=osi a0;exact ⟨_,rfl,d5,hJ,hW,hY,rfl,rfl,hR,jT,nK,mP,aF,gF,aH,gH,oJ.symm,oK.symm,gU⟩
  refine zar<|th_x<|?_;obtain rfl:=osi a0;obtain rfl:=lD _ rfl;refine th_x<|bk_x<|?_;exact ⟨c5,hW,hY,i1,hR,dE,bX,dK,aF,gF,aH,gH,dY,e2,gU⟩
 rintro _ s7 ⟨g,p0,p8,pD,oV,kC,mV,lX,n5,m8,nB,mG,nT,nZ,o8⟩;refine W_th<|W_seq<|W_sr<|av (i64 0) V V<|wnt<|?_;obtain ⟨iG,iN,s⟩:=bsi s;refine W_mid (fun d e=>d 4=bp a/\d 288=undef/\Ext w0 e/\Blk e a 115 (ac u32 iG)/\Nw w0 (bp a)) ?_ ?_
 ·refine zac<|zau (fun C d e=>d 3=bp c/\d 4=bp a/\d 7=g/\d 9=i64 C.2/\d 288=undef/\Ext w0 e/\OwK (Sc u8) e [g,bp c,bp a] 5 g bB/\Nw w0 g/\Blk e c 136 (ac u32 D.1)/\Nw w0 (bp c)/\Blk e a 115 (ac u32 C.1)/\Nw w0 (bp a)/\Nq g (bp c)/\Nq g (bp a)/\Nq (bp c) (bp a)) iN ?_ ?_
  ·exact ⟨p0,p8,pD,rfl,oV,kC,mV,lX,n5,m8,nB,mG,nT,nZ,o8⟩
  rintro C _ _ s9 ⟨p1,eK,i2,i4,hS,dF,aD,lY,b2,m9,a5,gI,nU,o0,o9⟩ E lE;refine W_seq<|W_sr<|mv (i64 C.2) V i4<|mv g V i2<|wa V (q_len V T22.sl V (aD.rd (Sc.stab _)))<|wa V (q_ltI V V V)<|wnt<|wci E V V (fun E=>?_) (fun E=>?_)
  ·refine zae<|W_th<|W_seq<|zac<|W_sr<|wa V (zjx (l:=([]:List UInt32)) (us:=[]) (z:=(0:UInt32)) V A136 Z136 (by exact trivial) V V cel_u32)<|wls V V (sal u32 (List.replicate 64 (0:UInt32)) [g,bp c,bp a] V Z136 ?_);intro w sA nL bV k5 r3;have c9:=zaa k5;have h3:Nq g (bp w):=aD.nq bV;have h4:Nq (bp c) (bp w):=b2.nq bV;have h5:Nq (bp a) (bp w):=a5.nq bV;have gP:=Nw.ext dF bV;have jU:=dF.trans c9;obtain ⟨qL,g7,E⟩:=bsi E;refine wln V V (zbm [] [g,bp c,bp a] V A136 V V (zad g7) (zad g7) nL zdo ?_);intro sB cP cB lP;replace aD:=(aD.extL (Sc.stab _) c9 (Lift.call _ c9 bV)).other (Sc.stab _) cB h3 lP;replace b2:=(b2.ext c9).other cB h4;replace a5:=(a5.ext c9).other cB h5;have f5:=jU.grown cB gP;refine wnt<|W_sr<|bse E fun qN g9 E=>wq V (ziz (m:=0) V A115 (by exact eK) a5 (zaf _ _) (zad g9))<|wls V V (sal u32 (List.replicate 8 (0:UInt32)) [bp w,g,bp c,bp a] V Z115 ?_);intro j sC nM bE k6 r4;have bO:=zaa k6;have h6:Nq (bp w) (bp j):=cP.nq bE;have h7:Nq g (bp j):=aD.nq bE;have h8:Nq (bp c) (bp j):=b2.nq bE;have h9:Nq (bp a) (bp j):=a5.nq bE;have gQ:=Nw.ext f5 bE;have jV:=f5.trans bO;obtain ⟨pV,kD,E⟩:=bsi E;refine wln V V (zbm [] [bp w,g,bp c,bp a] V A115 V V (zad kD) (zad g9) nM zdo ?_);intro sD nN bU lQ;replace cP:=(cP.ext bO).other bU h6;replace aD:=(aD.extL (Sc.stab _) bO (Lift.call _ bO bE)).other (Sc.stab _) bU h7 lQ;replace b2:=(b2.ext bO).other bU h8;replace a5:=(a5.ext bO).other bU h9;have iY:=jV.grown bU gQ;refine wnt<|W_seq<|W_sr<|av (i64 0) V V<|wnt<|?_;obtain ⟨iD,iH,E⟩:=bsi E;refine W_mid (fun d e=>d 3=bp c/\d 4=bp a/\d 7=g/\d 9=i64 C.2/\d 11=bp j/\d 288=undef/\Ext w0 e/\OwK (Sc u8) e [g,bp c,bp a,bp j] 5 g bB/\Nw w0 g/\Blk e c 136 (ac u32 D.1)/\Nw w0 (bp c)/\Blk e a 115 (ac u32 C.1)/\Nw w0 (bp a)/\Blk e j 115 (ac u32 iD)/\Nw w0 (bp j)/\Nq g (bp c)/\Nq g (bp a)/\Nq g (bp j)/\Nq (bp c) (bp a)/\Nq (bp c) (bp j)/\Nq (bp a) (bp j)) ?_ ?_
   ·refine zac<|zau (fun q d e=>d 3=bp c/\d 4=bp a/\d 7=g/\d 9=i64 C.2/\d 10=bp w/\d 11=bp j/\d 12=i64 q.2.2/\d 288=undef/\Ext w0 e/\OwK (Sc u8) e [g,bp c,bp a,bp w,bp j] 5 g bB/\Nw w0 g/\Blk e c 136 (ac u32 D.1)/\Nw w0 (bp c)/\Blk e a 115 (ac u32 C.1)/\Nw w0 (bp a)/\Blk e w 136 (ac u32 q.1)/\Nw w0 (bp w)/\Blk e j 115 (ac u32 q.2.1)/\Nw w0 (bp j)/\Nq g (bp c)/\Nq g (bp a)/\Nq g (bp w)/\Nq g (bp j)/\Nq (bp c) (bp a)/\Nq (bp c) (bp w)/\Nq (bp c) (bp j)/\Nq (bp a) (bp w)/\Nq (bp a) (bp j)/\Nq (bp w) (bp j)) iH ?_ ?_
    ·exact ⟨p1,eK,i2,i4,rfl,rfl,rfl,hS,iY,aD.weak (Sc.stab _) (fun _ h=>⟨h.2.2.1,h.2.2.2.1,h.2.2.2.2.1,h.2.1,h.1,trivial⟩),lY,b2,m9,a5,gI,cP,gP,nN,gQ,nU,o0,h3,h7,o9,h4,h8,h5,h9,h6⟩
    rintro q _ _ iC ⟨eI,eJ,b4,b5,S,eA,B,eG,dD,p,dH,F,dL,G,dM,A,cH,H,dP,dW,dZ,cQ,e3,e4,cR,e6,cS,e7,cT⟩ f kV;refine W_seq<|W_sr<|mv (i64 q.2.2) V B<|wa V (q_ltI V V V)<|wnt<|wci f V V (fun f=>?_) (fun f=>?_)
    ·refine zae<|W_th<|W_seq<|zac<|W_seq<|?_;obtain ⟨pR,i,f⟩:=bsi f;refine W_mid (fun d e=>d 3=bp c/\d 4=bp a/\d 7=g/\d 9=i64 C.2/\d 10=bp w/\d 11=bp j/\d 12=i64 q.2.2/\d 288=undef/\Ext w0 e/\OwK (Sc u8) e [g,bp c,bp a,bp w,bp j] 5 g bB/\Nw w0 g/\Blk e c 136 (ac u32 D.1)/\Nw w0 (bp c)/\Blk e a 115 (ac u32 C.1)/\Nw w0 (bp a)/\Blk e w 136 (ac u32 pR)/\Nw w0 (bp w)/\Blk e j 115 (ac u32 q.2.1)/\Nw w0 (bp j)/\Nq g (bp c)/\Nq g (bp a)/\Nq g (bp w)/\Nq g (bp j)/\Nq (bp c) (bp a)/\Nq (bp c) (bp w)/\Nq (bp c) (bp j)/\Nq (bp a) (bp w)/\Nq (bp a) (bp j)/\Nq (bp w) (bp j)) ?_ ?_
     ·refine W_sr<|mv (i64 q.2.2) V B<|wa V (q_ltI V V V)<|wnt<|wci i V V (fun i=>?_) (fun i=>?_)
      ·refine zba [7,17,28,39] [(0,0),(1,0),(2,0),(3,0),(4,0),(5,0),(6,0),(7,1),(8,0),(9,0),(10,0),(11,0),(12,0),(13,0),(14,0),(15,0),(16,0),(17,1),(18,0),(19,0),(20,0),(21,0),(22,0),(23,0),(24,0),(25,0),(26,0),(27,0),(28,1),(29,0),(30,0),(31,0),(32,0),(33,0),(34,0),(35,0),(36,0),(37,0),(38,0),(39,1),(40,0),(41,0),(42,0),(43,2)] mixed (by kernel_rfl) (by kernel_rfl) (by kernel_rfl) (by kernel_rfl) ?_;have b7:=Ext.drew iC;replace p:=p.extL (Sc.stab _) b7 (le_ b7);replace F:=F.ext b7;replace G:=G.ext b7;replace A:=A.ext b7;replace H:=H.ext b7;have iZ:=dD.trans b7;refine sv (i64 q.2.2) V V B<|sv g V V b4<|sv (i64 C.2) V V b5<|sv (i64 q.2.2) V V B<|sa V V (zco V V V)<|sa V V (zak V V V)<|bse i fun iO fH i=>sa V V (q_adr V T22 V V (p.rd (Sc.stab _)) fH)<|sq V V (zao V T22 V (p.rd (Sc.stab _)) fH)<|sa V V (q_cvt328 V V V V)<|sa V V (q_shl32 24 V V V V)<|sv g V V b4<|sv (i64 C.2) V V b5<|sv (i64 q.2.2) V V B<|sa V V (zco V V V)<|?_;refine sa V V (zak V V V)<|sa V V (zak V V V)<|bse i fun iP fI i=>sa V V (q_adr V T22 V V (p.rd (Sc.stab _)) fI)<|sq V V (zao V T22 V (p.rd (Sc.stab _)) fI)<|sa V V (q_cvt328 V V V V)<|sa V V (q_shl32 16 V V V V)<|sa V V (q_or32 V V V)<|sv g V V b4<|sv (i64 C.2) V V b5<|sv (i64 q.2.2) V V B<|?_;refine sa V V (zco V V V)<|sa V V (zak V V V)<|sa V V (zak V V V)<|bse i fun iQ fJ i=>sa V V (q_adr V T22 V V (p.rd (Sc.stab _)) fJ)<|sq V V (zao V T22 V (p.rd (Sc.stab _)) fJ)<|sa V V (q_cvt328 V V V V)<|sa V V (q_shl32 8 V V V V)<|sa V V (q_or32 V V V)<|sv g V V b4<|?_
       refine sv (i64 C.2) V V b5<|sv (i64 q.2.2) V V B<|sa V V (zco V V V)<|sa V V (zak V V V)<|sa V V (zak V V V)<|bse i fun iR fK i=>sa V V (q_adr V T22 V V (p.rd (Sc.stab _)) fK)<|sq V V (zao V T22 V (p.rd (Sc.stab _)) fK)<|sa V V (q_cvt328 V V V V)<|sa V V (q_or32 V V V)<|?_;obtain ⟨pW,kE,i⟩:=bsi i;obtain ⟨pX,fL,i⟩:=bsi i;refine sa V V (q_ixA (m:=0) V A136 (by exact S) V (zad kE) fL)<|wsn V (by kernel_rfl) V V (zcz (b:=((((shl32 (iO.toUInt32) 24) ||| (shl32 (iP.toUInt32) 16)) ||| (shl32 (iQ.toUInt32) 8)) ||| (iR.toUInt32))) [g,bp c,bp a] [bp j] V A136 V V A fL (zdo _) ?_);intro r8 mW bR lJ;replace p:=p.other (Sc.stab _) bR cQ lJ;replace F:=F.other bR cR;replace G:=G.other bR cS;replace H:=H.other bR cT.symm;have j0:=iZ.grown bR cH;refine za1 ?_;obtain rfl:=osi i;exact ⟨eI,eJ,b4,b5,S,eA,B,eG,j0,p,dH,F,dL,G,dM,mW,cH,H,dP,dW,dZ,cQ,e3,e4,cR,e6,cS,e7,cT⟩
      refine zba [4,9,15,21,26,31,37,44] [(0,0),(1,0),(2,0),(3,0),(4,1),(6,0),(7,0),(8,0),(9,1),(12,0),(13,0),(14,0),(15,1),(16,0),(18,0),(19,0),(20,0),(21,1),(23,0),(24,0),(25,0),(26,1),(28,0),(29,0),(30,0),(31,1),(34,0),(35,0),(36,0),(37,1),(38,0),(41,0),(42,0),(43,0),(44,1),(5,2),(10,2),(11,0),(17,0),(22,0),(27,2),(32,2),(33,0),(39,0),(40,0),(45,0),(46,0),(47,2)] mixed (by kernel_rfl) (by kernel_rfl) (by kernel_rfl) (by kernel_rfl) ?_;have b8:=Ext.drew iC;replace p:=p.extL (Sc.stab _) b8 (le_ b8);replace F:=F.ext b8;replace G:=G.ext b8;replace A:=A.ext b8;replace H:=H.ext b8;have j1:=dD.trans b8;refine sv (i64 q.2.2) V V B<|sv (i64 q.2.2) V V B<|sa V V (za9 V V V)<|?_;obtain ⟨pY,a2,i⟩:=bsi i;obtain ⟨bP,bC,i⟩:=bsi i;refine sa V V (q_ixA (m:=0) V A136 (by exact S) V (zad a2) bC)<|sq V V (zax (m:=0) V A136 V A (zaf _ _) bC)<|sv (i64 q.2.2) V V B<|sa V V (za9 V V V)<|sa V V (q_ixA (m:=0) V A136 (by exact S) V (zad a2) bC)<|sq V V (zax (m:=0) V A136 V A (zaf _ _) bC)<|sv (i64 q.2.2) V V B<|sa V V (za9 V V V)<|?_;refine sa V V (q_ixA (m:=0) V A136 (by exact S) V (zad a2) bC)<|sq V V (zax (m:=0) V A136 V A (zaf _ _) bC)<|sa V V (zhv 10 V V V V)<|sv (i64 q.2.2) V V B<|sa V V (za9 V V V)<|bse i fun iS fN i=>sa V V (q_ixA (m:=0) V A136 (by exact S) V (zad a2) fN)<|sq V V (zax (m:=0) V A136 V A (zaf _ _) fN)<|sv (i64 q.2.2) V V B<|sa V V (za9 V V V)<|?_;obtain ⟨bQ,bD,i⟩:=bsi i;refine sa V V (q_ixA (m:=0) V A136 (by exact S) V (zad a2) bD)<|sq V V (zax (m:=0) V A136 V A (zaf _ _) bD)<|sv (i64 q.2.2) V V B<|sa V V (za9 V V V)<|sa V V (q_ixA (m:=0) V A136 (by exact S) V (zad a2) bD)<|sq V V (zax (m:=0) V A136 V A (zaf _ _) bD)<|?_
      refine sv (i64 q.2.2) V V B<|sa V V (za9 V V V)<|sa V V (q_ixA (m:=0) V A136 (by exact S) V (zad a2) bD)<|sq V V (zax (m:=0) V A136 V A (zaf _ _) bD)<|sa V V (zhv 3 V V V V)<|sv (i64 q.2.2) V V B<|sa V V (za9 V V V)<|bse i fun iT fO i=>sa V V (q_ixA (m:=0) V A136 (by exact S) V (zad a2) fO)<|sq V V (zax (m:=0) V A136 V A (zaf _ _) fO)<|?_;obtain ⟨hB,kW,i⟩:=bsi i;refine wss V V V (zab (vs:=[u32 bP,i64 17]) Tryz.func108 V V V (ar2 V V) (zbv bP 17  hB _  kW) ?_);rintro _ r9 ⟨rfl,aL⟩;refine ⟨_,rfl,aL,?_⟩;replace p:=p.extL (Sc.stab _) aL (le_ aL);have j2:=j1.trans aL;obtain ⟨hC,kX,i⟩:=bsi i;refine wss V V V (zab (vs:=[u32 bP,i64 19]) Tryz.func108 V V V (ar2 V V) (zbv bP 19  hC _  kX) ?_);rintro _ rA ⟨rfl,aM⟩;refine ⟨_,rfl,aM,?_⟩;replace p:=p.extL (Sc.stab _) aM (le_ aM);replace F:=(F.ext aL).ext aM;replace G:=(G.ext aL).ext aM;replace A:=(A.ext aL).ext aM;replace H:=(H.ext aL).ext aM;have j3:=j2.trans aM;refine sa V V (zdy V V V)<|sa V V (zdy V V V)<|sa V V (zdc V V V)<|?_;obtain ⟨hD,kY,i⟩:=bsi i;refine wss V V V (zab (vs:=[u32 bQ,i64 7]) Tryz.func108 V V V (ar2 V V) (zbv bQ 7  hD _  kY) ?_);rintro _ rB ⟨rfl,aN⟩;refine ⟨_,rfl,aN,?_⟩;replace p:=p.extL (Sc.stab _) aN (le_ aN);have j4:=j3.trans aN;obtain ⟨hE,kZ,i⟩:=bsi i;refine wss V V V (zab (vs:=[u32 bQ,i64 18]) Tryz.func108 V V V (ar2 V V) (zbv bQ 18  hE _  kZ) ?_);rintro _ rC ⟨rfl,aO⟩;refine ⟨_,rfl,aO,?_⟩;replace p:=p.extL (Sc.stab _) aO (le_ aO);replace F:=(F.ext aN).ext aO;replace G:=(G.ext aN).ext aO;replace A:=(A.ext aN).ext aO;replace H:=(H.ext aN).ext aO;have j6:=j4.trans aO;refine sa V V (zdy V V V)<|sa V V (zdy V V V)<|sa V V (zdc V V V)<|?_
      refine sa V V (zdc V V V) ?_;obtain ⟨q0,fP,i⟩:=bsi i;refine sa V V (q_ixA (m:=0) V A136 (by exact S) V (zad a2) fP)<|wsn V (by kernel_rfl) V V (zcz (b:=(((((hB^^^hC)^^^(shr32 bP 10))+iS)+((hD^^^hE)^^^(shr32 bQ 3)))+iT)) [g,bp c,bp a] [bp j] V A136 V V A fP (zdo _) ?_);intro rD mX bS lK;replace p:=p.other (Sc.stab _) bS cQ lK;replace F:=F.other bS cR;replace G:=G.other bS cS;replace H:=H.other bS cT.symm;have j7:=j6.grown bS cH;refine za1 ?_;obtain rfl:=osi i;exact ⟨eI,eJ,b4,b5,S,eA,B,eG,j7,p,dH,F,dL,G,dM,mX,cH,H,dP,dW,dZ,cQ,e3,e4,cR,e6,cS,e7,cT⟩
     rintro _ pI ⟨hT,p2,p9,pE,hK,r,eB,oO,k7,y,lR,K,m3,Q,mC,M,mH,k,gN,nO,nV,o1,gS,o4,oA,gV,oD,gX,h0⟩;refine W_th<|W_seq<|zba [1,3,6,10,15,17,20,23,29,33] [(0,0),(1,1),(2,0),(3,1),(5,0),(6,1),(9,0),(10,1),(14,0),(15,1),(16,0),(17,1),(18,0),(19,0),(20,1),(21,0),(22,0),(23,1),(24,0),(25,0),(27,0),(28,0),(29,1),(31,0),(32,0),(33,1),(4,2),(7,2),(8,0),(11,2),(12,0),(13,0),(26,0),(30,0),(34,0),(35,0)] mixed (by kernel_rfl) (by kernel_rfl) (by kernel_rfl) (by kernel_rfl) ?_;have b9:=Ext.drew pI;replace y:=y.extL (Sc.stab _) b9 (le_ b9);replace K:=K.ext b9;replace Q:=Q.ext b9;replace M:=M.ext b9;replace k:=k.ext b9;have j8:=k7.trans b9;obtain ⟨q1,aA,f⟩:=bsi f;obtain ⟨aV,fQ,f⟩:=bsi f;refine sa V V (q_ixA (m:=0) V A115 (by exact r) V (zad aA) fQ)<|sq V V (zax (m:=0) V A115 V k (zaf _ _) fQ)<|bse f fun x X f=>sa V V (q_ixA (m:=0) V A115 (by exact r) V (zad aA) X)<|sq V V (zax (m:=0) V A115 V k (zaf _ _) X)<|sa V V (q_ixA (m:=0) V A115 (by exact r) V (zad aA) X)<|sq V V (zax (m:=0) V A115 V k (zaf _ _) X)<|sa V V (q_ixA (m:=0) V A115 (by exact r) V (zad aA) X)<|sq V V (zax (m:=0) V A115 V k (zaf _ _) X)<|sa V V (q_ixA (m:=0) V A115 (by exact r) V (zad aA) X)<|sq V V (zax (m:=0) V A115 V k (zaf _ _) X)<|?_;obtain ⟨aW,fR,f⟩:=bsi f;refine sa V V (q_ixA (m:=0) V A115 (by exact r) V (zad aA) fR)<|sq V V (zax (m:=0) V A115 V k (zaf _ _) fR)<|sa V V (ziy V V V)<|sa V V (q_ixA (m:=0) V A115 (by exact r) V (zad aA) X)<|sq V V (zax (m:=0) V A115 V k (zaf _ _) X)<|sa V V (q_not32 V V)<|bse f fun aX fS f=>sa V V (q_ixA (m:=0) V A115 (by exact r) V (zad aA) fS)<|sq V V (zax (m:=0) V A115 V k (zaf _ _) fS)<|sa V V (ziy V V V)<|sa V V (zdy V V V)<|?_
     refine sv (i64 q.2.2) V V eB ?_;obtain ⟨q2,kF,f⟩:=bsi f;obtain ⟨aY,fT,f⟩:=bsi f;refine sa V V (q_ixA (m:=0) V A136 (by exact hT) V (zad kF) fT)<|sq V V (zax (m:=0) V A136 V K (zaf _ _) fT)<|sv (i64 q.2.2) V V eB<|?_;obtain ⟨q3,kG,f⟩:=bsi f;obtain ⟨aZ,fU,f⟩:=bsi f;refine sa V V (q_ixA (m:=0) V A136 (by exact hK) V (zad kG) fU)<|sq V V (zax (m:=0) V A136 V M (zaf _ _) fU)<|?_;obtain ⟨aI,l1,f⟩:=bsi f;refine wss V V V (zab (vs:=[u32 x,i64 6]) Tryz.func108 V V V (ar2 V V) (zbv x 6  aI _  l1) ?_);rintro _ rE ⟨rfl,aP⟩;refine ⟨_,rfl,aP,?_⟩;replace y:=y.extL (Sc.stab _) aP (le_ aP);have j9:=j8.trans aP;obtain ⟨aJ,l2,f⟩:=bsi f;refine wss V V V (zab (vs:=[u32 x,i64 11]) Tryz.func108 V V V (ar2 V V) (zbv x 11  aJ _  l2) ?_);rintro _ rF ⟨rfl,aQ⟩;refine ⟨_,rfl,aQ,?_⟩;replace y:=y.extL (Sc.stab _) aQ (le_ aQ);replace K:=(K.ext aP).ext aQ;replace Q:=(Q.ext aP).ext aQ;replace M:=(M.ext aP).ext aQ;replace k:=(k.ext aP).ext aQ;have jB:=j9.trans aQ;refine sa V V (zdy V V V) ?_;obtain ⟨aK,l3,f⟩:=bsi f;refine wss V V V (zab (vs:=[u32 x,i64 25]) Tryz.func108 V V V (ar2 V V) (zbv x 25  aK _  l3) ?_);rintro _ pK ⟨rfl,aR⟩;refine ⟨_,rfl,aR,?_⟩;replace y:=y.extL (Sc.stab _) aR (le_ aR);replace K:=K.ext aR;replace Q:=Q.ext aR;replace M:=M.ext aR;replace k:=k.ext aR;have jC:=jB.trans aR;refine sa V V (zdy V V V)<|sa V V (zdc V V V)<|sa V V (zdc V V V)<|sa V V (zdc V V V)<|sa V V (zdc V V V)<|sa V V (zat (v:=u32 ((((aV+((aI^^^aJ)^^^aK))+((x &&& aW)^^^(((4294967295:UInt32)^^^x) &&& aX)))+aY)+aZ)) V V)<|za1<|W_th<|W_seq<|zba [1,4,8,12,14,17,19,23,25] [(0,0),(1,1),(3,0),(4,1),(7,0),(8,1),(11,0),(12,1),(13,0),(14,1),(15,0),(16,0),(17,1),(18,0),(19,1),(20,0),(21,0),(22,0),(23,1),(24,0),(25,1),(26,0),(27,0),(2,2),(5,2),(6,0),(9,2),(10,0),(28,0),(29,0)] mixed (by kernel_rfl) (by kernel_rfl) (by kernel_rfl) (by kernel_rfl) ?_
     have bA:=Ext.drew pK;replace y:=y.extL (Sc.stab _) bA (le_ bA);replace k:=k.ext bA;have jD:=jC.trans bA;obtain ⟨q4,a3,f⟩:=bsi f;obtain ⟨I,Y,f⟩:=bsi f;refine sa V V (q_ixA (m:=0) V A115 (by exact r) V (zad a3) Y)<|sq V V (zax (m:=0) V A115 V k (zaf _ _) Y)<|sa V V (q_ixA (m:=0) V A115 (by exact r) V (zad a3) Y)<|sq V V (zax (m:=0) V A115 V k (zaf _ _) Y)<|sa V V (q_ixA (m:=0) V A115 (by exact r) V (zad a3) Y)<|sq V V (zax (m:=0) V A115 V k (zaf _ _) Y)<|sa V V (q_ixA (m:=0) V A115 (by exact r) V (zad a3) Y)<|sq V V (zax (m:=0) V A115 V k (zaf _ _) Y)<|bse f fun a7 cC f=>sa V V (q_ixA (m:=0) V A115 (by exact r) V (zad a3) cC)<|sq V V (zax (m:=0) V A115 V k (zaf _ _) cC)<|sa V V (ziy V V V)<|sa V V (q_ixA (m:=0) V A115 (by exact r) V (zad a3) Y)<|sq V V (zax (m:=0) V A115 V k (zaf _ _) Y)<|?_;obtain ⟨a8,cD,f⟩:=bsi f;refine sa V V (q_ixA (m:=0) V A115 (by exact r) V (zad a3) cD)<|sq V V (zax (m:=0) V A115 V k (zaf _ _) cD)<|sa V V (ziy V V V)<|sa V V (zdy V V V)<|sa V V (q_ixA (m:=0) V A115 (by exact r) V (zad a3) cC)<|sq V V (zax (m:=0) V A115 V k (zaf _ _) cC)<|sa V V (q_ixA (m:=0) V A115 (by exact r) V (zad a3) cD)<|sq V V (zax (m:=0) V A115 V k (zaf _ _) cD)<|sa V V (ziy V V V)<|sa V V (zdy V V V)<|?_;obtain ⟨c0,l4,f⟩:=bsi f;refine wss V V V (zab (vs:=[u32 I,i64 2]) Tryz.func108 V V V (ar2 V V) (zbv I 2  c0 _  l4) ?_);rintro _ rG ⟨rfl,aS⟩;refine ⟨_,rfl,aS,?_⟩;replace y:=y.extL (Sc.stab _) aS (le_ aS);replace K:=(K.ext bA).ext aS;replace Q:=(Q.ext bA).ext aS;replace M:=(M.ext bA).ext aS;replace k:=k.ext aS;have jE:=jD.trans aS;obtain ⟨c1,l6,f⟩:=bsi f;refine wss V V V (zab (vs:=[u32 I,i64 13]) Tryz.func108 V V V (ar2 V V) (zbv I 13  c1 _  l6) ?_)
     rintro _ rH ⟨rfl,aT⟩;refine ⟨_,rfl,aT,?_⟩;replace y:=y.extL (Sc.stab _) aT (le_ aT);have jF:=jE.trans aT;refine sa V V (zdy V V V) ?_;obtain ⟨c2,l7,f⟩:=bsi f;refine wss V V V (zab (vs:=[u32 I,i64 22]) Tryz.func108 V V V (ar2 V V) (zbv I 22  c2 _  l7) ?_);rintro _ rI ⟨rfl,aU⟩;refine ⟨_,rfl,aU,?_⟩;replace y:=y.extL (Sc.stab _) aU (le_ aU);replace K:=(K.ext aT).ext aU;replace Q:=(Q.ext aT).ext aU;replace M:=(M.ext aT).ext aU;replace k:=(k.ext aT).ext aU;have jG:=jF.trans aU;refine sa V V (zdy V V V)<|sa V V (zdc V V V)<|sa V V (zat (v:=u32 (((c0^^^c1)^^^c2)+(((I &&& a7)^^^(I &&& a8))^^^(a7 &&& a8)))) V V)<|za1<|W_th<|W_rg<|mv (u32 ((((aV+((aI^^^aJ)^^^aK))+((x &&& aW)^^^(((4294967295:UInt32)^^^x) &&& aX)))+aY)+aZ)) V V<|mv (u32 (((c0^^^c1)^^^c2)+(((I &&& a7)^^^(I &&& a8))^^^(a7 &&& a8)))) V V<|wa V (zdc V V V)<|?_;obtain ⟨q5,aB,f⟩:=bsi f;obtain ⟨eS,fV,f⟩:=bsi f;refine wa V (q_ixA (m:=0) V A115 (by exact r) V (zad aB) fV)<|wq V (zax (m:=0) V A115 V k (zaf _ _) fV)<|bse f fun eT fW f=>wa V (q_ixA (m:=0) V A115 (by exact r) V (zad aB) fW)<|wq V (zax (m:=0) V A115 V k (zaf _ _) fW)<|bse f fun eU fX f=>wa V (q_ixA (m:=0) V A115 (by exact r) V (zad aB) fX)<|wq V (zax (m:=0) V A115 V k (zaf _ _) fX)<|bse f fun eV fY f=>wa V (q_ixA (m:=0) V A115 (by exact r) V (zad aB) fY)<|wq V (zax (m:=0) V A115 V k (zaf _ _) fY)<|mv (u32 ((((aV+((aI^^^aJ)^^^aK))+((x &&& aW)^^^(((4294967295:UInt32)^^^x) &&& aX)))+aY)+aZ)) V V<|wa V (zdc V V V)<|bse f fun eW fZ f=>wa V (q_ixA (m:=0) V A115 (by exact r) V (zad aB) fZ)<|wq V (zax (m:=0) V A115 V k (zaf _ _) fZ)<|?_
     obtain ⟨eX,g0,f⟩:=bsi f;refine wa V (q_ixA (m:=0) V A115 (by exact r) V (zad aB) g0)<|wq V (zax (m:=0) V A115 V k (zaf _ _) g0)<|bse f fun eY g1 f=>wa V (q_ixA (m:=0) V A115 (by exact r) V (zad aB) g1)<|wq V (zax (m:=0) V A115 V k (zaf _ _) g1)<|wa V (q_buildAF (l:=([(((((aV+((aI^^^aJ)^^^aK))+((x &&& aW)^^^(((4294967295:UInt32)^^^x) &&& aX)))+aY)+aZ)+(((c0^^^c1)^^^c2)+(((I &&& a7)^^^(I &&& a8))^^^(a7 &&& a8)))),eS,eT,eU,(eV+((((aV+((aI^^^aJ)^^^aK))+((x &&& aW)^^^(((4294967295:UInt32)^^^x) &&& aX)))+aY)+aZ)),eW,eX,eY]:List UInt32)) (us:=[u32 (((((aV+((aI^^^aJ)^^^aK))+((x &&& aW)^^^(((4294967295:UInt32)^^^x) &&& aX)))+aY)+aZ)+(((c0^^^c1)^^^c2)+(((I &&& a7)^^^(I &&& a8))^^^(a7 &&& a8)))),u32 eS,u32 eT,u32 eU,u32 (eV+((((aV+((aI^^^aJ)^^^aK))+((x &&& aW)^^^(((4294967295:UInt32)^^^x) &&& aX)))+aY)+aZ)),u32 eW,u32 eX,u32 eY]) (z:=(0:UInt32)) V A115 Z115 (by exact ⟨rfl,rfl,rfl,rfl,rfl,rfl,rfl,rfl,rfl,rfl,rfl,rfl,rfl,rfl,rfl,rfl,trivial⟩) V V cel_u32)<|?_;obtain ⟨q6,kH,f⟩:=bsi f;refine wln V V (zbm [g,bp c,bp a,bp w] [] V A115 (by exact r) V (zad aB) (zad kH) k zdo ?_);intro rK mZ bT lL;replace y:=y.other (Sc.stab _) bT gS lL;replace K:=K.other bT gV;replace Q:=Q.other bT gX;replace M:=M.other bT h0;have jH:=jG.grown bT gN;refine zag<|bk_n<|W_th<|W_rg<|mv (i64 q.2.2) V eB<|wa V (zak V V V)<|av (i64 (wI (q.2.2+1))) V V<|zag<|?_;obtain rfl:=osi f;exact ⟨_,rfl,hT,p2,p9,pE,hK,r,rfl,oO,jH,y,lR,K,m3,Q,mC,M,mH,mZ,gN,nO,nV,o1,gS,o4,oA,gV,oD,gX,h0⟩
    refine zar<|th_x<|?_;obtain rfl:=osi f;obtain rfl:=kV _ rfl;refine th_x<|bk_x<|?_;exact ⟨eI,eJ,b4,b5,eA,eG,dD,p.weak (Sc.stab _) (fun _ h=>⟨h.1,h.2.1,h.2.2.1,h.2.2.2.2.1,trivial⟩),dH,F,dL,G,dM,H,dP,dW,dZ,e3,e4,e6,e7⟩
   rintro _ rL ⟨oW,p3,pA,pF,oM,oP,k8,mR,lS,n2,m4,n8,mD,nE,mI,nP,nW,o2,o5,oB,oE⟩;refine W_th<|W_sr<|mv (i64 0) V V<|wnt<|?_;obtain ⟨pS,iJ,E⟩:=bsi E;refine W_mid (fun d e=>d 3=bp c/\d 4=bp a/\d 7=g/\d 9=i64 C.2/\d 288=undef/\Ext w0 e/\OwK (Sc u8) e [g,bp c,bp a] 5 g bB/\Nw w0 g/\Blk e c 136 (ac u32 D.1)/\Nw w0 (bp c)/\Blk e a 115 (ac u32 pS)/\Nw w0 (bp a)/\Nq g (bp c)/\Nq g (bp a)/\Nq (bp c) (bp a)) ?_ ?_
   ·refine zac<|zau (fun a6 d e=>d 3=bp c/\d 4=bp a/\d 7=g/\d 9=i64 C.2/\d 11=bp j/\d 254=i64 a6.2/\d 288=undef/\Ext w0 e/\OwK (Sc u8) e [g,bp c,bp a,bp j] 5 g bB/\Nw w0 g/\Blk e c 136 (ac u32 D.1)/\Nw w0 (bp c)/\Blk e a 115 (ac u32 a6.1)/\Nw w0 (bp a)/\Blk e j 115 (ac u32 iD)/\Nw w0 (bp j)/\Nq g (bp c)/\Nq g (bp a)/\Nq g (bp j)/\Nq (bp c) (bp a)/\Nq (bp c) (bp j)/\Nq (bp a) (bp j)) iJ ?_ ?_
    ·exact ⟨oW,p3,pA,pF,oM,rfl,oP,k8,mR,lS,n2,m4,n8,mD,nE,mI,nP,nW,o2,o5,oB,oE⟩
    rintro a6 _ _ pL ⟨hU,cY,i0,i3,hL,eE,hO,fC,cJ,gC,cM,gD,bY,dN,bG,mJ,gR,e0,o3,e5,oC,gW⟩ N l8;refine W_sr<|wa V (q_ltI V eE V)<|wnt<|W_seq<|wci N V V (fun N=>?_) (fun N=>?_)
    ·refine zae<|W_th<|W_seq<|zac<|W_sr<|mv (i64 a6.2) V eE<|av (i64 a6.2) V V<|wnt<|zba [3,6] [(0,0),(1,0),(2,0),(3,1),(4,0),(5,0),(6,1),(7,0),(8,0),(9,2)] mixed (by kernel_rfl) (by kernel_rfl) (by kernel_rfl) (by kernel_rfl) ?_;have bN:=Ext.drew pL;replace bY:=bY.ext bN;replace bG:=bG.ext bN;have jI:=fC.trans bN;refine sv (i64 a6.2) V V V<|sv (i64 a6.2) V V V<|?_;obtain ⟨q7,g2,N⟩:=bsi N;obtain ⟨iU,cE,N⟩:=bsi N;refine sa V V (q_ixA (m:=0) V A115 (by exact cY) V (zad g2) cE)<|sq V V (zax (m:=0) V A115 V bY (zaf _ _) cE)<|sv (i64 a6.2) V V V<|?_;obtain ⟨q8,kI,N⟩:=bsi N;obtain ⟨iV,g3,N⟩:=bsi N;refine sa V V (q_ixA (m:=0) V A115 (by exact hL) V (zad kI) g3)<|sq V V (zax (m:=0) V A115 V bG (zaf _ _) g3)<|sa V V (zdc V V V)<|sa V V (q_ixA (m:=0) V A115 (by exact cY) V (zad g2) cE)<|wsn V (by kernel_rfl) V V (zcz (b:=(iU+iV)) [g,bp c] [bp j] V A115 V V bY cE (zdo _) ?_);intro rM n0 cA lM;replace cJ:=(cJ.extL (Sc.stab _) bN (le_ bN)).other (Sc.stab _) cA e0 lM;replace cM:=(cM.ext bN).other cA e5;replace bG:=bG.other cA gW.symm;have jJ:=jI.grown cA dN;refine za1<|bk_n<|W_th<|W_rg<|wa V (zak V eE V)<|mv (i64 (wI (a6.2+1))) V V<|zag<|?_;obtain rfl:=osi N;exact ⟨_,rfl,hU,cY,i0,i3,hL,rfl,hO,jJ,cJ,gC,cM,gD,n0,dN,bG,mJ,gR,e0,o3,e5,oC,gW⟩
    refine zar<|th_x<|?_;obtain rfl:=osi N;obtain rfl:=l8 _ rfl;refine th_x<|bk_x<|?_;exact ⟨hU,cY,i0,i3,hO,fC,cJ.weak (Sc.stab _) (fun _ h=>⟨h.1,h.2.1,h.2.2.1,trivial⟩),gC,cM,gD,bY,dN,gR,e0,e5⟩
   rintro _ rN ⟨oX,p4,pB,pG,oQ,k9,mS,lT,n3,m5,n9,mE,nQ,nX,o6⟩;refine bk_n<|W_th<|W_rg<|mv (i64 C.2) V pG<|wa V (zak V V V)<|av (i64 (wI (C.2+64))) V V<|zag<|?_;obtain rfl:=osi E;exact ⟨_,rfl,oX,p4,pB,rfl,oQ,k9,mS,lT,n3,m5,n9,mE,nQ,nX,o6⟩
  refine zar<|th_x<|?_;obtain rfl:=osi E;obtain rfl:=lE _ rfl;refine th_x<|bk_x<|?_;exact ⟨eK,hS,dF,a5,gI⟩
 rintro _ rO ⟨p5,oR,fD,dU,r5⟩;refine W_th<|W_sr<|wls V V (zaz (L:=[bp a]) (R:=Sc u8) [] ([]:List UInt8) V T22 V (by exact trivial) V (litC u8 zbi (us:=[]) (l:=([]:List UInt8)) V) V (litS u8 (us:=[]) (l:=([]:List UInt8)) V) ?_);intro i5 rP n1 m1 jW qQ;have iE:=zaa jW;replace dU:=dU.ext iE;have m2:=Nw.ext fD m1;have jK:=fD.trans iE;refine av i5 V V<|wnt<|W_seq<|W_sr<|bse s fun q9 kJ s=>wq V (ziz (m:=0) V A115 (by exact p5) dU (zaf _ _) (zad kJ))<|mv (i64 0) V V<|wnt<|?_;obtain ⟨pT,iK,s⟩:=bsi s;refine W_mid (fun d e=>∃ d2:Value,d 16=d2/\d 288=undef/\Ext w0 e/\OwK (Sc u8) e [d2] 5 d2 pT/\Nw w0 d2) ?_ ?_
 ·refine zac<|zau (fun cV d e=>∃ d0:Value,d 16=d0/\d 268=ag u32 iG/\d 269=i64 cV.2/\d 288=undef/\Ext w0 e/\OwK (Sc u8) e [d0] 5 d0 cV.1/\Nw w0 d0) iK ?_ ?_
  ·exact ⟨i5,rfl,rfl,rfl,oR,jK,n1.weak (Sc.stab _) (fun _ h=>⟨h.1,trivial⟩),m2⟩
  rintro cV _ _ rR ⟨c4,hM,hN,eF,hP,fE,bW,dI⟩ T lA;refine W_sr<|wa V (q_ltI V eF V)<|wnt<|W_seq<|wci T V V (fun T=>?_) (fun T=>?_)
  ·refine zae<|W_th<|W_seq<|zac<|W_sr<|?_;obtain ⟨qA,kK,T⟩:=bsi T;obtain ⟨o,kL,T⟩:=bsi T;refine wa V (q_index V A115 (by exact hN) (by exact eF) (zad kK) kL)<|av (u32 o) V V<|wnt<|W_rg<|mv c4 V hM<|mv (u32 o) V V<|wa V (zhv 24 V V V V)<|wa V (q_cvt832 V V V V)<|?_;refine mv (u32 o) V V<|wa V (zhv 16 V V V V)<|wa V (q_cvt832 V V V V)<|mv (u32 o) V V<|wa V (zhv 8 V V V V)<|wa V (q_cvt832 V V V V)<|mv (u32 o) V V<|wa V (q_cvt832 V V V V)<|wls V V (zaz (L:=[c4]) (R:=Sc u8) [u8 ((shr32 o 24).toUInt8),u8 ((shr32 o 16).toUInt8),u8 ((shr32 o 8).toUInt8),u8 (o.toUInt8)] ([((shr32 o 24).toUInt8),((shr32 o 16).toUInt8),((shr32 o 8).toUInt8),o.toUInt8]:List UInt8) V T22 V (by exact ⟨rfl,rfl,rfl,rfl,rfl,rfl,rfl,rfl,trivial⟩) V (litC u8 zbi (us:=[u8 ((shr32 o 24).toUInt8),u8 ((shr32 o 16).toUInt8),u8 ((shr32 o 8).toUInt8),u8 (o.toUInt8)]) (l:=([((shr32 o 24).toUInt8),((shr32 o 16).toUInt8),((shr32 o 8).toUInt8),o.toUInt8]:List UInt8)) V) V (litS u8 (us:=[u8 ((shr32 o 24).toUInt8),u8 ((shr32 o 16).toUInt8),u8 ((shr32 o 8).toUInt8),u8 (o.toUInt8)]) (l:=([((shr32 o 24).toUInt8),((shr32 o 16).toUInt8),((shr32 o 8).toUInt8),o.toUInt8]:List UInt8)) V) ?_);intro i6 pM n6 mA jY qR;have eQ:=zaa jY;have lF:By pM [c4] i6 ([((shr32 o 24).toUInt8),((shr32 o 16).toUInt8),((shr32 o 8).toUInt8),o.toUInt8]:List UInt8):=OwK.slk (Sc.stab _) _ n6 (fun J a4=>(Old.cons (Old.nil _) bW.lt) J (mA J a4)) (fun _ h=>h.2);replace bW:=bW.extL (Sc.stab _) eQ (le_ eQ);have f0:=fE.trans eQ;obtain ⟨qB,kM,T⟩:=bsi T;refine wls V V (zav (R:=Sc u8) (v:=c4) (u:=i6) (Sc.stab _) [] [] V T22 V V bW lF (fun _ _ h=>h) kM oc_u8 ?_);intro i7 rS n7 jZ mQ qS;have jL:=f0.grown jZ dI;have mB:=Nw.nxt f0 dI mQ;refine av i7 V V<|zag<|?_
   refine bk_n<|W_th<|W_rg<|wa V (zak V eF V)<|mv (i64 (wI (cV.2+1))) V V<|zag<|?_;obtain rfl:=osi T;exact ⟨_,rfl,i7,rfl,hN,rfl,hP,jL,n7,mB⟩
  refine zar<|th_x<|?_;obtain rfl:=osi T;obtain rfl:=lA _ rfl;refine th_x<|bk_x<|?_;exact ⟨c4,hM,hP,fE,bW,dI⟩
 rintro _ rT ⟨d1,oN,oS,kA,mT,lU⟩;refine W_th<|W_sr<|mv d1 V oN<|av d1 V V<|wnt<|W_ret<|?_;obtain rfl:=osi s;refine rt1 d1 V V V oS ?_;exact ⟨d1,rfl,kA,lU,mT.weak (Sc.stab _) (fun _ _=>trivial)⟩
end Gk

/- The document's answer for sums of bytes, in plain Lean. No condition but lengths. -/
namespace Gk
open Gf
theorem zgk (x:UInt32) (k:Nat) (h:k<=32):za5 x k=some (rot x k):=by
 unfold za5
 rw [zex,obs,wI_of (by omega) (by omega),show (32:Int) - (k:Int)=((32 - k:Nat):Int) by omega,zex,obs];rfl
def dv:List UInt64->Nat
 | []=>0
 | d :: l=>d.toNat+65536 * dv l
theorem dv_app (l:List UInt64) (d:UInt64):dv (l ++ [d])=dv l+65536 ^ l.length * d.toNat:=by
 induction l with
 | nil=>simp [dv]
 | cons a l ih=>simp only [List.cons_append,dv,ih,List.length_cons,Nat.pow_succ];rw [Nat.mul_add,Nat.add_assoc,Nat.mul_comm (65536 ^ l.length) 65536,Nat.mul_assoc]
def dig (l:List UInt64) (i:Nat):Nat:=(l.getD i 0).toNat
theorem dv_take (l:List UInt64) (i:Nat) (h:i<l.length):dv (l.take (i+1))=dv (l.take i)+65536 ^ i * dig l i:=by
 have:l.take (i+1)=l.take i ++ [l.getD i 0]:=by
  rw [List.take_add_one,List.getElem?_eq_getElem h,List.getD_eq_getElem?_getD,List.getElem?_eq_getElem h];rfl
 rw [this,dv_app,List.length_take,Nat.min_eq_left (by omega)];rfl
def Dig (l:List UInt64):Prop:=∀ d∈l,d.toNat<65536
theorem idx_dig {l:List UInt64} {i:Nat} (h:i<l.length):idx l (i:Int)=some (l.getD i 0):=by
 rw [zge,List.getD_eq_getElem?_getD,List.getElem?_eq_getElem h];rfl
theorem dig_lt {l:List UInt64} (h:Dig l) (i:Nat):dig l i<65536:=by
 unfold dig
 by_cases hi:i<l.length
 ·rw [List.getD_eq_getElem?_getD,List.getElem?_eq_getElem hi];exact h _ (List.getElem_mem hi)
 ·rw [List.getD_eq_getElem?_getD,List.getElem?_eq_none (by omega)];decide
def pbody (out:List UInt64) (x:UInt64) (s11:List UInt64×List UInt64×UInt64×Int):Option ((List UInt64×List UInt64×UInt64×Int)⊕List UInt64) :=
 (if s11.2.2.2<(s11.1.length:Int) then
 (((if s11.2.2.2<(s11.1.length:Int) then
 ((idx s11.1 s11.2.2.2).bind fun c16 =>
 some (s11.2.2.1+(c16 * x)))
 else
 some s11.2.2.1)).bind fun x14 =>
 ((appL s11.2.1 (([(x14 % (65536:UInt64))]:List UInt64))).bind fun c20 =>
 some (.inl (s11.1,c20,(x14 / (65536:UInt64)),(wI (s11.2.2.2+1))))))
 else
 (if (0:UInt64)<s11.2.2.1 then
 (((if s11.2.2.2<(s11.1.length:Int) then
 ((idx s11.1 s11.2.2.2).bind fun c28 =>
 some (s11.2.2.1+(c28 * x)))
 else
 some s11.2.2.1)).bind fun x26 =>
 ((appL s11.2.1 (([(x26 % (65536:UInt64))]:List UInt64))).bind fun c32 =>
 some (.inl (s11.1,c32,(x26 / (65536:UInt64)),(wI (s11.2.2.2+1))))))
 else
 some (.inr s11.2.1)))
theorem times_loop (out:List UInt64) (x:UInt64) (hx:x.toNat<2 ^ 40) (ho:Dig out) (hl:out.length<=100) :
  ∃ r,iterC (pbody out x) (out,[],0,0)=some r/\dv r=dv out * x.toNat/\Dig r/\r.length<=out.length+3:=by
 refine zfx (body:=pbody out x) (fun s=>∃ i:Nat,s.1=out/\s.2.2.2=(i:Int)/\s.2.1.length=i/\Dig s.2.1/\i<=out.length+3/\s.2.2.1.toNat<2 ^ 41/\(out.length<=i->s.2.2.1.toNat<2 ^ (41 - 16 * (i - out.length)))
   /\ dv s.2.1+65536 ^ i * s.2.2.1.toNat=dv (out.take i) * x.toNat)
  (fun s=>200 - s.2.2.2.toNat) _ ?_ _ ⟨0,rfl,rfl,rfl,fun d hd=>absurd hd (List.not_mem_nil),by omega,by simp,by intro h;simp,by simp [dv]⟩
 rintro ⟨out,nx,c,_⟩ ⟨i,rfl,rfl,hn,hd,hi,hc,hc2,hv⟩
 simp only at ho hl hn hd hi hc hc2 hv ⊢
 have hmost:(200:Nat)<=most:=by decide
 have key:∀ y:UInt64,Dig (nx ++ [y % 65536])/\(nx ++ [y % 65536]).length=i+1/\dv (nx ++ [y % 65536])+65536 ^ (i+1) * (y / 65536).toNat=dv nx+65536 ^ i * y.toNat:=by
  intro y
  refine ⟨?_,by simp [hn],?_⟩
  ·intro d hd'
   rcases List.mem_append.1 hd' with h | h
   ·exact hd d h
   ·simp only [List.mem_singleton] at h;subst h
    rw [UInt64.toNat_mod];exact Nat.mod_lt _ (by decide)
  ·rw [dv_app,hn,UInt64.toNat_mod,UInt64.toNat_div,show UInt64.toNat 65536=65536 from rfl,Nat.pow_succ,Nat.mul_assoc,Nat.add_assoc,← Nat.mul_add,Nat.mod_add_div]
 by_cases h:i<out.length
 ·left
  have hdg:=dig_lt ho i
  have hmul:(c+out.getD i 0 * x).toNat=c.toNat+dig out i * x.toNat:=by
   have hb:dig out i * x.toNat<=65535 * 2 ^ 40:=Nat.mul_le_mul (by omega) (by omega)
   rw [UInt64.toNat_add,UInt64.toNat_mul]
   unfold dig at *
   rw [Nat.mod_eq_of_lt (a:=_ * _) (by omega),Nat.mod_eq_of_lt (by omega)]
  obtain ⟨k1,k2,k3⟩:=key (c+out.getD i 0 * x)
  have hb:dig out i * x.toNat<=65535 * 2 ^ 40:=Nat.mul_le_mul (by omega) (by omega)
  refine ⟨(out,nx ++ [(c+out.getD i 0 * x) % 65536],(c+out.getD i 0 * x) / 65536,((i+1:Nat):Int)),?_,⟨i+1,rfl,rfl,k2,k1,by omega,?_,?_,?_⟩,?_⟩
  ·unfold pbody
   simp only []
   rw [if_pos (by omega),if_pos (by omega),idx_dig h,obs,obs]
   unfold appL
   rw [if_pos (by simp only [List.length_singleton];omega),obs,zas _ (by omega)]
  ·simp only [];rw [UInt64.toNat_div,hmul,show UInt64.toNat 65536=65536 from rfl];omega
  ·intro h';simp only [];rw [UInt64.toNat_div,hmul,show UInt64.toNat 65536=65536 from rfl,show i+1 - out.length=0 by omega];omega
  ·simp only []
   rw [k3,hmul,dv_take out i h,Nat.mul_add,← Nat.add_assoc,hv,Nat.add_mul,Nat.mul_assoc]
  ·simp only [Int.toNat_natCast];omega
 ·have h2:=hc2 (by omega)
  by_cases hz:c=0
  ·right
   refine ⟨nx,?_,?_,hd,by omega⟩
   ·unfold pbody
    simp only []
    rw [if_neg (by omega),if_neg (by rw [hz];decide)]
   ·rw [hz,List.take_of_length_le (by omega)] at hv
    simpa using hv
  ·left
   have hcp:0<c.toNat:=Nat.pos_of_ne_zero fun e=>hz (UInt64.toNat_inj.1 e)
   have hi3:i<out.length+3:=by
    apply Classical.byContradiction;intro hc3
    rw [show i - out.length=3 by omega] at h2
    have:(2:Nat) ^ (41 - 16 * 3)=1:=by decide
    omega
   obtain ⟨k1,k2,k3⟩:=key c
   refine ⟨(out,nx ++ [c % 65536],c / 65536,((i+1:Nat):Int)),?_,⟨i+1,rfl,rfl,k2,k1,by omega,?_,?_,?_⟩,?_⟩
   ·unfold pbody
    simp only []
    rw [if_neg (by omega),if_pos (by rw [UInt64.lt_iff_toNat_lt];exact hcp),if_neg (by omega),obs]
    unfold appL
    rw [if_pos (by simp only [List.length_singleton];omega),obs,zas _ (by omega)]
   ·simp only [];rw [UInt64.toNat_div,show UInt64.toNat 65536=65536 from rfl];omega
   ·intro h';simp only [];rw [UInt64.toNat_div,show UInt64.toNat 65536=65536 from rfl]
    rcases (show i - out.length=0∨i - out.length=1∨i - out.length=2 by omega) with e | e | e <;> rw [e] at h2 <;> rw [show i+1 - out.length=i - out.length+1 by omega,e] <;> simp only [Nat.reduceMul,Nat.reduceSub,Nat.reduceAdd,Nat.reducePow] at h2 ⊢ <;> omega
   ·simp only []
    rw [k3,hv,List.take_of_length_le (by omega),List.take_of_length_le (by omega)]
   ·simp only [Int.toNat_natCast];omega
theorem power_eq (x:UInt64) (hx:x.toNat<2 ^ 40) (n:Nat) (hn:n<=3):∃ r,zid x n=some r/\dv r=x.toNat ^ n/\Dig r/\r.length<=16:=by
 unfold zid
 suffices h:∃ r,iterC (fun s4:Int×List UInt64=>(if 0<s4.1 then ((iterC (pbody s4.2 x) (s4.2,([]:List UInt64),(0:UInt64),0)).bind fun x11=>some (.inl ((wI (s4.1 - 1)),x11))) else some (.inr s4.2))) ((n:Int),([(1:UInt64)]:List UInt64))=some r/\dv r=x.toNat ^ n/\Dig r/\r.length<=16 by
  obtain ⟨r,h1,h2⟩:=h
  exact ⟨r,zay h1 rfl,h2⟩
 refine zfx (fun s=>∃ j:Nat,s.1=(j:Int)/\j<=n/\dv s.2 * x.toNat ^ j=x.toNat ^ n/\Dig s.2/\s.2.length+3 * j<=10) (fun s=>s.1.toNat) _ ?_ _ ⟨n,rfl,Nat.le_refl _,by simp [dv],by intro d hd;simp at hd;subst hd;decide,by simp;omega⟩
 rintro ⟨_,l⟩ ⟨j,rfl,hj,hv,hd,hl⟩
 simp only at hv hd hl ⊢
 cases j with
 | zero=>right;exact ⟨l,by rw [if_neg (by decide)],by simpa using hv,hd,by omega⟩
 | succ j =>
  left
  obtain ⟨r,h1,h2,h3,h4⟩:=times_loop l x hx hd (by omega)
  refine ⟨((j:Int),r),?_,⟨j,rfl,by omega,?_,h3,by simp only;omega⟩,by simp only [Int.toNat_natCast];omega⟩
  ·rw [if_pos (by omega),h1,obs,wI_of (by omega) (by omega)]
   rw [show ((j+1:Nat):Int) - 1=(j:Int) by omega]
  ·simp only []
   rw [h2,← hv,Nat.pow_succ,Nat.mul_assoc,Nat.mul_comm x.toNat]
end Gk

/- The document's constants for sums of bytes. No condition. -/
namespace Gk
open Gf
def dvN (l:List UInt64):Nat->Nat
 | 0=>0
 | k+1=>dvN l k+65536 ^ k * dig l k
theorem dvN_lt {l:List UInt64} (h:Dig l):∀ k,dvN l k<65536 ^ k
 | 0=>by simp [dvN]
 | k+1=>by
  have h1:=dvN_lt h k
  have h2:=dig_lt h k
  have h3:65536 ^ k * dig l k<=65536 ^ k * 65535:=Nat.mul_le_mul_left _ (by omega)
  simp only [dvN,Nat.pow_succ];omega
theorem dvN_eq (l:List UInt64) (k:Nat):dvN l k=dv (l.take k):=by
 induction k with
 | zero=>simp [dvN,dv]
 | succ k ih =>
  by_cases h:k<l.length
  ·rw [dv_take l k h,← ih];rfl
  ·have:dig l k=0:=by unfold dig;rw [List.getD_eq_getElem?_getD,List.getElem?_eq_none (by omega)];rfl
   rw [dvN,this,Nat.mul_zero,Nat.add_zero,ih,List.take_of_length_le (by omega),List.take_of_length_le (by omega)]
theorem dvN_16 {l:List UInt64} (h:l.length<=16):dvN l 16=dv l:=by rw [dvN_eq,List.take_of_length_le h]
theorem dv_rep (n:Nat) (p:UInt64):dv (List.replicate n 0 ++ [p])=65536 ^ n * p.toNat:=by
 rw [dv_app,List.length_replicate]
 have:dv (List.replicate n 0)=0:=by
  induction n with
  | zero=>rfl
  | succ n ih=>rw [List.replicate_succ,dv,ih];rfl
 rw [this,Nat.zero_add]
theorem cmp_loop (a c:List UInt64) (ha:Dig a) (hc:Dig c) {body:Int->Option (Int⊕(Unit⊕Bool))}
  (h1:∀ i:Nat,i<16->body (i:Int)=if a.getD i 0=c.getD i 0 then some (.inl ((i:Int) - 1)) else some (.inr (.inr (decide (c.getD i 0<a.getD i 0)))))
  (h2:body (-1)=some (.inr (.inl ()))):∀ j:Nat,j<=16->∃ o,iterC body ((j:Int) - 1)=some o/\Sum.elim (fun _=>some false) (fun q=>some q) o=some (decide (dvN c j<dvN a j))
 | 0,_=>⟨_,by rw [zbq,show ((0:Nat):Int) - 1=-1 by rfl,h2];rfl,by simp [dvN]⟩
 | j+1,hj=>by
  obtain ⟨o,ho,ho2⟩:=cmp_loop a c ha hc h1 h2 j (by omega)
  rw [zbq,show ((j+1:Nat):Int) - 1=(j:Int) by omega,h1 j (by omega)]
  have la:=dvN_lt ha j;have lc:=dvN_lt hc j
  by_cases e:a.getD j 0=c.getD j 0
  ·rw [if_pos e]
   refine ⟨o,ho,?_⟩
   rw [ho2]
   simp only [dvN,dig,e]
   congr 1;simp
  ·rw [if_neg e]
   refine ⟨_,rfl,?_⟩
   simp only [Sum.elim_inr]
   congr 1
   rw [decide_eq_decide,UInt64.lt_iff_toNat_lt]
   have e':(a.getD j 0).toNat≠(c.getD j 0).toNat:=fun h=>e (UInt64.toNat_inj.1 h)
   simp only [dvN,dig]
   generalize (a.getD j 0).toNat=x at *
   generalize (c.getD j 0).toNat=y at *
   constructor
   ·intro h
    have:65536 ^ j * (y+1)<=65536 ^ j * x:=Nat.mul_le_mul_left _ (by omega)
    rw [Nat.mul_add] at this;omega
   ·intro h
    apply Classical.byContradiction;intro h'
    have:65536 ^ j * (x+1)<=65536 ^ j * y:=Nat.mul_le_mul_left _ (by omega)
    rw [Nat.mul_add] at this;omega
theorem above_eq (x p:UInt64) (n:Nat) (hx:x.toNat<2 ^ 40) (hp:p.toNat<65536) (hn:n<=3):zf8 x p n=some (decide (p.toNat * 2 ^ (32 * n)<x.toNat ^ n)):=by
 obtain ⟨r,h1,h2,h3,h4⟩:=power_eq x hx n hn
 have hmost:(200:Nat)<=most:=by decide
 unfold zf8
 rw [h1,obs,wI_of (by omega) (by omega),show 2 * (n:Int)=((2 * n:Nat):Int) by omega,zbj _ _ (by omega),obs]
 unfold appL
 rw [if_pos (by simp only [List.length_replicate,List.length_singleton];omega),obs]
 have hc:Dig (List.replicate (2 * n) 0 ++ [p]):=by
  intro d hd
  rcases List.mem_append.1 hd with h | h
  ·rw [List.eq_of_mem_replicate h];decide
  ·simp only [List.mem_singleton] at h;subst h;exact hp
 have hcl:(List.replicate (2 * n) (0:UInt64) ++ [p]).length=2 * n+1:=by simp
 have hv:=dv_rep (2 * n) p
 generalize List.replicate (2 * n) (0:UInt64) ++ [p]=c at *
 have gd:∀ (l:List UInt64) (i:Nat),¬ i<l.length->l.getD i 0=0:=fun l i h=>by rw [List.getD_eq_getElem?_getD,List.getElem?_eq_none (by omega)];rfl
 obtain ⟨o,ho,ho2⟩:=cmp_loop r c h3 hc (body:=fun s11:Int =>
  (if 0<=s11 then
  (((if s11<(r.length:Int) then
  ((idx r s11).bind fun c16 =>
  some c16)
  else
  some (0:UInt64))).bind fun x14 =>
  (if s11<(c.length:Int) then
  ((idx c s11).bind fun c19 =>
  (if x14=c19 then
  some (.inl (wI (s11 - 1)))
  else
  some (.inr (.inr (decide (c19<x14))))))
  else
  (if x14=(0:UInt64) then
  some (.inl (wI (s11 - 1)))
  else
  some (.inr (.inr (decide ((0:UInt64)<x14)))))))
  else
  some (.inr (.inl ())))) (fun i hi=>by
   rw [if_pos (by omega),wI_of (by omega) (by omega)]
   have e1:(if (i:Int)<(r.length:Int) then (idx r (i:Int)).bind fun c16=>some c16 else some (0:UInt64))=some (r.getD i 0):=by
    by_cases h:i<r.length
    ·rw [if_pos (by omega),idx_dig h];rfl
    ·rw [if_neg (by omega),gd r i h]
   rw [e1,obs]
   by_cases h:i<c.length
   ·rw [if_pos (by omega),idx_dig h];rfl
   ·rw [if_neg (by omega),gd c i h]) (by rfl) 16 (Nat.le_refl _)
 refine (zay (x:=o) ho ?_)
 refine Eq.trans ?_ (ho2.trans ?_)
 ·rfl
 ·rw [dvN_16 h4,dvN_16 (by omega),h2,hv]
  congr 2
  rw [show (65536:Nat)=2 ^ 16 by rfl,← Nat.pow_mul,Nat.mul_comm,show 16 * (2 * n)=32 * n by omega]
def frN (p n:Nat):Nat->Nat->Nat
 | 0,x=>x
 | b+1,x=>frN p n b (bif Nat.blt (p * 2 ^ (32 * n)) ((x+2 ^ b) ^ n) then x else x+2 ^ b)
theorem Fraction_eq (p:UInt64) (n:Nat) (hp:p.toNat<65536) (hn:n<=3):zd9 p n=some (UInt32.ofNat (frN p.toNat n 36 0)):=by
 unfold zd9
 suffices h:∀ (b:Nat) (x:UInt64),x.toNat+2 ^ b<=2 ^ 36->b<=36->∃ y,iterC (fun s1:UInt64×Int =>
   (if 0<=s1.2 then
   ((cnt s1.2).bind fun c4 =>
   ((zf8 (s1.1+(shl64 ((1:UInt64)) c4)) p n).bind fun r5 =>
   (if (!r5)=true then
   ((cnt s1.2).bind fun c8 =>
   some (.inl ((s1.1+(shl64 ((1:UInt64)) c8)),(wI (s1.2 - 1)))))
   else
   some (.inl (s1.1,(wI (s1.2 - 1)))))))
   else
   some (.inr s1.1))) (x,(b:Int) - 1)=some y/\y.toNat=frN p.toNat n b x.toNat by
  obtain ⟨y,h1,h2⟩:=h 36 0 (by decide) (by decide)
  refine zay h1 ?_
  congr 1
  apply UInt32.toNat_inj.1
  rw [UInt64.toNat_toUInt32,h2];simp
 intro b
 induction b with
 | zero=>intro x _ _;exact ⟨x,by rw [zbq];rfl,rfl⟩
 | succ b ih =>
  intro x hx hb
  have hpw:(2:Nat) ^ (b+1)=2 ^ b+2 ^ b:=by rw [Nat.pow_succ];omega
  have hpos:=Nat.two_pow_pos b
  have hxb:(x+shl64 1 b).toNat=x.toNat+2 ^ b:=by
   have e:(shl64 1 b).toNat=2 ^ b:=by
    simp only [shl64,UInt64.toNat_ofNat',UInt64.toNat_one,Nat.one_mul]
    rw [Nat.min_eq_left (by omega),Nat.mod_eq_of_lt (by omega)]
   rw [UInt64.toNat_add,e,Nat.mod_eq_of_lt (by omega)]
  rw [zbq]
  have e1:(((b+1:Nat):Int) - 1)=(b:Int):=by omega
  simp only [e1]
  rw [if_pos (by omega),zex,obs,above_eq _ _ _ (by omega) hp hn,hxb,obs,wI_of (by omega) (by omega)]
  simp only [frN]
  by_cases h:p.toNat * 2 ^ (32 * n)<(x.toNat+2 ^ b) ^ n
  ·rw [if_neg (by simp [h])]
   obtain ⟨y,h1,h2⟩:=ih x (by omega) (by omega)
   exact ⟨y,h1,by rw [h2,show Nat.blt (p.toNat * 2 ^ (32 * n)) ((x.toNat+2 ^ b) ^ n)=true by rw [Nat.blt_eq];exact h];rfl⟩
  ·rw [if_pos (by simp [h]),obs]
   obtain ⟨y,h1,h2⟩:=ih (x+shl64 1 b) (by omega) (by omega)
   exact ⟨y,h1,by rw [h2,hxb,show Nat.blt (p.toNat * 2 ^ (32 * n)) ((x.toNat+2 ^ b) ^ n)=false by rw [Bool.eq_false_iff,ne_eq,Nat.blt_eq];exact h];rfl⟩
theorem iterC_sim {S X:Type} {body body':S->Option (S⊕X)} (I:S->Prop) (he:∀ s r,I s->body' s=some r->body s=some r) (hs:∀ s s',I s->body' s=some (.inl s')->I s'):∀ (k:Nat) (s:S) (x:X),I s->iterN body' k s=some x->iterC body s=some x
 | 0,s,x,_,h=>by cases h
 | k+1,s,x,hi,h=>by
  unfold iterN at h
  cases hb:body' s with
  | none=>rw [hb] at h;cases h
  | some r =>
   rw [zbq,he s r hi hb]
   rw [hb] at h
   cases r with
   | inl s'=>exact iterC_sim I he hs k s' x (hs s s' hi hb) h
   | inr y=>exact h
def prL:List UInt64:=[2,3,5,7,11,13,17,19,23,29,31,37,41,43,47,53,59,61,67,71,73,79,83,89,97,101,103,107,109,113,127,131,137,139,149,151,157,163,167,173,179,181,191,193,197,199,211,223,227,229,233,239,241,251,257,263,269,271,277,281,283,293,307,311]
def pstep (s:List UInt64×UInt64):Option ((List UInt64×UInt64)⊕List UInt64) :=
 if 1000<s.2.toNat then none else if s.1.length<64 then (if s.1.all (fun q=>!decide (s.2 % q=0)) then some (.inl (s.1 ++ [s.2],s.2+1)) else some (.inl (s.1,s.2+1))) else some (.inr s.1)
theorem Primes_eq:zg0 64=some prL:=by
 unfold zg0
 have hmost:(100:Nat)<=most:=by decide
 refine zay (x:=prL) (iterC_sim (body':=pstep) (fun s=>(∀ q∈s.1,q≠0)/\s.2≠0) ?_ ?_ 400 _ _ ⟨(by intro q hq;cases hq),by decide⟩ ?_) rfl
 ·rintro ⟨l,p⟩ r ⟨hI,hp0⟩ hr
  unfold pstep at hr
  simp only at hI hr ⊢
  split at hr
  ·cases hr
  rw [← hr]
  by_cases h:l.length<64
  ·rw [if_pos (by omega),if_pos h]
   have hin:iterC (fun s7:Bool×Int =>
     (if s7.2<(l.length:Int) then
     ((idx l s7.2).bind fun c10 =>
     (if s7.1=true then
     ((nz c10).bind fun c12 =>
     some (.inl ((!decide ((p % c10)=(0:UInt64))),(wI (s7.2+1)))))
     else
     some (.inl (false,(wI (s7.2+1))))))
     else
     some (.inr s7.1))) (true,0)=some (l.all (fun q=>!decide (p % q=0))):=by
    refine zal (fun i=>((l.take i).all (fun q=>!decide (p % q=0)),(i:Int))) l.length _ (by simp) ?_ ?_
    ·intro i hi
     simp only []
     rw [if_pos (by omega),idx_dig hi,obs,zas _ (by omega)]
     have hm:l.getD i 0∈l:=by rw [List.getD_eq_getElem?_getD,List.getElem?_eq_getElem hi];exact List.getElem_mem hi
     have ht:l.take (i+1)=l.take i ++ [l.getD i 0]:=by
      rw [List.take_add_one,List.getElem?_eq_getElem hi,List.getD_eq_getElem?_getD,List.getElem?_eq_getElem hi];rfl
     rw [ht,List.all_append]
     have hz:nz (l.getD i 0)=some ():=by unfold nz;rw [if_neg (hI _ hm)]
     cases he:(l.take i).all (fun q=>!decide (p % q=0))
     ·rw [if_neg (by decide)];simp
     ·rw [if_pos rfl,hz,obs];simp
    ·simp only [];rw [if_neg (by omega),List.take_length]
   rw [zay hin rfl]
   by_cases hb:l.all (fun q=>!decide (p % q=0))=true
   ·rw [if_pos hb,if_pos hb];unfold appL;rw [if_pos (by simp;omega)];rfl
   ·rw [if_neg hb,if_neg hb]
  ·rw [if_neg (by omega),if_neg h]
 ·rintro ⟨l,p⟩ ⟨l',p'⟩ ⟨hI,hp0⟩ hp
  unfold pstep at hp
  simp only at hI hp0 hp ⊢
  split at hp
  ·cases hp
  rename_i hlt
  have hp1:p+1≠0:=by
   intro e
   have:=congrArg UInt64.toNat e
   rw [UInt64.toNat_add] at this
   simp at this;omega
  split at hp
  ·split at hp
   ·cases hp
    refine ⟨fun q hq=>?_,hp1⟩
    rcases List.mem_append.1 hq with h | h
    ·exact hI q h
    ·simp only [List.mem_singleton] at h;subst h;exact hp0
   ·cases hp;exact ⟨hI,hp1⟩
  ·cases hp
 ·decide +kernel
theorem pr_3:∀ i:Fin 64,UInt32.ofNat (frN (prL.getD i 0).toNat 3 36 0)=w0 kL i:=by decide +kernel
theorem pr_2:∀ i:Fin 8,UInt32.ofNat (frN (prL.getD i 0).toNat 2 36 0)=w0 hL i:=by decide +kernel
theorem pr_lt:∀ i:Fin 64,(prL.getD i 0).toNat<65536:=by decide +kernel
end Gk

/- The document's answer for sums of bytes is the program's. No condition but lengths. -/
namespace Gk
open Gf
def told (l:List UInt32) (n i:Nat):List UInt32:=l.take i ++ List.replicate (n - i) 0
theorem told_len (l:List UInt32) (n i:Nat) (h:l.length=n):(told l n i).length=n:=by simp [told];omega
theorem told_set (l:List UInt32) (n i:Nat) (h:l.length=n) (hi:i<n):(told l n i).set i (w0 l i)=told l n (i+1):=by
 unfold told
 obtain ⟨m,hm⟩:∃ m,n - i=m+1:=⟨n - i - 1,by omega⟩
 have hl:(l.take i).length=i:=by simp;omega
 rw [List.set_append_right _ _ (by omega),hl,Nat.sub_self,hm,List.replicate_succ,List.set_cons_zero,show n - (i+1)=m by omega,w0_take (by omega)]
 simp
theorem told_end (l:List UInt32) (n i:Nat) (h:l.length=n) (hi:n<=i):told l n i=l:=by
 unfold told;rw [List.take_of_length_le (by omega),show n - i=0 by omega];simp
theorem sched_pre (p:List UInt8) (i:Nat):∀ k,w0 (sched p (i+1+k)) i=w0 (sched p (i+1)) i
 | 0=>rfl
 | k+1=>by
  rw [← sched_pre p i k,show i+1+(k+1)=(i+1+k)+1 by omega,sched]
  simp only [w0,List.getD_eq_getElem?_getD]
  rw [List.getElem?_append_left (by rw [zdi];omega)]
theorem co_pcS (m:List UInt8) (j i:Nat) (h:i<64):co (pcS m j) i=co m (64 * j+i):=by
 rw [pcS,zkc,if_pos h,co_drop]
theorem lenA_eight (a b c d e f g h:UInt32):lenA 8 [a,b,c,d,e,f,g,h]=some ():=rfl
theorem one_block (m:List UInt8) (s:List UInt32) (j:Nat) (hs:s.length=8) (hm:64 * j+64<=m.length) (hb:m.length<=2000000):iterC (fun s101:List UInt32×List UInt32×Int =>
(if s101.2.2<64 then
(((if s101.2.2<16 then
((idx m ((wI (((64 * j:Nat):Int)+(wI (4 * s101.2.2)))))).bind fun c108 =>
((idx m ((wI ((wI (((64 * j:Nat):Int)+(wI (4 * s101.2.2))))+1)))).bind fun c109 =>
((idx m ((wI ((wI (((64 * j:Nat):Int)+(wI (4 * s101.2.2))))+2)))).bind fun c110 =>
((idx m ((wI ((wI (((64 * j:Nat):Int)+(wI (4 * s101.2.2))))+3)))).bind fun c111 =>
((lenA 64 s101.1).bind fun c112 =>
((idx s101.1 s101.2.2).bind fun c113 => some (s101.1.set (s101.2.2:Int).toNat (((((shl32 ((c108.toUInt32)) 24) ||| (shl32 ((c109.toUInt32)) 16)) ||| (shl32 ((c110.toUInt32)) 8)) ||| (c111.toUInt32))))))))))
else
((lenA 64 s101.1).bind fun c118 =>
((idx s101.1 ((wI (s101.2.2 - 2)))).bind fun c119 =>
((idx s101.1 ((wI (s101.2.2 - 7)))).bind fun c120 =>
((idx s101.1 ((wI (s101.2.2 - 15)))).bind fun c121 =>
((idx s101.1 ((wI (s101.2.2 - 16)))).bind fun c122 =>
((za5 c119 17).bind fun r123 =>
((za5 c119 19).bind fun r125 =>
((za5 c121 7).bind fun r127 =>
((za5 c121 18).bind fun r129 =>
((idx s101.1 s101.2.2).bind fun c131 => some (s101.1.set (s101.2.2:Int).toNat ((((((r123^^^r125)^^^(shr32 c119 10))+c120)+((r127^^^r129)^^^(shr32 c121 3)))+c122))))))))))))))).bind fun x104 =>
((lenA 8 s101.2.1).bind fun c137 =>
((idx s101.2.1 7).bind fun c138 =>
((idx s101.2.1 4).bind fun c139 =>
((idx s101.2.1 5).bind fun c140 =>
((idx s101.2.1 6).bind fun c141 =>
((lenA 64 kL).bind fun c142 =>
((idx kL s101.2.2).bind fun c143 =>
((lenA 64 x104).bind fun c144 =>
((idx x104 s101.2.2).bind fun c145 =>
((za5 c139 6).bind fun r146 =>
((za5 c139 11).bind fun r148 =>
((za5 c139 25).bind fun r150 =>
((lenA 8 s101.2.1).bind fun c154 =>
((idx s101.2.1 0).bind fun c155 =>
((idx s101.2.1 1).bind fun c156 =>
((idx s101.2.1 2).bind fun c157 =>
((za5 c155 2).bind fun r158 =>
((za5 c155 13).bind fun r160 =>
((za5 c155 22).bind fun r162 =>
((lenA 8 s101.2.1).bind fun c164 =>
((idx s101.2.1 0).bind fun c165 =>
((idx s101.2.1 1).bind fun c166 =>
((idx s101.2.1 2).bind fun c167 =>
((idx s101.2.1 3).bind fun c168 =>
((idx s101.2.1 4).bind fun c169 =>
((idx s101.2.1 5).bind fun c170 =>
((idx s101.2.1 6).bind fun c171 =>
((lenA 8 (([(((((c138+((r146^^^r148)^^^r150))+((c139 &&& c140)^^^(((4294967295:UInt32)^^^c139) &&& c141)))+c143)+c145)+(((r158^^^r160)^^^r162)+(((c155 &&& c156)^^^(c155 &&& c157))^^^(c156 &&& c157)))),c165,c166,c167,(c168+((((c138+((r146^^^r148)^^^r150))+((c139 &&& c140)^^^(((4294967295:UInt32)^^^c139) &&& c141)))+c143)+c145)),c169,c170,c171]:List UInt32))).bind fun c173 => some (.inl (x104,([(((((c138+((r146^^^r148)^^^r150))+((c139 &&& c140)^^^(((4294967295:UInt32)^^^c139) &&& c141)))+c143)+c145)+(((r158^^^r160)^^^r162)+(((c155 &&& c156)^^^(c155 &&& c157))^^^(c156 &&& c157)))),c165,c166,c167,(c168+((((c138+((r146^^^r148)^^^r150))+((c139 &&& c140)^^^(((4294967295:UInt32)^^^c139) &&& c141)))+c143)+c145)),c169,c170,c171]:List UInt32),(wI (s101.2.2+1)))))))))))))))))))))))))))))))))
else some (.inr s101.2.1))) ((List.replicate 64 (0:UInt32)),s,0)=some (rnds (sched (pcS m j) 64) s 64):=by
 generalize hp:pcS m j=p
 refine zal (fun t=>(wTo p t,rnds (sched p 64) s t,(t:Int))) 64 _ rfl ?_ ?_
 ·intro t ht
  have hl:=wTo_len p t (by omega)
  have hl':=wTo_len p (t+1) (by omega)
  have hr:=rnds_len (sched p 64) s hs t
  simp only []
  rw [if_pos (by omega)]
  refine zay (x:=wTo p (t+1)) ?_ ?_
  ·rw [← wTo_set p t ht]
   by_cases h16:t<16
   ·rw [if_pos (by omega),wI_of (x:=4 * (t:Int)) (by omega) (by omega),wI_of (x:=((64 * j:Nat):Int)+4 * (t:Int)) (by omega) (by omega),wI_of (by omega) (by omega),wI_of (by omega) (by omega),wI_of (by omega) (by omega),
     show ((64 * j:Nat):Int)+4 * (t:Int)=((64 * j+4 * t:Nat):Int) by omega,show ((64 * j+4 * t:Nat):Int)+1=((64 * j+(4 * t+1):Nat):Int) by omega,
     show ((64 * j+4 * t:Nat):Int)+2=((64 * j+(4 * t+2):Nat):Int) by omega,show ((64 * j+4 * t:Nat):Int)+3=((64 * j+(4 * t+3):Nat):Int) by omega,
     za4 (by omega),obs,za4 (by omega),obs,za4 (by omega),obs,za4 (by omega),obs,zcm hl,obs,ze6 (by omega),obs,Int.toNat_natCast]
    unfold nxt;rw [zdi,if_pos h16]
    unfold be be4
    rw [← hp,co_pcS _ _ _ (by omega),co_pcS _ _ _ (by omega),co_pcS _ _ _ (by omega),co_pcS _ _ _ (by omega)]
   ·rw [if_neg (by omega),zcm hl,obs,wI_of (by omega) (by omega),wI_of (by omega) (by omega),wI_of (by omega) (by omega),wI_of (by omega) (by omega),
     show (t:Int) - 15=((t - 15:Nat):Int) by omega,show (t:Int) - 2=((t - 2:Nat):Int) by omega,show (t:Int) - 16=((t - 16:Nat):Int) by omega,show (t:Int) - 7=((t - 7:Nat):Int) by omega,
     ze6 (by omega),obs,ze6 (by omega),obs,ze6 (by omega),obs,ze6 (by omega),obs]
    rw [show (17:Int)=((17:Nat):Int) by rfl,zgk _ 17 (by omega),obs,show (19:Int)=((19:Nat):Int) by rfl,zgk _ 19 (by omega),obs,
     show (7:Int)=((7:Nat):Int) by rfl,zgk _ 7 (by omega),obs,show (18:Int)=((18:Nat):Int) by rfl,zgk _ 18 (by omega),obs,
     ze6 (by omega),obs,Int.toNat_natCast,zkd _ _ _ (by omega),zkd _ _ _ (by omega),zkd _ _ _ (by omega),zkd _ _ _ (by omega)]
    unfold nxt;rw [zdi,if_neg h16]
    congr 2
    ac_rfl
  ·have e0:=zg6 (l:=rnds (sched p 64) s t) 0 (by omega) 0 rfl
   have e1:=zg6 (l:=rnds (sched p 64) s t) 1 (by omega) 1 rfl
   have e2:=zg6 (l:=rnds (sched p 64) s t) 2 (by omega) 2 rfl
   have e3:=zg6 (l:=rnds (sched p 64) s t) 3 (by omega) 3 rfl
   have e4:=zg6 (l:=rnds (sched p 64) s t) 4 (by omega) 4 rfl
   have e5:=zg6 (l:=rnds (sched p 64) s t) 5 (by omega) 5 rfl
   have e6:=zg6 (l:=rnds (sched p 64) s t) 6 (by omega) 6 rfl
   have e7:=zg6 (l:=rnds (sched p 64) s t) 7 (by omega) 7 rfl
   have ew:w0 (wTo p (t+1)) t=w0 (sched p 64) t:=by
    rw [zkd _ _ _ (by omega),← sched_pre p t (63 - t),show t+1+(63 - t)=64 by omega]
   simp only [zcm hr,e0,e1,e2,e3,e4,e5,e6,e7,obs,zcm hl',zcm (show kL.length=64 from rfl),ze6 (show t<(wTo p (t+1)).length by omega),ze6 (show t<kL.length from ht),ew,
    show ∀ x,za5 x 6=some (rot x 6) from fun x=>zgk x 6 (by decide),show ∀ x,za5 x 11=some (rot x 11) from fun x=>zgk x 11 (by decide),show ∀ x,za5 x 25=some (rot x 25) from fun x=>zgk x 25 (by decide),
    show ∀ x,za5 x 2=some (rot x 2) from fun x=>zgk x 2 (by decide),show ∀ x,za5 x 13=some (rot x 13) from fun x=>zgk x 13 (by decide),show ∀ x,za5 x 22=some (rot x 22) from fun x=>zgk x 22 (by decide),
    zas t (by omega),lenA_eight]
   rfl
 ·simp only [];rw [if_neg (by omega)]
theorem ref_Sum_eq (b:List UInt8) (h:b.length<=1000000):ref07_Sum b=some (sha b):=by
 have hm:(1000000:Nat)+200<=most:=by decide
 have hp:padN b.length<64:=Nat.mod_lt _ (by decide)
 have hn:=nbl_eq b.length
 unfold ref07_Sum
 have z64:(List.replicate 64 (0:UInt32)).length=64:=List.length_replicate
 have z8:(List.replicate 8 (0:UInt32)).length=8:=List.length_replicate
 rw [zcm z64,obs,zcm z8,obs,Primes_eq,obs]
 refine zay (x:=(kL,hL)) (zal (fun i=>(told kL 64 i,told hL 8 i,(i:Int))) 64 _ rfl ?_ ?_) ?_
 ·intro i hi
  have hk:=told_len kL 64 i rfl
  have hh:=told_len hL 8 i rfl
  simp only []
  have ep:(prL.length:Int)=64:=rfl
  have hlt:=pr_lt ⟨i,hi⟩
  have h3:=pr_3 ⟨i,hi⟩
  simp only at hlt h3
  rw [ep,if_pos (by omega),idx_dig (show i<prL.length from hi),obs,show (3:Int)=((3:Nat):Int) by rfl,Fraction_eq _ 3 hlt (by omega),obs,zcm hk,obs,ze6 (by omega),obs,
   Int.toNat_natCast,h3,told_set kL 64 i rfl hi,zas _ (by omega)]
  by_cases h8:i<8
  ·have h2:=pr_2 ⟨i,h8⟩
   simp only at h2
   rw [if_pos (by omega),show (2:Int)=((2:Nat):Int) by rfl,Fraction_eq _ 2 hlt (by omega),obs,zcm hh,obs,ze6 (by omega),obs,h2,told_set hL 8 i rfl h8]
  ·rw [if_neg (by omega),told_end hL 8 i rfl (by omega),told_end hL 8 (i+1) rfl (by omega)]
 ·rfl
 rw [zfv b (by omega),obs,appL_one b 128 (by omega),obs]
 have pl:∀ i:Nat,((b ++ [128]) ++ List.replicate i (0:UInt8)).length=b.length+1+i:=fun i=>by simp only [List.length_append,List.length_singleton,List.length_replicate]
 refine zay (x:=padL b) (zal (fun i=>(b ++ [128]) ++ List.replicate i 0) (padN b.length) _ (by simp) ?_ ?_) ?_
 ·intro i hi
  rw [pl i,show (64:Int)=((64:Nat):Int) by rfl,zch _ _ (by omega),obs,if_neg (by unfold padN at hi;omega),
   appL_one _ _ (by simp only [List.length_append,List.length_singleton,List.length_replicate];omega),obs,List.replicate_succ']
  simp
 ·rw [pl (padN b.length),show (64:Int)=((64:Nat):Int) by rfl,zch _ _ (by omega),obs,if_pos (by unfold padN;omega)]
  rfl
 refine zay (x:=zhu b) ?_ ?_
 ·rw [show (56:Int)=8 * ((8:Nat):Int) - 8 by rfl]
  rw [put_loop (X:=UInt8) (fun j=>(shr64 (UInt64.ofInt (b.length:Int) * 8) (8 * j)).toUInt8) 8 (padL b) (by rw [padL_len];omega)]
  ·rfl
  ·intro l j hj hl
   rw [if_pos (by simp only [];omega)]
   simp only []
   rw [show 8 * (j:Int)=((8 * j:Nat):Int) by omega,zex,obs,appL_one l _ hl,obs,wI_of (by omega) (by omega)]
  ·intro l;rw [if_neg (by simp only [];omega)]
 have hpl:=padded_len b
 refine zay (x:=shaS (zhu b) (nbl b.length)) (zal (fun j=>(shaS (zhu b) j,((64 * j:Nat):Int))) (nbl b.length) _ rfl ?_ ?_) ?_
 ·intro j hj
  have hs:=shaS_len (zhu b) j
  simp only []
  rw [if_pos (by omega),obs,zcm hs,obs,obs,one_block (zhu b) _ j hs (by omega) (by omega),obs,
   add_loop _ _ hs (rnds_len _ _ hs _),obs,wI_of (by omega) (by omega),show ((64 * j:Nat):Int)+64=((64 * (j+1):Nat):Int) by omega]
  rfl
 ·simp only [];rw [if_neg (by omega)]
 have hlen:=shaS_len (zhu b) (nbl b.length)
 rw [zcm hlen,obs,out_loop _ hlen]
 ·rfl
 ·intro l i hi hl
  simp only []
  rw [if_pos (by omega),obs,ze6 (by omega),obs]
  unfold appL
  rw [if_pos (by simp only [List.length_cons,List.length_nil];omega),obs,zas _ (by omega)]
  rfl
 ·intro l;rfl
end Gk

/- Printed by gen.py: for each Go function a pure function, and that the Go code comes to it. No condition beside the equation that says what the pure function gives. -/
namespace Gk
open Go Go.Proofs
noncomputable def aont_mix (d:Bool) (e:List UInt8) (b:List UInt8):Option (List UInt8×Int) :=
(if 1048576<(b.length:Int) then some (([]:List UInt8),4)
else
((zf9 d e).bind fun a =>
(if a.2=0 then
((makeL 8 (0:UInt8)).bind fun f =>
((zjs a.1 f b).bind fun c => some (c.1,c.2)))
else some (([]:List UInt8),a.2))))
theorem aont_mix_calls (j:Bool) (k:List UInt8) (l:List UInt8) (e:Value) (f:Value) (c:Value) (q:List UInt8×Int) (w0:World) (F:Fd w0 [] e j) (G:By w0 [] f k) (v:By w0 [] c l) (a:aont_mix j k l=some q) :
  Calls Tryz.prog 55 [e,f,c].toArray w0 (fun z x=>∃ r:Value,z=.returned (.tuple #[r,i64 q.2])/\Ext w0 x/\Nw w0 r/\OwK (Sc u8) x [] 5 r q.1):=by
 have d:Ext w0 w0:=Ext.refl w0;unfold aont_mix at a;refine zai (n:=28) Tryz.func55 V V V<|W_sr<|av (.slice none 0 0) V V<|av (i64 0) V V<|wnt<|W_seq<|W_sr<|mv c V V<|wa V (q_len V T22.sl V (v.lift (le_ d)))<|wa V (q_gtI V V V)<|wnt<|wci a V V (fun a=>?_) (fun a=>?_)
 ·refine W_sr<|av (.slice none 0 0) V V<|av (i64 4) V V<|wnt<|W_ret<|th_r<|?_;obtain rfl:=osi a;refine rt2 (.slice none 0 0) (i64 4) V V V V V V ?_;exact ⟨.slice none 0 0,rfl,d,Nw.nil _,OwK.nil _ _ _ _⟩
 refine zae<|W_th<|W_sr<|mv e V V<|mv f V V<|?_;obtain ⟨b,H,a⟩:=bsi a;refine wls V V (zab (vs:=[e,f]) Tryz.func83 V V V (ar2 V V) (cipher_New_calls j k e f b _ [] (Old.nil _) (F.lift (Lift.arg d nv_nil)) (G.lift (le_ d)) H) ?_);rintro _ Y ⟨g,rfl,U,p⟩;refine ⟨_,rfl,?_⟩;have u:=d.trans U;refine mv (.tuple #[g,i64 b.2]) V V<|wa V (zah V V V)<|wa V (zah V V V)<|av g V V<|av (i64 b.2) V V<|wnt<|W_seq<|W_seq<|W_rg<|mv (i64 b.2) V V<|wa V (q_neI V V V)<|wnt<|zam _ V V (fun o=>?_) (fun o=>?_)
 ·replace a:=(if_neg (zbf o)).symm.trans a;refine W_sr<|mv (i64 b.2) V V<|av (.slice none 0 0) V V<|av (i64 b.2) V V<|wnt<|W_ret<|th_r<|?_;obtain rfl:=osi a;refine rt2 (.slice none 0 0) (i64 b.2) V V V V V V ?_;exact ⟨.slice none 0 0,rfl,u,Nw.nil _,OwK.nil _ _ _ _⟩
 replace a:=(if_pos (zbg o)).symm.trans a;refine zae<|W_th<|W_sr<|mv g V V<|?_;obtain ⟨t,D,a⟩:=bsi a;refine wls V V (zb3 (L:=[]) (R:=Sc u8) V T22 V V D (fun _ _=>rfl) ?_);intro s S O K B X;have y:=zaa B;have J:By S [] s t:=OwK.slk (Sc.stab _) _ O (fun w E=>(Old.nil _) w (K w E)) (fun _ C=>C.2);replace p:=p.lift (le_ y);have m:=u.trans y;refine mv c V V ?_;obtain ⟨i,I,a⟩:=bsi a;refine wls V V (zab (vs:=[g,s,c]) Tryz.func84 V V V (ar3 V V V) (stream_Xor_calls b.1 t l g s c i _ (p.lift (Lift.sub (L':=[]) (fun _ _=>trivial))) (J.lift (Lift.sub (L':=[]) (fun _ _=>trivial))) (v.lift (le_ m)) I) ?_);rintro _ T ⟨h,rfl,W,M,Q⟩;refine ⟨_,rfl,?_⟩;have P:OwK (Sc u8) T (h::[]) 5 h i.1:=OwK.scal Q _;have N:=Nw.ext m M;have A:=m.trans W;refine wa V (zah V V V)<|wa V (zah V V V)<|av h V V<|av (i64 i.2) V V<|wnt<|W_ret<|?_;obtain rfl:=osi a;refine rt2 h (i64 i.2) V V V V V V ?_;exact ⟨h,rfl,A,N,P.weak (Sc.stab _) (fun _ _=>trivial)⟩
noncomputable def aont_Wrap (c:Bool) (b:List UInt8) (d:List UInt8):Option (List UInt8×Int) :=
(if (!c)=true then some (([]:List UInt8),1)
else
(if (b.length:Int)=32 then
((aont_mix c b d).bind fun a =>
(if a.2=0 then
((zki ([a.1]:List (List UInt8))).bind fun g =>
((zeh b g).bind fun e =>
((za0 ([a.1,e]:List (List UInt8))).bind fun f => some (f,0))))
else some (([]:List UInt8),a.2)))
else some (([]:List UInt8),3)))
theorem aont_Wrap_calls (q:Bool) (m:List UInt8) (s:List UInt8) (k:Value) (g:Value) (o:Value) (y:List UInt8×Int) (w0:World) (M:Fd w0 [] k q) (x:By w0 [] g m) (a1:By w0 [] o s) (a:aont_Wrap q m s=some y) :
  Calls Tryz.prog 27 [k,g,o].toArray w0 (fun U P=>∃ B:Value,U=.returned (.tuple #[B,i64 y.2])/\Ext w0 P/\Nw w0 B/\OwK (Sc u8) P [] 5 B y.1):=by
 have h:Ext w0 w0:=Ext.refl w0;unfold aont_Wrap at a;refine zai (n:=35) Tryz.func27 V V V<|W_sr<|av (.slice none 0 0) V V<|av (i64 0) V V<|wnt<|W_seq<|zac<|W_seq<|W_rg<|mv k V V<|wa V (q_eqF V V V V (M.lift (le_ h)))<|av (.bool (!q)) V V<|wnt<|zam _ V V (fun t=>?_) (fun t=>?_)
 ·replace a:=(if_pos t).symm.trans a;refine W_sr<|av (.slice none 0 0) V V<|av (i64 1) V V<|wnt<|W_ret<|bk_r<|th_r<|?_;obtain rfl:=osi a;refine rt2 (.slice none 0 0) (i64 1) V V V V V V ?_;exact ⟨.slice none 0 0,rfl,h,Nw.nil _,OwK.nil _ _ _ _⟩
 replace a:=(if_neg (ne_true_of_eq_false t)).symm.trans a;refine W_sr<|mv g V V<|wa V (q_len V T22.sl V (x.lift (le_ h)))<|wa V (q_neI V V V)<|av (.bool (!decide ((m.length:Int)=32))) V V<|wnt<|zam _ V V (fun u=>?_) (fun u=>?_)
 ·replace a:=(if_neg (zbf u)).symm.trans a;refine W_sr<|av (.slice none 0 0) V V<|av (i64 3) V V<|wnt<|W_ret<|bk_r<|th_r<|?_;obtain rfl:=osi a;refine rt2 (.slice none 0 0) (i64 3) V V V V V V ?_;exact ⟨.slice none 0 0,rfl,h,Nw.nil _,OwK.nil _ _ _ _⟩
 replace a:=(if_pos (zbg u)).symm.trans a;refine zae<|bk_n<|W_th<|W_sr<|mv k V V<|mv g V V<|mv o V V<|?_;obtain ⟨b,a4,a⟩:=bsi a;refine wls V V (zab (vs:=[k,g,o]) Tryz.func55 V V V (ar3 V V V) (aont_mix_calls q m s k g o b _ (M.lift (le_ h)) (x.lift (le_ h)) (a1.lift (le_ h)) a4) ?_);rintro _ G ⟨i,rfl,aT,aD,aK⟩;refine ⟨_,rfl,?_⟩;have e:By G [] i b.1:=OwK.slk (Sc.stab _) _ (OwK.scal aK (i::[])) (fun c f=>(Old.nil _) c (aD c f)) (fun _ d=>d.2);have J:=h.trans aT;refine mv (.tuple #[i,i64 b.2]) V V<|wa V (zah V V V)<|wa V (zah V V V)<|av i V V<|av (i64 b.2) V V<|wnt<|W_seq<|W_seq<|W_rg<|mv (i64 b.2) V V<|wa V (q_neI V V V)<|wnt<|zam _ V V (fun v=>?_) (fun v=>?_)
 ·replace a:=(if_neg (zbf v)).symm.trans a;refine W_sr<|mv (i64 b.2) V V<|av (.slice none 0 0) V V<|av (i64 b.2) V V<|wnt<|W_ret<|th_r<|?_;obtain rfl:=osi a;refine rt2 (.slice none 0 0) (i64 b.2) V V V V V V ?_;exact ⟨.slice none 0 0,rfl,J,Nw.nil _,OwK.nil _ _ _ _⟩
 replace a:=(if_pos (zbg v)).symm.trans a;refine zae<|W_th<|W_sr<|mv i V V<|mv g V V<|mv i V V<|wls V V (zaz (L:=[]) (R:=By) [i] ([b.1]:List (List UInt8)) V T29 V (by exact ⟨rfl,rfl,trivial⟩) V (LitR.cells (R:=By) (w:=G) (L:=[]) (l:=([b.1]:List (List UInt8))) (LitR.cons e LitR.nil) (fun A H d=>zb4 A H d)) V (LitR.all (R:=By) (w:=G) (L:=[]) (l:=([b.1]:List (List UInt8))) (SlK.stab (Sc.stab _)) (LitR.cons e LitR.nil)) ?_);intro E aP aL aE a0 aV;have S:=zaa a0;have a7:Rw aP [] E ([b.1]:List (List UInt8)):=OwK.slk (SlK.stab (Sc.stab _)) _ aL (fun c f=>(Old.nil _) c (aE c f)) (fun _ d=>d.2);replace e:=e.lift (le_ S);have Y:=J.trans S;obtain ⟨z,a5,a⟩:=bsi a;refine wls V V (zab (vs:=[E]) Tryz.func57 V V V (ar1 V) (hash_Sum_calls ([b.1]:List (List UInt8)) E z _ (a7.lift (Lift.sub (L':=[]) (fun _ _=>trivial))) a5) ?_);rintro _ aQ ⟨r,rfl,T,aF,aM⟩;refine ⟨_,rfl,?_⟩;have a8:By aQ [] r z:=OwK.slk (Sc.stab _) _ (OwK.scal aM (r::[])) (fun c f=>(Old.nil _) c (aF c f)) (fun _ d=>d.2);replace e:=e.lift (le_ T);have K:=Y.trans T;obtain ⟨j,a2,a⟩:=bsi a;refine wls V V (zab (vs:=[g,r]) Tryz.func56 V V V (ar2 V V) (zed m z g r j _ (x.lift (le_ K)) (a8.lift (Lift.sub (L':=[]) (fun _ _=>trivial))) a2) ?_);rintro _ F ⟨C,rfl,Q,a9,aG⟩;refine ⟨_,rfl,?_⟩;have N:By F [] C j:=OwK.slk (Sc.stab _) _ (OwK.scal aG (C::[])) (fun c f=>(Old.nil _) c (a9 c f)) (fun _ d=>d.2);replace e:=e.lift (le_ Q);have W:=K.trans Q;refine wls V V (zaz (L:=[]) (R:=By) [i,C] ([b.1,j]:List (List UInt8)) V T29 V (by exact ⟨rfl,rfl,rfl,rfl,trivial⟩) V (LitR.cells (R:=By) (w:=F) (L:=[]) (l:=([b.1,j]:List (List UInt8))) (LitR.cons e (LitR.cons N LitR.nil)) (fun A H d=>zb4 A H d)) V (LitR.all (R:=By) (w:=F) (L:=[]) (l:=([b.1,j]:List (List UInt8))) (SlK.stab (Sc.stab _)) (LitR.cons e (LitR.cons N LitR.nil))) ?_);intro D aN aH aA Z aU;have aR:=zaa Z;have a6:Rw aN [] D ([b.1,j]:List (List UInt8)):=OwK.slk (SlK.stab (Sc.stab _)) _ aH (fun c f=>(Old.nil _) c (aA c f)) (fun _ d=>d.2);have I:=W.trans aR
 obtain ⟨O,a3,a⟩:=bsi a;refine wls V V (zab (vs:=[D]) Tryz.func29 V V V (ar1 V) (za7 ([b.1,j]:List (List UInt8)) D O _ (a6.lift (Lift.sub (L':=[]) (fun _ _=>trivial))) a3) ?_);rintro _ aO ⟨p,rfl,aS,aB,aJ⟩;refine ⟨_,rfl,?_⟩;have aI:OwK (Sc u8) aO (p::[]) 5 p O:=OwK.scal aJ _;have aC:=Nw.ext I aB;have X:=I.trans aS;refine av p V V<|av (i64 0) V V<|wnt<|W_ret<|?_;obtain rfl:=osi a;refine rt2 p (i64 0) V V V V V V ?_;exact ⟨p,rfl,X,aC,aI.weak (Sc.stab _) (fun _ _=>trivial)⟩
noncomputable def aont_Key (a:List UInt8):Option (List UInt8×Int) :=
(if (wI ((a.length:Int) - 32))<0 then some (([]:List UInt8),3)
else
((subL a (wI ((a.length:Int) - 32)) (a.length:Int)).bind fun b =>
((subL a 0 (wI ((a.length:Int) - 32))).bind fun c =>
((zki ([c]:List (List UInt8))).bind fun e =>
((zeh b e).bind fun d => some (d,0))))))
theorem aont_Key_calls (d:List UInt8) (e:Value) (s:List UInt8×Int) (w0:World) (f:By w0 [] e d) (c:aont_Key d=some s) :
  Calls Tryz.prog 74 [e].toArray w0 (fun C A=>∃ u:Value,C=.returned (.tuple #[u,i64 s.2])/\Ext w0 A/\Nw w0 u/\OwK (Sc u8) A [] 5 u s.1):=by
 have p:Ext w0 w0:=Ext.refl w0;unfold aont_Key at c;refine zai (n:=19) Tryz.func74 V V V<|W_sr<|av (.slice none 0 0) V V<|av (i64 0) V V<|wnt<|W_sr<|mv e V V<|wa V (q_len V T22.sl V (f.lift (le_ p)))<|wa V (za9 V V V)<|av (i64 (wI ((d.length:Int) - 32))) V V<|wnt<|W_seq<|W_sr<|mv (i64 (wI ((d.length:Int) - 32))) V V<|?_;refine wa V (q_ltI V V V)<|wnt<|wci c V V (fun c=>?_) (fun c=>?_)
 ·refine W_sr<|av (.slice none 0 0) V V<|av (i64 3) V V<|wnt<|W_ret<|th_r<|?_;obtain rfl:=osi c;refine rt2 (.slice none 0 0) (i64 3) V V V V V V ?_;exact ⟨.slice none 0 0,rfl,p,Nw.nil _,OwK.nil _ _ _ _⟩
 refine zae<|W_th<|W_seq<|zba [] [(0,0),(1,0),(2,0),(3,0),(4,0),(5,0),(6,2),(7,2),(8,2),(9,0),(10,0)] mixed (by kernel_rfl) (by kernel_rfl) (by kernel_rfl) (by kernel_rfl) ?_;have a1:=Ext.drew w0;have h:=p.trans a1;refine sv e V V V<|sv (i64 (wI ((d.length:Int) - 32))) V V V<|bse c fun B y c=>sa V V (zdv (a:=wI ((d.length:Int) - 32)) (b:=(d.length:Int)) V T22 V (f.lift (le_ h)) V V y)<|sv e V V V<|sv (i64 (wI ((d.length:Int) - 32))) V V V<|bse c fun g q c=>sa V V (zdv (a:=0) (b:=wI ((d.length:Int) - 32)) V T22 V (f.lift (le_ h)) V V q)<|wsc V (by kernel_rfl) V V (zaz (L:=[]) (R:=By) [subV e (0:Int).toNat ((wI ((d.length:Int) - 32)):Int).toNat] ([g]:List (List UInt8)) V T29 V (by exact ⟨rfl,rfl,trivial⟩) V (LitR.cells (R:=By) (w:=World.drew w0) (L:=[]) (l:=([g]:List (List UInt8))) (LitR.cons (SlK.cut (f.lift (Lift.arg h nv_nil)) q) LitR.nil) (fun U Z i=>zb4 U Z i)) V (LitR.all (R:=By) (w:=World.drew w0) (L:=[]) (l:=([g]:List (List UInt8))) (SlK.stab (Sc.stab _)) (LitR.cons (SlK.cut (f.lift (Lift.arg h nv_nil)) q) LitR.nil)) ?_);intro x X S N F a4;have a2:=zaa F;have I:Rw X [] x ([g]:List (List UInt8)):=OwK.slk (SlK.stab (Sc.stab _)) _ S (fun j r=>(Old.nil _) j (N j r)) (fun _ i=>i.2);have E:=h.trans a2;obtain ⟨t,H,c⟩:=bsi c;refine wsc V (by kernel_rfl) V V (zab (vs:=[x]) Tryz.func57 V V V (ar1 V) (hash_Sum_calls ([g]:List (List UInt8)) x t _ (I.lift (Lift.sub (L':=[]) (fun _ _=>trivial))) H) ?_);rintro _ Y ⟨m,rfl,a3,O,T⟩;refine ⟨_,rfl,?_⟩;have J:By Y [] m t:=OwK.slk (Sc.stab _) _ (OwK.scal T (m::[])) (fun j r=>(Old.nil _) j (O j r)) (fun _ i=>i.2);have o:=E.trans a3;obtain ⟨z,G,c⟩:=bsi c;refine wsc V (by kernel_rfl) V V (zab (vs:=[subV e ((wI ((d.length:Int) - 32)):Int).toNat ((d.length:Int):Int).toNat,m]) Tryz.func56 V V V (ar2 V V) (zed B t (subV e ((wI ((d.length:Int) - 32)):Int).toNat ((d.length:Int):Int).toNat) m z _ (SlK.cut (L:=[]) (f.lift (le_ o)) y) (J.lift (Lift.sub (L':=[]) (fun _ _=>trivial))) G) ?_);rintro _ W ⟨k,rfl,a0,K,Q⟩;refine ⟨_,rfl,?_⟩;have P:OwK (Sc u8) W (k::[]) 5 k z:=OwK.scal Q _
 have M:=Nw.ext o K;have D:=o.trans a0;refine sa V V (zat (v:=k) V V)<|sa V V (zat (v:=i64 0) V V)<|za1<|W_th<|W_ret<|?_;obtain rfl:=osi c;refine rt2 k (i64 0) V V V V V V ?_;exact ⟨k,rfl,D,M,P.weak (Sc.stab _) (fun _ _=>trivial)⟩
noncomputable def aont_Open (c:Bool) (a:List UInt8):Option (List UInt8×Int) :=
(if (!c)=true then some (([]:List UInt8),1)
else
((aont_Key a).bind fun b =>
(if b.2=0 then
((subL a 0 (wI ((a.length:Int) - 32))).bind fun e =>
((aont_mix c b.1 e).bind fun d => some (d.1,d.2)))
else some (([]:List UInt8),b.2))))
theorem aont_Open_calls (o:Bool) (h:List UInt8) (i:Value) (d:Value) (r:List UInt8×Int) (w0:World) (u:Fd w0 [] i o) (l:By w0 [] d h) (c:aont_Open o h=some r) :
  Calls Tryz.prog 41 [i,d].toArray w0 (fun y w=>∃ s:Value,y=.returned (.tuple #[s,i64 r.2])/\Ext w0 w/\Nw w0 s/\OwK (Sc u8) w [] 5 s r.1):=by
 have k:Ext w0 w0:=Ext.refl w0;unfold aont_Open at c;refine zai (n:=28) Tryz.func41 V V V<|W_sr<|av (.slice none 0 0) V V<|av (i64 0) V V<|wnt<|W_seq<|W_sr<|mv i V V<|wa V (q_eqF V V V V (u.lift (le_ k)))<|wnt<|zam _ V V (fun p=>?_) (fun p=>?_)
 ·replace c:=(if_pos p).symm.trans c;refine W_sr<|av (.slice none 0 0) V V<|av (i64 1) V V<|wnt<|W_ret<|th_r<|?_;obtain rfl:=osi c;refine rt2 (.slice none 0 0) (i64 1) V V V V V V ?_;exact ⟨.slice none 0 0,rfl,k,Nw.nil _,OwK.nil _ _ _ _⟩
 replace c:=(if_neg (ne_true_of_eq_false p)).symm.trans c;refine zae<|W_th<|W_sr<|mv d V V<|?_;obtain ⟨e,C,c⟩:=bsi c;refine wls V V (zab (vs:=[d]) Tryz.func74 V V V (ar1 V) (aont_Key_calls h d e _ (l.lift (le_ k)) C) ?_);rintro _ M ⟨g,rfl,O,F,I⟩;refine ⟨_,rfl,?_⟩;have E:By M [] g e.1:=OwK.slk (Sc.stab _) _ (OwK.scal I (g::[])) (fun v B=>(Old.nil _) v (F v B)) (fun _ A=>A.2);have f:=k.trans O;refine mv (.tuple #[g,i64 e.2]) V V<|wa V (zah V V V)<|wa V (zah V V V)<|av g V V<|av (i64 e.2) V V<|wnt<|W_seq<|W_seq<|W_rg<|mv (i64 e.2) V V<|wa V (q_neI V V V)<|wnt<|zam _ V V (fun q=>?_) (fun q=>?_)
 ·replace c:=(if_neg (zbf q)).symm.trans c;refine W_sr<|mv (i64 e.2) V V<|av (.slice none 0 0) V V<|av (i64 e.2) V V<|wnt<|W_ret<|th_r<|?_;obtain rfl:=osi c;refine rt2 (.slice none 0 0) (i64 e.2) V V V V V V ?_;exact ⟨.slice none 0 0,rfl,f,Nw.nil _,OwK.nil _ _ _ _⟩
 replace c:=(if_pos (zbg q)).symm.trans c;refine zae<|W_th<|W_sr<|mv i V V<|mv g V V<|mv d V V<|mv d V V<|wa V (q_len V T22.sl V (l.lift (le_ f)))<|wa V (za9 V V V)<|bse c fun x t c=>wa V (zdv (a:=0) (b:=wI ((h.length:Int) - 32)) V T22 V (l.lift (le_ f)) V V t) ?_;obtain ⟨m,D,c⟩:=bsi c;refine wls V V (zab (vs:=[i,g,subV d (0:Int).toNat ((wI ((h.length:Int) - 32)):Int).toNat]) Tryz.func55 V V V (ar3 V V V) (aont_mix_calls o e.1 x i g (subV d (0:Int).toNat ((wI ((h.length:Int) - 32)):Int).toNat) m _ (u.lift (le_ f)) (E.lift (Lift.sub (L':=[]) (fun _ _=>trivial))) (SlK.cut (L:=[]) (l.lift (le_ f)) t) D) ?_);rintro _ N ⟨j,rfl,P,G,K⟩;refine ⟨_,rfl,?_⟩;have J:OwK (Sc u8) N (j::[]) 5 j m.1:=OwK.scal K _;have H:=Nw.ext f G;have z:=f.trans P;refine wa V (zah V V V)<|wa V (zah V V V)<|av j V V<|av (i64 m.2) V V<|wnt<|W_ret<|?_;obtain rfl:=osi c;refine rt2 j (i64 m.2) V V V V V V ?_;exact ⟨j,rfl,z,H,J.weak (Sc.stab _) (fun _ _=>trivial)⟩
end Gk

/- Printed by gen.py: for each Go function a pure function, and that the Go code comes to it. No condition beside the equation that says what the pure function gives. -/
namespace Gk
open Go Go.Proofs
end Gk

/- All or nothing (chapter 11), in plain Lean. No condition but lengths. -/
namespace Gk
open Gf
def z8:List UInt8:=List.replicate 8 0
def mixF (key nonce b:List UInt8):List UInt8:=xr (strL ((keysF key).headD []) (keysF key).tail nonce 0 b.length) b
theorem zhe (key nonce b:List UInt8):(mixF key nonce b).length=b.length:=by rw [mixF,zfi,zd6];omega
theorem co_mixF (key nonce b:List UInt8) (i:Nat) (h:i<b.length):co (mixF key nonce b) i=strm ((keysF key).headD []) (keysF key).tail nonce i^^^co b i:=by
 rw [mixF,co_xr _ _ _ (by rw [zd6];exact h) h,co_strL _ _ _ _ _ _ h,Nat.zero_add]
theorem mixF_mixF (key nonce b:List UInt8):mixF key nonce (mixF key nonce b)=b:=by
 refine zjk (by rw [zhe,zhe]) fun i hi=>?_
 rw [zhe,zhe] at hi
 rw [co_mixF _ _ _ _ (by rw [zhe];exact hi),co_mixF _ _ _ _ hi,xor_cancel]
theorem New_mix (key:List UInt8) (n:Nat) (hn:n=4∨n=8) (h:key.length=4 * n):∃ c,zf9 true key=some (some c,0)/\GoodC c ((keysF key).headD []) (keysF key).tail/\keysF key=(keysF key).headD [] :: (keysF key).tail:=by
 obtain ⟨c,k0,ks,hN,G,hK⟩:=New_good key n hn h
 refine ⟨c,hN,?_,?_⟩
 ·rw [hK];exact G
 ·rw [hK];rfl
theorem mix_eq (key b:List UInt8) (hk:key.length=32) (hb:b.length<=10000):aont_mix true key b=some (mixF key z8 b,0):=by
 have hm:(1000:Nat)<=most:=by decide
 obtain ⟨c,hN,G,hK⟩:=New_mix key 8 (.inr rfl) hk
 unfold aont_mix
 rw [if_neg (by omega),hN,obs]
 dsimp only
 rw [if_pos rfl,show makeL 8 (0:UInt8)=some (List.replicate 8 0) from zbj 8 _ (by omega),obs,SXor_eq G _ (by simp) b (by omega),obs];rfl
theorem Concat2 (a b:List UInt8) (h:a.length+b.length<=1000000):za0 [a,b]=some (a ++ b):=by
 have hm:(1000000:Nat)<=most:=by decide
 rw [Concat_eq _ (by simp;omega) (by simp;omega)];simp
def wrapF (key b:List UInt8):List UInt8:=mixF key z8 b ++ xr key (sha (mixF key z8 b))
theorem wrapF_len (key b:List UInt8) (hk:key.length=32):(wrapF key b).length=b.length+32:=by
 rw [wrapF,List.length_append,zhe,zfi,sha_len,hk];rfl
theorem Sum1 (b:List UInt8) (h:b.length<=1000000):zki [b]=some (sha b):=by
 rw [hash_Sum_eq _ (by simpa using h) (by simp)];simp
theorem Wrap_eq (key b:List UInt8) (hk:key.length=32) (hb:b.length<=10000):aont_Wrap true key b=some (wrapF key b,0):=by
 have hm:(1000000:Nat)<=most:=by decide
 have hl:=zhe key z8 b
 unfold aont_Wrap
 rw [if_neg (by simp),if_pos (by omega),mix_eq key b hk hb,obs]
 dsimp only
 rw [if_pos rfl,Sum1 _ (by omega),obs,wXor_eq _ _ (by omega),obs,Concat2 _ _ (by rw [zfi,sha_len];omega),obs];rfl
def keyOf (p:List UInt8):List UInt8:=xr (p.drop (p.length - 32)) (sha (p.take (p.length - 32)))
theorem keyOf_len (p:List UInt8) (h:32<=p.length):(keyOf p).length=32:=by
 rw [keyOf,zfi,sha_len,List.length_drop];omega
theorem Key_ok (p:List UInt8) (h:32<=p.length) (h2:p.length<=100000):aont_Key p=some (keyOf p,0):=by
 have hm:(1000000:Nat)<=most:=by decide
 have hw:wI ((p.length:Int) - 32)=((p.length - 32:Nat):Int):=by rw [wI_of (by omega) (by omega)];omega
 unfold aont_Key
 have e0:=zd3 p 0 (p.length - 32) (by omega) (by omega)
 rw [show ((0:Nat):Int)=0 by rfl] at e0
 rw [hw,if_neg (by omega),zd3 p _ _ (by omega) (Nat.le_refl _),obs,e0,obs,List.drop_zero,List.take_length,Sum1 _ (by rw [List.length_take];omega),obs,wXor_eq _ _ (by rw [List.length_drop];omega),obs];rfl
theorem Open_ok (p:List UInt8) (h:32<=p.length) (h2:p.length<=10000):aont_Open true p=some (mixF (keyOf p) z8 (p.take (p.length - 32)),0):=by
 have hw:wI ((p.length:Int) - 32)=((p.length - 32:Nat):Int):=by rw [wI_of (by omega) (by omega)];omega
 have e0:=zd3 p 0 (p.length - 32) (by omega) (by omega)
 rw [show ((0:Nat):Int)=0 by rfl] at e0
 unfold aont_Open
 rw [if_neg (by simp),Key_ok p h (by omega),obs]
 dsimp only
 rw [if_pos rfl,hw,e0,obs,List.drop_zero,mix_eq _ _ (keyOf_len p h) (by rw [List.length_take];omega),obs]
theorem keyOf_wrap (key b:List UInt8) (hk:key.length=32):keyOf (wrapF key b)=key/\(wrapF key b).take ((wrapF key b).length - 32)=mixF key z8 b:=by
 have hl:=zhe key z8 b
 have hw:=wrapF_len key b hk
 have hx:(xr key (sha (mixF key z8 b))).length=32:=by rw [zfi,sha_len,hk];rfl
 have ht:(wrapF key b).take ((wrapF key b).length - 32)=mixF key z8 b:=by
  rw [hw,Nat.add_sub_cancel,wrapF];exact List.take_left' hl
 refine ⟨?_,ht⟩
 unfold keyOf
 rw [ht]
 have hd:(wrapF key b).drop ((wrapF key b).length - 32)=xr key (sha (mixF key z8 b)):=by
  rw [hw,Nat.add_sub_cancel,wrapF];exact List.drop_left' hl
 rw [hd,xr_xr _ _ (by rw [sha_len,hk])]
theorem aontblk (key:List UInt8) (n:Nat) (hn:n=4∨n=8) (h:key.length=4 * n) (nonce:List UInt8) (hno:nonce.length=8) (c:Nat):zd5 key (nonce ++ b8 (UInt64.ofNat c))=some (blk5 ((keysF key).headD []) (keysF key).tail nonce c):=by
 obtain ⟨_,_,_,hK⟩:=New_mix key n hn h
 exact rEncrypt_eq _ _ _ _ n hn h (by rw [List.length_append,b8_len,hno]) hK
theorem ofInt64q (n:Nat) (h:n<18446744073709551616):UInt64.ofInt (n:Int)=UInt64.ofNat n:=by
 apply UInt64.toNat_inj.1
 simp [UInt64.ofInt];omega
theorem mod_natq (a:Int) (m:UInt64) (h0:0<m.toNat) (h:m.toNat<=2000000000):∃ n:Nat,n<m.toNat/\wI ((((UInt64.ofInt a) % m).toNat:Int))=(n:Int):=by
 have h1:((UInt64.ofInt a) % m).toNat<m.toNat:=by rw [UInt64.toNat_mod];exact Nat.mod_lt _ h0
 exact ⟨_,h1,wI_nat (by omega)⟩
theorem nz_of {m:UInt64} (h:0<m.toNat):nz m=some ():=by
 unfold nz
 rw [if_neg (fun e=>by rw [e] at h;exact absurd h (by decide))]
end Gk

/- Printed by gen.py: for each Go function a pure function, and that the Go code comes to it. No condition beside the equation that says what the pure function gives. -/
namespace Gk
open Go Go.Proofs
noncomputable def zi5 (b:List UInt8) (c:UInt8):Option UInt8 :=
((iterC (fun a:UInt8×UInt8×Int =>
(if a.2.2<(b.length:Int) then
((idx b a.2.2).bind fun d =>
((zc2 d a.2.1).bind fun e =>
((zc2 a.2.1 c).bind fun f => some (.inl ((a.1^^^e),f,wI (a.2.2+1))))))
else some (.inr a.1))) ((0:UInt8),(1:UInt8),0)).bind fun g => some g)
theorem ref03_Eval_calls (j:List UInt8) (d:UInt8) (h:Value) (q:UInt8) (w0:World) (k:By w0 [] h j) (e:zi5 j d=some q) :
  Calls Tryz.prog 78 [h,u8 d].toArray w0 (fun A J=>A=.returned (u8 q)/\Ext w0 J):=by
 have o:Ext w0 w0:=Ext.refl w0;unfold zi5 at e;refine zai (n:=25) Tryz.func78 V V V<|W_sr<|av (u8 0) V (cst8 (0:UInt8) V)<|wnt<|W_sr<|av (u8 0) V (cst8 (0:UInt8) V)<|av (u8 1) V (cst8 (1:UInt8) V)<|wnt<|W_seq<|W_sr<|mv h V V<|wa V (q_len V T22.sl V (k.lift (le_ o)))<|mv (i64 0) V V<|wnt<|?_;obtain ⟨i,z,e⟩:=bsi e;refine W_mid (fun c m=>c 5=u8 i/\c 25=undef/\Ext w0 m) ?_ ?_
 ·refine zac<|zau (fun a c m=>c 1=u8 d/\c 5=u8 a.1/\c 6=u8 a.2.1/\c 9=h/\c 10=i64 (j.length:Int)/\c 11=i64 a.2.2/\c 25=undef/\Ext w0 m) z ?_ ?_
  ·exact ⟨rfl,rfl,rfl,rfl,rfl,rfl,rfl,o⟩
  rintro a _ _ N ⟨u,w,x,y,t,l,v,g⟩ b E;refine W_sr<|wa V (q_ltI V l t)<|wnt<|W_seq<|wci b V V (fun b=>?_) (fun b=>?_)
  ·refine zae<|W_th<|W_seq<|zac<|W_sr<|bse b fun f p b=>wa V (q_adr V T22 y l (k.lift (le_ g)) p)<|wq V (zao V T22 V (k.lift (le_ g)) p)<|av (u8 f) V V<|wnt<|W_sr<|mv (u8 a.1) V w<|mv (u8 f) V V<|mv (u8 a.2.1) V x ?_;obtain ⟨r,F,b⟩:=bsi b;refine wls V V (zab (vs:=[u8 f,u8 a.2.1]) Tryz.func105 V V V (ar2 V V) (zcd f a.2.1  r _  F) ?_);rintro _ O ⟨rfl,K⟩;refine ⟨_,rfl,?_⟩;have B:=g.trans K;refine wa V (zdb V V V)<|av (u8 (a.1^^^r)) V V<|wnt<|W_rg<|mv (u8 a.2.1) V x<|mv (u8 d) V u<|?_;obtain ⟨s,G,b⟩:=bsi b;refine wls V V (zab (vs:=[u8 a.2.1,u8 d]) Tryz.func105 V V V (ar2 V V) (zcd a.2.1 d  s _  G) ?_);rintro _ P ⟨rfl,L⟩;refine ⟨_,rfl,?_⟩;have C:=B.trans L;refine av (u8 s) V V<|zag<|bk_n<|W_th<|W_rg<|wa V (zak V l V)<|mv (i64 (wI (a.2.2+1))) V V<|zag<|?_;obtain rfl:=osi b;exact ⟨_,rfl,u,rfl,rfl,y,t,rfl,v,C⟩
  refine zar<|th_x<|?_;obtain rfl:=osi b;obtain rfl:=E _ rfl;refine th_x<|bk_x<|?_;exact ⟨w,v,g⟩
 rintro _ M ⟨I,H,D⟩;refine W_th<|W_sr<|mv (u8 i) V I<|av (u8 i) V V<|wnt<|W_ret<|?_;obtain rfl:=osi e;refine rt1 (u8 i) V V V H ?_;exact ⟨rfl,D⟩
noncomputable def zfp (b:List UInt8) (c:Int) (e:UInt8):Option UInt8 :=
((iterC (fun a:UInt8×Int =>
(if a.2<(b.length:Int) then
(if a.2=c then some (.inl (a.1,wI (a.2+1)))
else
((idx b a.2).bind fun d =>
((idx b c).bind fun f =>
((zja (f^^^d)).bind fun i =>
((zc2 (e^^^d) i).bind fun g =>
((zc2 a.1 g).bind fun h => some (.inl (h,wI (a.2+1)))))))))
else some (.inr a.1))) ((1:UInt8),0)).bind fun j => some j)
theorem ref03_Weight_calls (q:List UInt8) (h:Int) (g:UInt8) (f:Value) (E:UInt8) (w0:World) (e:By w0 [] f q) (j:zfp q h g=some E) :
  Calls Tryz.prog 109 [f,i64 h,u8 g].toArray w0 (fun I T=>I=.returned (u8 E)/\Ext w0 T):=by
 have C:Ext w0 w0:=Ext.refl w0;unfold zfp at j;refine zai (n:=38) Tryz.func109 V V V<|W_sr<|av (u8 0) V (cst8 (0:UInt8) V)<|wnt<|W_sr<|av (u8 1) V (cst8 (1:UInt8) V)<|wnt<|W_seq<|W_sr<|mv f V V<|wa V (q_len V T22.sl V (e.lift (le_ C)))<|mv (i64 0) V V<|wnt<|?_;obtain ⟨p,H,j⟩:=bsi j;refine W_mid (fun c A=>c 7=u8 p/\c 38=undef/\Ext w0 A) ?_ ?_
 ·refine zac<|zau (fun b c A=>c 0=f/\c 1=i64 h/\c 2=u8 g/\c 7=u8 b.1/\c 10=i64 (q.length:Int)/\c 11=i64 b.2/\c 38=undef/\Ext w0 A) H ?_ ?_
  ·exact ⟨rfl,rfl,rfl,rfl,rfl,rfl,rfl,C⟩
  rintro b _ _ U ⟨i,o,x,z,w,m,y,r⟩ a N;refine W_sr<|wa V (q_ltI V m w)<|wnt<|W_seq<|wci a V V (fun a=>?_) (fun a=>?_)
  ·refine zae<|W_th<|W_seq<|zac<|W_sr<|mv (i64 b.2) V m<|av (i64 b.2) V V<|wnt<|W_sr<|mv (i64 b.2) V V<|mv (i64 h) V o<|wa V (q_neI V V V)<|wnt<|zam _ V V (fun s=>?_) (fun s=>?_)
   ·replace a:=(if_neg (zbf s)).symm.trans a;refine zba [5,10,14] [(0,0),(1,0),(2,0),(3,0),(4,0),(5,1),(6,0),(7,0),(8,0),(9,0),(10,1),(11,0),(12,0),(13,0),(14,1),(15,0),(16,2),(17,2),(18,2),(19,0)] mixed (by kernel_rfl) (by kernel_rfl) (by kernel_rfl) (by kernel_rfl) ?_;have Y:=Ext.drew U;have d:=r.trans Y;refine sv (u8 b.1) V V z<|sv (u8 g) V V x<|sv f V V i<|sv (i64 b.2) V V V<|bse a fun k l a=>sa V V (q_adr V T22 V V (e.lift (le_ d)) l)<|sq V V (zao V T22 V (e.lift (le_ d)) l)<|sa V V (zdb V V V)<|sv f V V i<|sv (i64 h) V V o<|?_;obtain ⟨B,D,a⟩:=bsi a;refine sa V V (q_adr V T22 V V (e.lift (le_ d)) D)<|sq V V (zao V T22 V (e.lift (le_ d)) D)<|sv f V V i<|sv (i64 b.2) V V V<|sa V V (q_adr V T22 V V (e.lift (le_ d)) l)<|sq V V (zao V T22 V (e.lift (le_ d)) l)<|sa V V (zdb V V V)<|?_;obtain ⟨u,Q,a⟩:=bsi a;refine wss V V V (zab (vs:=[u8 (B^^^k)]) Tryz.func131 V V V (ar1 V) (ref02_Inv_calls (B^^^k)  u _  Q) ?_);rintro _ a2 ⟨rfl,G⟩;refine ⟨_,rfl,G,?_⟩;have J:=d.trans G;obtain ⟨t,O,a⟩:=bsi a;refine wsc V (by kernel_rfl) V V (zab (vs:=[u8 (g^^^k),u8 u]) Tryz.func105 V V V (ar2 V V) (zcd (g^^^k) u  t _  O) ?_);rintro _ Z ⟨rfl,W⟩;refine ⟨_,rfl,?_⟩;have K:=J.trans W;obtain ⟨F,P,a⟩:=bsi a;refine wsc V (by kernel_rfl) V V (zab (vs:=[u8 b.1,u8 t]) Tryz.func105 V V V (ar2 V V) (zcd b.1 t  F _  P) ?_);rintro _ a0 ⟨rfl,X⟩;refine ⟨_,rfl,?_⟩;have L:=K.trans X;refine sa V V (zat (v:=u8 F) V V)<|za1<|bk_n<|W_th<|W_rg<|wa V (zak V m V)<|mv (i64 (wI (b.2+1))) V V<|zag<|?_;obtain rfl:=osi a;exact ⟨_,rfl,i,o,x,rfl,w,rfl,y,L⟩
   replace a:=(if_pos (zbg s)).symm.trans a;refine zae<|bk_n<|W_th<|W_rg<|wa V (zak V m V)<|mv (i64 (wI (b.2+1))) V V<|zag<|?_;obtain rfl:=osi a;exact ⟨_,rfl,i,o,x,z,w,rfl,y,r⟩
  refine zar<|th_x<|?_;obtain rfl:=osi a;obtain rfl:=N _ rfl;refine th_x<|bk_x<|?_;exact ⟨z,y,r⟩
 rintro _ a1 ⟨S,R,M⟩;refine W_th<|W_sr<|mv (u8 p) V S<|av (u8 p) V V<|wnt<|W_ret<|?_;obtain rfl:=osi j;refine rt1 (u8 p) V V V R ?_;exact ⟨rfl,M⟩
end Gk

/- Printed by gen.py: for each Go function a pure function, and that the Go code comes to it. No condition beside the equation that says what the pure function gives. -/
namespace Gk
open Go Go.Proofs
noncomputable def zfd (d:Int) (c:List UInt8) (e:List UInt8) (f:UInt8):Option (List UInt8) :=
((iterC (fun a:List UInt8×Int =>
(if a.2<(c.length:Int) then
((idx c a.2).bind fun j =>
((iterC (fun b:List UInt8×Int =>
(if b.2<d then
((idx e (wI ((wI ((wI (b.2 - 1)) * (c.length:Int)))+a.2))).bind fun g =>
((appL b.1 ([g]:List UInt8)).bind fun h => some (.inl (h,wI (b.2+1)))))
else some (.inr b.1))) (([j]:List UInt8),1)).bind fun l =>
((zi5 l f).bind fun k =>
((appL a.1 ([k]:List UInt8)).bind fun i => some (.inl (i,wI (a.2+1)))))))
else some (.inr a.1))) (([]:List UInt8),0)).bind fun m => some m)
theorem ref08_Share_calls (p:Int) (y:List UInt8) (a4:List UInt8) (h:UInt8) (j:Value) (s:Value) (aH:List UInt8) (w0:World) (I:By w0 [] j y) (aC:By w0 [] s a4) (H:zfd p y a4 h=some aH) :
  Calls Tryz.prog 48 [i64 p,j,s,u8 h].toArray w0 (fun b2 aY=>∃ Z:Value,b2=.returned Z/\Ext w0 aY/\Nw w0 Z/\OwK (Sc u8) aY [] 5 Z aH):=by
 have a9:Ext w0 w0:=Ext.refl w0;unfold zfd at H;refine zai (n:=50) Tryz.func48 V V V<|W_sr<|av (.slice none 0 0) V V<|wnt<|W_sr<|wls V V (zaz (L:=[]) (R:=Sc u8) [] ([]:List UInt8) V T22 V (by exact trivial) V (litC u8 zbi (us:=[]) (l:=([]:List UInt8)) V) V (litS u8 (us:=[]) (l:=([]:List UInt8)) V) ?_);intro aU cU bW bN b7 cN;have cJ:=zaa b7;have bS:=Nw.ext a9 bN;have a6:=a9.trans cJ;refine av aU V V<|wnt<|W_seq<|W_sr<|mv j V V<|wa V (q_len V T22.sl V (I.lift (le_ a6)))<|mv (i64 0) V V<|wnt ?_;obtain ⟨cK,b1,H⟩:=bsi H;refine W_mid (fun a f=>∃ N:Value,a 9=N/\a 50=undef/\Ext w0 f/\OwK (Sc u8) f [N] 5 N cK/\Nw w0 N) ?_ ?_
 ·refine zac<|zau (fun e a f=>∃ K:Value,a 0=i64 p/\a 1=j/\a 2=s/\a 3=u8 h/\a 9=K/\a 15=i64 (y.length:Int)/\a 16=i64 e.2/\a 50=undef/\Ext w0 f/\OwK (Sc u8) f [K] 5 K e.1/\Nw w0 K) b1 ?_ ?_
  ·exact ⟨aU,rfl,rfl,rfl,rfl,rfl,rfl,rfl,rfl,a6,bW,bS⟩
  rintro e _ _ d1 ⟨b,c5,aN,cB,cC,aT,aL,W,aR,A,C,aF⟩ d bI;refine W_sr<|wa V (q_ltI V W aL)<|wnt<|W_seq<|wci d V V (fun d=>?_) (fun d=>?_)
  ·refine zae<|W_th<|W_seq<|zac<|W_sr<|mv (i64 e.2) V W<|av (i64 e.2) V V<|wnt<|W_sr<|mv j V aN<|mv (i64 e.2) V V<|bse d fun q aB d=>wa V (q_adr V T22 V V (I.lift (le_ A)) aB)<|wq V (zao V T22 V (I.lift (le_ A)) aB)<|wls V V (zaz (L:=[b]) (R:=Sc u8) [u8 q] ([q]:List UInt8) V T22 V (by exact ⟨rfl,rfl,trivial⟩) V (litC u8 zbi (us:=[u8 q]) (l:=([q]:List UInt8)) V) V (litS u8 (us:=[u8 q]) (l:=([q]:List UInt8)) V) ?_);intro a1 d2 c1 Q bB cR;have a3:=zaa bB;have c3:Nq b a1:=C.nq Q;replace C:=C.extL (Sc.stab _) a3 (Lift.call _ a3 Q);have bO:=Nw.ext A Q;have b3:=A.trans a3;refine av a1 V V<|wnt<|W_seq<|W_sr<|av (i64 1) V V<|wnt<|?_;obtain ⟨aZ,b0,d⟩:=bsi d;refine W_mid (fun a f=>∃ x:Value,a 0=i64 p/\a 1=j/\a 2=s/\a 3=u8 h/\a 9=b/\a 11=x/\a 15=i64 (y.length:Int)/\a 16=i64 e.2/\a 50=undef/\Ext w0 f/\OwK (Sc u8) f [b,x] 5 b e.1/\Nw w0 b/\OwK (Sc u8) f [b,x] 5 x aZ/\Nw w0 x/\Nq b x) ?_ ?_
   ·refine zac<|zau (fun o a f=>∃ t:Value,a 0=i64 p/\a 1=j/\a 2=s/\a 3=u8 h/\a 9=b/\a 10=i64 e.2/\a 11=t/\a 12=i64 o.2/\a 15=i64 (y.length:Int)/\a 16=i64 e.2/\a 50=undef/\Ext w0 f/\OwK (Sc u8) f [b,t] 5 b e.1/\Nw w0 b/\OwK (Sc u8) f [b,t] 5 t o.1/\Nw w0 t/\Nq b t) b0 ?_ ?_
    ·exact ⟨a1,c5,aN,cB,cC,aT,rfl,rfl,rfl,aL,W,aR,b3,C.weak (Sc.stab _) (fun _ c=>⟨c.2.1,c.1,trivial⟩),aF,c1.weak (Sc.stab _) (fun _ c=>⟨c.2.1,c.1,trivial⟩),bO,c3⟩
    rintro o _ _ cV ⟨E,T,X,Y,aO,aS,aI,aJ,U,aK,aM,aQ,z,i,aD,D,P,S⟩ g bG;refine W_seq<|W_sr<|mv (i64 o.2) V U<|mv (i64 p) V T<|wa V (q_ltI V V V)<|wnt<|wci g V V (fun g=>?_) (fun g=>?_)
    ·refine zae<|W_th<|W_seq<|zac<|W_rg<|mv E V aJ<|mv s V Y<|mv (i64 o.2) V U<|?_;refine wa V (za9 V V V)<|mv j V X<|wa V (q_len V T22.sl V (I.lift (le_ z)))<|wa V (zco V V V)<|mv (i64 e.2) V aI<|wa V (zak V V V)<|bse g fun m aA g=>wa V (q_adr V T22 V V (aC.lift (le_ z)) aA)<|wq V (zao V T22 V (aC.lift (le_ z)) aA)<|wls V V (zaz (L:=[b,E]) (R:=Sc u8) [u8 m] ([m]:List UInt8) V T22 V (by exact ⟨rfl,rfl,trivial⟩) V (litC u8 zbi (us:=[u8 m]) (l:=([m]:List UInt8)) V) V (litS u8 (us:=[u8 m]) (l:=([m]:List UInt8)) V) ?_);intro aV cH bX bP b8 cO;have F:=zaa b8;have bJ:By cH [b,E] aV ([m]:List UInt8):=OwK.slk (Sc.stab _) _ bX (fun B O=>(Old.cons (Old.cons (Old.nil _) D.lt) i.lt) B (bP B O)) (fun _ c=>c.2);replace i:=i.extL (Sc.stab _) F (le_ F);replace D:=D.extL (Sc.stab _) F (le_ F);have a5:=z.trans F;obtain ⟨cL,bE,g⟩:=bsi g;refine wls V V (zav (R:=Sc u8) (v:=E) (u:=aV) (Sc.stab _) [b] [] V T22 V V D bJ (fun _ _ c=>c) bE oc_u8 ?_);intro a0 cW bY a8 aG bL;have c2:Nq b a0:=i.nxt S aG;replace i:=i.other (Sc.stab _) a8 S bL;have b4:=a5.grown a8 P;have bQ:=Nw.nxt a5 P aG;refine av a0 V V<|zag<|bk_n<|W_th<|W_rg<|mv (i64 o.2) V U<|wa V (zak V V V)<|av (i64 (wI (o.2+1))) V V<|zag ?_;obtain rfl:=osi g;exact ⟨_,rfl,a0,T,X,Y,aO,aS,aI,rfl,rfl,aK,aM,aQ,b4,i,aD,bY,bQ,c2⟩
    refine zar<|th_x<|?_;obtain rfl:=osi g;obtain rfl:=bG _ rfl;refine th_x<|bk_x<|?_;exact ⟨E,T,X,Y,aO,aS,aJ,aK,aM,aQ,z,i,aD,D,P,S⟩
   rintro _ cX ⟨w,c4,c9,cA,aP,cF,c6,c7,c8,cD,bC,r,aE,J,cS,cT⟩;refine W_th<|W_rg<|mv b V cF<|mv w V c6<|mv (u8 h) V aP<|?_;obtain ⟨k,bH,d⟩:=bsi d;refine wls V V (zab (vs:=[w,u8 h]) Tryz.func78 V V V (ar2 V V) (ref03_Eval_calls aZ h w k _ (J.rd (Sc.stab _)) bH) ?_);rintro _ cY ⟨rfl,G⟩;refine ⟨_,rfl,?_⟩;replace r:=r.extL (Sc.stab _) G (le_ G);replace J:=J.extL (Sc.stab _) G (le_ G);have b5:=bC.trans G;refine wls V V (zaz (L:=[b,w]) (R:=Sc u8) [u8 k] ([k]:List UInt8) V T22 V (by exact ⟨rfl,rfl,trivial⟩) V (litC u8 zbi (us:=[u8 k]) (l:=([k]:List UInt8)) V) V (litS u8 (us:=[u8 k]) (l:=([k]:List UInt8)) V) ?_);intro aW cI bZ bR b9 cP;have a2:=zaa b9;have bK:By cI [b,w] aW ([k]:List UInt8):=OwK.slk (Sc.stab _) _ bZ (fun B O=>(Old.cons (Old.cons (Old.nil _) J.lt) r.lt) B (bR B O)) (fun _ c=>c.2);replace r:=r.extL (Sc.stab _) a2 (le_ a2);have a7:=b5.trans a2;obtain ⟨cM,bF,d⟩:=bsi d;refine wls V V (zav (R:=Sc u8) (v:=b) (u:=aW) (Sc.stab _) [] [w] V T22 V V r bK (fun _ _ c=>c) bF oc_u8 ?_);intro aX cZ c0 bA bU cQ;have b6:=a7.grown bA aE;have bT:=Nw.nxt a7 aE bU;refine av aX V V<|zag<|bk_n<|W_th<|W_rg<|wa V (zak V c8 V)<|mv (i64 (wI (e.2+1))) V V<|zag<|?_;obtain rfl:=osi d;exact ⟨_,rfl,aX,c4,c9,cA,aP,rfl,c7,rfl,cD,b6,c0.weak (Sc.stab _) (fun _ c=>⟨c.1,trivial⟩),bT⟩
  refine zar<|th_x<|?_;obtain rfl:=osi d;obtain rfl:=bI _ rfl;refine th_x<|bk_x<|?_;exact ⟨b,aT,aR,A,C,aF⟩
 rintro _ d0 ⟨M,cG,cE,bD,bV,bM⟩;refine W_th<|W_sr<|mv M V cG<|av M V V<|wnt<|W_ret<|?_;obtain rfl:=osi H;refine rt1 M V V V cE ?_;exact ⟨M,rfl,bD,bM,bV.weak (Sc.stab _) (fun _ _=>trivial)⟩
noncomputable def ref08_At (c:List UInt8) (d:List (List UInt8)) (e:UInt8):Option (List UInt8) :=
((idx d 0).bind fun i =>
((iterC (fun b:List UInt8×Int =>
(if b.2<(i.length:Int) then
((iterC (fun a:UInt8×Int =>
(if a.2<(c.length:Int) then
((idx d a.2).bind fun f =>
((idx f b.2).bind fun g =>
((zfp c a.2 e).bind fun j =>
((zc2 j g).bind fun k => some (.inl ((a.1^^^k),wI (a.2+1)))))))
else some (.inr a.1))) ((0:UInt8),0)).bind fun m =>
((appL b.1 ([m]:List UInt8)).bind fun h => some (.inl (h,wI (b.2+1)))))
else some (.inr b.1))) (([]:List UInt8),0)).bind fun l => some l))
theorem ref08_At_calls (q:List UInt8) (O:List (List UInt8)) (j:UInt8) (h:Value) (m:Value) (a5:List UInt8) (w0:World) (Z:By w0 [] h q) (s:Rw w0 [] m O) (o:ref08_At q O j=some a5) :
  Calls Tryz.prog 79 [h,m,u8 j].toArray w0 (fun aO aL=>∃ J:Value,aO=.returned J/\Ext w0 aL/\Nw w0 J/\OwK (Sc u8) aL [] 5 J a5):=by
 have S:Ext w0 w0:=Ext.refl w0;unfold ref08_At at o;refine zai (n:=45) Tryz.func79 V V V<|W_sr<|av (.slice none 0 0) V V<|wnt<|W_sr<|wls V V (zaz (L:=[]) (R:=Sc u8) [] ([]:List UInt8) V T22 V (by exact trivial) V (litC u8 zbi (us:=[]) (l:=([]:List UInt8)) V) V (litS u8 (us:=[]) (l:=([]:List UInt8)) V) ?_);intro aI c2 bC b6 aS bX;have bT:=zaa aS;have b9:=Nw.ext S b6;have r:=S.trans bT;refine av aI V V<|wnt<|W_seq<|W_sr<|mv m V V<|bse o fun A Y o=>wa V (q_adr V T29 V V (s.lift (le_ r)) Y)<|zdr V V V T29 V s Y r (fun c1 aX=>?_);refine wa V (q_len V T22.sl V (aX.lift (le_ r)))<|mv (i64 0) V V<|wnt<|?_;obtain ⟨bU,aM,o⟩:=bsi o;refine W_mid (fun a f=>∃ y:Value,a 7=y/\a 45=undef/\Ext w0 f/\OwK (Sc u8) f [y] 5 y bU/\Nw w0 y) ?_ ?_
 ·refine zac<|zau (fun d a f=>∃ w:Value,a 0=h/\a 1=m/\a 2=u8 j/\a 7=w/\a 15=i64 (A.length:Int)/\a 16=i64 d.2/\a 45=undef/\Ext w0 f/\OwK (Sc u8) f [w] 5 w d.1/\Nw w0 w) aM ?_ ?_
  ·exact ⟨aI,rfl,rfl,rfl,rfl,rfl,rfl,rfl,r,bC,b9⟩
  rintro d _ _ c8 ⟨c,a7,bJ,bL,aF,a9,F,aD,C,a4,a3⟩ g b2;refine W_sr<|wa V (q_ltI V F a9)<|wnt<|W_seq<|wci g V V (fun g=>?_) (fun g=>?_)
  ·refine zae<|W_th<|W_seq<|zac<|W_sr<|mv (i64 d.2) V F<|av (i64 d.2) V V<|wnt<|W_sr<|av (u8 0) V (cst8 (0:UInt8) V)<|wnt<|W_seq<|W_sr<|?_;refine mv h V a7<|wa V (q_len V T22.sl V (Z.lift (le_ C)))<|mv (i64 0) V V<|wnt<|?_;obtain ⟨i,aN,g⟩:=bsi g;refine W_mid (fun a f=>a 0=h/\a 1=m/\a 2=u8 j/\a 7=c/\a 9=u8 i/\a 15=i64 (A.length:Int)/\a 16=i64 d.2/\a 45=undef/\Ext w0 f/\OwK (Sc u8) f [c] 5 c d.1/\Nw w0 c) ?_ ?_
   ·refine zac<|zau (fun e a f=>a 0=h/\a 1=m/\a 2=u8 j/\a 7=c/\a 8=i64 d.2/\a 9=u8 e.1/\a 15=i64 (A.length:Int)/\a 16=i64 d.2/\a 20=i64 (q.length:Int)/\a 21=i64 e.2/\a 45=undef/\Ext w0 f/\OwK (Sc u8) f [c] 5 c d.1/\Nw w0 c) aN ?_ ?_
    ·exact ⟨a7,bJ,bL,aF,rfl,rfl,a9,F,rfl,rfl,aD,C,a4,a3⟩
    rintro e _ _ bR ⟨E,G,I,aE,aG,aH,a8,aA,aB,H,aC,T,k,a1⟩ b b3;refine W_sr<|wa V (q_ltI V H aB)<|wnt<|W_seq<|wci b V V (fun b=>?_) (fun b=>?_)
    ·refine zae<|W_th<|W_seq<|zac<|W_sr<|mv (i64 e.2) V H<|av (i64 e.2) V V<|wnt<|zba [8,11] [(0,0),(1,0),(2,0),(3,0),(5,0),(6,0),(7,0),(8,1),(9,0),(10,0),(11,1),(4,2),(12,2),(13,0),(14,0)] mixed (by kernel_rfl) (by kernel_rfl) (by kernel_rfl) (by kernel_rfl) ?_;have K:=Ext.drew bR;replace k:=k.extL (Sc.stab _) K (le_ K);have p:=T.trans K;refine sv (u8 e.1) V V aH<|sv h V V E<|sv (i64 e.2) V V V<|sv (u8 j) V V I<|sv m V V G<|sv (i64 e.2) V V V<|bse b fun bV W b=>sa V V (q_adr V T29 V V (s.lift (le_ p)) W)<|zhf V V V V T29 V s W p (fun c0 U=>?_);refine sv (i64 d.2) V V aG ?_;obtain ⟨P,X,b⟩:=bsi b;refine sa V V (q_adr V T22 V V (U.lift (le_ p)) X)<|sq V V (zao V T22 V (U.lift (le_ p)) X)<|?_;obtain ⟨D,b0,b⟩:=bsi b;refine wss V V V (zab (vs:=[h,i64 e.2,u8 j]) Tryz.func109 V V V (ar3 V V V) (ref03_Weight_calls q e.2 j h D _ (Z.lift (le_ p)) b0) ?_);rintro _ c3 ⟨rfl,z⟩;refine ⟨_,rfl,z,?_⟩;replace k:=k.extL (Sc.stab _) z (le_ z);have aP:=p.trans z;obtain ⟨a6,b1,b⟩:=bsi b;refine wsc V (by kernel_rfl) V V (zab (vs:=[u8 D,u8 P]) Tryz.func105 V V V (ar2 V V) (zcd D P  a6 _  b1) ?_);rintro _ c4 ⟨rfl,M⟩;refine ⟨_,rfl,?_⟩;replace k:=k.extL (Sc.stab _) M (le_ M);have aQ:=aP.trans M;refine sa V V (zdb V V V)<|sa V V (zat (v:=u8 (e.1^^^a6)) V V)<|za1<|bk_n<|W_th<|W_rg<|wa V (zak V H V)<|mv (i64 (wI (e.2+1))) V V<|zag<|?_;obtain rfl:=osi b;exact ⟨_,rfl,E,G,I,aE,aG,rfl,a8,aA,aB,rfl,aC,aQ,k,a1⟩
    refine zar<|th_x<|?_;obtain rfl:=osi b;obtain rfl:=b3 _ rfl;refine th_x<|bk_x<|?_;exact ⟨E,G,I,aE,aH,a8,aA,aC,T,k,a1⟩
   rintro _ c5 ⟨bF,bI,bK,bO,bQ,bG,bH,bM,aV,t,a2⟩;refine W_th<|W_rg<|mv c V bO<|mv (u8 i) V bQ<|wls V V (zaz (L:=[c]) (R:=Sc u8) [u8 i] ([i]:List UInt8) V T22 V (by exact ⟨rfl,rfl,trivial⟩) V (litC u8 zbi (us:=[u8 i]) (l:=([i]:List UInt8)) V) V (litS u8 (us:=[u8 i]) (l:=([i]:List UInt8)) V) ?_);intro aJ bS bD b7 aT bY;have N:=zaa aT;have b4:By bS [c] aJ ([i]:List UInt8):=OwK.slk (Sc.stab _) _ bD (fun a0 aZ=>(Old.cons (Old.nil _) t.lt) a0 (b7 a0 aZ)) (fun _ B=>B.2);replace t:=t.extL (Sc.stab _) N (le_ N);have Q:=aV.trans N;obtain ⟨bW,aY,g⟩:=bsi g;refine wls V V (zav (R:=Sc u8) (v:=c) (u:=aJ) (Sc.stab _) [] [] V T22 V V t b4 (fun _ _ B=>B) aY oc_u8 ?_);intro aK c6 bE aU bA bZ;have aR:=Q.grown aU a2;have b8:=Nw.nxt Q a2 bA;refine av aK V V<|zag<|bk_n<|W_th<|W_rg<|wa V (zak V bH V)<|mv (i64 (wI (d.2+1))) V V<|zag<|?_;obtain rfl:=osi g;exact ⟨_,rfl,aK,bF,bI,bK,rfl,bG,rfl,bM,aR,bE,b8⟩
  refine zar<|th_x<|?_;obtain rfl:=osi g;obtain rfl:=b2 _ rfl;refine th_x<|bk_x<|?_;exact ⟨c,aF,aD,C,a4,a3⟩
 rintro _ c7 ⟨x,bP,bN,aW,bB,b5⟩;refine W_th<|W_sr<|mv x V bP<|av x V V<|wnt<|W_ret<|?_;obtain rfl:=osi o;refine rt1 x V V V bN ?_;exact ⟨x,rfl,aW,b5,bB.weak (Sc.stab _) (fun _ _=>trivial)⟩
end Gk

/- Printed by gen.py: for each Go function a pure function, and that the Go code comes to it. No condition beside the equation that says what the pure function gives. -/
namespace Gk
open Go Go.Proofs
noncomputable def zfb (a:Int):Option Bool :=
(if 1<=a then some (decide (a<=255))
else some false)
theorem zer (a0n:Int) (r:Bool) (w0:World) (H:zfb a0n=some r) :
  Calls Tryz.prog 58 [(i64 a0n)].toArray w0 (fun e w'=>e=.returned (.bool r)/\Ext w0 w'):=by
 have hE:Ext w0 w0:=Ext.refl w0;unfold zfb at H;refine zai (n:=9) Tryz.func58 rfl rfl rfl ?_;refine W_seq<|W_rg<|av (.bool false) rfl rfl<|wnt<|W_seq<|W_rg<|mv (i64 a0n) rfl rfl<|wa rfl (q_geI rfl rfl rfl)<|?_;refine wlb rfl rfl (zbd (v:=(.bool ((decide (1<=a0n))))) rfl rfl) (fun hb1=>?_) (fun hb1=>?_)
 ·replace H:=ifp hb1 H;refine mv (i64 a0n) rfl rfl<|wa rfl (q_leI rfl rfl rfl)<|wa rfl (zaw (v:=(.bool ((decide (a0n<=255))))) rfl rfl rfl)<|av (.bool ((decide (a0n<=255)))) rfl rfl<|wnt<|W_ret<|?_;obtain rfl:=osi H;refine rt1 (.bool ((decide (a0n<=255)))) rfl rfl rfl rfl ?_;exact ⟨rfl,hE⟩
 replace H:=ifn hb1 H;refine wk rfl<|wk rfl<|wa rfl (zaq (v:=(.bool false)) rfl rfl rfl)<|av (.bool false) rfl rfl<|wnt<|W_ret<|?_;obtain rfl:=osi H;refine rt1 (.bool false) rfl rfl rfl rfl ?_;exact ⟨rfl,hE⟩
noncomputable def zhq (c:Int):Option (List UInt8) :=
((makeL c (0:UInt8)).bind fun b =>
((iterC (fun a:List UInt8×Int =>
(if a.2<(b.length:Int) then
((idx a.1 a.2).bind fun e => some (.inl (a.1.set (a.2:Int).toNat (UInt8.ofInt (wI (a.2+1))),wI (a.2+1))))
else some (.inr a.1))) (b,0)).bind fun d => some d))
theorem code_places_calls (g:Int) (r:List UInt8) (w0:World) (e:zhq g=some r) :
  Calls Tryz.prog 92 [i64 g].toArray w0 (fun y v=>∃ l:Value,y=.returned l/\Ext w0 v/\Nw w0 l/\OwK (Sc u8) v [] 5 l r):=by
 have m:Ext w0 w0:=Ext.refl w0;unfold zhq at e;refine zai (n:=20) Tryz.func92 V V V<|W_sr<|av (.slice none 0 0) V V<|wnt<|W_sr<|mv (i64 g) V V<|?_;obtain ⟨x,E,e⟩:=bsi e;refine wls V V (zb3 (L:=[]) (R:=Sc u8) V T22 V V E (fun _ _=>rfl) ?_);intro a U q H B S;have O:=zaa B;have I:=Nw.ext m H;have z:=m.trans O;refine av a V V<|wnt<|W_seq<|W_sr<|mv a V V<|wa V (q_len V T22.sl V (q.rd (Sc.stab _)))<|mv (i64 0) V V<|wnt ?_;obtain ⟨P,w,e⟩:=bsi e;refine W_mid (fun d f=>d 3=a/\d 20=undef/\Ext w0 f/\OwK (Sc u8) f [a] 5 a P/\Nw w0 a) ?_ ?_
 ·refine zac<|zau (fun b d f=>d 3=a/\d 8=i64 (x.length:Int)/\d 9=i64 b.2/\d 20=undef/\Ext w0 f/\OwK (Sc u8) f [a] 5 a b.1/\Nw w0 a) w ?_ ?_
  ·exact ⟨rfl,rfl,rfl,rfl,z,q,I⟩
  rintro b _ _ X ⟨j,t,k,s,o,i,h⟩ c F;refine W_sr<|wa V (q_ltI V k t)<|wnt<|W_seq<|wci c V V (fun c=>?_) (fun c=>?_)
  ·refine zae<|W_th<|W_seq<|zac<|W_sr<|mv (i64 b.2) V k<|av (i64 b.2) V V<|wnt<|W_rg<|mv a V j<|mv (i64 b.2) V V<|mv (i64 b.2) V V<|wa V (zak V V V)<|wa V (zey V V V V)<|bse c fun Q p c=>wa V (q_adr V T22 V V (i.rd (Sc.stab _)) p)<|wln V V (zci (R:=Sc u8) (u:=u8 (UInt8.ofInt (wI (b.2+1)))) (Sc.stab _) [] [] V T22 V V i (zf6 (UInt8.ofInt (wI (b.2+1))) p) V V ?_);intro Y K C T;have A:=o.grown C h;refine zag<|bk_n<|W_th<|W_rg<|wa V (zak V k V)<|mv (i64 (wI (b.2+1))) V V<|zag<|?_;obtain rfl:=osi c;exact ⟨_,rfl,j,t,rfl,s,A,K,h⟩
  refine zar<|th_x<|?_;obtain rfl:=osi c;obtain rfl:=F _ rfl;refine th_x<|bk_x<|?_;exact ⟨j,s,o,i,h⟩
 rintro _ W ⟨N,M,D,J,G⟩;refine W_th<|W_sr<|mv a V N<|av a V V<|wnt<|W_ret<|?_;obtain rfl:=osi e;refine rt1 a V V V M ?_;exact ⟨a,rfl,D,G,J.weak (Sc.stab _) (fun _ _=>trivial)⟩
noncomputable def zhd (a:List UInt8) (b:List (List UInt8)):Option Bool :=
((idx b 0).bind fun c => some (!decide ((a.length:Int)=(c.length:Int))))
theorem code_unlike_1_calls (a0r:List UInt8) (b0:List (List UInt8)) (p0:Value) (gc0:Nat) (cv0:Value) (r:Bool) (w0:World) (hp0:By w0 [] p0 a0r) (hcB0:Blk w0 gc0 29 #[cv0]) (hcv0:Rw w0 [] cv0 b0) (H:zhd a0r b0=some r) :
  Calls Tryz.prog 90 [p0,(bp gc0)].toArray w0 (fun e w'=>e=.returned (.bool r)/\Ext w0 w'):=by
 have hE:Ext w0 w0:=Ext.refl w0;unfold zhd at H;refine zai (n:=11) Tryz.func90 rfl rfl rfl ?_;refine W_seq<|W_rg<|av (.bool false) rfl rfl<|wnt<|W_seq<|W_rg<|mv p0 rfl rfl<|wa rfl (q_len rfl T22.sl rfl (hp0.lift (le_ hE)))<|?_;refine wq rfl (zan (u:=cv0) rfl Tryz.isAgg29 rfl (hcB0.ext hE) rfl) ?_;obtain ⟨c1,hc1,H⟩:=bsi H;refine wa rfl (q_adr rfl T29 rfl rfl (hcv0.lift (le_ hE)) hc1) ?_;refine zdr rfl rfl rfl T29 rfl hcv0 hc1 hE (fun v2 ha2=>?_);refine wa rfl (q_len rfl T22.sl rfl (ha2.lift (le_ hE)))<|wa rfl (q_neI rfl rfl rfl)<|av (.bool ((!decide ((a0r.length:Int)=(c1.length:Int))))) rfl rfl<|wnt<|W_ret<|?_;obtain rfl:=osi H;refine rt1 (.bool ((!decide ((a0r.length:Int)=(c1.length:Int))))) rfl rfl rfl rfl ?_;exact ⟨rfl,hE⟩
noncomputable def zh1 (a:List (List UInt8)):Option Bool :=
((lim a.length).bind fun d =>
((anyO (fun c=>zhd c a) a).bind fun b => some b))
theorem zi7 (a0l:List (List UInt8)) (p0:Value) (r:Bool) (w0:World) (hp0:Rw w0 [] p0 a0l) (H:zh1 a0l=some r) :
  Calls Tryz.prog 61 [p0].toArray w0 (fun e w'=>e=.returned (.bool r)/\Ext w0 w'):=by
 have hE:Ext w0 w0:=Ext.refl w0;unfold zh1 at H;refine zai (n:=6) Tryz.func61 rfl rfl rfl ?_;refine W_seq<|W_rg<|?_;refine wls rfl rfl (zb9 (v:=p0) (cs:=#[p0]) [] rfl rfl (zb4 _ _ (hp0.lift (le_ hE))) ?_);intro g1 w1 o1 n1 g1r l1;have x1:=zaa g1r;have e2:=hE.trans x1;refine av (.bool false) rfl rfl<|wnt<|W_seq<|W_rg<|wq rfl (zan (u:=p0) rfl Tryz.isAgg29 rfl o1 rfl)<|wa rfl (zgq (vs:=[(bp g1)]) rfl (ar1 rfl))<|?_;obtain ⟨lim4,hl4,H⟩:=bsi H;obtain ⟨r4,hr4,H⟩:=bsi H;refine wls rfl rfl (zab (vs:=[p0,(.func (.func 90) #[] [(bp g1)].toArray)]) Tryz.func34 rfl rfl rfl (ar2 rfl rfl) (zcc p0 a0l 90 _ Tryz.func90 rfl rfl [(bp g1)] (fun y4=>zhd y4 a0l) r4 _ (hp0.lift (le_ e2)) (zjt hl4) hr4 (fun y4 _ b w' xE hb u hu=>code_unlike_1_calls y4 a0l u g1 p0 b w' hu (o1.ext xE) ((hp0.lift (le_ e2)).lift (le_ xE)) hb)) ?_);rintro _ w4 ⟨rfl,x4⟩;refine ⟨_,rfl,?_⟩;have e5:=e2.trans x4;refine av (.bool r4) rfl rfl<|wnt<|W_ret<|?_;obtain rfl:=osi H;refine rt1 (.bool r4) rfl rfl rfl rfl ?_;exact ⟨rfl,e5⟩
noncomputable def zho (c:Bool) (a:List (List UInt8)) (b:Int):Option (List UInt8×Int) :=
(if (!c)=true then some (([]:List UInt8),1)
else
((zfb (a.length:Int)).bind fun h =>
(if (!h)=true then some (([]:List UInt8),2)
else
((zfb b).bind fun i =>
(if (!i)=true then some (([]:List UInt8),2)
else
((zh1 a).bind fun j =>
(if j=true then some (([]:List UInt8),3)
else
(if b<=(a.length:Int) then
((idx a (wI (b - 1))).bind fun e =>
((zaj e).bind fun f => some (f,0)))
else
((zhq (a.length:Int)).bind fun g =>
((shamir_At c g a (UInt8.ofInt b)).bind fun d => some (d.1,d.2)))))))))))
theorem code_Piece_calls (j:Bool) (d:List (List UInt8)) (c:Int) (g:Value) (b:Value) (u:List UInt8×Int) (w0:World) (B:Fd w0 [] g j) (f:Rw w0 [] b d) (a:zho j d c=some u) :
  Calls Tryz.prog 62 [g,b,i64 c].toArray w0 (fun J H=>∃ y:Value,J=.returned (.tuple #[y,i64 u.2])/\Ext w0 H/\Nw w0 y/\OwK (Sc u8) H [] 5 y u.1):=by
 have l:Ext w0 w0:=Ext.refl w0;unfold zho at a;refine zai (n:=45) Tryz.func62 V V V<|W_sr<|av (.slice none 0 0) V V<|av (i64 0) V V<|wnt<|W_seq<|zac<|W_seq<|W_rg<|mv g V V<|wa V (q_eqF V V V V (B.lift (le_ l)))<|av (.bool (!j)) V V<|wnt<|zam _ V V (fun q=>?_) (fun q=>?_)
 ·replace a:=(if_pos q).symm.trans a;refine W_sr<|av (.slice none 0 0) V V<|av (i64 1) V V<|wnt<|W_ret<|bk_r<|th_r<|?_;obtain rfl:=osi a;refine rt2 (.slice none 0 0) (i64 1) V V V V V V ?_;exact ⟨.slice none 0 0,rfl,l,Nw.nil _,OwK.nil _ _ _ _⟩
 replace a:=(if_neg (ne_true_of_eq_false q)).symm.trans a;refine W_sr<|mv b V V<|wa V (q_len V T29.sl V (f.lift (le_ l)))<|?_;obtain ⟨E,T,a⟩:=bsi a;refine wls V V (zab (vs:=[i64 (d.length:Int)]) Tryz.func58 V V V (ar1 V) (zer (d.length:Int)  E _  T) ?_);rintro _ aH ⟨rfl,aE⟩;refine ⟨_,rfl,?_⟩;have z:=l.trans aE;refine wa V (q_not V V)<|wlb V V (zbd (v:=(.bool (!E))) V V) (fun s=>?_) (fun s=>?_)
 ·replace a:=(if_pos s).symm.trans a;refine wk V<|wk V<|wk V<|wa V (zaw (v:=(.bool true)) V V V)<|av (.bool true) V V<|wnt<|zam true V V (fun _=>?_) (fun O=>by cases O);refine W_sr<|av (.slice none 0 0) V V<|av (i64 2) V V<|wnt<|W_ret<|bk_r<|th_r<|?_;obtain rfl:=osi a;refine rt2 (.slice none 0 0) (i64 2) V V V V V V ?_;exact ⟨.slice none 0 0,rfl,z,Nw.nil _,OwK.nil _ _ _ _⟩
 replace a:=(if_neg (ne_true_of_eq_false s)).symm.trans a;refine mv (i64 c) V V ?_;obtain ⟨x,U,a⟩:=bsi a;refine wls V V (zab (vs:=[i64 c]) Tryz.func58 V V V (ar1 V) (zer c  x _  U) ?_);rintro _ aI ⟨rfl,aF⟩;refine ⟨_,rfl,?_⟩;have p:=z.trans aF;refine wa V (q_not V V)<|wa V (zaq (v:=(.bool (!x))) V V V)<|av (.bool (!x)) V V<|wnt<|zam _ V V (fun t=>?_) (fun t=>?_)
 ·replace a:=(if_pos t).symm.trans a;refine W_sr<|av (.slice none 0 0) V V<|av (i64 2) V V<|wnt<|W_ret<|bk_r<|th_r<|?_;obtain rfl:=osi a;refine rt2 (.slice none 0 0) (i64 2) V V V V V V ?_;exact ⟨.slice none 0 0,rfl,p,Nw.nil _,OwK.nil _ _ _ _⟩
 replace a:=(if_neg (ne_true_of_eq_false t)).symm.trans a;refine W_sr<|mv b V V<|?_;obtain ⟨F,W,a⟩:=bsi a;refine wls V V (zab (vs:=[b]) Tryz.func61 V V V (ar1 V) (zi7 d b F _ (f.lift (le_ p)) W) ?_);rintro _ aJ ⟨rfl,aG⟩;refine ⟨_,rfl,?_⟩;have e:=p.trans aG;refine av (.bool F) V V<|wnt<|zam _ V V (fun r=>?_) (fun r=>?_)
 ·replace a:=(if_pos r).symm.trans a;refine W_sr<|av (.slice none 0 0) V V<|av (i64 3) V V<|wnt<|W_ret<|bk_r<|th_r<|?_;obtain rfl:=osi a;refine rt2 (.slice none 0 0) (i64 3) V V V V V V ?_;exact ⟨.slice none 0 0,rfl,e,Nw.nil _,OwK.nil _ _ _ _⟩
 replace a:=(if_neg (ne_true_of_eq_false r)).symm.trans a;refine W_sr<|mv (i64 c) V V<|mv b V V<|wa V (q_len V T29.sl V (f.lift (le_ e)))<|wa V (q_leI V V V)<|av (.bool (decide (c<=(d.length:Int)))) V V<|wnt<|wci a V V (fun a=>?_) (fun a=>?_)
 ·refine W_sr<|mv b V V<|mv (i64 c) V V<|wa V (za9 V V V)<|bse a fun I A a=>wa V (q_adr V T29 V V (f.lift (le_ e)) A)<|zdr V V V T29 V f A e (fun G N=>?_);obtain ⟨D,Q,a⟩:=bsi a;refine wls V V (zab (vs:=[G]) Tryz.func59 V V V (ar1 V) (zap I G D _ (N.lift (le_ e)) Q) ?_);rintro _ a8 ⟨h,rfl,aB,Y,a4⟩;refine ⟨_,rfl,?_⟩;have a3:OwK (Sc u8) a8 (h::[]) 5 h D:=OwK.scal a4 _;have Z:=Nw.ext e Y;have K:=e.trans aB;refine av h V V<|av (i64 0) V V<|wnt<|W_ret<|bk_r<|th_r<|?_;obtain rfl:=osi a;refine rt2 h (i64 0) V V V V V V ?_;exact ⟨h,rfl,K,Z,a3.weak (Sc.stab _) (fun _ _=>trivial)⟩
 refine zae<|bk_n<|W_th<|W_sr<|mv g V V<|mv b V V<|wa V (q_len V T29.sl V (f.lift (le_ e)))<|?_;obtain ⟨w,R,a⟩:=bsi a;refine wls V V (zab (vs:=[i64 (d.length:Int)]) Tryz.func92 V V V (ar1 V) (code_places_calls (d.length:Int)  w _  R) ?_);rintro _ a9 ⟨o,rfl,aC,a0,a5⟩;refine ⟨_,rfl,?_⟩;have X:By a9 [] o w:=OwK.slk (Sc.stab _) _ (OwK.scal a5 (o::[])) (fun C P=>(Old.nil _) C (a0 C P)) (fun _ M=>M.2);have k:=e.trans aC;refine mv b V V<|mv (i64 c) V V<|wa V (zey V V V V)<|?_;obtain ⟨m,S,a⟩:=bsi a;refine wls V V (zab (vs:=[g,o,b,u8 (UInt8.ofInt c)]) Tryz.func91 V V V (ar4 V V V V) (shamir_At_calls j w d (UInt8.ofInt c) g o b m _ (B.lift (le_ k)) (X.lift (Lift.sub (L':=[]) (fun _ _=>trivial))) (f.lift (le_ k)) S) ?_);rintro _ aA ⟨i,rfl,aD,a1,a7⟩;refine ⟨_,rfl,?_⟩;have a6:OwK (Sc u8) aA (i::[]) 5 i m.1:=OwK.scal a7 _;have a2:=Nw.ext k a1;have L:=k.trans aD;refine wa V (zah V V V)<|wa V (zah V V V)<|av i V V<|av (i64 m.2) V V<|wnt<|W_ret<|?_;obtain rfl:=osi a;refine rt2 i (i64 m.2) V V V V V V ?_;exact ⟨i,rfl,L,a2,a6.weak (Sc.stab _) (fun _ _=>trivial)⟩
noncomputable def zhy (d:Bool) (b:Int) (a:List (List UInt8)):Option (List (List UInt8)×Int) :=
(if (!d)=true then some (([]:List (List UInt8)),1)
else
(if (a.length:Int)=0 then some (([]:List (List UInt8)),2)
else
(if b<(a.length:Int) then some (([]:List (List UInt8)),2)
else
(if 255<b then some (([]:List (List UInt8)),2)
else
((zh1 a).bind fun g =>
(if g=true then some (([]:List (List UInt8)),3)
else
((iterC (fun s8:List (List UInt8)×Int =>
(if s8.2<b then
((zho d a (wI (s8.2+1))).bind fun c =>
(if c.2=0 then
((appL s8.1 ([c.1]:List (List UInt8))).bind fun e => some (.inl (e,wI (s8.2+1))))
else some (.inr (.inr (([]:List (List UInt8)),c.2)))))
else some (.inr (.inl s8.1)))) (([]:List (List UInt8)),0)).bind (Sum.elim (fun h => some (h,0)) (fun f=>some f)))))))))
theorem code_Encode_calls (t:Bool) (f:Int) (o:List (List UInt8)) (p:Value) (e:Value) (M:List (List UInt8)×Int) (w0:World) (d:List Value) (X:Old w0 d) (Y:Fd w0 [] p t) (x:Rw w0 [] e o) (a:zhy t f o=some M) :
  Calls Tryz.prog 30 [p,i64 f,e].toArray w0 (fun aA a8=>∃ y:Value,aA=.returned (.tuple #[y,i64 M.2])/\Ext w0 a8/\Nw w0 y/\OwK By a8 (y::d) 22 y M.1):=by
 have i:Ext w0 w0:=Ext.refl w0;unfold zhy at a;refine zai (n:=53) Tryz.func30 V V V<|W_sr<|av (.slice none 0 0) V V<|av (i64 0) V V<|wnt<|W_seq<|zac<|W_seq<|W_rg<|mv p V V<|wa V (q_eqF V V V V (Y.lift (le_ i)))<|av (.bool (!t)) V V<|wnt<|zam _ V V (fun E=>?_) (fun E=>?_)
 ·replace a:=(if_pos E).symm.trans a;refine W_sr<|av (.slice none 0 0) V V<|av (i64 1) V V<|wnt<|W_ret<|bk_r<|th_r<|?_;obtain rfl:=osi a;refine rt2 (.slice none 0 0) (i64 1) V V V V V V ?_;exact ⟨.slice none 0 0,rfl,i,Nw.nil _,OwK.nil _ _ _ _⟩
 replace a:=(if_neg (ne_true_of_eq_false E)).symm.trans a;refine W_sr<|mv e V V<|wa V (q_len V T29.sl V (x.lift (le_ i)))<|wa V (q_eqI V V V)<|wlb V V (zbd (v:=(.bool (decide ((o.length:Int)=0)))) V V) (fun G=>?_) (fun G=>?_)
 ·replace a:=ifp G a;refine wk V<|wk V<|wk V<|wk V<|wa V (zaw (v:=(.bool true)) V V V)<|mv (.bool true) V V<|wk V<|wk V<|wa V (zaw (v:=(.bool true)) V V V)<|av (.bool true) V V<|wnt<|zam true V V (fun _=>?_) (fun D=>by cases D);refine W_sr<|av (.slice none 0 0) V V<|av (i64 2) V V<|wnt<|W_ret<|bk_r<|th_r<|?_;obtain rfl:=osi a;refine rt2 (.slice none 0 0) (i64 2) V V V V V V ?_;exact ⟨.slice none 0 0,rfl,i,Nw.nil _,OwK.nil _ _ _ _⟩
 replace a:=ifn G a;refine mv e V V<|wa V (q_len V T29.sl V (x.lift (le_ i)))<|mv (i64 f) V V<|wa V (q_gtI V V V)<|wa V (zaq (v:=(.bool (decide (f<(o.length:Int))))) V V V)<|wlb V V (zbd (v:=(.bool (decide (f<(o.length:Int))))) V V) (fun H=>?_) (fun H=>?_)
 ·replace a:=ifp H a;refine wk V<|wk V<|wa V (zaw (v:=(.bool true)) V V V)<|av (.bool true) V V<|wnt<|zam true V V (fun _=>?_) (fun D=>by cases D);refine W_sr<|av (.slice none 0 0) V V<|av (i64 2) V V<|wnt<|W_ret<|bk_r<|th_r<|?_;obtain rfl:=osi a;refine rt2 (.slice none 0 0) (i64 2) V V V V V V ?_;exact ⟨.slice none 0 0,rfl,i,Nw.nil _,OwK.nil _ _ _ _⟩
 replace a:=ifn H a;refine mv (i64 f) V V<|wa V (q_gtI V V V)<|wa V (zaq (v:=(.bool (decide (255<f)))) V V V)<|av (.bool (decide (255<f))) V V<|wnt<|wci a V V (fun a=>?_) (fun a=>?_)
 ·refine W_sr<|av (.slice none 0 0) V V<|av (i64 2) V V<|wnt<|W_ret<|bk_r<|th_r<|?_;obtain rfl:=osi a;refine rt2 (.slice none 0 0) (i64 2) V V V V V V ?_;exact ⟨.slice none 0 0,rfl,i,Nw.nil _,OwK.nil _ _ _ _⟩
 refine W_sr<|mv e V V<|?_;obtain ⟨a1,aH,a⟩:=bsi a;refine wls V V (zab (vs:=[e]) Tryz.func61 V V V (ar1 V) (zi7 o e a1 _ (x.lift (le_ i)) aH) ?_);rintro _ b3 ⟨rfl,aW⟩;refine ⟨_,rfl,?_⟩;have W:=i.trans aW;refine av (.bool a1) V V<|wnt<|zam _ V V (fun I=>?_) (fun I=>?_)
 ·replace a:=(if_pos I).symm.trans a;refine W_sr<|av (.slice none 0 0) V V<|av (i64 3) V V<|wnt<|W_ret<|bk_r<|th_r<|?_;obtain rfl:=osi a;refine rt2 (.slice none 0 0) (i64 3) V V V V V V ?_;exact ⟨.slice none 0 0,rfl,W,Nw.nil _,OwK.nil _ _ _ _⟩
 replace a:=(if_neg (ne_true_of_eq_false I)).symm.trans a;refine zae<|bk_n<|W_th<|W_sr<|av (.slice none 0 0) V V<|wnt<|W_seq<|W_sr<|mv (i64 f) V V<|mv (i64 0) V V<|wnt<|?_;obtain ⟨aX,a9,a⟩:=bsi a;refine W_mid (fun h w=>∃ T,aX=.inl T/\∃ B:Value,h 8=B/\h 53=undef/\Ext w0 w/\OwK By w (B::d) 22 B T/\Nw w0 B) ?_ ?_
 ·refine zac<|zau (fun j h w=>∃ z:Value,h 0=p/\h 2=e/\h 8=z/\h 32=i64 f/\h 33=i64 j.2/\h 53=undef/\Ext w0 w/\OwK By w (z::d) 22 z j.1/\Nw w0 z) a9 ?_ ?_
  ·exact ⟨.slice none 0 0,rfl,rfl,rfl,rfl,rfl,rfl,W,OwK.nil _ _ _ _,Nw.nil _⟩
  rintro j _ _ b4 ⟨k,a2,a3,a5,a4,N,O,r,m,K⟩ b Z;refine W_sr<|wa V (q_ltI V N a4)<|wnt<|W_seq<|wci b V V (fun b=>?_) (fun b=>?_)
  ·refine zae<|W_th<|W_seq<|zac<|W_sr<|mv (i64 j.2) V N<|av (i64 j.2) V V<|wnt<|W_sr<|mv p V a2<|mv e V a3<|mv (i64 j.2) V V<|wa V (zak V V V)<|?_;obtain ⟨c,aG,b⟩:=bsi b;refine wls V V (zab (vs:=[p,e,i64 (wI (j.2+1))]) Tryz.func62 V V V (ar3 V V V) (code_Piece_calls t o (wI (j.2+1)) p e c _ (Y.lift (le_ r)) (x.lift (le_ r)) aG) ?_);rintro _ P ⟨q,rfl,Q,aK,aP⟩;refine ⟨_,rfl,?_⟩;have a0:By P (k::d) q c.1:=OwK.slk (Sc.stab _) _ (OwK.scal aP (q::(k::d))) (fun s J=>(Old.cons (X.ext r) m.lt) s (aK s J)) (fun _ g=>g.2);replace m:=m.extL (SlK.stab (Sc.stab _)) Q (le_ Q);have C:=r.trans Q;refine mv (.tuple #[q,i64 c.2]) V V<|wa V (zah V V V)<|wa V (zah V V V)<|av q V V<|av (i64 c.2) V V<|wnt<|W_seq<|W_seq<|W_rg<|mv (i64 c.2) V V<|wa V (q_neI V V V)<|wnt<|zam _ V V (fun F=>?_) (fun F=>?_)
   ·replace b:=(if_neg (zbf F)).symm.trans b;refine W_sr<|mv (i64 c.2) V V<|av (.slice none 0 0) V V<|av (i64 c.2) V V<|wnt<|W_ret<|th_r<|bk_r<|th_r<|?_;obtain rfl:=osi b;obtain rfl:=Z _ rfl;simp only [Sum.elim_inr] at a;refine th_r<|bk_r<|th_r<|th_r<|?_;obtain rfl:=osi a;refine rt2 (.slice none 0 0) (i64 c.2) V V V V V O ?_;exact ⟨.slice none 0 0,rfl,C,Nw.nil _,OwK.nil _ _ _ _⟩
   replace b:=(if_pos (zbg F)).symm.trans b;refine zae<|W_th<|W_rg<|mv k V a5<|mv q V V<|wls V V (zaz (L:=(k::d)) (R:=By) [q] ([c.1]:List (List UInt8)) V T29 V (by exact ⟨rfl,rfl,trivial⟩) V (LitR.cells (R:=By) (w:=P) (L:=(k::d)) (l:=([c.1]:List (List UInt8))) (LitR.cons a0 LitR.nil) (fun u aV g=>zb4 u aV g)) V (LitR.all (R:=By) (w:=P) (L:=(k::d)) (l:=([c.1]:List (List UInt8))) (SlK.stab (Sc.stab _)) (LitR.cons a0 LitR.nil)) ?_);intro a6 aU aQ aL aC aZ;have S:=zaa aC;have aI:Rw aU (k::d) a6 ([c.1]:List (List UInt8)):=OwK.slk (SlK.stab (Sc.stab _)) _ aQ (fun s J=>(Old.cons (X.ext C) m.lt) s (aL s J)) (fun _ g=>g.2);replace m:=m.extL (SlK.stab (Sc.stab _)) S (le_ S);have U:=C.trans S;obtain ⟨aY,aF,b⟩:=bsi b;refine wls V V (zav (R:=By) (v:=k) (u:=a6) (SlK.stab (Sc.stab _)) [] d V T29 V V m aI (fun _ _ g=>g) aF oc_sl ?_);intro a7 b1 aR aD aN b0;have aB:=U.grown aD K;have aM:=Nw.nxt U K aN;refine av a7 V V<|zag<|bk_n<|W_th<|W_rg<|wa V (zak V N V)<|mv (i64 (wI (j.2+1))) V V<|zag<|?_;obtain rfl:=osi b;exact ⟨_,rfl,a7,a2,a3,rfl,a4,rfl,O,aB,aR,aM⟩
  refine zar<|th_x<|?_;obtain rfl:=osi b;obtain rfl:=Z _ rfl;refine th_x<|bk_x<|?_;exact ⟨_,rfl,k,a5,O,r,m,K⟩
 rintro _ b2 ⟨T,rfl,A,aT,aS,aE,aO,aJ⟩;simp only [Sum.elim_inl] at a;refine W_th<|W_sr<|mv A V aT<|av A V V<|av (i64 0) V V<|wnt<|W_ret<|?_;obtain rfl:=osi a;refine rt2 A (i64 0) V V V V V aS ?_;exact ⟨A,rfl,aE,aJ,aO.weak (SlK.stab (Sc.stab _)) (fun _ g=>⟨g.1,g.2⟩)⟩
noncomputable def zd4 (a:Int) (b:Int):Option Int :=
((zfb b).bind fun e =>
(if (!e)=true then some 0
else
(if a<0 then some 0
else
((divI a b).bind fun c =>
((remI a b).bind fun d =>
(if 0<d then some (wI (c+1))
else some c))))))
theorem zh2 (d:Int) (c:Int) (g:Int) (w0:World) (a:zd4 d c=some g) :
  Calls Tryz.prog 50 [i64 d,i64 c].toArray w0 (fun i p=>i=.returned (i64 g)/\Ext w0 p):=by
 have j:Ext w0 w0:=Ext.refl w0;unfold zd4 at a;refine zai (n:=23) Tryz.func50 V V V<|W_sr<|av (i64 0) V V<|wnt<|W_seq<|W_sr<|mv (i64 c) V V<|?_;obtain ⟨h,o,a⟩:=bsi a;refine wls V V (zab (vs:=[i64 c]) Tryz.func58 V V V (ar1 V) (zer c  h _  o) ?_);rintro _ s ⟨rfl,q⟩;refine ⟨_,rfl,?_⟩;have e:=j.trans q;refine wa V (q_not V V)<|wlb V V (zbd (v:=(.bool (!h))) V V) (fun f=>?_) (fun f=>?_)
 ·replace a:=(if_pos f).symm.trans a;refine wk V<|wk V<|wa V (zaw (v:=(.bool true)) V V V)<|wnt<|zam true V V (fun _=>?_) (fun k=>by cases k);refine W_sr<|av (i64 0) V V<|wnt<|W_ret<|th_r<|?_;obtain rfl:=osi a;refine rt1 (i64 0) V V V V ?_;exact ⟨rfl,e⟩
 replace a:=(if_neg (ne_true_of_eq_false f)).symm.trans a;refine mv (i64 d) V V<|wa V (q_ltI V V V)<|wa V (zaq (v:=(.bool (decide (d<0)))) V V V)<|wnt<|wci a V V (fun a=>?_) (fun a=>?_)
 ·refine W_sr<|av (i64 0) V V<|wnt<|W_ret<|th_r<|?_;obtain rfl:=osi a;refine rt1 (i64 0) V V V V ?_;exact ⟨rfl,e⟩
 refine zae<|W_th<|W_sr<|mv (i64 d) V V<|mv (i64 c) V V<|bse a fun b l a=>wa V (q_divI V V V l)<|av (i64 b) V V<|wnt<|W_seq<|W_sr<|mv (i64 d) V V<|mv (i64 c) V V<|?_;obtain ⟨r,m,a⟩:=bsi a;refine wa V (zdm V V V m)<|wa V (q_gtI V V V)<|wnt<|wci a V V (fun a=>?_) (fun a=>?_)
 ·refine W_rg<|mv (i64 b) V V<|wa V (zak V V V)<|av (i64 (wI (b+1))) V V<|wnt<|W_sr<|mv (i64 (wI (b+1))) V V<|av (i64 (wI (b+1))) V V<|wnt<|W_ret<|?_;obtain rfl:=osi a;refine rt1 (i64 (wI (b+1))) V V V V ?_;exact ⟨rfl,e⟩
 refine zae<|W_th<|W_sr<|mv (i64 b) V V<|av (i64 b) V V<|wnt<|W_ret<|?_;obtain rfl:=osi a;refine rt1 (i64 b) V V V V ?_;exact ⟨rfl,e⟩
noncomputable def code_Cut (c:List UInt8) (a:Int):Option (List (List UInt8)×Int) :=
((zfb a).bind fun g =>
(if (!g)=true then some (([]:List (List UInt8)),2)
else
((zd4 (c.length:Int) a).bind fun b =>
((makeL (wI (b * a)) (0:UInt8)).bind fun f =>
((iterC (fun s11:List (List UInt8)×Int =>
(if s11.2<a then
((subL (copyL f 0 c) (wI (s11.2 * b)) (wI ((wI (s11.2+1)) * b))).bind fun d =>
((zaj d).bind fun h =>
((appL s11.1 ([h]:List (List UInt8))).bind fun e => some (.inl (e,wI (s11.2+1))))))
else some (.inr s11.1))) (([]:List (List UInt8)),0)).bind fun i => some (i,0))))))
theorem code_Cut_calls (s:List UInt8) (k:Int) (x:Value) (I:List (List UInt8)×Int) (w0:World) (f:List Value) (W:Old w0 f) (Y:By w0 [] x s) (e:code_Cut s k=some I) :
  Calls Tryz.prog 28 [x,i64 k].toArray w0 (fun aD a9=>∃ A:Value,aD=.returned (.tuple #[A,i64 I.2])/\Ext w0 a9/\Nw w0 A/\OwK By a9 (A::f) 22 A I.1):=by
 have aJ:Ext w0 w0:=Ext.refl w0;unfold code_Cut at e;refine zai (n:=43) Tryz.func28 V V V<|W_sr<|av (.slice none 0 0) V V<|av (i64 0) V V<|wnt<|W_seq<|W_sr<|mv (i64 k) V V ?_;obtain ⟨b5,aN,e⟩:=bsi e;refine wls V V (zab (vs:=[i64 k]) Tryz.func58 V V V (ar1 V) (zer k  b5 _  aN) ?_);rintro _ bI ⟨rfl,bA⟩;refine ⟨_,rfl,?_⟩;have D:=aJ.trans bA;refine wa V (q_not V V)<|wnt<|zam _ V V (fun F=>?_) (fun F=>?_)
 ·replace e:=(if_pos F).symm.trans e;refine W_sr<|av (.slice none 0 0) V V<|av (i64 2) V V<|wnt<|W_ret<|th_r<|?_;obtain rfl:=osi e;refine rt2 (.slice none 0 0) (i64 2) V V V V V V ?_;exact ⟨.slice none 0 0,rfl,D,Nw.nil _,OwK.nil _ _ _ _⟩
 replace e:=(if_neg (ne_true_of_eq_false F)).symm.trans e;refine zae<|W_th<|W_sr<|mv x V V<|wa V (q_len V T22.sl V (Y.lift (le_ D)))<|mv (i64 k) V V<|?_;obtain ⟨i,aQ,e⟩:=bsi e;refine wls V V (zab (vs:=[i64 (s.length:Int),i64 k]) Tryz.func50 V V V (ar2 V V) (zh2 (s.length:Int) k  i _  aQ) ?_);rintro _ bM ⟨rfl,bC⟩;refine ⟨_,rfl,?_⟩;have S:=D.trans bC;refine av (i64 i) V V<|wnt<|W_sr<|mv (i64 i) V V<|mv (i64 k) V V<|wa V (zco V V V)<|?_;obtain ⟨aC,aM,e⟩:=bsi e;refine wls V V (zb3 (L:=f) (R:=Sc u8) V T22 V V aM (fun _ _=>rfl) ?_);intro c bN a2 aY aH bG;have bD:=zaa aH;have a0:=Nw.ext S aY;have T:=S.trans bD;refine av c V V<|wnt<|W_sr<|mv c V V<|mv x V V<|wls V V (stp_copy (R:=Sc u8) (off:=0) (dv:=c) (u:=x) (Sc.stab _) [] f V T22 V V a2 (copy_whole a2) (by decide) (Int.natCast_nonneg _) (Y.lift (le_ T)) (fun _ _ d=>d) oc_u8 ?_);intro bO b3 aI bH;have aE:=T.grown aI a0;refine wnt<|W_sr<|av (.slice none 0 0) V V<|wnt<|W_seq<|W_sr<|mv (i64 k) V V<|mv (i64 0) V V<|wnt<|?_;obtain ⟨bB,aA,e⟩:=bsi e;refine W_mid (fun m w=>∃ C:Value,m 8=C/\m 43=undef/\Ext w0 w/\OwK By w (C::f) 22 C bB/\Nw w0 C) ?_ ?_
 ·refine zac<|zau (fun g m w=>∃ r:Value,m 6=i64 i/\m 7=c/\m 8=r/\m 24=i64 k/\m 25=i64 g.2/\m 43=undef/\Ext w0 w/\OwK (Sc u8) w (c::r::f) 5 c (copyL aC 0 s)/\Nw w0 c/\OwK By w (c::r::f) 22 r g.1/\Nw w0 r/\Nq c r) aA ?_ ?_
  ·exact ⟨.slice none 0 0,rfl,rfl,rfl,rfl,rfl,rfl,aE,b3.weak (Sc.stab _) (fun _ d=>⟨d.1,zfw,d.2⟩),a0,OwK.nil _ _ _ _,Nw.nil _,(Nq.nil _).symm⟩
  rintro g _ _ bJ ⟨o,K,a6,a7,a4,J,a5,E,h,aT,p,H,a3⟩ j aO;refine W_sr<|wa V (q_ltI V J a4)<|wnt<|W_seq<|wci j V V (fun j=>?_) (fun j=>?_)
  ·refine zae<|W_th<|W_seq<|zac<|W_sr<|mv (i64 g.2) V J<|av (i64 g.2) V V<|?_;refine wnt<|W_rg<|mv o V a7<|mv c V a6<|mv (i64 g.2) V V<|mv (i64 i) V K<|wa V (zco V V V)<|mv (i64 g.2) V V<|wa V (zak V V V)<|mv (i64 i) V K<|wa V (zco V V V)<|bse j fun aB X j=>wa V (zdv (a:=wI (g.2 * i)) (b:=wI ((wI (g.2+1)) * i)) V T22 V (h.rd (Sc.stab _)) V V X) ?_;obtain ⟨q,aP,j⟩:=bsi j;refine wls V V (zab (vs:=[subV c ((wI (g.2 * i)):Int).toNat ((wI ((wI (g.2+1)) * i)):Int).toNat]) Tryz.func59 V V V (ar1 V) (zap aB (subV c ((wI (g.2 * i)):Int).toNat ((wI ((wI (g.2+1)) * i)):Int).toNat) q _ (SlK.cut (L:=[]) (h.rd (Sc.stab _)) X) aP) ?_);rintro _ O ⟨M,rfl,y,aV,b0⟩;refine ⟨_,rfl,?_⟩;have Z:By O (c::o::f) M q:=OwK.slk (Sc.stab _) _ (OwK.scal b0 (M::(c::o::f))) (fun t G=>(Old.cons (Old.cons (W.ext E) p.lt) h.lt) t (aV t G)) (fun _ d=>d.2);replace h:=h.extL (Sc.stab _) y (le_ y);replace p:=p.extL (SlK.stab (Sc.stab _)) y (le_ y);have P:=E.trans y;refine wls V V (zaz (L:=(c::o::f)) (R:=By) [M] ([q]:List (List UInt8)) V T29 V (by exact ⟨rfl,rfl,trivial⟩) V (LitR.cells (R:=By) (w:=O) (L:=(c::o::f)) (l:=([q]:List (List UInt8))) (LitR.cons Z LitR.nil) (fun u b9 d=>zb4 u b9 d)) V (LitR.all (R:=By) (w:=O) (L:=(c::o::f)) (l:=([q]:List (List UInt8))) (SlK.stab (Sc.stab _)) (LitR.cons Z LitR.nil)) ?_);intro a8 b8 b1 aW aG bF;have z:=zaa aG;have aR:Rw b8 (c::o::f) a8 ([q]:List (List UInt8)):=OwK.slk (SlK.stab (Sc.stab _)) _ b1 (fun t G=>(Old.cons (Old.cons (W.ext P) p.lt) h.lt) t (aW t G)) (fun _ d=>d.2);replace h:=h.extL (Sc.stab _) z (le_ z);replace p:=p.extL (SlK.stab (Sc.stab _)) z (le_ z);have Q:=P.trans z;obtain ⟨bE,aL,j⟩:=bsi j;refine wls V V (zav (R:=By) (v:=o) (u:=a8) (SlK.stab (Sc.stab _)) [c] f V T29 V V p aR (fun _ _ d=>d) aL oc_sl ?_)
   intro N bK b2 U a1 aS;have b4:Nq c N:=h.nxt a3 a1;replace h:=h.other (Sc.stab _) U a3 aS;have aF:=Q.grown U H;have aX:=Nw.nxt Q H a1;refine av N V V<|zag<|bk_n<|W_th<|W_rg<|wa V (zak V J V)<|mv (i64 (wI (g.2+1))) V V<|zag<|?_;obtain rfl:=osi j;exact ⟨_,rfl,N,K,a6,rfl,a4,rfl,a5,aF,h,aT,b2,aX,b4⟩
  refine zar<|th_x<|?_;obtain rfl:=osi j;obtain rfl:=aO _ rfl;refine th_x<|bk_x<|?_;exact ⟨o,a7,a5,E,p.weak (SlK.stab (Sc.stab _)) (fun _ d=>⟨d.2.1,d.2.2⟩),H⟩
 rintro _ bL ⟨B,b7,b6,aK,aZ,aU⟩;refine W_th<|W_sr<|mv B V b7<|av B V V<|av (i64 0) V V<|wnt<|W_ret<|?_;obtain rfl:=osi e;refine rt2 B (i64 0) V V V V V b6 ?_;exact ⟨B,rfl,aK,aU,aZ.weak (SlK.stab (Sc.stab _)) (fun _ d=>⟨d.1,d.2⟩)⟩
noncomputable def zi0 (c:List (List UInt8)) (a:Int):Option (List UInt8×Int) :=
((za0 c).bind fun b =>
(if a<0 then some (([]:List UInt8),2)
else
(if (b.length:Int)<a then some (([]:List UInt8),2)
else
((subL3 b 0 a a).bind fun d => some (d,0)))))
theorem code_Glue_calls (j:List (List UInt8)) (d:Int) (h:Value) (q:List UInt8×Int) (w0:World) (z:Rw w0 [] h j) (e:zi0 j d=some q) :
  Calls Tryz.prog 40 [h,i64 d].toArray w0 (fun w u=>∃ s:Value,w=.returned (.tuple #[s,i64 q.2])/\Ext w0 u/\Nw w0 s/\By u [] s q.1):=by
 have l:Ext w0 w0:=Ext.refl w0;unfold zi0 at e;refine zai (n:=21) Tryz.func40 V V V<|W_sr<|av (.slice none 0 0) V V<|av (i64 0) V V<|wnt<|W_sr<|mv h V V<|?_;obtain ⟨r,A,e⟩:=bsi e;refine wls V V (zab (vs:=[h]) Tryz.func29 V V V (ar1 V) (za7 j h r _ (z.lift (le_ l)) A) ?_);rintro _ D ⟨f,rfl,E,t,C⟩;refine ⟨_,rfl,?_⟩;have B:=Nw.ext l t;have i:By D [] f r:=OwK.slk (Sc.stab _) _ (OwK.scal C (f::[])) (fun g p=>(Old.nil _) g (t g p)) (fun _ x=>x.2);have k:=l.trans E;refine av f V V<|wnt<|W_seq<|W_sr<|mv (i64 d) V V<|wa V (q_ltI V V V)<|wlb V V (zbd (v:=(.bool (decide (d<0)))) V V) (fun m=>?_) (fun m=>?_)
 ·replace e:=ifp m e;refine wk V<|wk V<|wk V<|wk V<|wa V (zaw (v:=(.bool true)) V V V)<|wnt<|zam true V V (fun _=>?_) (fun y=>by cases y);refine W_sr<|av (.slice none 0 0) V V<|av (i64 2) V V<|wnt<|W_ret<|th_r<|?_;obtain rfl:=osi e;refine rt2 (.slice none 0 0) (i64 2) V V V V V V ?_;exact ⟨.slice none 0 0,rfl,k,Nw.nil _,SlK.nil _ _ _⟩
 replace e:=ifn m e;refine mv (i64 d) V V<|mv f V V<|wa V (q_len V T22.sl V i)<|wa V (q_gtI V V V)<|wa V (zaq (v:=(.bool (decide ((r.length:Int)<d)))) V V V)<|wnt<|wci e V V (fun e=>?_) (fun e=>?_)
 ·refine W_sr<|av (.slice none 0 0) V V<|av (i64 2) V V<|wnt<|W_ret<|th_r<|?_;obtain rfl:=osi e;refine rt2 (.slice none 0 0) (i64 2) V V V V V V ?_;exact ⟨.slice none 0 0,rfl,k,Nw.nil _,SlK.nil _ _ _⟩
 refine zae<|W_th<|W_sr<|mv f V V<|mv (i64 d) V V<|mv (i64 d) V V<|bse e fun F o e=>wa V (q_slice3 (a:=0) (b:=d) (c:=d) V T22 V i V V V o)<|av (subW f (0:Int).toNat (d:Int).toNat (d:Int).toNat) V V<|av (i64 0) V V<|wnt<|W_ret<|?_;obtain rfl:=osi e;refine rt2 (subW f (0:Int).toNat (d:Int).toNat (d:Int).toNat) (i64 0) V V V V V V ?_;exact ⟨subW f (0:Int).toNat (d:Int).toNat (d:Int).toNat,rfl,k,(fun g p=>B g (hs_cut3 (i.lift (Lift.sub (L':=[]) (fun _ _=>trivial))) o g p)),SlK.cut3 (L:=[]) (i.lift (Lift.sub (L':=[]) (fun _ _=>trivial))) o⟩
noncomputable def zgn (b:Int):Option (List UInt8) :=
((iterC (fun a:List UInt8×Int =>
(if a.2<=b then
((appL a.1 ([UInt8.ofInt a.2]:List UInt8)).bind fun c => some (.inl (c,wI (a.2+1))))
else some (.inr a.1))) (([]:List UInt8),1)).bind fun d => some d)
theorem ref09_Places_calls (h:Int) (y:List UInt8) (w0:World) (g:zgn h=some y) :
  Calls Tryz.prog 80 [i64 h].toArray w0 (fun H F=>∃ q:Value,H=.returned q/\Ext w0 F/\Nw w0 q/\OwK (Sc u8) F [] 5 q y):=by
 have t:Ext w0 w0:=Ext.refl w0;unfold zgn at g;refine zai (n:=17) Tryz.func80 V V V<|W_sr<|av (.slice none 0 0) V V<|wnt<|W_sr<|wls V V (zaz (L:=[]) (R:=Sc u8) [] ([]:List UInt8) V T22 V (by exact trivial) V (litC u8 zbi (us:=[]) (l:=([]:List UInt8)) V) V (litS u8 (us:=[]) (l:=([]:List UInt8)) V) ?_);intro C aE a2 W K aB;have a8:=zaa K;have Y:=Nw.ext t W;have J:=t.trans a8;refine av C V V<|wnt<|W_seq<|W_sr<|av (i64 1) V V<|wnt<|?_;obtain ⟨a9,G,g⟩:=bsi g;refine W_mid (fun c f=>∃ k:Value,c 3=k/\c 17=undef/\Ext w0 f/\OwK (Sc u8) f [k] 5 k a9/\Nw w0 k) ?_ ?_
 ·refine zac<|zau (fun a c f=>∃ i:Value,c 0=i64 h/\c 3=i/\c 4=i64 a.2/\c 17=undef/\Ext w0 f/\OwK (Sc u8) f [i] 5 i a.1/\Nw w0 i) G ?_ ?_
  ·exact ⟨C,rfl,rfl,rfl,rfl,J,a2,Y⟩
  rintro a _ _ aG ⟨e,z,B,p,A,w,d,o⟩ b S;refine W_seq<|W_sr<|mv (i64 a.2) V p<|mv (i64 h) V z<|wa V (q_leI V V V)<|wnt<|wci b V V (fun b=>?_) (fun b=>?_)
  ·refine zae<|W_th<|W_seq<|zac<|W_rg<|mv e V B<|mv (i64 a.2) V p<|wa V (zey V V V V)<|wls V V (zaz (L:=[e]) (R:=Sc u8) [u8 (UInt8.ofInt a.2)] ([UInt8.ofInt a.2]:List UInt8) V T22 V (by exact ⟨rfl,rfl,trivial⟩) V (litC u8 zbi (us:=[u8 (UInt8.ofInt a.2)]) (l:=([UInt8.ofInt a.2]:List UInt8)) V) V (litS u8 (us:=[u8 (UInt8.ofInt a.2)]) (l:=([UInt8.ofInt a.2]:List UInt8)) V) ?_);intro D a7 a3 Z M aC;have r:=zaa M;have T:By a7 [e] D ([UInt8.ofInt a.2]:List UInt8):=OwK.slk (Sc.stab _) _ a3 (fun x Q=>(Old.cons (Old.nil _) d.lt) x (Z x Q)) (fun _ m=>m.2);replace d:=d.extL (Sc.stab _) r (le_ r);have s:=w.trans r;obtain ⟨aA,P,b⟩:=bsi b;refine wls V V (zav (R:=Sc u8) (v:=e) (u:=D) (Sc.stab _) [] [] V T22 V V d T (fun _ _ m=>m) P oc_u8 ?_);intro E aH a4 N a0 aD;have I:=s.grown N o;have X:=Nw.nxt s o a0;refine av E V V<|zag<|bk_n<|W_th<|W_rg<|mv (i64 a.2) V p<|wa V (zak V V V)<|av (i64 (wI (a.2+1))) V V<|zag ?_;obtain rfl:=osi b;exact ⟨_,rfl,E,z,rfl,rfl,A,I,a4,X⟩
  refine zar<|th_x<|?_;obtain rfl:=osi b;obtain rfl:=S _ rfl;refine th_x<|bk_x<|?_;exact ⟨e,B,A,w,d,o⟩
 rintro _ aF ⟨j,a6,a5,O,a1,U⟩;refine W_th<|W_sr<|mv j V a6<|av j V V<|wnt<|W_ret<|?_;obtain rfl:=osi g;refine rt1 j V V V a5 ?_;exact ⟨j,rfl,O,U,a1.weak (Sc.stab _) (fun _ _=>trivial)⟩
noncomputable def zfc (a:List (List UInt8)) (b:Int):Option (List UInt8) :=
((zgn (a.length:Int)).bind fun c =>
((ref08_At c a (UInt8.ofInt b)).bind fun d => some d))
theorem ref09_Piece_calls (c:List (List UInt8)) (d:Int) (b:Value) (m:List UInt8) (w0:World) (k:Rw w0 [] b c) (a:zfc c d=some m) :
  Calls Tryz.prog 49 [b,i64 d].toArray w0 (fun q p=>∃ i:Value,q=.returned i/\Ext w0 p/\Nw w0 i/\OwK (Sc u8) p [] 5 i m):=by
 have j:Ext w0 w0:=Ext.refl w0;unfold zfc at a;refine zai (n:=12) Tryz.func49 V V V<|W_sr<|av (.slice none 0 0) V V<|wnt<|W_sr<|mv b V V<|wa V (q_len V T29.sl V (k.lift (le_ j)))<|?_;obtain ⟨h,u,a⟩:=bsi a;refine wls V V (zab (vs:=[i64 (c.length:Int)]) Tryz.func80 V V V (ar1 V) (ref09_Places_calls (c.length:Int)  h _  u) ?_);rintro _ D ⟨f,rfl,F,x,A⟩;refine ⟨_,rfl,?_⟩;have w:By D [] f h:=OwK.slk (Sc.stab _) _ (OwK.scal A (f::[])) (fun l t=>(Old.nil _) l (x l t)) (fun _ s=>s.2);have g:=j.trans F;refine mv b V V<|mv (i64 d) V V<|wa V (zey V V V V)<|?_;obtain ⟨o,v,a⟩:=bsi a;refine wls V V (zab (vs:=[f,b,u8 (UInt8.ofInt d)]) Tryz.func79 V V V (ar3 V V V) (ref08_At_calls h c (UInt8.ofInt d) f b o _ (w.lift (Lift.sub (L':=[]) (fun _ _=>trivial))) (k.lift (le_ g)) v) ?_);rintro _ E ⟨e,rfl,G,y,C⟩;refine ⟨_,rfl,?_⟩;have B:OwK (Sc u8) E (e::[]) 5 e o:=OwK.scal C _;have z:=Nw.ext g y;have r:=g.trans G;refine av e V V<|wnt<|W_ret<|?_;obtain rfl:=osi a;refine rt1 e V V V V ?_;exact ⟨e,rfl,r,z,B.weak (Sc.stab _) (fun _ _=>trivial)⟩
noncomputable def ref09_Cut (a:List UInt8) (d:Int):Option (List (List UInt8)) :=
((iterC (fun b:Int =>
(if (wI (b * d))<(a.length:Int) then some (.inl (wI (b+1)))
else some (.inr b))) 0).bind fun c =>
((makeL d ([]:List UInt8)).bind fun e =>
((iterC (fun s11:List (List UInt8)×Int =>
(if s11.2<(e.length:Int) then
((iterC (fun s14:List (List UInt8)×Int =>
(if s14.2<c then
((if (wI ((wI (s11.2 * c))+s14.2))<(a.length:Int) then
((idx a (wI ((wI (s11.2 * c))+s14.2))).bind fun f => some f)
else some (0:UInt8)).bind fun k =>
((idx s14.1 s11.2).bind fun g =>
((appL g ([k]:List UInt8)).bind fun h => some (.inl (s14.1.set (s11.2:Int).toNat h,wI (s14.2+1))))))
else some (.inr s14.1))) (s11.1,0)).bind fun j => some (.inl (j,wI (s11.2+1))))
else some (.inr s11.1))) (e,0)).bind fun i => some i)))
theorem ref09_Cut_calls (a5:List UInt8) (r:Int) (f:Value) (aI:List (List UInt8)) (w0:World) (k:List Value) (aA:Old w0 k) (F:By w0 [] f a5) (j:ref09_Cut a5 r=some aI) :
  Calls Tryz.prog 46 [f,i64 r].toArray w0 (fun aX aP=>∃ I:Value,aX=.returned I/\Ext w0 aP/\Nw w0 I/\OwK By aP (I::k) 22 I aI):=by
 have b7:Ext w0 w0:=Ext.refl w0;unfold ref09_Cut at j;refine zai (n:=58) Tryz.func46 V V V<|W_sr<|av (.slice none 0 0) V V<|wnt<|W_sr<|av (i64 0) V V<|wnt<|W_seq ?_;obtain ⟨m,aT,j⟩:=bsi j;refine W_mid (fun a c=>a 0=f/\a 1=i64 r/\a 5=i64 m/\a 58=undef/\Ext w0 c) ?_ ?_
 ·refine zac<|zau (fun C a c=>a 0=f/\a 1=i64 r/\a 5=i64 C/\a 58=undef/\Ext w0 c) aT ?_ ?_
  ·exact ⟨rfl,rfl,rfl,rfl,b7⟩
  rintro C _ _ cU ⟨N,O,U,aL,J⟩ y bG;refine W_seq<|W_sr<|mv (i64 C) V U<|mv (i64 r) V O<|wa V (zco V V V)<|mv f V N<|wa V (q_len V T22.sl V (F.lift (le_ J)))<|wa V (q_ltI V V V)<|wnt<|wci y V V (fun y=>?_) (fun y=>?_)
  ·refine zae<|W_th<|zac<|W_rg<|mv (i64 C) V U<|wa V (zak V V V)<|av (i64 (wI (C+1))) V V<|zag<|bk_n ?_;obtain rfl:=osi y;exact ⟨_,rfl,N,O,rfl,aL,J⟩
  refine zar<|th_x<|?_;obtain rfl:=osi y;obtain rfl:=bG _ rfl;refine th_x<|bk_x<|?_;exact ⟨N,O,U,aL,J⟩
 rintro _ cX ⟨bV,bW,c8,c4,a9⟩;refine W_th<|W_sr<|mv (i64 r) V bW<|?_;obtain ⟨E,bD,j⟩:=bsi j;refine wls V V (stp_makeD (e2:=5) k V T29 V V bD ?_);intro aV b cY aH bN b4 cO;have cH:=zaa b4;have bJ:=Nw.ext a9 bN;have b0:=a9.trans cH;refine av b V V<|wnt<|W_seq<|W_sr<|mv b V V<|wa V (q_len V T29.sl V aH.rd)<|mv (i64 0) V V<|wnt ?_;obtain ⟨cF,aR,j⟩:=bsi j;refine W_mid (fun a c=>∃ a4:Value,a 6=b/\a 58=undef/\Ext w0 c/\OwD c 22 5 a4 b cF/\Nw w0 a4) ?_ ?_
 ·refine zac<|zau (fun d a c=>∃ a3:Value,a 0=f/\a 5=i64 m/\a 6=b/\a 21=i64 (E.length:Int)/\a 22=i64 d.2/\a 58=undef/\Ext w0 c/\OwD c 22 5 a3 b d.1/\Nw w0 a3) aR ?_ ?_
  ·exact ⟨aV,bV,c8,rfl,rfl,rfl,c4,b0,aH,bJ⟩
  rintro d _ _ cP ⟨a0,bS,c5,aM,aJ,Q,aK,a7,aE,aC⟩ o bE;refine W_sr<|wa V (q_ltI V Q aJ)<|wnt<|W_seq<|wci o V V (fun o=>?_) (fun o=>?_)
  ·refine zae<|W_th<|W_seq<|zac<|W_sr<|mv (i64 d.2) V Q<|av (i64 d.2) V V<|wnt<|W_sr<|av (i64 0) V V<|wnt<|?_;obtain ⟨cG,aS,o⟩:=bsi o;refine W_mid (fun a c=>∃ a2:Value,a 0=f/\a 5=i64 m/\a 6=b/\a 21=i64 (E.length:Int)/\a 22=i64 d.2/\a 58=undef/\Ext w0 c/\OwD c 22 5 a2 b cG/\Nw w0 a2) ?_ ?_
   ·refine zac<|zau (fun g a c=>∃ a1:Value,a 0=f/\a 5=i64 m/\a 6=b/\a 7=i64 d.2/\a 8=i64 g.2/\a 21=i64 (E.length:Int)/\a 22=i64 d.2/\a 58=undef/\Ext w0 c/\OwD c 22 5 a1 b g.1/\Nw w0 a1) aS ?_ ?_
    ·exact ⟨a0,bS,c5,aM,rfl,rfl,aJ,Q,aK,a7,aE,aC⟩
    rintro g _ _ cQ ⟨w,B,u,W,H,D,P,S,T,s,M,K⟩ e bF;refine W_seq<|W_sr<|mv (i64 g.2) V D<|mv (i64 m) V u<|wa V (q_ltI V V V)<|wnt<|wci e V V (fun e=>?_) (fun e=>?_)
    ·refine zae<|W_th<|W_seq<|zac<|W_sr<|av (u8 0) V (cst8 (0:UInt8) V)<|wnt<|W_seq ?_;obtain ⟨i,p,e⟩:=bsi e;refine W_mid (fun a c=>a 0=f/\a 5=i64 m/\a 6=b/\a 7=i64 d.2/\a 8=i64 g.2/\a 9=u8 i/\a 21=i64 (E.length:Int)/\a 22=i64 d.2/\a 58=undef/\Ext w0 c/\OwD c 22 5 w b g.1/\Nw w0 w) ?_ ?_
     ·refine W_sr<|mv (i64 d.2) V H<|mv (i64 m) V u<|wa V (zco V V V)<|mv (i64 g.2) V D<|wa V (zak V V V)<|mv f V B<|wa V (q_len V T22.sl V (F.lift (le_ s)))<|wa V (q_ltI V V V)<|wnt<|wci p V V (fun p=>?_) (fun p=>?_)
      ·refine W_rg<|mv f V B<|mv (i64 d.2) V H<|mv (i64 m) V u<|wa V (zco V V V)<|mv (i64 g.2) V D<|wa V (zak V V V)<|bse p fun aW aB p=>wa V (q_adr V T22 V V (F.lift (le_ s)) aB)<|wq V (zao V T22 V (F.lift (le_ s)) aB)<|av (u8 aW) V V<|zag<|?_;obtain rfl:=osi p;exact ⟨B,u,W,H,D,rfl,P,S,T,s,M,K⟩
      refine zae ?_;obtain rfl:=osi p;exact ⟨B,u,W,H,D,rfl,P,S,T,s,M,K⟩
     rintro _ cR ⟨bT,c6,X,Y,cB,cC,bX,bZ,c1,a8,t,G⟩;refine W_th<|W_rg<|mv b V X<|mv (i64 d.2) V Y<|mv b V X<|mv (i64 d.2) V Y<|bse e fun cJ z e=>wa V (q_adr V T29 V V t.rd z)<|wlq_loadD V V V T29 V t z (fun cD b6=>?_);refine mv (u8 i) V cC<|wls V V (zaz (L:=(w::k)) (R:=Sc u8) [u8 i] ([i]:List UInt8) V T22 V (by exact ⟨rfl,rfl,trivial⟩) V (litC u8 zbi (us:=[u8 i]) (l:=([i]:List UInt8)) V) V (litS u8 (us:=[u8 i]) (l:=([i]:List UInt8)) V) ?_);intro aN cE bQ bK b1 cL;have aQ:=zaa b1;have bH:By cE (w::k) aN ([i]:List UInt8):=OwK.slk (Sc.stab _) _ bQ (fun h A=>(Old.cons (aA.ext a8) t.ltB) h (bK h A)) (fun _ b5=>b5.2);replace t:=t.ext aQ;have a6:=a8.trans aQ;obtain ⟨cK,bC,e⟩:=bsi e;refine wls V V (stp_appendRow (v:=cD) (q:=aN) [] k V T22 V V t b6 z bH bC ?_);intro aO cS bB aG b2 bO cM;have aY:=a6.grown b2 G;have bL:=Nw.nxt a6 G bO;refine wa V (q_adr V T29 V V aG.rd z)<|wln V V (stp_storePnd (x:=aO) [aO] k V T29 V V aG z bB ?_);intro Z cT bR b3 bA cN;have aZ:=aY.grown b3 G
     have bM:Nw w0 Z:=fun h A=>(bA h A).elim (G h) (bL h)
     refine zag<|bk_n<|W_th<|W_rg<|mv (i64 g.2) V cB<|wa V (zak V V V)<|av (i64 (wI (g.2+1))) V V<|zag<|?_;obtain rfl:=osi e;exact ⟨_,rfl,Z,bT,c6,X,Y,rfl,bX,bZ,c1,aZ,bR,bM⟩
    refine zar<|th_x<|?_;obtain rfl:=osi e;obtain rfl:=bF _ rfl;refine th_x<|bk_x<|?_;exact ⟨w,B,u,W,P,S,T,s,M,K⟩
   rintro _ cV ⟨aU,bU,c7,c9,bY,c0,c2,b8,bP,bI⟩;refine bk_n<|W_th<|W_rg<|wa V (zak V c0 V)<|mv (i64 (wI (d.2+1))) V V<|zag<|?_;obtain rfl:=osi o;exact ⟨_,rfl,aU,bU,c7,c9,bY,rfl,c2,b8,bP,bI⟩
  refine zar<|th_x<|?_;obtain rfl:=osi o;obtain rfl:=bE _ rfl;refine th_x<|bk_x<|?_;exact ⟨a0,aM,aK,a7,aE,aC⟩
 rintro _ cW ⟨cI,cA,c3,b9,aF,aD⟩;refine W_th<|W_sr<|mv b V cA<|av b V V<|wnt<|W_ret<|?_;obtain rfl:=osi j;refine rt1 b V V V c3 ?_;exact ⟨b,rfl,b9,OwD.nwu aF aD,aF.owk k (fun h A=>aA h (aD h A))⟩
end Gk

/- Printed by gen.py: for each Go function a pure function, and that the Go code comes to it. No condition beside the equation that says what the pure function gives. -/
namespace Gk
open Go Go.Proofs
end Gk

/- Printed by gen.py: for each Go function a pure function, and that the Go code comes to it. No condition beside the equation that says what the pure function gives. -/
namespace Gk
open Go Go.Proofs
end Gk

/- What chapter 3's functions come to, in plain Lean. No condition but lengths. -/
namespace Gk
open Gf
theorem degI_eq (p:List UInt8):degI p=((trim p).length:Int) - 1:=by
 unfold degI
 have hb:=(zhj p (trim p).length).1 (Nat.le_refl _)
 by_cases h:trim p=[]
 ·rw [firstNZ_none,h];· rfl
  intro x hx
  obtain ⟨k,hk,rfl⟩:=mem_revI hx
  rw [← co_lt hk];exact trim_nil h k
 ·have hpos:=List.length_pos_iff.2 h
  have hle:=trim_le p
  generalize hn:(trim p).length=n at *
  have hg:=revI_get p (n - 1) (by omega)
  rw [show p.length - 1 - (n - 1)=p.length - n by omega] at hg
  obtain ⟨hlt,hge⟩:=List.getElem?_eq_some_iff.1 hg
  have hsplit:revI p=(revI p).take (p.length - n) ++ (((n - 1:Nat):Int),p[n - 1]) :: (revI p).drop (p.length - n+1):=by
   rw [← hge,← List.drop_eq_getElem_cons hlt,List.take_append_drop]
  rw [hsplit,firstNZ_stop]
  ·omega
  ·intro x hx
   obtain ⟨i,hi,rfl⟩:=List.getElem_of_mem hx
   rw [List.getElem_take]
   rw [List.length_take,zg8] at hi
   have h1:=revI_get p (p.length - 1 - i) (by omega)
   rw [show p.length - 1 - (p.length - 1 - i)=i by omega] at h1
   obtain ⟨h2,h3⟩:=List.getElem?_eq_some_iff.1 h1
   rw [h3,← co_lt (by omega)]
   exact hb _ (by omega)
  ·rw [← co_lt (by omega),← hn]
   exact zhz p h
theorem ziw (p:List UInt8) (h:p.length<=most):zel p=some (((trim p).length:Int) - 1):=by
 unfold zel
 rw [if_pos (by have:=zbb;omega),degI_eq]
theorem zfo (p:List UInt8) (h:p.length<=most):ze0 p=some (trim p):=by
 unfold ze0
 have hl:=trim_le p
 have hm:=zbb
 rw [ziw p h,obs,show ((trim p).length:Int) - 1+1=((trim p).length:Int) by omega,wI_nat (by omega)]
 have:=zd3 p 0 (trim p).length (Nat.zero_le _) hl
 rw [show ((0:Nat):Int)=0 from rfl] at this
 rw [this,obs,List.drop_zero,← trim_take]
 unfold zaj
 rw [zfv _ (by omega)];rfl
theorem revI_snd (p:List UInt8):(revI p).map (·.2)=p.reverse:=by
 simp only [revI,List.map_reverse]
 congr 1
 apply List.ext_getElem?
 intro i
 rw [List.getElem?_map,List.getElem?_mapIdx]
 cases p[i]? <;> rfl
theorem foldl_revI {σ:Type} (g:σ->UInt8->σ) (p:List UInt8) (s:σ):(revI p).foldl (fun s y=>g s y.2) s=p.foldr (fun c s=>g s c) s:=by
 have:(revI p).foldl (fun s y=>g s y.2) s=((revI p).map (·.2)).foldl g s:=by rw [List.foldl_map]
 rw [this,revI_snd,List.foldl_reverse]
theorem ev_foldr (x:UInt8):∀ p:List UInt8,p.foldr (fun c s=>mul s x^^^c) 0=evp p x
 | []=>rfl
 | c :: p=>by
  rw [List.foldr_cons,ev_foldr x p]
  show mul (evp p x) x^^^c=c^^^mul (evp p x) x
  rw [xor_comm]
theorem poly_Eval_eq (p:List UInt8) (x:UInt8) (h:p.length<=most):zh9 true p x=some (evp p x):=by
 unfold zh9
 have hm:=zbb
 rw [zi4 (by omega),obs]
 have:=(zhn (f:=fun (s:UInt8) (y:Int×UInt8)=>(zcj true s x).bind fun r22=>(zct r22 y.2).bind fun r25=>some r25) (fun s y=>mul s x^^^y.2) (xs:=revI p) (s0:=0) (fun _ _=>True) trivial
  (fun k s y _ _ _=>⟨by simp only [Mul_eq,Add_eq,obs],trivial⟩)).1
 rw [this,obs,foldl_revI (fun s c=>mul s x^^^c),ev_foldr];simp
theorem ev_snoc (x c:UInt8):∀ p:List UInt8,evp (p ++ [c]) x=evp p x^^^mul c (pow x p.length)
 | []=>by show c^^^mul 0 x=0^^^mul c 1;rw [zero_mul,xor_zero,zero_xor,mul_one]
 | a :: p=>by
  show a^^^mul (evp (p ++ [c]) x) x=(a^^^mul (evp p x) x)^^^mul c (mul (pow x p.length) x)
  rw [ev_snoc x c p,add_mul,xor_assoc,mul_assoc]
theorem ref03_Eval_eq (p:List UInt8) (x:UInt8) (h:p.length<=most):zi5 p x=some (evp p x):=by
 unfold zi5
 have hm:=zbb
 refine zay ?_ rfl
 refine zal (fun i=>(evp (p.take i) x,pow x i,(i:Int))) p.length (evp p x) rfl ?_ ?_
 ·intro i hi
  simp only
  rw [if_pos (by omega),za4 hi]
  simp only [obs,zgy]
  rw [ze8 hi,ev_snoc,List.length_take,Nat.min_eq_left (by omega),zas i (by omega)]
  rfl
 ·simp
theorem maxI (a b:Nat):(if (a:Int)<(b:Int) then (b:Int) else (a:Int))=((max a b:Nat):Int):=by split <;> omega
theorem addLoop (M:Nat) (p q:List UInt8) (hp:p.length<=M) (hq:q.length<=M) (hM:M<=most) {body:List UInt8×Int->Option ((List UInt8×Int)⊕List UInt8)}
  (hb1:∀ (s:List UInt8) (i:Nat),i<q.length->i<s.length->body (s,(i:Int))=some (.inl (s.set i (co s i^^^co q i),((i+1:Nat):Int))))
  (hb2:∀ s:List UInt8,body (s,(q.length:Int))=some (.inr s)) :
  ∃ x,iterC body (copyL (List.replicate M 0) 0 p,0)=some x/\x.length=M/\∀ j,co x j=co p j^^^co q j:=by
 refine iterC_up (fun i s=>s.length=M/\∀ j,co s j=co p j^^^(if j<i then co q j else 0)) q.length _ ?_ ?_ ?_
 ·refine ⟨?_,fun j=>?_⟩
  ·have:=zh3 (List.replicate M (0:UInt8)) 0 p (Nat.zero_le _)
   simpa using this
  ·have:=co_copyL (List.replicate M 0) 0 p (by simpa using hp) j
   rw [show ((0:Nat):Int)=0 from rfl] at this
   rw [this,co_rep]
   simp only [Nat.zero_le,true_and,Nat.zero_add,Nat.sub_zero,Nat.not_lt_zero,if_false,xor_zero]
   split
   ·rfl
   ·rw [co_ge (by omega)]
 ·rintro i s hi ⟨hl,hs⟩
  refine ⟨_,hb1 s i hi (by omega),by simpa using hl,fun j=>?_⟩
  rw [co_set (by omega)]
  by_cases hj:j=i
  ·subst hj;rw [if_pos rfl,hs j,if_neg (by omega),if_pos (by omega),xor_zero]
  ·rw [if_neg hj,hs j]
   have:j<i+1 ↔ j<i:=by omega
   simp only [this]
 ·rintro s ⟨hl,hs⟩
  refine ⟨s,hb2 s,hl,fun j=>?_⟩
  rw [hs j]
  split
  ·rfl
  ·rw [co_ge (show q.length<=j by omega)]
theorem poly_Add_eq (p q:List UInt8) (hp:p.length<=most) (hq:q.length<=most):ziq p q=some (trim (pplus p q)):=by
 unfold ziq
 have hm:=zbb
 rw [maxI,zbj _ _ (by omega),obs]
 obtain ⟨x,h1,h2,h3⟩:=addLoop (max p.length q.length) p q (by omega) (by omega) (by omega)
  (body:=fun s6:List UInt8×Int=>(if s6.2<(q.length:Int) then ((idx q s6.2).bind fun c9=>((idx s6.1 s6.2).bind fun c10=>some (.inl ((s6.1.set (s6.2:Int).toNat ((c10^^^c9))),(wI (s6.2+1)))))) else some (.inr s6.1)))
  (fun s i hi hs=>by
   simp only
   rw [if_pos (by omega),za4 hi,obs,za4 hs,obs,zas i (by omega),Int.toNat_natCast])
  (fun s=>by simp)
 rw [h1,obs,zfo x (by omega),obs,zj3 x (pplus p q) (fun j=>by rw [h3,zbo])]
theorem mulLoop (P Q:List UInt8) (M:Nat) (hM:M=P.length+Q.length - 1) (hQ:Q≠[]) (hm:P.length+Q.length<=most) {body:List UInt8×Int->Option ((List UInt8×Int)⊕List UInt8)}
  (hb1:∀ (s:List UInt8) (i:Nat),i<P.length->s.length=M->body (s,(i:Int))=some (.inl (copyL s (i:Int) (sumL ((s.take (i+Q.length)).drop i) (co P i) Q),((i+1:Nat):Int))))
  (hb2:∀ s:List UInt8,body (s,(P.length:Int))=some (.inr s)) :
  ∃ x,iterC body (List.replicate M 0,0)=some x/\x.length=M/\∀ j,co x j=co (pmul P Q) j:=by
 have lq:=List.length_pos_iff.2 hQ
 refine iterC_up (fun i s=>s.length=M/\∀ j,co s j=co (pmul (P.take i) Q) j) P.length _ ⟨by simp,fun j=>by rw [co_rep];simp [pmul,zda]⟩ ?_ ?_
 ·rintro i s hi ⟨hl,hs⟩
  have hlen:(sumL ((s.take (i+Q.length)).drop i) (co P i) Q).length=Q.length:=by rw [sumL_len];simp;omega
  refine ⟨_,hb1 s i hi hl,by rw [zh3 _ _ _ (by omega),hl],fun j=>?_⟩
  rw [co_copyL _ _ _ (by rw [hlen];omega),hlen,ze8 hi,co_pmul_snoc,← hs j,List.length_take,Nat.min_eq_left (Nat.le_of_lt hi),co_sumL]
  by_cases h1:i<=j/\j<i+Q.length
  ·have hl2:((s.take (i+Q.length)).drop i).length=Q.length:=by simp;omega
   rw [if_pos h1,if_neg (show ¬ j<i by omega),hl2,if_pos (show j - i<Q.length by omega),co_drop,zkc,show i+(j - i)=j by omega,if_pos (show j<i+Q.length by omega)]
  ·rw [if_neg h1]
   by_cases h2:j<i
   ·rw [if_pos h2,xor_zero]
   ·rw [if_neg h2,co_ge (show Q.length<=j - i by omega),mul_zero,xor_zero]
 ·rintro s ⟨hl,hs⟩
  exact ⟨s,hb2 s,hl,fun j=>by rw [hs j,List.take_of_length_le (Nat.le_refl _)]⟩
theorem poly_Mul_eq (p q:List UInt8) (hp:p.length<=most) (hq:q.length<=most) (h:trim p=[]∨trim q=[]∨(trim p).length+(trim q).length<=257):zha true p q=some (trim (pmul p q),0):=by
 unfold zha
 rw [zfo p hp,obs,zfo q hq,obs,if_neg (by simp)]
 have hs:trim (pmul p q)=trim (pmul (trim p) (trim q)):=zj3 _ _ (pmul_sim (zeg p).symm (zeg q).symm)
 by_cases h1:trim p=[]
 ·rw [if_pos (by rw [h1];rfl),hs,h1];rfl
 ·have l1:=List.length_pos_iff.2 h1
  rw [if_neg (by omega)]
  by_cases h2:trim q=[]
  ·rw [if_pos (by rw [h2];rfl),hs,h2,zj3 _ [] (pmul_nilR _)];rfl
  ·have l2:=List.length_pos_iff.2 h2
   have h3:(trim p).length+(trim q).length<=257:=by rcases h with h | h | h <;> first | exact absurd h h1 | exact absurd h h2 | exact h
   rw [if_neg (by omega),zg7 _ _ (by omega),ziv _ (by omega) (by omega),if_neg (by omega),zbj _ _ (by have:=h257;omega),obs]
   obtain ⟨x,e1,e2,e3⟩:=mulLoop (trim p) (trim q) _ rfl h2 (by have:=h257;omega)
    (body:=fun s12:List UInt8×Int=>(if s12.2<((trim p).length:Int) then ((idx (trim p) s12.2).bind fun c15=>((subL s12.1 s12.2 ((s12.1.length:Int))).bind fun c18=>((subL s12.1 s12.2 ((wI (s12.2+((trim q).length:Int))))).bind fun c19 =>
     ((zdl true c19 c15 (trim q)).bind fun r20=>some (.inl ((copyL s12.1 s12.2 r20),(wI (s12.2+1)))))))) else some (.inr s12.1)))
    (fun s i hi hl=>by
     simp only
     rw [if_pos (by omega),za4 hi,obs,zd3 _ _ _ (by omega) (Nat.le_refl _),obs,zg7 _ _ (by omega),zd3 _ _ _ (by omega) (by omega),obs,
      Sum_eq _ _ _ (by have:=h257;simp;omega),obs,zas i (by omega)])
    (fun s=>by simp)
   rw [e1,obs,hs]
   congr 2
   refine zb2 ?_ (fun j=>by rw [e3,zke])
   rw [e2,zg9 (ze3 p) (ze3 q) h1 h2]
end Gk

/- Chapter 3: vanishing polynomials. No condition. -/
namespace Gk
open Gf
def zg3 (o:List UInt8) (a:UInt8):List UInt8:=trim (pmul o [a,1])
def van (xs:List UInt8):List UInt8:=xs.foldl zg3 [1]
theorem trim_lin (a:UInt8):trim [a,1]=[a,1]:=trim_id (fun _=>by show (1:UInt8)≠0;decide)
theorem van_len:∀ (xs o:List UInt8),trim o=o->o≠[]->(xs.foldl zg3 o).length=o.length+xs.length/\trim (xs.foldl zg3 o)=xs.foldl zg3 o
 | [],o,h,_=>⟨rfl,h⟩
 | a :: xs,o,h,hne=>by
  have hl:(zg3 o a).length=o.length+1:=by
   unfold zg3
   rw [zg9 h (trim_lin a) hne (by simp)];simp
  have:=van_len xs (zg3 o a) (ze3 _) (fun e=>by rw [e] at hl;simp at hl)
  rw [List.foldl_cons]
  exact ⟨by rw [this.1,hl,List.length_cons];omega,this.2⟩
theorem trim_one:trim [1]=[1]:=trim_id (fun _=>by show (1:UInt8)≠0;decide)
theorem van_length (xs:List UInt8):(van xs).length=xs.length+1:=by
 have:=(van_len xs [1] trim_one (by simp)).1
 unfold van;rw [this];simp;omega
theorem van_trim (xs:List UInt8):trim (van xs)=van xs:=(van_len xs [1] trim_one (by simp)).2
theorem van_snoc (xs:List UInt8) (a:UInt8):van (xs ++ [a])=zg3 (van xs) a:=by unfold van;rw [List.foldl_append];rfl
theorem poly_Vanish_eq (xs:List UInt8) (h:xs.length<=255):zh7 true xs=some (van xs,0):=by
 unfold zh7
 rw [if_neg (by simp),if_neg (by omega)]
 refine zay ?_ rfl
 refine zal (fun i=>(van (xs.take i),(i:Int))) xs.length (van xs) rfl ?_ ?_
 ·intro i hi
  have h1:=van_length (xs.take i)
  have h2:(xs.take i).length=i:=by simp;omega
  have:=h257
  simp only
  rw [if_pos (by omega),za4 hi,obs,poly_Mul_eq _ _ (by omega) (by simp;omega) (.inr (.inr (by rw [van_trim,trim_lin,h1,h2];simp;omega))),obs,zas i (by omega),ze8 hi,van_snoc]
  rfl
 ·simp
end Gk

/- Chapter 3: places, weights. No condition but lengths. -/
namespace Gk
open Gf
theorem mput_keys (m:List (UInt8×Bool)) (k:UInt8) (v:Bool) (a:UInt8):a∈(mput m k v).map (·.1) ↔ a=k∨a∈m.map (·.1):=by
 unfold mput
 split
 ·rename_i h
  rw [List.map_map]
  have:((fun x:UInt8×Bool=>x.1) ∘ fun p=>if p.1=k then (p.1,v) else p)=(fun x=>x.1):=by
   funext p;simp only [Function.comp];split <;> rfl
  rw [this]
  exact ⟨fun h=>.inr h,fun h'=>h'.elim (fun e=>e ▸ h) id⟩
 ·simp only [List.map_append,List.mem_append,List.map_cons,List.map_nil,List.mem_singleton]
  exact ⟨fun h=>h.symm,fun h=>h.symm⟩
theorem mput_len (m:List (UInt8×Bool)) (k:UInt8) (v:Bool):(mput m k v).length=if k∈m.map (·.1) then m.length else m.length+1:=by
 unfold mput
 split <;> simp
theorem seen_inv (xs:List UInt8) (i:Nat) (hi:i<xs.length) (m:List (UInt8×Bool)) (h:(∀ a,a∈m.map (·.1) ↔ a∈xs.take i)/\m.length<=i/\(m.length=i ↔ (xs.take i).Nodup)) :
  (∀ a,a∈(mput m (co xs i) true).map (·.1) ↔ a∈xs.take (i+1))/\(mput m (co xs i) true).length<=i+1/\((mput m (co xs i) true).length=i+1 ↔ (xs.take (i+1)).Nodup):=by
 obtain ⟨h1,h2,h3⟩:=h
 rw [ze8 hi]
 refine ⟨fun a=>?_,?_,?_⟩
 ·rw [mput_keys,h1 a,List.mem_append,List.mem_singleton]
  exact ⟨fun h=>h.symm,fun h=>h.symm⟩
 ·rw [mput_len];split <;> omega
 ·rw [mput_len,List.nodup_append]
  by_cases hk:co xs i∈m.map (·.1)
  ·rw [if_pos hk]
   refine ⟨fun h=>by omega,fun h=>?_⟩
   exact absurd rfl (h.2.2 _ ((h1 _).1 hk) _ (by simp))
  ·rw [if_neg hk]
   refine ⟨fun h=>⟨h3.1 (by omega),by simp,fun a ha b hb e=>?_⟩,fun h=>by rw [h3.2 h.1]⟩
   rw [List.mem_singleton] at hb
   subst hb;subst e
   exact hk ((h1 _).2 ha)
theorem zkg (xs:List UInt8) (h:xs.length<=most):zgd true xs=some (if xs.length=0 then 5 else if 255<xs.length then 4 else if xs.Nodup then 0 else 6):=by
 unfold zgd
 have hm:=zbb
 obtain ⟨m,e1,e2,e3⟩:=iterC_up (s0:=([]:List (UInt8×Bool))) (fun i m=>(∀ a,a∈m.map (·.1) ↔ a∈xs.take i)/\m.length<=i/\(m.length=i ↔ (xs.take i).Nodup)) xs.length (fun m:List (UInt8×Bool)=>m.length<=xs.length/\(m.length=xs.length ↔ xs.Nodup))
  (body:=fun s4:(List (UInt8×Bool))×Int=>(if s4.2<(xs.length:Int) then ((idx xs s4.2).bind fun c7=>some (.inl ((mput s4.1 c7 true),(wI (s4.2+1))))) else some (.inr s4.1)))
  ⟨by simp,by simp,by simp⟩
  (fun i m hi hI=>⟨_,by simp only;rw [if_pos (by omega),za4 hi,obs,zas i (by omega)],seen_inv xs i hi m hI⟩)
  (fun m hI=>⟨m,by simp,hI.2.1,by rw [hI.2.2,List.take_of_length_le (Nat.le_refl _)]⟩)
 rw [e1,obs,if_neg (by simp)]
 by_cases h0:xs.length=0
 ·rw [if_pos (by omega),if_pos h0]
 ·rw [if_neg (by omega),if_neg h0]
  by_cases h1:255<xs.length
  ·rw [if_pos (by omega),if_pos h1]
  ·rw [if_neg (by omega),if_neg h1]
   by_cases h2:xs.Nodup
   ·rw [if_pos h2,if_pos (by rw [e3.2 h2])]
   ·rw [if_neg h2,if_neg (fun e=>h2 (e3.1 (by omega)))]
def wts (xs:List UInt8) (x:UInt8):List UInt8:=(List.range xs.length).map fun i=>wt xs i x
theorem wts_len (xs:List UInt8) (x:UInt8):(wts xs x).length=xs.length:=by simp [wts]
theorem co_wts (xs:List UInt8) (x:UInt8) (i:Nat) (h:i<xs.length):co (wts xs x) i=wt xs i x:=by
 simp [co,wts,List.getD_eq_getElem?_getD,h]
theorem poly_Weights_bad (xs:List UInt8) (x:UInt8) (e:Int) (h:zgd true xs=some e) (he:e≠0):zdh true xs x=some ([],e):=by
 unfold zdh
 rw [h,obs,if_neg he]
theorem zh8 (xs:List UInt8) (x:UInt8) (h0:xs.length≠0) (h1:xs.length<=255) (hn:xs.Nodup):zdh true xs x=some (wts xs x,0):=by
 unfold zdh
 have hm:=zbb
 have hh:=h257
 rw [zkg xs (by omega),if_neg h0,if_neg (by omega),if_pos hn,obs,if_pos rfl,zbj _ _ (by omega),obs]
 obtain ⟨s,e1,e2⟩:=iterC_up (s0:=List.replicate xs.length (0:UInt8)) (fun i s=>s.length=xs.length/\∀ j,j<i->co s j=wt xs j x) xs.length (fun s:List UInt8=>s=wts xs x)
  (body:=fun s7:List UInt8×Int=>(if s7.2<(xs.length:Int) then ((idx xs s7.2).bind fun c10=>((iterC (fun s11:UInt8×UInt8×Int=>(if s11.2.2<(xs.length:Int) then ((idx xs s11.2.2).bind fun c14=>(if s11.2.2=s7.2 then some (.inl (s11.1,s11.2.1,(wI (s11.2.2+1)))) else
   ((zct x c14).bind fun r16=>((zcj true s11.1 r16).bind fun r18=>((zct c10 c14).bind fun r20=>((zcj true s11.2.1 r20).bind fun r22=>some (.inl (r18,r22,(wI (s11.2.2+1)))))))))) else some (.inr (s11.1,s11.2.1)))) ((1:UInt8),(1:UInt8),0)).bind fun x11 =>
   ((zf1 true x11.1 x11.2).bind fun r26=>((idx s7.1 s7.2).bind fun c28=>some (.inl ((s7.1.set (s7.2:Int).toNat r26.1),(wI (s7.2+1)))))))) else some (.inr s7.1)))
  ⟨by simp,fun j hj=>absurd hj (Nat.not_lt_zero _)⟩
  (fun i s hi hI=>by
   obtain ⟨hl,hs⟩:=hI
   have inner:iterC (fun s11:UInt8×UInt8×Int=>(if s11.2.2<(xs.length:Int) then ((idx xs s11.2.2).bind fun c14=>(if s11.2.2=(i:Int) then some (.inl (s11.1,s11.2.1,(wI (s11.2.2+1)))) else
     ((zct x c14).bind fun r16=>((zcj true s11.1 r16).bind fun r18=>((zct (co xs i) c14).bind fun r20=>((zcj true s11.2.1 r20).bind fun r22=>some (.inl (r18,r22,(wI (s11.2.2+1)))))))))) else some (.inr (s11.1,s11.2.1)))) ((1:UInt8),(1:UInt8),0)
     = some (pe xs i x xs.length,pe xs i (co xs i) xs.length):=by
    refine zal (fun k=>(pe xs i x k,pe xs i (co xs i) k,(k:Int))) xs.length _ rfl ?_ ?_
    ·intro k hk
     simp only
     rw [if_pos (by omega),za4 hk,obs]
     by_cases hki:k=i
     ·subst hki
      rw [if_pos rfl,zas k (by omega)]
      simp [pe]
     ·rw [if_neg (by omega)]
      simp only [Add_eq,Mul_eq,obs]
      rw [zas k (by omega)]
      simp [pe,hki]
    ·simp
   refine ⟨s.set i (wt xs i x),?_,by simpa using hl,fun j hj=>?_⟩
   ·simp only
    rw [if_pos (by omega),za4 hi,obs,inner,obs,Div_eq,if_neg (pe_ne hn hi _ (Nat.le_refl _)),obs,za4 (by omega),obs,zas i (by omega),Int.toNat_natCast]
    rfl
   ·rw [co_set (by omega)]
    by_cases hji:j=i
    ·rw [if_pos hji,hji]
    ·rw [if_neg hji];exact hs j (by omega))
  (fun s hI=>⟨s,by simp,zb2 (by rw [wts_len,hI.1]) (fun j=>by
   by_cases hj:j<xs.length
   ·rw [hI.2 j hj,co_wts xs x j hj]
   ·rw [co_ge (by omega),co_ge (by rw [wts_len];omega)])⟩)
 rw [e1,obs,e2]
theorem ev_van:∀ (xs o:List UInt8) (y:UInt8),evp (xs.foldl zg3 o) y=0 ↔ evp o y=0∨y∈xs
 | [],o,y=>by simp
 | a :: xs,o,y=>by
  rw [List.foldl_cons,ev_van xs (zg3 o a) y]
  have:evp (zg3 o a) y=mul (evp o y) (y^^^a):=by unfold zg3;rw [ev_trim,zga,ev_lin]
  rw [this,List.mem_cons]
  constructor
  ·rintro (h | h)
   ·rcases zj4 h with h | h
    ·exact .inl h
    ·exact .inr (.inl (zd7 h))
   ·exact .inr (.inr h)
  ·rintro (h | h | h)
   ·exact .inl (by rw [h,zero_mul])
   ·exact .inl (by rw [h,xor_self,mul_zero])
   ·exact .inr h
theorem van_root (xs:List UInt8) (y:UInt8):evp (van xs) y=0 ↔ y∈xs:=by
 unfold van
 rw [ev_van]
 have:evp [1] y=1:=by show 1^^^mul 0 y=1;rw [zero_mul,xor_zero]
 rw [this]
 constructor
 ·rintro (h | h)
  ·exact absurd h (by decide)
  ·exact h
 ·exact .inr
end Gk

/- Newton's divided differences give the polynomial through places and values. Plain. No condition. -/
namespace Gf
theorem inv_one:inv 1=1:=(inv_uniq (mul_one 1)).symm
theorem mul_swap4 (a b c d:UInt8):mul (mul a b) (mul c d)=mul (mul a c) (mul b d):=by rw [mul_assoc,mul_assoc,mul_left_comm b]
theorem inv_mul2 (a b:UInt8):inv (mul a b)=mul (inv a) (inv b):=by
 by_cases ha:a=0
 ·rw [ha,zero_mul,inv_zero,zero_mul]
 ·by_cases hb:b=0
  ·rw [hb,mul_zero,inv_zero,mul_zero]
  ·refine (inv_uniq ?_).symm
   rw [mul_assoc,mul_left_comm b,mul_inv hb,mul_one,mul_inv ha]
theorem zhx:∀ (p:List UInt8) (a:UInt8) (i:Nat),co (pmul p [a,1]) (i+1)=mul (co p (i+1)) a^^^co p i
 | [],a,i=>by simp [pmul,zda,zero_mul]
 | c :: p,a,0=>by
  rw [za8,zcl,zde,zcl,zde,mul_one]
  cases p with
  | nil=>simp [pmul,zda,zero_mul]
  | cons d p=>rw [zbc,zde,zde,xor_comm]
 | c :: p,a,i+1=>by
  have:co [a,1] (i+1+1)=0:=co_ge (by simp)
  rw [za8,zhx p a i,this,mul_zero,zero_xor,zcl,zcl]
theorem ev_const (c x:UInt8):evp [c] x=c:=by show c^^^mul 0 x=c;rw [zero_mul,xor_zero]
def dd (xs ys:Nat->UInt8) (a:Nat):Nat->UInt8
 | 0=>ys a
 | m+1=>mul (dd xs ys (a+1) m^^^dd xs ys a m) (inv (xs (a+m+1)^^^xs a))
def nev (xs ys:Nat->UInt8) (a:Nat):Nat->List UInt8
 | 0=>[ys a]
 | m+1=>(pplus (pmul (nev xs ys (a+1) m) [xs a,1]) (pmul (nev xs ys a m) [xs (a+m+1),1])).map (mul (inv (xs (a+m+1)^^^xs a)))
theorem dg_nev (xs ys:Nat->UInt8):∀ (m a:Nat),dg (nev xs ys a m)<=m+1
 | 0,a=>dg_len _
 | m+1,a=>by
  refine dg_map _ (dg_pplus ?_ ?_)
  ·have:=ziu (dg_nev xs ys m (a+1)) (dg_lin (xs a));omega
  ·have:=ziu (dg_nev xs ys m a) (dg_lin (xs (a+m+1)));omega
theorem co_nev (xs ys:Nat->UInt8):∀ (m a:Nat),co (nev xs ys a m) m=dd xs ys a m
 | 0,a=>rfl
 | m+1,a=>by
  unfold nev dd
  rw [co_map,zbo,zhx,zhx,co_nev xs ys m (a+1),co_nev xs ys m a,dg_le.1 (dg_nev xs ys m (a+1)) (m+1) (Nat.le_refl _),dg_le.1 (dg_nev xs ys m a) (m+1) (Nat.le_refl _),zero_mul,zero_mul,zero_xor,zero_xor,mul_comm]
theorem ev_nev (xs ys:Nat->UInt8):∀ (m a:Nat),(∀ i j,a<=i->i<j->j<=a+m->xs i≠xs j)->∀ j,a<=j->j<=a+m->evp (nev xs ys a m) (xs j)=ys j
 | 0,a,_,j,h1,h2=>by
  obtain rfl:j=a:=by omega
  exact ev_const _ _
 | m+1,a,hd,j,h1,h2=>by
  have hne:xs (a+m+1)^^^xs a≠0:=fun e=>hd a (a+m+1) (Nat.le_refl _) (by omega) (by omega) (zd7 e).symm
  unfold nev
  rw [ev_map,zfu,zga,zga,ev_lin,ev_lin]
  by_cases ha:j=a
  ·subst ha
   rw [xor_self,mul_zero,zero_xor,ev_nev xs ys m j (fun i k h3 h4 h5=>hd i k h3 h4 (by omega)) j (Nat.le_refl _) (by omega),mul_comm (ys j),← mul_assoc,xor_comm (xs j),inv_mul hne,one_mul]
  ·by_cases hb:j=a+m+1
   ·subst hb
    rw [xor_self,mul_zero,xor_zero,ev_nev xs ys m (a+1) (fun i k h3 h4 h5=>hd i k (by omega) h4 (by omega)) (a+m+1) (by omega) (by omega),mul_comm (ys _),← mul_assoc,inv_mul hne,one_mul]
   ·rw [ev_nev xs ys m (a+1) (fun i k h3 h4 h5=>hd i k (by omega) h4 (by omega)) j (by omega) (by omega),ev_nev xs ys m a (fun i k h3 h4 h5=>hd i k h3 h4 (by omega)) j h1 (by omega),← mul_add,
     zii,xor_self,zero_xor,mul_comm (ys j),← mul_assoc,xor_comm (xs a),inv_mul hne,one_mul]
def pip (xs:Nat->UInt8):Nat->List UInt8
 | 0=>[1]
 | m+1=>pmul (pip xs m) [xs m,1]
def pi (xs:Nat->UInt8) (x:UInt8):Nat->UInt8
 | 0=>1
 | m+1=>mul (pi xs x m) (x^^^xs m)
theorem ev_pip (xs:Nat->UInt8) (x:UInt8):∀ m,evp (pip xs m) x=pi xs x m
 | 0=>ev_const 1 x
 | m+1=>by unfold pip pi;rw [zga,ev_pip xs x m,ev_lin]
theorem dg_pip (xs:Nat->UInt8):∀ m,dg (pip xs m)<=m+1
 | 0=>dg_len _
 | m+1=>by have:=ziu (dg_pip xs m) (dg_lin (xs m));unfold pip;omega
theorem co_pip (xs:Nat->UInt8):∀ m,co (pip xs m) m=1
 | 0=>rfl
 | m+1=>by unfold pip;rw [zhx,co_pip xs m,dg_le.1 (dg_pip xs m) (m+1) (Nat.le_refl _),zero_mul,zero_xor]
theorem pi_zero (xs:Nat->UInt8):∀ (m j:Nat),j<m->pi xs (xs j) m=0
 | m+1,j,h=>by
  unfold pi
  by_cases hj:j=m
  ·subst hj;rw [xor_self,mul_zero]
  ·rw [pi_zero xs m j (by omega),zero_mul]
def ns (xs ys:Nat->UInt8) (x:UInt8):Nat->UInt8:=sm (fun i=>mul (dd xs ys 0 i) (pi xs x i))
theorem ns_nev (xs ys:Nat->UInt8) (x:UInt8):∀ m,(∀ i j,i<j->j<=m->xs i≠xs j)->evp (nev xs ys 0 m) x=ns xs ys x (m+1)
 | 0,_=>by
  show evp [ys 0] x=0^^^mul (ys 0) 1
  rw [ev_const,mul_one,zero_xor]
 | m+1,hd=>by
  have ih:=ns_nev xs ys x m (fun i j h1 h2=>hd i j h1 (by omega))
  have hpl:((List.range (m+1)).map xs).length=m+1:=by simp
  have hnd:((List.range (m+1)).map xs).Nodup:=by
   refine List.pairwise_iff_getElem.2 fun i j hi hj hij=>?_
   simp only [List.getElem_map,List.getElem_range]
   simp only [List.length_map,List.length_range] at hi hj
   exact hd i j hij (by omega)
  have h0:Sim (pplus (nev xs ys 0 (m+1)) ((pip xs (m+1)).map (mul (dd xs ys 0 (m+1))))) (nev xs ys 0 m):=by
   refine agree hnd ?_ ?_ ?_
   ·rw [hpl]
    refine dg_le.2 fun i hi=>?_
    rw [zbo,co_map]
    by_cases h1:i=m+1
    ·subst h1;rw [co_nev,co_pip,mul_one,xor_self]
    ·rw [dg_le.1 (dg_nev xs ys (m+1) 0) i (by omega),dg_le.1 (dg_pip xs (m+1)) i (by omega),mul_zero,xor_zero]
   ·rw [hpl];exact dg_nev xs ys m 0
   ·intro a ha
    obtain ⟨j,hj,rfl⟩:=List.mem_map.1 ha
    have hj':j<m+1:=by simpa using hj
    rw [zfu,ev_map,ev_pip,pi_zero xs (m+1) j hj',mul_zero,xor_zero,ev_nev xs ys (m+1) 0 (fun i k _ h2 h3=>hd i k h2 (by omega)) j (Nat.zero_le _) (by omega),
     ev_nev xs ys m 0 (fun i k _ h2 h3=>hd i k h2 (by omega)) j (Nat.zero_le _) (by omega)]
  have h1:=ev_sim _ _ x h0
  rw [zfu,ev_map,ev_pip,ih] at h1
  show evp (nev xs ys 0 (m+1)) x=ns xs ys x (m+1)^^^mul (dd xs ys 0 (m+1)) (pi xs x (m+1))
  rw [← h1,xor_assoc,xor_self,xor_zero]
theorem ns_at (xs ys:Nat->UInt8) (n:Nat) (hd:∀ i j,i<j->j<n->xs i≠xs j) (j:Nat) (hj:j<n):ns xs ys (xs j) n=ys j:=by
 obtain ⟨m,rfl⟩:∃ m,n=m+1:=⟨n - 1,by omega⟩
 rw [← ns_nev xs ys (xs j) m (fun i k h1 h2=>hd i k h1 (by omega))]
 exact ev_nev xs ys m 0 (fun i k _ h2 h3=>hd i k h2 (by omega)) j (Nat.zero_le _) (by omega)
def hn (xs c:Nat->UInt8) (x:UInt8) (n:Nat):Nat->UInt8
 | 0=>0
 | k+1=>c (n - (k+1))^^^mul (hn xs c x n k) (x^^^xs (n - (k+1)))
theorem hn_ns (xs c:Nat->UInt8) (x:UInt8) (n:Nat):∀ k,k<=n->sm (fun i=>mul (c i) (pi xs x i)) (n - k)^^^mul (hn xs c x n k) (pi xs x (n - k))=sm (fun i=>mul (c i) (pi xs x i)) n
 | 0,_=>by
  show sm (fun i=>mul (c i) (pi xs x i)) n^^^mul 0 _=_
  rw [zero_mul,xor_zero]
 | k+1,h=>by
  have ih:=hn_ns xs c x n k (by omega)
  rw [show n - k=(n - (k+1))+1 by omega] at ih
  rw [← ih]
  show sm _ (n - (k+1))^^^mul (c (n - (k+1))^^^mul (hn xs c x n k) (x^^^xs (n - (k+1)))) (pi xs x (n - (k+1)))=(sm _ (n - (k+1))^^^mul (c (n - (k+1))) (pi xs x (n - (k+1))))^^^mul (hn xs c x n k) (mul (pi xs x (n - (k+1))) (x^^^xs (n - (k+1))))
  rw [add_mul,xor_assoc,mul_assoc,mul_comm (x^^^_)]
end Gf

/- Chapter 3: the polynomial through places and values. No condition but lengths. -/
namespace Gk
open Gf
def stg (xs ys:List UInt8) (k i:Nat):UInt8:=dd (co xs) (co ys) (i - min k i) (min k i)
theorem stg_step (xs ys:List UInt8) (k j:Nat) (h1:1<=k) (h2:k<=j):stg xs ys k j=mul (stg xs ys (k - 1) j^^^stg xs ys (k - 1) (j - 1)) (inv (co xs j^^^co xs (j - k))):=by
 obtain ⟨m,rfl⟩:∃ m,k=m+1:=⟨k - 1,by omega⟩
 unfold stg
 have e1:min (m+1) j=m+1:=by omega
 have e2:min m j=m:=by omega
 have e3:min m (j - 1)=m:=by omega
 rw [Nat.add_sub_cancel,e1,e2,e3]
 have e4:j - m=j - (m+1)+1:=by omega
 have e5:j - 1 - m=j - (m+1):=by omega
 rw [e4,e5]
 show mul (dd _ _ (j - (m+1)+1) m^^^dd _ _ (j - (m+1)) m) (inv (co xs (j - (m+1)+m+1)^^^co xs (j - (m+1))))=_
 rw [show j - (m+1)+m+1=j by omega]
def thStep (xs:List UInt8) (s:List UInt8) (y:Int×UInt8):List UInt8:=trim (pplus (trim (pmul s [co xs y.1.toNat,1])) [y.2])
theorem ev_thStep (xs s:List UInt8) (y:Int×UInt8) (x:UInt8):evp (thStep xs s y) x=y.2^^^mul (evp s x) (x^^^co xs y.1.toNat):=by
 unfold thStep
 rw [ev_trim,zfu,ev_trim,zga,ev_lin,ev_const,xor_comm]
theorem ev_thFold (xs d:List UInt8) (x:UInt8):∀ k,k<=d.length->evp (((revI d).take k).foldl (thStep xs) []) x=Gf.hn (co xs) (co d) x d.length k
 | 0,_=>rfl
 | k+1,h=>by
  have hg:=revI_get d (d.length - 1 - k) (by omega)
  rw [show d.length - 1 - (d.length - 1 - k)=k by omega] at hg
  rw [List.take_add_one,hg,List.foldl_append]
  show evp (thStep xs _ _) x=_
  rw [ev_thStep,ev_thFold xs d x k (by omega)]
  simp only [Int.toNat_natCast]
  rw [← co_lt (show d.length - 1 - k<d.length by omega),show d.length - 1 - k=d.length - (k+1) by omega]
  rfl
theorem poly_Through_ok (xs ys:List UInt8) (hl:xs.length=ys.length) (h0:xs.length≠0) (h1:xs.length<=255) (hn:xs.Nodup) :
  ∃ N,zgt true xs ys=some (N,0)/\trim N=N/\dg N<=xs.length/\∀ j,j<xs.length->evp N (co xs j)=co ys j:=by
 unfold zgt
 have hm:=zbb
 have hh:=h257
 rw [if_pos (by omega),zkg xs (by omega),if_neg h0,if_neg (by omega),if_pos hn,obs,if_pos rfl]
 unfold zaj
 rw [zfv ys (by omega),obs]
 obtain ⟨d,e1,e2,e3⟩:=iterC_from (s0:=ys) (fun k d=>d.length=xs.length/\∀ i,i<xs.length->co d i=stg xs ys (k - 1) i) 1 xs.length (by omega) (fun d:List UInt8=>d.length=xs.length/\∀ i,i<xs.length->co d i=dd (co xs) (co ys) 0 i)
  (body:=fun s17:List UInt8×Int=>(if s17.2<(s17.1.length:Int) then ((iterC (fun s20:List UInt8×Int=>(if s17.2<=s20.2 then ((idx s20.1 s20.2).bind fun c25=>((idx s20.1 ((wI (s20.2 - 1)))).bind fun c26=>((idx xs s20.2).bind fun c27=>((idx xs ((wI (s20.2 - s17.2)))).bind fun c28 =>
   ((zct c25 c26).bind fun r29=>((zct c27 c28).bind fun r31=>((zf1 true r29 r31).bind fun r33=>some (.inl ((s20.1.set (s20.2:Int).toNat r33.1),(wI (s20.2 - 1))))))))))) else some (.inr s20.1))) (s17.1,(wI ((s17.1.length:Int) - 1)))).bind fun x20=>some (.inl (x20,(wI (s17.2+1))))) else some (.inr s17.1)))
  ⟨hl.symm,fun i hi=>by simp [stg,dd]⟩
  (fun k d hk hkn hI=>by
   obtain ⟨dl,hd⟩:=hI
   obtain ⟨d',f1,f2,f3⟩:=iterC_dn (s0:=d) (fun j s=>s.length=xs.length/\∀ i,i<xs.length->co s i=if j<=i then stg xs ys k i else stg xs ys (k - 1) i) k xs.length (by omega) (fun s:List UInt8=>s.length=xs.length/\∀ i,i<xs.length->co s i=stg xs ys k i)
    (body:=fun s20:List UInt8×Int=>(if (k:Int)<=s20.2 then ((idx s20.1 s20.2).bind fun c25=>((idx s20.1 ((wI (s20.2 - 1)))).bind fun c26=>((idx xs s20.2).bind fun c27=>((idx xs ((wI (s20.2 - (k:Int))))).bind fun c28 =>
     ((zct c25 c26).bind fun r29=>((zct c27 c28).bind fun r31=>((zf1 true r29 r31).bind fun r33=>some (.inl ((s20.1.set (s20.2:Int).toNat r33.1),(wI (s20.2 - 1))))))))))) else some (.inr s20.1)))
    ⟨dl,fun i hi=>by rw [if_neg (by omega)];exact hd i hi⟩
    (fun j s hkj hj hI=>by
     obtain ⟨sl,hs⟩:=hI
     have hne:co xs j^^^co xs (j - k)≠0:=fun e=>by
      have:=co_inj hn hj (by omega) (zd7 e)
      omega
     refine ⟨s.set j (stg xs ys k j),?_,by simpa using sl,fun i hi=>?_⟩
     ·simp only
      rw [if_pos (by omega),za4 (by omega),obs,ziv j (by omega) (by omega),za4 (by omega),obs,za4 hj,obs,wI_sub j k hkj (by omega),za4 (by omega),obs,
       Add_eq,obs,Add_eq,obs,Div_eq,if_neg hne,obs,Int.toNat_natCast,hs j hj,if_neg (by omega),hs (j - 1) (by omega),if_neg (by omega),← stg_step xs ys k j hk hkj]
      congr 3;omega
     ·rw [co_set (by omega)]
      by_cases hij:i=j
      ·rw [if_pos hij,if_pos (by omega),hij]
      ·rw [if_neg hij,hs i hi]
       have:(j+1<=i) ↔ (j<=i):=by omega
       simp only [this])
    (fun s hI=>⟨s,by simp only;rw [if_neg (by omega)],hI.1,fun i hi=>by
     rw [hI.2 i hi]
     by_cases h:k<=i
     ·rw [if_pos h]
     ·rw [if_neg h]
      unfold stg
      rw [show min (k - 1) i=min k i by omega]⟩)
   refine ⟨d',?_,f2,fun i hi=>by rw [f3 i hi,Nat.add_sub_cancel]⟩
   simp only
   rw [if_pos (by omega),dl,wI_of (by omega) (by omega),f1,obs,zas k (by omega)])
  (fun d hI=>⟨d,by simp only;rw [if_neg (by omega)],hI.1,fun i hi=>by
   rw [hI.2 i hi]
   unfold stg
   rw [show min (xs.length - 1) i=i by omega,Nat.sub_self]⟩)
 rw [show ((1:Nat):Int)=1 from rfl] at e1
 rw [e1,obs,zi4 (by omega),obs]
 have key:=zhn (f:=fun (s55:List UInt8) (y55:(Int×UInt8))=>((idx xs y55.1).bind fun c61=>((zha true s55 ([c61,(1:UInt8)]:List UInt8)).bind fun r65=>((ziq r65.1 ([y55.2]:List UInt8)).bind fun r81=>some r81)))) (thStep xs) (xs:=revI d) (s0:=[])
  (fun k s=>s.length<=k/\trim s=s) ⟨Nat.le_refl _,rfl⟩ (by
   rintro k s ⟨y,c⟩ hk hy ⟨hs,ht⟩
   obtain ⟨i,hi,e⟩:=mem_revI hy
   simp only [Prod.mk.injEq] at e
   obtain ⟨rfl,rfl⟩:=e
   rw [zg8] at hk
   have ds:dg s<=k:=Nat.le_trans (dg_len s) hs
   have d1:=ziu ds (dg_lin (co xs i))
   have l1:(trim (pmul s [co xs i,1])).length<=k+1:=by unfold dg at d1;omega
   simp only
   rw [za4 (by omega),obs,poly_Mul_eq _ _ (by omega) (by simp;omega) (.inr (.inr (by
    have:=dg_lin (co xs i)
    unfold dg at this ds
    omega))),obs,poly_Add_eq _ _ (by simp only;omega) (by simp;omega),obs]
   refine ⟨by simp only [thStep,Int.toNat_natCast],?_,ze3 _⟩
   have h3:=trim_le (pplus (trim (pmul s [co xs i,1])) [d[i]])
   rw [zgp] at h3
   simp only [thStep,Int.toNat_natCast]
   simp only [List.length_cons,List.length_nil] at h3
   omega)
 rw [key.1,obs]
 refine ⟨_,rfl,key.2.2,?_,fun j hj=>?_⟩
 ·have:=key.2.1
  rw [zg8,e2] at this
  exact Nat.le_trans (dg_len _) this
 ·have h2:=ev_thFold xs d (co xs j) d.length (Nat.le_refl _)
  rw [List.take_of_length_le (by rw [zg8];omega)] at h2
  rw [h2]
  have h3:=hn_ns (co xs) (co d) (co xs j) d.length d.length (Nat.le_refl _)
  rw [Nat.sub_self] at h3
  have h4:mul (Gf.hn (co xs) (co d) (co xs j) d.length d.length) (pi (co xs) (co xs j) 0)=Gf.hn (co xs) (co d) (co xs j) d.length d.length:=mul_one _
  rw [h4] at h3
  have h5:sm (fun i=>mul (co d i) (pi (co xs) (co xs j) i)) 0=0:=rfl
  rw [h5,zero_xor] at h3
  rw [h3,e2]
  have h6:=ns_at (co xs) (co ys) xs.length (fun a b h h' e=>absurd (co_inj hn (by omega) h' e) (by omega)) j hj
  rw [← h6]
  exact sm_congr _ fun i hi=>by rw [e3 i hi]
theorem ref03_Weight_eq (xs:List UInt8) (i:Nat) (x:UInt8) (hi:i<xs.length) (h:xs.length<=most):zfp xs (i:Int) x=some (wt xs i x):=by
 unfold zfp
 have hm:=zbb
 refine zay ?_ rfl
 refine zal (fun k=>(mul (pe xs i x k) (inv (pe xs i (co xs i) k)),(k:Int))) xs.length _ ?_ ?_ ?_
 ·show (1,0)=(mul 1 (inv 1),((0:Nat):Int))
  rw [one_mul,inv_one]
  rfl
 ·intro k hk
  simp only
  rw [if_pos (by omega)]
  by_cases hki:k=i
  ·subst hki;rw [if_pos rfl,zas k (by omega)];simp [pe]
  ·rw [if_neg (by omega),za4 hk,obs,za4 hi,obs,refInv_eq,obs,zgy,obs,zgy,obs,zas k (by omega)]
   simp only [pe,if_neg hki,inv_mul2]
   rw [mul_swap4]
 ·simp [wt]
end Gk

/- Chapter 8 in plain Lean: shares, and what shares tell. No condition but lengths. -/
namespace Gk
open Gf
def rowsp (m:List UInt8) (n q i:Nat):List UInt8:=(List.range q).map fun k=>co m (k * n+i)
theorem zjn (m:List UInt8) (n q i:Nat):(rowsp m n q i).length=q:=by simp [rowsp]
theorem co_rowsp (m:List UInt8) (n q i k:Nat) (h:k<q):co (rowsp m n q i) k=co m (k * n+i):=by
 simp [co,rowsp,List.getD_eq_getElem?_getD,h]
def colp (s m:List UInt8) (q i:Nat):List UInt8:=co s i :: rowsp m s.length q i
theorem colp_len (s m:List UInt8) (q i:Nat):(colp s m q i).length=q+1:=by simp [colp,zjn]
def shr (s m:List UInt8) (q:Nat) (x:UInt8):List UInt8:=(List.range s.length).map fun i=>evp (colp s m q i) x
theorem zef (s m:List UInt8) (q:Nat) (x:UInt8):(shr s m q x).length=s.length:=by simp [shr]
theorem co_shr (s m:List UInt8) (q:Nat) (x:UInt8) (i:Nat) (h:i<s.length):co (shr s m q x) i=evp (colp s m q i) x:=by
 unfold shr;rw [zc3,if_pos h]
theorem share_eq (s m:List UInt8) (q:Nat) (x:UInt8) (hm:m.length=q * s.length) (hs:s.length<=most) (hmm:m.length<=most):zgs true s m x=some (shr s m q x):=by
 unfold zgs
 have hmo:=zbb
 rw [zbj _ _ hs,obs]
 by_cases h0:s.length=0
 ·have hs0:s=[]:=List.eq_nil_of_length_eq_zero h0
  subst hs0
  have hm0:m.length=0:=by rw [hm];simp
  have:iterC (fun s3:List UInt8×Int=>(if 0<=s3.2 then (if 0<((([]:List UInt8)).length:Int) then ((subL m s3.2 ((wI (s3.2+((([]:List UInt8)).length:Int))))).bind fun c7=>((zdl true c7 x s3.1).bind fun r8=>some (.inl (r8,(wI (s3.2 - ((([]:List UInt8)).length:Int))))))) else some (.inr s3.1)) else some (.inr s3.1))) (List.replicate ([]:List UInt8).length 0,(wI ((m.length:Int) - ((([]:List UInt8)).length:Int))))=some ([]:List UInt8):=by
   rw [zbq];simp
  rw [this,obs,Sum_eq _ _ _ (by simp)]
  rfl
 ·generalize hn:s.length=n at *
  have key:iterC (fun s3:List UInt8×Int=>(if 0<=s3.2 then (if 0<(n:Int) then ((subL m s3.2 ((wI (s3.2+(n:Int))))).bind fun c7=>((zdl true c7 x s3.1).bind fun r8=>some (.inl (r8,(wI (s3.2 - (n:Int))))))) else some (.inr s3.1)) else some (.inr s3.1))) (List.replicate n 0,(wI ((m.length:Int) - (n:Int))))=some ((List.range n).map fun i=>evp (rowsp m n q i) x):=by
   refine zal (fun j=>((List.range n).map (fun i=>evp ((rowsp m n q i).drop (q - j)) x),((((q - j) * n:Nat):Int) - (n:Int)))) q _ ?_ ?_ ?_
   ·rw [Nat.sub_zero,← hm,wI_of (by omega) (by omega)]
    congr 1
    refine zb2 (by simp) fun i=>?_
    rw [co_rep,zc3]
    split
    ·rw [List.drop_of_length_le (by rw [zjn];omega)];rfl
    ·rfl
   ·intro j hj
    obtain ⟨r,hr⟩:∃ r,q - j=r+1:=⟨q - j - 1,by omega⟩
    have e1:(q - j) * n=r * n+n:=by rw [hr,Nat.succ_mul]
    have e2:q - (j+1)=r:=by omega
    have hle:r * n+n<=m.length:=by rw [hm,← e1];exact Nat.mul_le_mul_right n (Nat.sub_le q j)
    simp only
    rw [e1,show (((r * n+n:Nat):Int) - (n:Int))=((r * n:Nat):Int) by omega,if_pos (by omega),if_pos (by omega),zg7 _ _ (by omega),zd3 _ _ _ (by omega) hle,obs,
     Sum_eq _ _ _ (by simp;omega),obs,wI_of (by omega) (by omega),e2]
    congr 3
    refine zb2 ?_ fun i=>?_
    ·rw [sumL_len];simp;omega
    ·have hl:((m.take (r * n+n)).drop (r * n)).length=n:=by simp;omega
     rw [co_sumL,hl]
     by_cases hi:i<n
     ·rw [if_pos hi,co_drop,zkc,if_pos (by omega),zc3,if_pos hi,zc3,if_pos hi,ev_drop _ x r,co_rowsp m n q i r (by omega),hr,mul_comm x]
     ·rw [if_neg hi,zc3,if_neg hi]
   ·simp only
    rw [Nat.sub_self,Nat.zero_mul,if_neg (by omega)]
    congr 2
  rw [key,obs,Sum_eq _ _ _ (by omega),obs]
  congr 1
  refine zb2 (by rw [sumL_len,zef]) fun i=>?_
  rw [co_sumL,zc3]
  by_cases hi:i<n
  ·rw [if_pos (by omega),if_pos hi,co_shr _ _ _ _ _ (by omega)]
   unfold colp
   rw [hn]
   show _=co s i^^^mul (evp (rowsp m n q i) x) x
   rw [mul_comm x]
  ·rw [if_neg (by omega),co_ge (by rw [zef];omega)]
theorem Contains_eq (xs:List UInt8) (v:UInt8) (h:xs.length<=most):zb0 xs v=some (decide (v∈xs)):=by
 unfold zb0 zc7
 have hm:=zbb
 obtain ⟨x,e1,e2⟩:=zfx (body:=fun s1:Int=>(if s1<(xs.length:Int) then ((idx xs s1).bind fun c4=>(if v=c4 then some (.inr (Sum.inr (α:=Unit) s1)) else some (.inl (wI (s1+1))))) else some (.inr (.inl ()))))
  (fun s=>∃ i:Nat,i<=xs.length/\s=(i:Int)/\∀ j,j<i->co xs j≠v) (fun s=>xs.length - s.toNat) (fun r=>(r=.inl ()/\v ∉ xs)∨∃ i:Nat,r=.inr (i:Int)/\v∈xs)
  (by
   rintro _ ⟨i,hi,rfl,hb⟩
   by_cases hlt:i<xs.length
   ·rw [if_pos (by omega),za4 hlt,obs]
    by_cases he:v=co xs i
    ·rw [if_pos he];exact .inr ⟨_,rfl,.inr ⟨i,rfl,he ▸ co_mem hlt⟩⟩
    ·rw [if_neg he,zas i (by omega)]
     refine .inl ⟨_,rfl,⟨i+1,hlt,rfl,fun j hj=>?_⟩,by simp only [Int.toNat_natCast];omega⟩
     by_cases hji:j=i
     ·subst hji;exact fun e=>he e.symm
     ·exact hb j (by omega)
   ·obtain rfl:i=xs.length:=by omega
    rw [if_neg (by omega)]
    refine .inr ⟨_,rfl,.inl ⟨rfl,fun hv=>?_⟩⟩
    obtain ⟨j,hj,rfl⟩:=mem_co hv
    exact hb j hj rfl) 0 ⟨0,Nat.zero_le _,rfl,fun j hj=>absurd hj (Nat.not_lt_zero _)⟩
 rw [e1,obs]
 rcases e2 with ⟨rfl,hv⟩ | ⟨i,rfl,hv⟩
 ·simp [hv]
 ·simp [hv]
theorem threshold_eq (t:Int):zdf t=some (decide (1<=t/\t<=255)):=by
 unfold zdf
 by_cases h:1<=t
 ·rw [if_pos h];simp [h]
 ·rw [if_neg h];simp [h]
theorem MaskSize_eq (q n:Nat) (hq:q<=254) (hn:n<=most):zc6 ((q+1:Nat):Int) (n:Int)=some ((q * n:Nat):Int):=by
 unfold zc6
 have hle:q * n<=254 * most:=Nat.mul_le_mul hq hn
 have hmm:254 * most<9223372036854775807:=by decide
 have e:((q:Int) * (n:Int))=((q * n:Nat):Int):=(Int.natCast_mul _ _).symm
 rw [threshold_eq,obs,if_neg (by simp;omega),if_neg (by omega),ziv _ (by omega) (by omega),Nat.add_sub_cancel,e,wI_nat (by omega)]
theorem check_eq (t:Int) (s m xs:List UInt8) (hs:s.length<=most) (hx:xs.length<=most):zgv true t s m xs=some (if ¬ (1<=t/\t<=255)∨0∈xs then 2 else if m.length=(t - 1).toNat * s.length then 0 else 3):=by
 unfold zgv
 rw [if_neg (by simp),threshold_eq,obs]
 by_cases ht:1<=t/\t<=255
 ·rw [if_neg (by simp [ht]),Contains_eq _ _ hx,obs]
  by_cases h0:(0:UInt8)∈xs
  ·rw [if_pos (by simpa using h0),if_pos (.inr h0)]
  ·obtain ⟨q,hq⟩:∃ q:Nat,t=((q+1:Nat):Int):=⟨(t - 1).toNat,by omega⟩
   have e:(t - 1).toNat=q:=by omega
   rw [if_neg (by simpa using h0),if_neg (by simp [h0];omega),e,hq,MaskSize_eq q _ (by omega) hs,obs]
   by_cases hl:m.length=q * s.length
   ·rw [if_pos (by rw [hl]),if_pos hl]
   ·rw [if_neg (by omega),if_neg hl]
 ·rw [if_pos (by simp only [decide_eq_false ht];rfl),if_pos (.inl ht)]
theorem Split_ok (q:Nat) (s m xs:List UInt8) (hq:q<=254) (hm:m.length=q * s.length) (hs:s.length<=most) (hmm:m.length<=most) (hx:(0:UInt8) ∉ xs) (hxl:xs.length<=most):zfn true ((q+1:Nat):Int) s m xs=some (xs.map (shr s m q),0):=by
 unfold zfn
 have e:(((q+1:Nat):Int) - 1).toNat=q:=by omega
 have hmo:=zbb
 rw [check_eq _ _ _ _ hs hxl,e,if_neg (by simp [hx];omega),if_pos hm,obs,if_pos rfl]
 refine zay ?_ rfl
 refine zal (fun i=>((xs.take i).map (shr s m q),(i:Int))) xs.length _ rfl ?_ ?_
 ·intro i hi
  simp only
  rw [if_pos (by omega),za4 hi,obs,share_eq s m q _ hm hs hmm,obs]
  unfold appL
  rw [if_pos (by simp;omega),obs,zas i (by omega),ze8 hi,List.map_append]
  rfl
 ·simp
theorem unlike_eq (l:List (List UInt8)) (h:l.length<=most) (d:Nat) (hd:∀ r,l[0]?=some r->r.length=d):zf0 l=some (l.any fun r=>!decide (r.length=d)):=by
 unfold zf0
 have hm:=zbb
 rw [zi4 (by omega),obs,zig _ (fun r=>!decide (r.length=d))]
 ·rfl
 ·intro x hx
  have hpos:0<l.length:=List.length_pos_of_mem hx
  have h0:l[0]?=some l[0]:=by simp
  unfold zen
  have:idx l 0=some l[0]:=by
   have:=zge l 0
   rw [show ((0:Nat):Int)=0 from rfl] at this
   rw [this,h0]
  rw [this,obs,hd _ h0]
  congr 1
  rw [Bool.not_inj_iff,decide_eq_decide]
  omega
def atv (xs:List UInt8) (shares:List (List UInt8)) (d:Nat) (x:UInt8):List UInt8:=(List.range d).map fun i=>sm (fun k=>mul (wt xs k x) (co (shares.getD k []) i)) xs.length
theorem At_ok (xs:List UInt8) (shares:List (List UInt8)) (d:Nat) (x:UInt8) (hl:xs.length=shares.length) (h0:xs.length≠0) (h1:xs.length<=255) (hn:xs.Nodup) (hr:∀ r∈shares,r.length=d) (hd:d<=most) :
  shamir_At true xs shares x=some (atv xs shares d x,0):=by
 unfold shamir_At
 have hm:=zbb
 have hh:=h257
 have hany:(shares.any fun r=>!decide (r.length=d))=false:=by
  rw [List.any_eq_false];intro r hr';simp [hr r hr']
 have i0:idx shares 0=some (shares.getD 0 []):=by
  have:=zcw (l:=shares) (k:=0) (by omega)
  rwa [show ((0:Nat):Int)=0 from rfl] at this
 have hd0:(shares.getD 0 []).length=d:=hr _ (zds (by omega))
 rw [if_neg (by simp),if_pos (by omega),unlike_eq shares (by omega) d (fun r h=>hr r (List.mem_of_getElem? h)),obs,hany,if_neg (by decide),zh8 xs x h0 h1 hn,obs,if_pos rfl,i0,obs,hd0,zbj _ _ hd,obs]
 refine zay ?_ rfl
 refine zal (fun j=>((List.range d).map (fun i=>sm (fun k=>mul (wt xs k x) (co (shares.getD k []) i)) j),(j:Int))) xs.length _ ?_ ?_ ?_
 ·congr 1
  refine zb2 (by simp) fun i=>?_
  rw [co_rep,zc3];split <;> rfl
 ·intro j hj
  simp only
  rw [if_pos (by omega),zcw (by omega),obs,za4 (by rw [wts_len];exact hj),obs,co_wts xs x j hj,Sum_eq _ _ _ (by simpa using hd),obs,zas j (by omega)]
  congr 3
  refine zb2 (by rw [sumL_len];simp) fun i=>?_
  rw [co_sumL,zc3,zc3]
  simp only [List.length_map,List.length_range]
  split
  ·rfl
  ·rfl
 ·simp only
  rw [if_neg (by omega)]
  rfl
theorem ref08_At_eq (xs:List UInt8) (shares:List (List UInt8)) (d:Nat) (x:UInt8) (hl:xs.length=shares.length) (h0:xs.length≠0) (h1:xs.length<=255) (hr:∀ r∈shares,r.length=d) (hd:d<=most):ref08_At xs shares x=some (atv xs shares d x):=by
 unfold ref08_At
 have hm:=zbb
 have hh:=h257
 have i0:idx shares 0=some (shares.getD 0 []):=by
  have:=zcw (l:=shares) (k:=0) (by omega)
  rwa [show ((0:Nat):Int)=0 from rfl] at this
 have hd0:(shares.getD 0 []).length=d:=hr _ (zds (by omega))
 rw [i0,obs,hd0]
 refine zay ?_ rfl
 refine zal (fun j=>((List.range j).map (fun i=>sm (fun k=>mul (wt xs k x) (co (shares.getD k []) i)) xs.length),(j:Int))) d _ rfl ?_ ?_
 ·intro i hi
  have inner:iterC (fun s9:UInt8×Int=>(if s9.2<(xs.length:Int) then ((idx shares s9.2).bind fun c14=>((idx c14 (i:Int)).bind fun c16=>((zfp xs s9.2 x).bind fun r17=>((zc2 r17 c16).bind fun r19=>some (.inl ((s9.1^^^r19),(wI (s9.2+1)))))))) else some (.inr s9.1))) ((0:UInt8),0)=some (sm (fun k=>mul (wt xs k x) (co (shares.getD k []) i)) xs.length):=by
   refine zal (fun k=>(sm (fun k=>mul (wt xs k x) (co (shares.getD k []) i)) k,(k:Int))) xs.length _ rfl ?_ ?_
   ·intro k hk
    simp only
    rw [if_pos (by omega),zcw (by omega),obs,za4 (by rw [hr _ (zds (by omega))];exact hi),obs,ref03_Weight_eq xs k x hk (by omega),obs,zgy,obs,zas k (by omega)]
    rfl
   ·simp
  simp only
  rw [if_pos (by omega),inner,obs]
  unfold appL
  rw [if_pos (by simp;omega),obs,zas i (by omega),List.range_succ,List.map_append]
  rfl
 ·simp only
  rw [if_neg (by omega)]
  rfl
theorem ref08_Share_eq (q:Nat) (s m:List UInt8) (x:UInt8) (hq:q<=254) (hm:m.length=q * s.length) (hs:s.length<=100000):zfd ((q+1:Nat):Int) s m x=some (shr s m q x):=by
 unfold zfd
 have hmo:=zbb
 have hbig:254 * 100000+100000<=most:=by decide
 refine zay ?_ rfl
 refine zal (fun j=>((List.range j).map (fun i=>evp (colp s m q i) x),(j:Int))) s.length _ rfl ?_ ?_
 ·intro i hi
  have inner:iterC (fun s12:List UInt8×Int=>(if s12.2<((q+1:Nat):Int) then ((idx m ((wI ((wI ((wI (s12.2 - 1)) * (s.length:Int)))+(i:Int))))).bind fun c15=>((appL s12.1 (([c15]:List UInt8))).bind fun c18=>some (.inl (c18,(wI (s12.2+1)))))) else some (.inr s12.1))) (([co s i]:List UInt8),1)=some (colp s m q i):=by
   refine zal (fun k=>(co s i :: rowsp m s.length k i,((k+1:Nat):Int))) q _ ?_ ?_ ?_
   ·rfl
   ·intro k hk
    have hle:k * s.length+s.length<=m.length:=by
     rw [hm,← Nat.succ_mul];exact Nat.mul_le_mul_right _ hk
    have hle2:k * s.length<=254 * 100000:=Nat.mul_le_mul (by omega) hs
    have e3:((k:Int) * (s.length:Int))=((k * s.length:Nat):Int):=(Int.natCast_mul _ _).symm
    simp only
    rw [if_pos (by omega),ziv _ (by omega) (by omega),Nat.add_sub_cancel,e3,wI_nat (by omega),zg7 _ _ (by omega),za4 (by omega),obs]
    unfold appL
    rw [if_pos (by simp [zjn];omega),obs,zas (k+1) (by omega)]
    simp only [rowsp,List.range_succ,List.map_append,List.cons_append]
    rfl
   ·simp only
    rw [if_neg (by omega)]
    rfl
  simp only
  rw [if_pos (by omega),za4 hi,obs,inner,obs,ref03_Eval_eq _ _ (by rw [colp_len];omega),obs]
  unfold appL
  rw [if_pos (by simp;omega),obs,zas i (by omega),List.range_succ,List.map_append]
  rfl
 ·simp only
  rw [if_neg (by omega)]
  rfl
end Gk

/- Chapter 9 in plain Lean: pieces of parts. No condition but lengths. -/
namespace Gk
open Gf
def plc (n:Nat):List UInt8:=(List.range n).map fun i=>UInt8.ofNat (i+1)
theorem zca (n:Nat):(plc n).length=n:=by simp [plc]
theorem co_plc (n i:Nat) (h:i<n):co (plc n) i=UInt8.ofNat (i+1):=by unfold plc;rw [zc3,if_pos h]
theorem zi9 (n:Nat) (h:n<=255):(plc n).Nodup:=by
 refine List.pairwise_iff_getElem.2 fun i j hi hj hij e=>?_
 rw [zca] at hi hj
 simp only [plc,List.getElem_map,List.getElem_range] at e
 have:=congrArg UInt8.toNat e
 rw [UInt8.toNat_ofNat',UInt8.toNat_ofNat'] at this
 omega
theorem zfr (n:Nat):UInt8.ofInt (n:Int)=UInt8.ofNat n:=by
 apply UInt8.toNat_inj.1
 simp [UInt8.ofInt]
 omega
theorem places_eq (n:Nat) (h:n<=255):zhq (n:Int)=some (plc n):=by
 unfold zhq
 have h2:=h257
 rw [zbj _ _ (by omega),obs]
 obtain ⟨x,e1,e2⟩:=iterC_up (s0:=List.replicate n (0:UInt8)) (fun i s=>s.length=n/\∀ j,j<i->co s j=UInt8.ofNat (j+1)) n (fun x:List UInt8=>x=plc n)
  (body:=fun s4:List UInt8×Int=>(if s4.2<((List.replicate n (0:UInt8)).length:Int) then ((idx s4.1 s4.2).bind fun c7=>some (.inl ((s4.1.set (s4.2:Int).toNat ((UInt8.ofInt ((wI (s4.2+1)))))),(wI (s4.2+1))))) else some (.inr s4.1)))
  ⟨by simp,fun j hj=>absurd hj (Nat.not_lt_zero _)⟩
  (fun i s hi hI=>by
   obtain ⟨hl,hs⟩:=hI
   refine ⟨s.set i (UInt8.ofNat (i+1)),?_,by simpa using hl,fun j hj=>?_⟩
   ·simp only
    rw [if_pos (by rw [List.length_replicate];omega),za4 (by omega),obs,zas i (by omega),zfr,Int.toNat_natCast]
   ·rw [co_set (by omega)]
    by_cases hji:j=i
    ·rw [if_pos hji,hji]
    ·rw [if_neg hji];exact hs j (by omega))
  (fun s hI=>⟨s,by simp,zb2 (by rw [hI.1,zca]) (fun j=>by
   by_cases hj:j<n
   ·rw [hI.2 j hj,co_plc n j hj]
   ·rw [co_ge (by omega),co_ge (by rw [zca];omega)])⟩)
 rw [e1,obs,e2]
theorem refPlaces_eq (n:Nat) (h:n<=255):zgn (n:Int)=some (plc n):=by
 unfold zgn
 have h2:=h257
 refine zay ?_ rfl
 refine zal (fun i=>((List.range i).map (fun i=>UInt8.ofNat (i+1)),((i+1:Nat):Int))) n _ rfl ?_ ?_
 ·intro i hi
  simp only
  unfold appL
  rw [if_pos (by omega),if_pos (by simp;omega),obs,zfr,zas (i+1) (by omega),List.range_succ,List.map_append]
  rfl
 ·simp only
  rw [if_neg (by omega)]
  rfl
theorem member_eq (t:Int):zfb t=some (decide (1<=t/\t<=255)):=threshold_eq t
theorem cunlike_eq (l:List (List UInt8)) (h:l.length<=most):zh1 l=some (l.any fun r=>!decide (r.length=(l.getD 0 []).length)) :=
 unlike_eq l h _ (fun r hr=>by
  have:l.getD 0 []=r:=by simp [List.getD_eq_getElem?_getD,hr]
  rw [this])
theorem atv_at (xs:List UInt8) (shares:List (List UInt8)) (d j:Nat) (hn:xs.Nodup) (hj:j<xs.length) (hd:(shares.getD j []).length=d):atv xs shares d (co xs j)=shares.getD j []:=by
 refine zb2 (by unfold atv;rw [List.length_map,List.length_range,hd]) fun i=>?_
 unfold atv
 rw [zc3]
 by_cases hi:i<d
 ·rw [if_pos hi,sm_one _ j _ (fun k hk hne=>by
   unfold wt
   rw [pe_zero xs k j (Ne.symm hne) _ hj,zero_mul,zero_mul]),if_pos hj]
  unfold wt
  rw [mul_inv (pe_ne hn hj _ (Nat.le_refl _)),one_mul]
 ·rw [if_neg hi,co_ge (by omega)]
def pc (parts:List (List UInt8)) (x:Nat):List UInt8:=atv (plc parts.length) parts (parts.getD 0 []).length (UInt8.ofNat x)
theorem Piece_ok (parts:List (List UInt8)) (x:Nat) (h0:parts.length≠0) (h1:parts.length<=255) (hx0:1<=x) (hx1:x<=255) (hU:(parts.any fun r=>!decide (r.length=(parts.getD 0 []).length))=false) (hd:(parts.getD 0 []).length<=most) :
  zho true parts (x:Int)=some (pc parts x,0):=by
 unfold zho
 have hr:∀ r∈parts,r.length=(parts.getD 0 []).length:=by
  rw [List.any_eq_false] at hU
  intro r hr;simpa using hU r hr
 have h2:=h257
 have pl:=zca parts.length
 rw [if_neg (by simp),member_eq,obs,if_neg (by simp;omega),member_eq,obs,if_neg (by simp;omega),cunlike_eq parts (by omega),hU,obs,if_neg (by decide)]
 by_cases hle:x<=parts.length
 ·have hlt:x - 1<parts.length:=by omega
  rw [if_pos (by omega),ziv x hx0 (by omega),zcw hlt,obs]
  unfold zaj
  rw [zfv _ (by rw [hr _ (zds hlt)];exact hd),obs]
  have:=atv_at (plc parts.length) parts (parts.getD 0 []).length (x - 1) (zi9 _ h1) (by omega) (hr _ (zds hlt))
  rw [co_plc _ _ hlt,show x - 1+1=x by omega] at this
  unfold pc
  rw [this]
 ·rw [if_neg (by omega),places_eq _ h1,obs,zfr,At_ok _ parts _ _ pl (by omega) (by omega) (zi9 _ h1) hr hd]
  rfl
theorem refPiece_eq (parts:List (List UInt8)) (x:Nat) (h0:parts.length≠0) (h1:parts.length<=255) (hU:(parts.any fun r=>!decide (r.length=(parts.getD 0 []).length))=false) (hd:(parts.getD 0 []).length<=most) :
  zfc parts (x:Int)=some (pc parts x):=by
 unfold zfc
 have hr:∀ r∈parts,r.length=(parts.getD 0 []).length:=by
  rw [List.any_eq_false] at hU
  intro r hr;simpa using hU r hr
 have pl:=zca parts.length
 rw [refPlaces_eq _ h1,obs,zfr,ref08_At_eq _ parts _ _ pl (by omega) (by omega) hr hd]
 rfl
theorem Encode_ok (parts:List (List UInt8)) (n:Nat) (h0:parts.length≠0) (hn:parts.length<=n) (h1:n<=255) (hU:(parts.any fun r=>!decide (r.length=(parts.getD 0 []).length))=false) (hd:(parts.getD 0 []).length<=most) :
  zhy true (n:Int) parts=some ((List.range n).map fun i=>pc parts (i+1),0):=by
 unfold zhy
 have h2:=h257
 rw [if_neg (by simp),if_neg (by omega),if_neg (by omega),if_neg (by omega),cunlike_eq parts (by omega),hU,obs,if_neg (by decide)]
 have:iterC (fun s8:List (List UInt8)×Int=>(if s8.2<(n:Int) then ((zho true parts (wI (s8.2+1))).bind fun r11=>(if r11.2=0 then ((appL s8.1 (([r11.1]:List (List UInt8)))).bind fun c16=>some (.inl (c16,(wI (s8.2+1))))) else some (.inr (Sum.inr (α:=List (List UInt8)) (([]:List (List UInt8)),r11.2))))) else some (.inr (.inl s8.1)))) (([]:List (List UInt8)),0)=some (.inl ((List.range n).map fun i=>pc parts (i+1))):=by
  refine zal (fun i=>((List.range i).map fun i=>pc parts (i+1),(i:Int))) n _ rfl ?_ ?_
  ·intro i hi
   simp only
   rw [if_pos (by omega),zas i (by omega),Piece_ok parts (i+1) h0 (by omega) (by omega) (by omega) hU hd,obs,if_pos rfl]
   unfold appL
   rw [if_pos (by simp;omega),obs,List.range_succ,List.map_append]
   rfl
  ·simp
 rw [this,obs,Sum.elim_inl]
end Gk

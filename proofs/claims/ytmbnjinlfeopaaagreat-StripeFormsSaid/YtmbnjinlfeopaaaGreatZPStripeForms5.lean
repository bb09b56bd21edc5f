/- Parts L17, Qk, Fh, LAa, Fg, Rc, GmI, GmJ, F10r, Sx, F10p, F10q, LAr, LAf, Ms0, Pa, Pe, Nd0, Pg, LAg, Pq, Px, Py, Z17, G17, Ql, one behind the other. What is proved: said at the head of each part. No condition beside those said there. -/
import Derived.Test.YtmbnjinlfeopaaaGreatRows
import Derived.Orders
import Derived.Deep.Draws
import Derived.Laws.World
import Derived.KernelRfl
import Derived.OrdersIn
import Derived.TacticsIn
import Derived.RangeFuncCalls
import Derived.Deep.LoopGhost
import Derived.Tactics
import Derived.Sort.LoopGhostIn
import Derived.RangeFuncLeaves
import Derived.RangeFuncNested
import Derived.RangeFuncRecord
import Derived.Laws.Sem
import Derived.OwnWalk
import Derived.RangeFuncWrites
import Derived.Laws.IdiomCopy
import Derived.WalkKit
import Derived.ProofKit
import Derived.OpenShut
import Derived.ChangeOld
import Derived.Below
import Derived.Test.YtmbnjinlfeopaaaGreatProg
import Derived.MapKept
import Derived.Lib.AppendZerosOnto
import Derived.Laws.CopyRow
import Derived.Laws.Cells
import Derived.Lib.SlBytesConst
import Derived.Test.YtmbnjinlfeopaaaGreatZPStripeForms1
import Derived.Test.YtmbnjinlfeopaaaGreatZPStripeForms2
import Derived.Test.YtmbnjinlfeopaaaGreatZPStripeForms3
import Derived.Test.YtmbnjinlfeopaaaGreatZPStripeForms4
set_option maxRecDepth 100000
set_option maxHeartbeats 8000000
set_option linter.unusedVariables false
set_option linter.unusedSimpArgs false
/- Printed by gen.py: for each Go function a pure function, and that the Go code comes to it. No condition beside the equation that says what the pure function gives. -/
namespace Gk
open Go Go.Proofs
noncomputable def ze5 (b:List UInt8):Option (List UInt8) :=
((makeL 440 (0:UInt8)).bind fun c =>
((iterC (fun a:List UInt8×Int =>
(if a.2<(c.length:Int) then
(if 0<(b.length:Int) then
((remI a.2 (b.length:Int)).bind fun d =>
((idx b d).bind fun e =>
((divI a.2 (b.length:Int)).bind fun f =>
((idx a.1 a.2).bind fun h => some (.inl (a.1.set (a.2:Int).toNat (e+(UInt8.ofInt f)),wI (a.2+1)))))))
else some (.inl (a.1,wI (a.2+1))))
else some (.inr a.1))) (c,0)).bind fun g => some g))
theorem zfa (v:List UInt8) (e:Value) (C:List UInt8) (w0:World) (j:By w0 [] e v) (f:ze5 v=some C) :
  Calls Tryz.prog 10 [e].toArray w0 (fun G D=>∃ s:Value,G=.returned s/\Ext w0 D/\Nw w0 s/\OwK (Sc u8) D [] 5 s C):=by
 have y:Ext w0 w0:=Ext.refl w0;unfold ze5 at f;refine zaj (n:=32) Tryz.func10 V V V<|W_sr<|av (.slice none 0 0) V V<|wnt<|W_sr<|?_;obtain ⟨F,N,f⟩:=bsi f;refine wls V V (zbm (L:=[]) (R:=Sc u8) V T22 V V N (fun _ _=>rfl) ?_);intro b a7 B T J a5;have a1:=zaa J;have U:=Nw.ext y T;have I:=y.trans a1;refine av b V V<|wnt<|W_seq<|W_sr<|mv b V V<|wa V (q_len V T22.sl V (B.rd (Sc.stab _)))<|mv (i64 0) V V<|wnt ?_;obtain ⟨a2,E,f⟩:=bsi f;refine W_mid (fun d k=>d 3=b/\d 32=undef/\Ext w0 k/\OwK (Sc u8) k [b] 5 b a2/\Nw w0 b) ?_ ?_
 ·refine zad<|za9 (fun c d k=>d 0=e/\d 3=b/\d 7=i64 (F.length:Int)/\d 8=i64 c.2/\d 32=undef/\Ext w0 k/\OwK (Sc u8) k [b] 5 b c.1/\Nw w0 b) E ?_ ?_
  ·exact ⟨rfl,rfl,rfl,rfl,rfl,I,B,U⟩
  rintro c _ _ a0 ⟨h,o,r,p,q,l,g,m⟩ a Q;refine W_sr<|wa V (q_ltI V p r)<|wnt<|W_seq<|wci a V V (fun a=>?_) (fun a=>?_)
  ·refine zag<|W_th<|W_seq<|zad<|W_sr<|mv (i64 c.2) V p<|av (i64 c.2) V V<|wnt<|W_sr<|mv e V h<|wa V (q_len V T22.sl V (j.lift (le_ l)))<|wa V (q_gtI V V V)<|wnt<|wci a V V (fun a=>?_) (fun a=>?_)
   ·refine zbi [8] [(0,0),(1,0),(2,0),(3,0),(4,0),(5,0),(6,0),(7,0),(8,1),(9,0),(10,0),(11,0),(12,0),(13,0),(14,0),(15,0),(16,2)] mixed (by kernel_rfl) (by kernel_rfl) (by kernel_rfl) (by kernel_rfl) ?_;have t:=Ext.drew a0;replace g:=g.extL (Sc.stab _) t (le_ t);have i:=l.trans t;refine sv b V V o<|sv (i64 c.2) V V V<|sv e V V h<|sv (i64 c.2) V V V<|sv e V V h<|sa V V (q_len V T22.sl V (j.lift (le_ i)))<|bse a fun a3 O a=>sa V V (zg9 V V V O) ?_;obtain ⟨w,z,a⟩:=bsi a;refine sa V V (q_adr V T22 V V (j.lift (le_ i)) z)<|sq V V (zaz V T22 V (j.lift (le_ i)) z)<|sv (i64 c.2) V V V<|sv e V V h<|sa V V (q_len V T22.sl V (j.lift (le_ i)))<|bse a fun x P a=>sa V V (q_divI V V V P)<|sa V V (zhe V V V V)<|sa V V (q_add8 V V V)<|bse a fun a4 A a=>sa V V (q_adr V T22 V V (g.rd (Sc.stab _)) A)<|wsn V (by kernel_rfl) V V (zcp (R:=Sc u8) (u:=u8 (w+(UInt8.ofInt x))) (Sc.stab _) [] [] V T22 V V g (zfx (w+(UInt8.ofInt x)) A) V V ?_);intro a8 X K a6;have H:=i.grown K m;refine zax<|bk_n<|W_th<|W_rg<|wa V (zar V p V)<|mv (i64 (wI (c.2+1))) V V<|zam<|?_;obtain rfl:=osi a;exact ⟨_,rfl,h,o,r,rfl,q,H,X,m⟩
   refine zag<|bk_n<|W_th<|W_rg<|wa V (zar V p V)<|mv (i64 (wI (c.2+1))) V V<|zam<|?_;obtain rfl:=osi a;exact ⟨_,rfl,h,o,r,rfl,q,l,g,m⟩
  refine za1<|th_x<|?_;obtain rfl:=osi a;obtain rfl:=Q _ rfl;refine th_x<|bk_x<|?_;exact ⟨o,q,l,g,m⟩
 rintro _ a9 ⟨Z,Y,M,W,S⟩;refine W_th<|W_sr<|mv b V Z<|av b V V<|wnt<|W_ret<|?_;obtain rfl:=osi f;refine rt1 b V V V Y ?_;exact ⟨b,rfl,M,S,W.weak (Sc.stab _) (fun _ _=>trivial)⟩
noncomputable def zge :Option Bool :=
((lenA 4 (List.replicate 4 (0:Int))).bind fun h =>
((lenA 4 ([0,1,2,0]:List Int)).bind fun i =>
(((lenA 4 ([0,1,2,0]:List Int)).bind fun g =>
((field_New).bind fun d =>
((ze5 ([(1:UInt8),(2:UInt8)]:List UInt8)).bind fun e =>
((zav ([0,1,2,0]:List Int) d e ([]:List UInt8)).bind fun b => some (b.1,b.2))))).bind fun a =>
(if a.2=0 then
(if (a.1.length:Int)=2 then
((idx a.1 1).bind fun c =>
((ze5 ([(1:UInt8),(2:UInt8)]:List UInt8)).bind fun f => some (decide (c=f))))
else some false)
else some false))))
theorem law17_lives_calls  (a5:Bool) (w0:World) (c:zge=some a5) :
  Calls Tryz.prog 6 [].toArray w0 (fun aI bC=>aI=.returned (.bool a5)/\Ext w0 bC):=by
 have a3:Ext w0 w0:=Ext.refl w0;unfold zge at c;refine zaj (n:=30) Tryz.func6 V V V<|W_sr<|av (.bool false) V V<|wnt<|W_sr<|wa V (q_buildS (ps:=#[(1,i64 1),(2,i64 2)]) V (by simp only [List.map_toArray,List.map_cons,List.map_nil];exact bs2 V V) (buildS_1_2 1 2))<|?_
 refine wls V V (sal i64 (List.replicate 4 (0:Int)) [] V Z25 ?_);intro g bS b6 b0 aN bM;have bH:=zaa aN;have b5:=Nw.ext a3 b0;have aJ:=a3.trans bH;obtain ⟨bK,aR,c⟩:=bsi c;obtain ⟨bL,aS,c⟩:=bsi c;refine wln V V (stp_storeG [] [] V G25 V V (zaf aR) (zaf aS) b6 one_i64 ?_);intro bG a aO bQ;have aM:=aJ.grown aO b5;refine wnt<|W_seq<|?_;obtain ⟨t,e,c⟩:=bsi c;refine W_mid (fun E aC=>∃ aB:Value,E 2=aB/\E 3=i64 t.2/\E 30=undef/\Ext w0 aC/\Rw aC [] aB t.1) ?_ ?_
 ·refine W_draw2 [0] [(0,1)] 1 2 [(2,2),(3,2),(4,2),(5,0),(6,0),(7,0),(8,0),(9,0)] [(1,2),(3,2),(4,2),(5,0),(6,0),(7,0),(8,0),(9,0)] mixed (by kernel_rfl) (by kernel_rfl) (by kernel_rfl) (by kernel_rfl) ?_;have aH:=Ext.drew bG;replace a:=a.ext aH;have Z:=aM.trans aH;obtain ⟨bJ,aQ,e⟩:=bsi e;refine sq V V (zb2 (m:=0) V G25 V a (zai _ _) (zaf aQ))<|zax ⟨?_,?_⟩
  ·obtain ⟨a6,aT,e⟩:=bsi e;refine wss V V V (zab (vs:=[]) Tryz.func8 V V V (ar0) (zg1   a6 _ [bp g] (Old.cons (Old.nil _) a.ltB)  aT) ?_);rintro _ aD ⟨q,rfl,s,w⟩;refine ⟨_,rfl,s,?_⟩;replace a:=a.ext s;have z:=Z.trans s;refine wss V V V (zbt (L:=[bp g]) (R:=Sc u8) [u8 1,u8 2] ([(1:UInt8),(2:UInt8)]:List UInt8) V T22 V (by exact ⟨rfl,cst8 (1:UInt8) V,rfl,cst8 (2:UInt8) V,trivial⟩) V (litC u8 zdu (us:=[u8 1,u8 2]) (l:=([(1:UInt8),(2:UInt8)]:List UInt8)) V) V (litS u8 (us:=[u8 1,u8 2]) (l:=([(1:UInt8),(2:UInt8)]:List UInt8)) V) ?_);intro r aE b8 b2 a1 bO;refine ⟨zaa a1,?_⟩;have o:=zaa a1;have aW:By aE [bp g] r ([(1:UInt8),(2:UInt8)]:List UInt8):=OwK.slk (Sc.stab _) _ b8 (fun b f=>(Old.cons (Old.nil _) a.ltB) b (b2 b f)) (fun _ d=>d.2);replace w:=w.lift (le_ o);replace a:=a.ext o;have A:=z.trans o;obtain ⟨p,H,e⟩:=bsi e;refine wss V V V (zab (vs:=[r]) Tryz.func10 V V V (ar1 V) (zfa ([(1:UInt8),(2:UInt8)]:List UInt8) r p _ (aW.lift (Lift.sub (L':=[]) (fun _ _=>trivial))) H) ?_);rintro _ W ⟨i,rfl,k,O,Q⟩;refine ⟨_,rfl,k,?_⟩;have M:By W [bp g] i p:=OwK.slk (Sc.stab _) _ (OwK.scal Q (i::[bp g])) (fun b f=>(Old.cons (Old.nil _) a.ltB) b (O b f)) (fun _ d=>d.2);replace w:=w.lift (le_ k);replace a:=a.ext k;have B:=A.trans k;obtain ⟨h,I,e⟩:=bsi e;refine wsc V (by kernel_rfl) V V (zab (vs:=[ag i64 ([0,1,2,0]:List Int),q,i,.slice none 0 0]) Tryz.func9 V V V (ar4 V V V V) (za7 ([0,1,2,0]:List Int) a6 p ([]:List UInt8) q i (.slice none 0 0) h _ [bp g] (Old.cons (Old.nil _) a.ltB) (w.lift (Lift.sub (L':=[]) (fun _ _=>trivial))) (M.lift (Lift.sub (L':=[]) (fun _ _=>trivial))) (SlK.nil _ _ _) I) ?_);rintro _ X ⟨j,rfl,Y,P,S⟩;refine ⟨_,rfl,?_⟩;have N:Rw X [bp g] j h.1:=OwK.slk (SlK.stab (Sc.stab _)) _ S (fun b f=>(Old.cons (Old.nil _) a.ltB) b (P b f)) (fun _ d=>d.2);have C:=B.trans Y;refine sv (.tuple #[j,i64 h.2]) V V V<|sa V V (zac V V V)<|sa V V (zac V V V)<|sa V V (zaq (v:=j) V V)<|sa V V (zaq (v:=i64 h.2) V V)<|?_
   refine zax ?_;obtain rfl:=osi e;exact ⟨j,rfl,rfl,rfl,C,N.lift (Lift.sub (fun _ d=>trivial))⟩
  refine wss V V V (zbt (L:=[bp g]) (R:=Sc u8) [u8 1,u8 2] ([(1:UInt8),(2:UInt8)]:List UInt8) V T22 V (by exact ⟨rfl,cst8 (1:UInt8) V,rfl,cst8 (2:UInt8) V,trivial⟩) V (litC u8 zdu (us:=[u8 1,u8 2]) (l:=([(1:UInt8),(2:UInt8)]:List UInt8)) V) V (litS u8 (us:=[u8 1,u8 2]) (l:=([(1:UInt8),(2:UInt8)]:List UInt8)) V) ?_);intro q aD b7 b1 a0 bN;refine ⟨zaa a0,?_⟩;have s:=zaa a0;have J:By aD [bp g] q ([(1:UInt8),(2:UInt8)]:List UInt8):=OwK.slk (Sc.stab _) _ b7 (fun b f=>(Old.cons (Old.nil _) a.ltB) b (b1 b f)) (fun _ d=>d.2);replace a:=a.ext s;have z:=Z.trans s;obtain ⟨a7,aU,e⟩:=bsi e;refine wss V V V (zab (vs:=[]) Tryz.func8 V V V (ar0) (zg1   a7 _ [bp g] (Old.cons (Old.nil _) a.ltB)  aU) ?_);rintro _ aE ⟨r,rfl,o,K⟩;refine ⟨_,rfl,o,?_⟩;replace J:=J.lift (le_ o);replace a:=a.ext o;have A:=z.trans o;obtain ⟨p,H,e⟩:=bsi e;refine wss V V V (zab (vs:=[q]) Tryz.func10 V V V (ar1 V) (zfa ([(1:UInt8),(2:UInt8)]:List UInt8) q p _ (J.lift (Lift.sub (L':=[]) (fun _ _=>trivial))) H) ?_);rintro _ W ⟨i,rfl,k,O,Q⟩;refine ⟨_,rfl,k,?_⟩;have M:By W [bp g] i p:=OwK.slk (Sc.stab _) _ (OwK.scal Q (i::[bp g])) (fun b f=>(Old.cons (Old.nil _) a.ltB) b (O b f)) (fun _ d=>d.2);replace K:=K.lift (le_ k);replace a:=a.ext k;have B:=A.trans k;obtain ⟨h,I,e⟩:=bsi e;refine wsc V (by kernel_rfl) V V (zab (vs:=[ag i64 ([0,1,2,0]:List Int),r,i,.slice none 0 0]) Tryz.func9 V V V (ar4 V V V V) (za7 ([0,1,2,0]:List Int) a7 p ([]:List UInt8) r i (.slice none 0 0) h _ [bp g] (Old.cons (Old.nil _) a.ltB) (K.lift (Lift.sub (L':=[]) (fun _ _=>trivial))) (M.lift (Lift.sub (L':=[]) (fun _ _=>trivial))) (SlK.nil _ _ _) I) ?_);rintro _ X ⟨j,rfl,Y,P,S⟩;refine ⟨_,rfl,?_⟩;have N:Rw X [bp g] j h.1:=OwK.slk (SlK.stab (Sc.stab _)) _ S (fun b f=>(Old.cons (Old.nil _) a.ltB) b (P b f)) (fun _ d=>d.2);have C:=B.trans Y;refine sv (.tuple #[j,i64 h.2]) V V V<|sa V V (zac V V V)<|sa V V (zac V V V)<|sa V V (zaq (v:=j) V V)<|sa V V (zaq (v:=i64 h.2) V V)<|zax ?_
  obtain rfl:=osi e;exact ⟨j,rfl,rfl,rfl,C,N.lift (Lift.sub (fun _ d=>trivial))⟩
 rintro _ bD ⟨aA,a8,bB,T,aP,u⟩;refine W_th<|W_seq<|zbi [10,11,14] [(0,0),(1,0),(2,0),(3,0),(4,0),(5,0),(6,0),(7,0),(8,0),(9,0),(10,1),(11,1),(12,2),(13,2),(14,1),(15,0),(16,0),(17,0)] mixed (by kernel_rfl) (by kernel_rfl) (by kernel_rfl) (by kernel_rfl) ?_;have aF:=Ext.drew bD;replace u:=u.lift (le_ aF);have D:=aP.trans aF;refine sv (i64 t.2) V V bB<|sa V V (q_eqI V V V)<|wsb V V V (zau (v:=(.bool (decide (t.2=0)))) V V) (fun F=>?_) (fun F=>?_)
 ·replace c:=ifp F c;refine sv aA V V a8<|sa V V (q_len V T29.sl V u)<|sa V V (q_eqI V V V)<|sa V V (zao (v:=(.bool (decide ((t.1.length:Int)=2)))) V V V)<|wsb V V V (zau (v:=(.bool (decide ((t.1.length:Int)=2)))) V V) (fun G=>?_) (fun G=>?_)
  ·replace c:=ifp G c;refine sv aA V V a8 ?_;obtain ⟨y,a4,c⟩:=bsi c;refine sa V V (q_adr V T29 V V u a4)<|wsq_load V V V V T29 V u a4 (Ext.refl _) (fun bR aX=>?_);refine sq V V (q_str V T22 V V V aX)<|wss V V V (zbt (L:=[]) (R:=Sc u8) [u8 1,u8 2] ([(1:UInt8),(2:UInt8)]:List UInt8) V T22 V (by exact ⟨rfl,cst8 (1:UInt8) V,rfl,cst8 (2:UInt8) V,trivial⟩) V (litC u8 zdu (us:=[u8 1,u8 2]) (l:=([(1:UInt8),(2:UInt8)]:List UInt8)) V) V (litS u8 (us:=[u8 1,u8 2]) (l:=([(1:UInt8),(2:UInt8)]:List UInt8)) V) ?_);intro U bE b9 b3 a2 bP;refine ⟨zaa a2,?_⟩;have bI:=zaa a2;have aY:By bE [] U ([(1:UInt8),(2:UInt8)]:List UInt8):=OwK.slk (Sc.stab _) _ b9 (fun b f=>(Old.nil _) b (b3 b f)) (fun _ d=>d.2);have aK:=D.trans bI;obtain ⟨x,aV,c⟩:=bsi c;refine wss V V V (zab (vs:=[U]) Tryz.func10 V V V (ar1 V) (zfa ([(1:UInt8),(2:UInt8)]:List UInt8) U x _ (aY.lift (Lift.sub (L':=[]) (fun _ _=>trivial))) aV) ?_);rintro _ bF ⟨a9,rfl,aG,b4,bA⟩;refine ⟨_,rfl,aG,?_⟩;have aZ:By bF [] a9 x:=OwK.slk (Sc.stab _) _ (OwK.scal bA (a9::[])) (fun b f=>(Old.nil _) b (b4 b f)) (fun _ d=>d.2);have aL:=aK.trans aG;refine sq V V (q_str V T22 V V V aZ)<|sa V V (q_eqS V V V)<|sa V V (zao (v:=(.bool (decide (y=x)))) V V V)<|sa V V (zaq (v:=(.bool (decide (y=x)))) V V)<|zax<|W_th<|W_ret<|?_;obtain rfl:=osi c;refine rt1 (.bool (decide (y=x))) V V V T ?_;exact ⟨rfl,aL⟩
  replace c:=ifn G c;refine wsk V V V<|wsk V V V<|wsk V V V<|wsk V V V<|wsk V V V<|wsk V V V<|wsk V V V<|wsk V V V<|sa V V (zae (v:=(.bool false)) V V V)<|sa V V (zaq (v:=(.bool false)) V V)<|zax<|W_th<|W_ret<|?_;obtain rfl:=osi c;refine rt1 (.bool false) V V V T ?_;exact ⟨rfl,D⟩
 replace c:=ifn F c;refine wsk V V V<|wsk V V V<|wsk V V V<|sa V V (zae (v:=(.bool false)) V V V)<|sv (.bool false) V V V<|wsk V V V<|wsk V V V<|wsk V V V<|wsk V V V<|wsk V V V<|wsk V V V<|wsk V V V<|wsk V V V<|sa V V (zae (v:=(.bool false)) V V V)<|sa V V (zaq (v:=(.bool false)) V V)<|?_;refine zax<|W_th<|W_ret<|?_;obtain rfl:=osi c;refine rt1 (.bool false) V V V T ?_;exact ⟨rfl,D⟩
end Gk

/- Chapter 17: how a block is spread, in plain Lean. No condition. -/
namespace Gk
open Gf
theorem runsN {n:Nat} {body:List UInt8×Int->Option ((List UInt8×Int)⊕List UInt8)} (hs:∀ (s:List UInt8) (i:Nat),i<n->s.length=n->∃ s':List UInt8,s'.length=n/\body (s,(i:Int))=some (.inl (s',((i+1:Nat):Int))))
  (he:∀ s:List UInt8,s.length=n->body (s,(n:Int))=some (.inr s)) (z:List UInt8) (hz:z.length=n):∃ r,iterC body (z,0)=some r/\r.length=n:=by
 have key:∀ k,k<=n->∀ s:List UInt8,s.length=n->∃ r,iterC body (s,((n - k:Nat):Int))=some r/\r.length=n:=by
  intro k
  induction k with
  | zero =>
   intro _ s hl
   refine ⟨s,?_,hl⟩
   rw [zce,Nat.sub_zero,he s hl];rfl
  | succ k ih =>
   intro hk s hl
   obtain ⟨s',hl',h⟩:=hs s (n - (k+1)) (by omega) hl
   obtain ⟨r,h1,h2⟩:=ih (by omega) s' hl'
   refine ⟨r,?_,h2⟩
   rw [zce,h,show n - (k+1)+1=n - k by omega];exact h1
 have:=key n (Nat.le_refl n) z hz
 rw [Nat.sub_self] at this
 exact this
theorem Block_ok (b:List UInt8) (h:b.length<=500):∃ L,ze5 b=some L/\L.length=440:=by
 have hm:(1000:Nat)<=most:=by decide
 unfold ze5
 rw [show makeL 440 (0:UInt8)=some (List.replicate 440 0) from zbu 440 _ (by omega),obs,List.length_replicate]
 obtain ⟨r,h1,h2⟩:=runsN (n:=440) (body:=fun s4:List UInt8×Int =>
   (if s4.2<((440:Nat):Int) then
   (if 0<(b.length:Int) then
   ((remI s4.2 ((b.length:Int))).bind fun c10 =>
   ((idx b c10).bind fun c11 =>
   ((divI s4.2 ((b.length:Int))).bind fun c12 =>
   ((idx s4.1 s4.2).bind fun c13 =>
   some (.inl ((s4.1.set (s4.2:Int).toNat ((c11+(UInt8.ofInt c12)))),(wI (s4.2+1))))))))
   else
   some (.inl (s4.1,(wI (s4.2+1)))))
   else
   some (.inr s4.1))) (fun s i hi hl=>by
  dsimp only
  rw [if_pos (by omega)]
  by_cases h0:0<b.length
  ·have hlt:i % b.length<b.length:=Nat.mod_lt _ h0
   rw [if_pos (by omega),zf2 _ _ h0,obs,zb0 hlt,obs,divI_nat _ _ h0 (by omega),obs,zb0 (by omega),obs,za3 _ (by omega),Int.toNat_natCast]
   exact ⟨_,by rw [List.length_set];exact hl,rfl⟩
  ·rw [if_neg (by omega),za3 _ (by omega)]
   exact ⟨_,hl,rfl⟩) (fun s hl=>by
  dsimp only
  rw [if_neg (by omega)]) (List.replicate 440 0) List.length_replicate
 exact ⟨r,by rw [h1,obs],h2⟩
def shp (m t n c:Nat):List Int:=[(m:Int),(t:Int),(n:Int),(c:Int)]
structure OkS (m t n c:Nat):Prop where
 m2:m=0∨m=1
 t1:1<=t
 tn:t<=n
 n255:n<=255
 c127:c<=127
section
variable {m t n c : Nat}
theorem zf0 (h:OkS m t n c):zbb (shp m t n c)=some true:=by
 obtain ⟨h1,h2,h3,h4,h5⟩:=h
 unfold zbb shp
 rw [show idx [(m:Int),(t:Int),(n:Int),(c:Int)] 0=some (m:Int) by rfl,show idx [(m:Int),(t:Int),(n:Int),(c:Int)] 1=some (t:Int) by rfl,show idx [(m:Int),(t:Int),(n:Int),(c:Int)] 2=some (n:Int) by rfl,show idx [(m:Int),(t:Int),(n:Int),(c:Int)] 3=some (c:Int) by rfl]
 simp only [obs]
 rw [if_pos (by omega),if_pos (by omega),if_pos (by omega),if_pos (by omega),if_pos (by omega),if_pos (by omega),decide_eq_true (by omega)]
theorem lenS:lenA 4 (shp m t n c)=some ():=rfl
theorem ixS0:idx (shp m t n c) 0=some (m:Int):=rfl
theorem ixS1:idx (shp m t n c) 1=some (t:Int):=rfl
theorem ixS2:idx (shp m t n c) 2=some (n:Int):=rfl
def rowSz (m t:Nat):Nat:=if m=0 then 440 else psz 473 t
def needS (m t:Nat):Nat:=if m=0 then (t - 1) * 440 else 32
theorem RowSize_ok (h:OkS m t n c):za6 (shp m t n c)=some (rowSz m t:Int):=by
 have hm:(1000:Nat)<=most:=by decide
 unfold za6 rowSz
 rw [lenS,obs,zf0 h,obs,if_neg (by simp),ixS0,obs,ixS1,obs]
 rcases h.m2 with rfl | rfl
 ·rw [if_pos (by rfl),if_pos (by rfl)];rfl
 ·rw [if_neg (by omega),if_neg (by omega),show zdj 473 (t:Int)=some (psz 473 t:Int) from PartSize_eq 473 t h.t1 (by have:=h.tn;have:=h.n255;omega) (by omega),obs]
theorem Need_ok (h:OkS m t n c):zba (shp m t n c)=some (needS m t:Int):=by
 have hm:(1000:Nat)<=most:=by decide
 unfold zba needS
 have:=h.t1;have:=h.tn;have:=h.n255
 rw [lenS,obs,zf0 h,obs,if_neg (by simp),ixS0,obs,ixS1,obs]
 rcases h.m2 with rfl | rfl
 ·obtain ⟨q,rfl⟩:∃ q,t=q+1:=⟨t - 1,by omega⟩
  rw [if_pos (by rfl),if_pos (by rfl),show zct ((q+1:Nat):Int) 440=some ((q * 440:Nat):Int) from MaskSize_eq q 440 (by omega) (by omega),obs,Nat.add_sub_cancel]
 ·rw [if_neg (by omega),if_neg (by omega)];rfl
theorem placesS (h:OkS m t n c):zcf (shp m t n c)=some (plc n):=by
 have hm:(1000:Nat)<=most:=by decide
 have:=h.n255
 unfold zcf
 rw [ixS2,obs]
 refine zbp (x:=plc n) (zas (fun i=>(plc i,(i:Int))) n _ rfl ?_ ?_) rfl
 ·intro i hi
  dsimp only
  rw [if_pos (by omega),za3 _ (by omega),zh4,ze1 _ _ (by rw [plc_len,List.length_singleton];omega) rfl,obs]
  rw [show plc (i+1)=plc i ++ [UInt8.ofNat (i+1)] by unfold plc;rw [List.range_succ,List.map_append];rfl]
 ·dsimp only
  rw [if_neg (by omega)]
theorem checkS (h:OkS m t n c) (r:List UInt8) (hr:r.length=needS m t):zbk (shp m t n c) true r=some 0:=by
 unfold zbk
 rw [if_neg (by simp),lenS,obs,zf0 h,obs,if_neg (by simp),obs,Need_ok h,obs,if_pos (by omega)]
theorem zero_plc (n:Nat) (h:n<=255):(0:UInt8) ∉ plc n:=by
 intro hm
 unfold plc at hm
 obtain ⟨i,hi,e⟩:=List.mem_map.1 hm
 have hi':=List.mem_range.1 hi
 have:=congrArg UInt8.toNat e
 simp at this
 omega
def pkg (b r:List UInt8):List UInt8:=1 :: wrapF r b
def rowsS (m t n:Nat) (b r:List UInt8):List (List UInt8) :=
 if m=0 then (plc n).map (shr b r (t - 1)) else (List.range n).map fun i=>pc (cutR (pkg b r) t (psz 473 t)) (i+1)
theorem cutR_rows (b:List UInt8) (t N:Nat):(cutR b t N).any (fun r=>!decide (r.length=((cutR b t N).getD 0 []).length))=false:=by
 rw [List.any_eq_false]
 intro r hr
 unfold cutR at hr ⊢
 obtain ⟨i,hi,rfl⟩:=List.mem_map.1 hr
 have h0:0<t:=by have:=List.mem_range.1 hi;omega
 rw [getD_tab _ _ _ h0]
 simp
theorem cutR_0 (b:List UInt8) (t N:Nat) (h:0<t):((cutR b t N).getD 0 []).length=N:=by
 unfold cutR;rw [getD_tab _ _ _ h];simp
theorem pkg_len (b r:List UInt8) (hb:b.length=440) (hr:r.length=32):(pkg b r).length=473:=by
 rw [pkg,List.length_cons,wrapF_len _ _ hr,hb]
theorem psz_le (t:Nat) (h:1<=t):psz 473 t<=1000:=by
 unfold psz
 have:=Nat.div_le_self 473 t
 split <;> omega
theorem Spread_ok (h:OkS m t n c) (b r:List UInt8) (hb:b.length=440) (hr:r.length=needS m t):zav (shp m t n c) true b r=some (rowsS m t n b r,0):=by
 have hmo:(1000000:Nat)<=most:=by decide
 have:=h.t1;have:=h.tn;have hn:=h.n255
 unfold zav
 rw [lenS,obs,checkS h r hr,obs,if_pos rfl,if_pos (by omega),ixS0,obs,ixS1,obs,obs,ixS2]
 unfold rowsS
 rcases h.m2 with rfl | rfl
 ·rw [if_pos (by rfl),if_pos (by rfl),placesS h,obs]
  obtain ⟨q,rfl⟩:∃ q,t=q+1:=⟨t - 1,by omega⟩
  have hq:r.length=q * b.length:=by rw [hr,hb];simp [needS]
  have hq2:q * 440<=200000:=by omega
  rw [Split_ok q b r (plc n) (by omega) hq (by omega) (by rw [hq,hb];omega) (zero_plc n hn) (by rw [plc_len];omega),obs,Nat.add_sub_cancel]
 ·have hr32:r.length=32:=by rw [hr];rfl
  have hp:=pkg_len b r hb hr32
  have hc:=cutR_len (pkg b r) t (psz 473 t)
  rw [if_neg (by omega),if_neg (by omega),Wrap_eq r b hr32 (by omega),obs]
  dsimp only
  rw [if_pos rfl,obs,Concat2 _ _ (by rw [wrapF_len _ _ hr32];simp;omega),obs,show [(1:UInt8)] ++ wrapF r b=pkg b r by rfl,Cut_ok _ t h.t1 (by omega) (by omega),obs]
  dsimp only
  rw [if_pos rfl,obs,hp,Encode_ok _ n (by rw [hc];omega) (by rw [hc];omega) hn (cutR_rows _ _ _) (by rw [cutR_0 _ _ _ (by omega)];have:=psz_le t h.t1;omega),obs]
end
theorem evp_one (a x:UInt8):evp [a] x=a:=by
 show a^^^mul 0 x=a
 rw [zero_mul,xor_zero]
theorem shr_one (b:List UInt8) (x:UInt8):shr b [] 0 x=b:=by
 refine ext_co (shr_len _ _ _ _) fun i hi=>?_
 rw [shr_len] at hi
 rw [co_shr _ _ _ _ _ hi]
 exact evp_one _ _
theorem lives17:zge=some true:=by
 obtain ⟨L,hB,hL⟩:=Block_ok [1,2] (by simp)
 have hok:OkS 0 1 2 0:=⟨.inl rfl,by omega,by omega,by omega,by omega⟩
 have hS:=Spread_ok hok L [] hL rfl
 have e:shp 0 1 2 0=([0,1,2,0]:List Int):=rfl
 rw [e] at hS
 unfold zge
 rw [show lenA 4 (List.replicate 4 (0:Int))=some () by rfl,obs,show lenA 4 ([0,1,2,0]:List Int)=some () by rfl,obs]
 refine zbp (x:=(rowsS 0 1 2 L [],0)) (by rw [obs,show field_New=some true by rfl,obs,hB,obs,hS,obs]) ?_
 have hr:rowsS 0 1 2 L []=[L,L]:=by
  unfold rowsS
  rw [if_pos rfl]
  show [shr L [] 0 _,shr L [] 0 _]=_
  rw [shr_one,shr_one]
 dsimp only
 rw [hr,if_pos rfl,if_pos (by rfl),show idx ([L,L]:List (List UInt8)) 1=some L by rfl,obs,hB,obs,decide_eq_true rfl]
end Gk

/- Printed by gen.py: for each Go function a pure function, and that the Go code comes to it. No condition beside the equation that says what the pure function gives. -/
namespace Gk
open Go Go.Proofs
noncomputable def zgk (a:Int) (b:Int):Option Int :=
(if a<b then some 0
else
((divI (wI (a - b)) 2).bind fun c => some c))
theorem mend_Radius_calls (a0m:Int) (a1t:Int) (r:Int) (w0:World) (H:zgk a0m a1t=some r) :
  Calls Tryz.prog 95 [(i64 a0m),(i64 a1t)].toArray w0 (fun e w'=>e=.returned (i64 r)/\Ext w0 w'):=by
 have hE:Ext w0 w0:=Ext.refl w0;unfold zgk at H;refine zaj (n:=12) Tryz.func95 rfl rfl rfl ?_;refine W_seq<|W_rg<|av (i64 0) rfl rfl<|wnt<|W_seq<|W_seq<|W_rg<|mv (i64 a0m) rfl rfl<|?_;refine mv (i64 a1t) rfl rfl<|wa rfl (q_ltI rfl rfl rfl)<|wnt<|?_;refine wci H rfl rfl (fun H=>?_) (fun H=>?_)
 ·refine W_seq<|W_rg<|av (i64 0) rfl rfl<|wnt<|W_ret<|th_r<|?_;obtain rfl:=osi H;refine rt1 (i64 0) rfl rfl rfl rfl ?_;exact ⟨rfl,hE⟩
 refine zag<|W_th<|W_seq<|W_rg<|mv (i64 a0m) rfl rfl<|mv (i64 a1t) rfl rfl<|wa rfl (zb5 rfl rfl rfl)<|?_;obtain ⟨c2,hc2,H⟩:=bsi H;refine wa rfl (q_divI rfl rfl rfl hc2)<|av (i64 c2) rfl rfl<|wnt<|W_ret<|?_;obtain rfl:=osi H;refine rt1 (i64 c2) rfl rfl rfl rfl ?_;exact ⟨rfl,hE⟩
noncomputable def zhn (c:Bool) (a:Int) (b:List UInt8) (d:Int) (e:Int):Option Int :=
(if (!c)=true then some 1
else
(if (b.length:Int)=d then
(if a<1 then some 2
else
(if 255<a then some 2
else
(if e<0 then some 2
else
(if (b.length:Int)<a then some 5
else
((zc3 c b (0:UInt8)).bind fun f => some f.2)))))
else some 1))
theorem mend_check_calls (k:Bool) (c:Int) (e:List UInt8) (h:Int) (i:Int) (f:Value) (d:Value) (s:Int) (w0:World) (r:Fd w0 [] f k) (q:By w0 [] d e) (a:zhn k c e h i=some s) :
  Calls Tryz.prog 65 [f,i64 c,d,i64 h,i64 i].toArray w0 (fun u y=>u=.returned (i64 s)/\Ext w0 y):=by
 have b:Ext w0 w0:=Ext.refl w0;unfold zhn at a;refine zaj (n:=45) Tryz.func65 V V V<|W_sr<|av (i64 0) V V<|wnt<|W_seq<|zad<|W_sr<|mv f V V<|wa V (q_eqF V V V V (r.lift (le_ b)))<|wlb V V (zau (v:=(.bool (!k))) V V) (fun l=>?_) (fun l=>?_)
 ·replace a:=(if_pos l).symm.trans a;refine wk V<|wk V<|wk V<|wk V<|wa V (zao (v:=(.bool true)) V V V)<|av (.bool true) V V<|wnt<|zal true V V (fun _=>?_) (fun j=>by cases j);refine W_sr<|av (i64 1) V V<|wnt<|W_ret<|bk_r<|th_r<|?_;obtain rfl:=osi a;refine rt1 (i64 1) V V V V ?_;exact ⟨rfl,b⟩
 replace a:=(if_neg (ne_true_of_eq_false l)).symm.trans a;refine mv d V V<|wa V (q_len V T22.sl V (q.lift (le_ b)))<|mv (i64 h) V V<|wa V (q_neI V V V)<|wa V (zae (v:=(.bool (!decide ((e.length:Int)=h)))) V V V)<|av (.bool (!decide ((e.length:Int)=h))) V V<|wnt<|zal _ V V (fun m=>?_) (fun m=>?_)
 ·replace a:=(if_neg (zbd m)).symm.trans a;refine W_sr<|av (i64 1) V V<|wnt<|W_ret<|bk_r<|th_r<|?_;obtain rfl:=osi a;refine rt1 (i64 1) V V V V ?_;exact ⟨rfl,b⟩
 replace a:=(if_pos (zbc m)).symm.trans a;refine W_sr<|mv (i64 c) V V<|wa V (q_ltI V V V)<|wlb V V (zau (v:=(.bool (decide (c<1)))) V V) (fun o=>?_) (fun o=>?_)
 ·replace a:=ifp o a;refine wk V<|wk V<|wa V (zao (v:=(.bool true)) V V V)<|mv (.bool true) V V<|wk V<|wk V<|wa V (zao (v:=(.bool true)) V V V)<|av (.bool true) V V<|wnt<|zal true V V (fun _=>?_) (fun j=>by cases j);refine W_sr<|av (i64 2) V V<|wnt<|W_ret<|bk_r<|th_r<|?_;obtain rfl:=osi a;refine rt1 (i64 2) V V V V ?_;exact ⟨rfl,b⟩
 replace a:=ifn o a;refine mv (i64 c) V V<|wa V (q_gtI V V V)<|wa V (zae (v:=(.bool (decide (255<c)))) V V V)<|wlb V V (zau (v:=(.bool (decide (255<c)))) V V) (fun p=>?_) (fun p=>?_)
 ·replace a:=ifp p a;refine wk V<|wk V<|wa V (zao (v:=(.bool true)) V V V)<|av (.bool true) V V<|wnt<|zal true V V (fun _=>?_) (fun j=>by cases j);refine W_sr<|av (i64 2) V V<|wnt<|W_ret<|bk_r<|th_r<|?_;obtain rfl:=osi a;refine rt1 (i64 2) V V V V ?_;exact ⟨rfl,b⟩
 replace a:=ifn p a;refine mv (i64 i) V V<|wa V (q_ltI V V V)<|wa V (zae (v:=(.bool (decide (i<0)))) V V V)<|av (.bool (decide (i<0))) V V<|wnt<|wci a V V (fun a=>?_) (fun a=>?_)
 ·refine W_sr<|av (i64 2) V V<|wnt<|W_ret<|bk_r<|th_r<|?_;obtain rfl:=osi a;refine rt1 (i64 2) V V V V ?_;exact ⟨rfl,b⟩
 refine W_sr<|mv d V V<|wa V (q_len V T22.sl V (q.lift (le_ b)))<|mv (i64 c) V V<|wa V (q_ltI V V V)<|av (.bool (decide ((e.length:Int)<c))) V V<|wnt<|wci a V V (fun a=>?_) (fun a=>?_)
 ·refine W_sr<|av (i64 5) V V<|wnt<|W_ret<|bk_r<|th_r<|?_;obtain rfl:=osi a;refine rt1 (i64 5) V V V V ?_;exact ⟨rfl,b⟩
 refine zag<|bk_n<|W_th<|W_sr<|mv f V V<|mv d V V<|?_;obtain ⟨g,x,a⟩:=bsi a;refine wls V V (zab (vs:=[f,d,u8 0]) Tryz.func71 V V V (ar3 V V (by exact (cst8 (0:UInt8) V))) (ze2 k e (0:UInt8) f d g _ (r.lift (le_ b)) (q.lift (le_ b)) x) ?_);rintro _ C ⟨t,rfl,z,A,B⟩;refine ⟨_,rfl,?_⟩;have w:=b.trans z;refine mv (.tuple #[t,i64 g.2]) V V<|wa V (zac V V V)<|wa V (zac V V V)<|av t V V<|av (i64 g.2) V V<|wnt<|W_sr<|mv (i64 g.2) V V<|av (i64 g.2) V V<|wnt<|W_ret<|?_;obtain rfl:=osi a;refine rt1 (i64 g.2) V V V V ?_;exact ⟨rfl,w⟩
noncomputable def mend_gao (c:Bool) (f:Int) (d:List UInt8) (h:List UInt8):Option (List UInt8×Bool) :=
((zgn c d).bind fun j =>
((zfi c d h).bind fun o =>
((iterC (fun a:List UInt8×List UInt8×List UInt8×List UInt8 =>
((zds a.2.1).bind fun k =>
(if (wI ((d.length:Int)+f))<=(wI (2 * k)) then
((zei c a.1 a.2.1).bind fun e =>
(if e.2.2=0 then
((zf7 c e.1 a.2.2.2).bind fun l =>
((zg4 a.2.2.1 l.1).bind fun m => some (.inl (a.2.1,e.2.1,a.2.2.2,m))))
else some (.inr (.inr (([]:List UInt8),false)))))
else some (.inr (.inl (a.2.1,a.2.2.2)))))) (j.1,o.1,([]:List UInt8),([(1:UInt8)]:List UInt8))).bind (Sum.elim (fun g =>
((zei c g.1 g.2).bind fun b =>
(if b.2.2=0 then
(if (b.2.1.length:Int)=0 then
((zds b.1).bind fun n => some (b.1,decide (n<f)))
else some (b.1,false))
else some (b.1,false)))) (fun i=>some i)))))
theorem mend_gao_calls (s:Bool) (q:Int) (M:List UInt8) (Z:List UInt8) (c:Value) (k:Value) (E:Value) (aC:List UInt8×Bool) (w0:World) (C:Fd w0 [] c s) (a7:By w0 [] k M) (bC:By w0 [] E Z) (b:mend_gao s q M Z=some aC) :
  Calls Tryz.prog 93 [c,i64 q,k,E].toArray w0 (fun b4 aY=>∃ aH:Value,b4=.returned (.tuple #[aH,.bool aC.2])/\Ext w0 aY/\Nw w0 aH/\By aY [] aH aC.1):=by
 have a2:Ext w0 w0:=Ext.refl w0;unfold mend_gao at b;refine zaj (n:=91) Tryz.func93 V V V<|W_sr<|av (.slice none 0 0) V V<|av (.bool false) V V<|wnt<|W_sr<|mv c V V<|mv k V V ?_;obtain ⟨P,bD,b⟩:=bsi b;refine wls V V (zab (vs:=[c,k]) Tryz.func122 V V V (ar2 V V) (poly_Vanish_calls s M c k P _ (C.lift (le_ a2)) (a7.lift (le_ a2)) bD) ?_);rintro _ cG ⟨G,rfl,cL,bU,c2⟩;refine ⟨_,rfl,?_⟩;have a9:By cG [] G P.1:=OwK.slk (Sc.stab _) _ (OwK.scal c2 (G::[])) (fun a f=>(Old.nil _) a (bU a f)) (fun _ e=>e.2);have O:=a2.trans cL;refine mv (.tuple #[G,i64 P.2]) V V<|wa V (zac V V V)<|wa V (zac V V V)<|av G V V<|av (i64 P.2) V V<|wnt<|W_sr<|mv c V V<|mv k V V<|mv E V V<|?_;obtain ⟨S,bK,b⟩:=bsi b;refine wls V V (zab (vs:=[c,k,E]) Tryz.func123 V V V (ar3 V V V) (poly_Through_calls s M Z c k E S _ (C.lift (le_ O)) (a7.lift (le_ O)) (bC.lift (le_ O)) bK) ?_);rintro _ cJ ⟨I,rfl,b2,bY,c7⟩;refine ⟨_,rfl,?_⟩;have aA:By cJ [] I S.1:=OwK.slk (Sc.stab _) _ (OwK.scal c7 (I::[])) (fun a f=>(Old.nil _) a (bY a f)) (fun _ e=>e.2);have b8:=O.trans b2;refine mv (.tuple #[I,i64 S.2]) V V<|wa V (zac V V V)<|wa V (zac V V V)<|av I V V<|av (i64 S.2) V V<|wnt<|W_sr<|wls V V (zbt (L:=[]) (R:=Sc u8) [u8 1] ([(1:UInt8)]:List UInt8) V T22 V (by exact ⟨rfl,cst8 (1:UInt8) V,trivial⟩) V (litC u8 zdu (us:=[u8 1]) (l:=([(1:UInt8)]:List UInt8)) V) V (litS u8 (us:=[u8 1]) (l:=([(1:UInt8)]:List UInt8)) V) ?_);intro aM cK c8 bZ bA cO;have aN:=zaa bA;have bR:By cK [] aM ([(1:UInt8)]:List UInt8):=OwK.slk (Sc.stab _) _ c8 (fun a f=>(Old.nil _) a (bZ a f)) (fun _ e=>e.2);replace a9:=(a9.lift (le_ b2)).lift (le_ aN)
 replace aA:=aA.lift (le_ aN);have b9:=b8.trans aN;refine av (.slice none 0 0) V V<|av aM V V<|wnt<|W_seq<|?_;obtain ⟨cM,b3,b⟩:=bsi b;refine W_mid (fun h r=>∃ B,cM=.inl B/\∃ aU:Value,∃ aX:Value,h 0=c/\h 1=i64 q/\h 12=aU/\h 15=aX/\h 91=undef/\Ext w0 r/\By r [] aU B.1/\By r [] aX B.2) ?_ ?_
 ·refine zad<|za9 (fun o h r=>∃ aS:Value,∃ aT:Value,∃ aV:Value,∃ aW:Value,h 0=c/\h 1=i64 q/\h 2=k/\h 10=aS/\h 12=aT/\h 14=aV/\h 15=aW/\h 91=undef/\Ext w0 r/\By r [] aS o.1/\By r [] aT o.2.1/\By r [] aV o.2.2.1/\By r [] aW o.2.2.2) b3 ?_ ?_
  ·exact ⟨G,I,.slice none 0 0,aM,rfl,rfl,rfl,rfl,rfl,rfl,rfl,rfl,b9,a9,aA,SlK.nil _ _ _,bR⟩
  rintro o _ _ cP ⟨aI,p,aK,y,T,aE,aR,cB,U,cD,aD,aF,bB,a8,i,t,j⟩ d aO;refine W_seq<|W_sr<|mv p V U<|?_;obtain ⟨c9,bE,d⟩:=bsi d;refine wls V V (zab (vs:=[p]) Tryz.func124 V V V (ar1 V) (ze8 o.2.1 p c9 _ (i.lift (Lift.sub (L':=[]) (fun _ _=>trivial))) bE) ?_);rintro _ cQ ⟨rfl,J⟩;refine ⟨_,rfl,?_⟩;replace a8:=a8.lift (le_ J);replace i:=i.lift (le_ J);replace t:=t.lift (le_ J);replace j:=j.lift (le_ J);have N:=bB.trans J;refine wa V (q_mulI V V V)<|mv k V aR<|wa V (q_len V T22.sl V (a7.lift (le_ N)))<|mv (i64 q) V aE<|wa V (zar V V V)<|wa V (q_geI V V V)<|wnt<|wci d V V (fun d=>?_) (fun d=>?_)
  ·refine zag<|W_th<|zad<|W_sr<|mv c V T<|mv aI V cB<|mv p V U<|?_;obtain ⟨u,bF,d⟩:=bsi d;refine wls V V (zab (vs:=[c,aI,p]) Tryz.func125 V V V (ar3 V V V) (zhx s o.1 o.2.1 c aI p u _ (C.lift (le_ N)) (a8.lift (Lift.sub (L':=[]) (fun _ _=>trivial))) (i.lift (Lift.sub (L':=[]) (fun _ _=>trivial))) bF) ?_);rintro _ aZ ⟨w,x,rfl,X,bS,c0,bT,c1⟩;refine ⟨_,rfl,?_⟩;have bM:By aZ [] w u.1:=OwK.slk (Sc.stab _) _ (OwK.scal c0 (w::[])) (fun a f=>(Old.nil _) a (bS a f)) (fun _ e=>e.2);have D:By aZ [] x u.2.1:=OwK.slk (Sc.stab _) _ (OwK.scal c1 (x::[])) (fun a f=>(Old.nil _) a (bT a f)) (fun _ e=>e.2);replace i:=i.lift (le_ X);replace t:=t.lift (le_ X);replace j:=j.lift (le_ X);have a0:=N.trans X;refine mv (.tuple #[w,x,i64 u.2.2]) V V<|wa V (zac V V V)<|wa V (zac V V V)<|wa V (zac V V V)<|av w V V<|av x V V<|av (i64 u.2.2) V V<|wnt<|W_seq<|W_sr<|mv (i64 u.2.2) V V<|wa V (q_neI V V V)<|wnt<|zal _ V V (fun a4=>?_) (fun a4=>?_)
   ·replace d:=(if_neg (zbd a4)).symm.trans d;refine W_sr<|av (.slice none 0 0) V V<|av (.bool false) V V<|wnt<|W_ret<|th_r<|bk_r<|?_;obtain rfl:=osi d;obtain rfl:=aO _ rfl;simp only [Sum.elim_inr] at b;refine th_r<|bk_r<|th_r<|th_r<|?_;obtain rfl:=osi b;refine rt2 (.slice none 0 0) (.bool false) V V V V V aF ?_;exact ⟨.slice none 0 0,rfl,a0,Nw.nil _,SlK.nil _ _ _⟩
   replace d:=(if_pos (zbc a4)).symm.trans d;refine zag<|W_th<|W_sr<|mv c V T<|mv w V V<|mv y V aD<|?_;obtain ⟨F,bG,d⟩:=bsi d;refine wls V V (zab (vs:=[c,w,y]) Tryz.func126 V V V (ar3 V V V) (zhg s u.1 o.2.2.2 c w y F _ (C.lift (le_ a0)) (bM.lift (Lift.sub (L':=[]) (fun _ _=>trivial))) (j.lift (Lift.sub (L':=[]) (fun _ _=>trivial))) bG) ?_);rintro _ cH ⟨z,rfl,K,bV,c3⟩;refine ⟨_,rfl,?_⟩;have bO:By cH [] z F.1:=OwK.slk (Sc.stab _) _ (OwK.scal c3 (z::[])) (fun a f=>(Old.nil _) a (bV a f)) (fun _ e=>e.2);replace i:=i.lift (le_ K);replace t:=t.lift (le_ K);replace j:=j.lift (le_ K);replace D:=D.lift (le_ K);have b5:=a0.trans K;refine mv (.tuple #[z,i64 F.2]) V V<|wa V (zac V V V)<|wa V (zac V V V)<|av z V V<|av (i64 F.2) V V<|wnt<|W_rg<|mv p V U<|mv x V V<|mv y V aD<|mv aK V cD<|mv z V V<|?_;obtain ⟨aQ,bH,d⟩:=bsi d;refine wls V V (zab (vs:=[aK,z]) Tryz.func127 V V V (ar2 V V) (poly_Add_calls o.2.2.1 F.1 aK z aQ _ (t.lift (Lift.sub (L':=[]) (fun _ _=>trivial))) (bO.lift (Lift.sub (L':=[]) (fun _ _=>trivial))) bH) ?_);rintro _ cI ⟨W,rfl,Y,bW,c4⟩;refine ⟨_,rfl,?_⟩;have bP:By cI [] W aQ:=OwK.slk (Sc.stab _) _ (OwK.scal c4 (W::[])) (fun a f=>(Old.nil _) a (bW a f)) (fun _ e=>e.2);replace i:=i.lift (le_ Y);replace j:=j.lift (le_ Y);replace D:=D.lift (le_ Y);have b6:=b5.trans Y;refine av p V V<|av x V V<|av y V V<|av W V V<|zam<|?_
   refine bk_n ?_;obtain rfl:=osi d;exact ⟨_,rfl,p,x,y,W,T,aE,aR,rfl,rfl,rfl,rfl,aF,b6,i,D,j,bP⟩
  refine za1<|th_x<|?_;obtain rfl:=osi d;obtain rfl:=aO _ rfl;refine th_x<|bk_x<|?_;exact ⟨_,rfl,p,y,T,aE,U,aD,aF,N,i,j⟩
 rintro _ cR ⟨B,rfl,aJ,aL,cA,cF,cC,cE,aG,a3,bL,bN⟩;simp only [Sum.elim_inl] at b;refine W_th<|W_sr<|mv c V cA<|mv aJ V cC<|mv aL V cE<|?_;obtain ⟨m,bI,b⟩:=bsi b;refine wls V V (zab (vs:=[c,aJ,aL]) Tryz.func125 V V V (ar3 V V V) (zhx s B.1 B.2 c aJ aL m _ (C.lift (le_ a3)) (bL.lift (Lift.sub (L':=[]) (fun _ _=>trivial))) (bN.lift (Lift.sub (L':=[]) (fun _ _=>trivial))) bI) ?_);rintro _ b0 ⟨g,H,rfl,cN,aP,c5,bX,c6⟩;refine ⟨_,rfl,?_⟩;have aB:=Nw.ext a3 aP;have A:By b0 [] g m.1:=OwK.slk (Sc.stab _) _ (OwK.scal c5 (g::[])) (fun a f=>(Old.nil _) a (aP a f)) (fun _ e=>e.2);have bQ:By b0 [] H m.2.1:=OwK.slk (Sc.stab _) _ (OwK.scal c6 (H::[])) (fun a f=>(Old.nil _) a (bX a f)) (fun _ e=>e.2);have a1:=a3.trans cN;refine mv (.tuple #[g,H,i64 m.2.2]) V V<|wa V (zac V V V)<|wa V (zac V V V)<|wa V (zac V V V)<|av g V V<|av H V V<|av (i64 m.2.2) V V<|wnt<|W_sr<|mv g V V<|mv (i64 m.2.2) V V<|wa V (q_eqI V V V)<|wlb V V (zau (v:=(.bool (decide (m.2.2=0)))) V V) (fun a5=>?_) (fun a5=>?_)
 ·replace b:=ifp a5 b;refine mv H V V<|wa V (q_len V T22.sl V bQ)<|wa V (q_eqI V V V)<|wa V (zao (v:=(.bool (decide ((m.2.1.length:Int)=0)))) V V V)<|wlb V V (zau (v:=(.bool (decide ((m.2.1.length:Int)=0)))) V V) (fun a6=>?_) (fun a6=>?_)
  ·replace b:=ifp a6 b;refine mv g V V ?_;obtain ⟨Q,bJ,b⟩:=bsi b;refine wls V V (zab (vs:=[g]) Tryz.func124 V V V (ar1 V) (ze8 m.1 g Q _ (A.lift (Lift.sub (L':=[]) (fun _ _=>trivial))) bJ) ?_);rintro _ cS ⟨rfl,b1⟩;refine ⟨_,rfl,?_⟩;replace A:=A.lift (le_ b1);have b7:=a1.trans b1;refine mv (i64 q) V cF<|wa V (q_ltI V V V)<|wa V (zao (v:=(.bool (decide (Q<q)))) V V V)<|av g V V<|av (.bool (decide (Q<q))) V V<|wnt<|W_ret<|?_;obtain rfl:=osi b;refine rt2 g (.bool (decide (Q<q))) V V V V V aG ?_;exact ⟨g,rfl,b7,aB,A.lift (Lift.sub (L':=[]) (fun _ _=>trivial))⟩
  replace b:=ifn a6 b;refine wk V<|wk V<|wk V<|wk V<|wa V (zae (v:=(.bool false)) V V V)<|av g V V<|av (.bool false) V V<|wnt<|W_ret ?_;obtain rfl:=osi b;refine rt2 g (.bool false) V V V V V aG ?_;exact ⟨g,rfl,a1,aB,A.lift (Lift.sub (L':=[]) (fun _ _=>trivial))⟩
 replace b:=ifn a5 b;refine wk V<|wk V<|wk V<|wa V (zae (v:=(.bool false)) V V V)<|mv (.bool false) V V<|wk V<|wk V<|wk V<|wk V<|wa V (zae (v:=(.bool false)) V V V)<|av g V V<|av (.bool false) V V<|wnt<|W_ret<|?_;obtain rfl:=osi b;refine rt2 g (.bool false) V V V V V aG ?_;exact ⟨g,rfl,a1,aB,A.lift (Lift.sub (L':=[]) (fun _ _=>trivial))⟩
noncomputable def zh1 (c:Bool) (d:List UInt8) (b:List UInt8) (e:List UInt8):Option Int :=
((iterC (fun a:Int×Int =>
(if a.2<(b.length:Int) then
((idx b a.2).bind fun f =>
((idx e a.2).bind fun g =>
((zg0 c d f).bind fun h =>
(if h=g then some (.inl (a.1,wI (a.2+1)))
else some (.inl (wI (a.1+1),wI (a.2+1)))))))
else some (.inr a.1))) (0,0)).bind fun i => some i)
theorem mend_wrong_calls (o:Bool) (p:List UInt8) (q:List UInt8) (B:List UInt8) (d:Value) (e:Value) (k:Value) (l:Value) (H:Int) (w0:World) (M:Fd w0 [] d o) (N:By w0 [] e p) (s:By w0 [] k q) (G:By w0 [] l B) (h:zh1 o p q B=some H) :
  Calls Tryz.prog 94 [d,e,k,l].toArray w0 (fun K T=>K=.returned (i64 H)/\Ext w0 T):=by
 have D:Ext w0 w0:=Ext.refl w0;unfold zh1 at h;refine zaj (n:=32) Tryz.func94 V V V<|W_sr<|av (i64 0) V V<|wnt<|W_sr<|av (i64 0) V V<|wnt<|W_seq<|W_sr<|mv k V V<|wa V (q_len V T22.sl V (s.lift (le_ D)))<|mv (i64 0) V V<|wnt<|?_;obtain ⟨m,J,h⟩:=bsi h;refine W_mid (fun b A=>b 9=i64 m/\b 32=undef/\Ext w0 A) ?_ ?_
 ·refine zad<|za9 (fun c b A=>b 0=d/\b 1=e/\b 3=l/\b 9=i64 c.1/\b 12=k/\b 13=i64 (q.length:Int)/\b 14=i64 c.2/\b 32=undef/\Ext w0 A) J ?_ ?_
  ·exact ⟨rfl,rfl,rfl,rfl,rfl,rfl,rfl,rfl,D⟩
  rintro c _ _ U ⟨t,w,y,z,u,v,g,x,j⟩ a O;refine W_sr<|wa V (q_ltI V g v)<|wnt<|W_seq<|wci a V V (fun a=>?_) (fun a=>?_)
  ·refine zag<|W_th<|W_seq<|zad<|W_sr<|mv (i64 c.2) V g<|bse a fun i E a=>wa V (q_adr V T22 u g (s.lift (le_ j)) E)<|wq V (zaz V T22 V (s.lift (le_ j)) E)<|av (i64 c.2) V V<|av (u8 i) V V<|wnt<|W_seq<|zbi [7] [(0,0),(1,0),(2,0),(4,0),(5,0),(6,0),(7,1),(3,2),(8,0)] mixed (by kernel_rfl) (by kernel_rfl) (by kernel_rfl) (by kernel_rfl) ?_;have W:=Ext.drew U;have f:=j.trans W;refine sv d V V t<|sv e V V w<|sv (u8 i) V V V<|sv l V V y<|sv (i64 c.2) V V V<|bse a fun X F a=>sa V V (q_adr V T22 V V (G.lift (le_ f)) F)<|sq V V (zaz V T22 V (G.lift (le_ f)) F)<|?_;obtain ⟨Q,P,a⟩:=bsi a;refine wss V V V (zab (vs:=[d,e,u8 i]) Tryz.func69 V V V (ar3 V V V) (poly_Eval_calls o p i d e Q _ (M.lift (le_ f)) (N.lift (le_ f)) P) ?_);rintro _ Z ⟨rfl,I⟩;refine ⟨_,rfl,I,?_⟩;have C:=f.trans I;refine sa V V (q_ne8 V V V)<|zax<|W_th<|zal _ V V (fun r=>?_) (fun r=>?_)
   ·replace a:=(if_neg (zbd r)).symm.trans a;refine W_rg<|mv (i64 c.1) V z<|wa V (zar V V V)<|av (i64 (wI (c.1+1))) V V<|zam<|bk_n<|W_th<|W_rg<|wa V (zar V g V)<|mv (i64 (wI (c.2+1))) V V<|zam<|?_;obtain rfl:=osi a;exact ⟨_,rfl,t,w,y,rfl,u,v,rfl,x,C⟩
   replace a:=(if_pos (zbc r)).symm.trans a;refine zag<|bk_n<|W_th<|W_rg<|wa V (zar V g V)<|mv (i64 (wI (c.2+1))) V V<|zam<|?_;obtain rfl:=osi a;exact ⟨_,rfl,t,w,y,z,u,v,rfl,x,C⟩
  refine za1<|th_x<|?_;obtain rfl:=osi a;obtain rfl:=O _ rfl;refine th_x<|bk_x<|?_;exact ⟨z,x,j⟩
 rintro _ Y ⟨S,R,L⟩;refine W_th<|W_sr<|mv (i64 m) V S<|av (i64 m) V V<|wnt<|W_ret<|?_;obtain rfl:=osi h;refine rt1 (i64 m) V V V R ?_;exact ⟨rfl,L⟩
noncomputable def zel (c:Bool) (d:Int) (a:List UInt8) (e:List UInt8) (f:Int):Option (List UInt8×Int) :=
((mend_gao c d a e).bind fun b =>
(if (!b.2)=true then some (([]:List UInt8),11)
else
((zh1 c b.1 a e).bind fun h =>
((zgk (a.length:Int) d).bind fun g =>
(if (if g<f then g else f)<h then some (([]:List UInt8),11)
else some (b.1,0))))))
theorem mend_column_calls (m:Bool) (d:Int) (h:List UInt8) (o:List UInt8) (j:Int) (e:Value) (c:Value) (f:Value) (r:List UInt8×Int) (w0:World) (x:Fd w0 [] e m) (q:By w0 [] c h) (y:By w0 [] f o) (a:zel m d h o j=some r) :
  Calls Tryz.prog 68 [e,i64 d,c,f,i64 j].toArray w0 (fun F C=>∃ t:Value,F=.returned (.tuple #[t,i64 r.2])/\Ext w0 C/\Nw w0 t/\By C [] t r.1):=by
 have l:Ext w0 w0:=Ext.refl w0;unfold zel at a;refine zaj (n:=39) Tryz.func68 V V V<|W_sr<|av (.slice none 0 0) V V<|av (i64 0) V V<|wnt<|W_sr<|mv e V V<|mv (i64 d) V V<|mv c V V<|mv f V V<|?_;obtain ⟨g,I,a⟩:=bsi a;refine wls V V (zab (vs:=[e,i64 d,c,f]) Tryz.func93 V V V (ar4 V V V V) (mend_gao_calls m d h o e c f g _ (x.lift (le_ l)) (q.lift (le_ l)) (y.lift (le_ l)) I) ?_);rintro _ N ⟨b,rfl,O,A,M⟩;refine ⟨_,rfl,?_⟩;have L:=Nw.ext l A;have i:By N [] b g.1:=SlK.avail M _ (fun z H=>(Old.nil _) z (A z H));have k:=l.trans O;refine mv (.tuple #[b,.bool g.2]) V V<|wa V (zac V V V)<|wa V (zac V V V)<|av b V V<|av (.bool g.2) V V<|wnt<|W_seq<|W_seq<|W_rg<|mv (.bool g.2) V V<|wa V (q_not V V)<|wlb V V (zau (v:=(.bool (!g.2))) V V) (fun p=>?_) (fun p=>?_)
 ·replace a:=(if_pos p).symm.trans a;refine wk V<|wk V<|wk V<|wk V<|wk V<|wk V<|wk V<|wk V<|wk V<|wk V<|wk V<|wk V<|wa V (zao (v:=(.bool true)) V V V)<|wnt<|zal true V V (fun _=>?_) (fun G=>by cases G);refine W_sr<|av (.slice none 0 0) V V<|av (i64 11) V V<|wnt<|W_ret<|th_r<|?_;obtain rfl:=osi a;refine rt2 (.slice none 0 0) (i64 11) V V V V V V ?_;exact ⟨.slice none 0 0,rfl,k,Nw.nil _,SlK.nil _ _ _⟩
 replace a:=(if_neg (ne_true_of_eq_false p)).symm.trans a;refine mv e V V<|mv b V V<|mv c V V<|mv f V V<|?_;obtain ⟨B,J,a⟩:=bsi a;refine wls V V (zab (vs:=[e,b,c,f]) Tryz.func94 V V V (ar4 V V V V) (mend_wrong_calls m g.1 h o e b c f B _ (x.lift (le_ k)) (i.lift (Lift.sub (L':=[]) (fun _ _=>trivial))) (q.lift (le_ k)) (y.lift (le_ k)) J) ?_);rintro _ P ⟨rfl,D⟩;refine ⟨_,rfl,?_⟩;replace i:=i.lift (le_ D);have u:=k.trans D;refine mv (i64 j) V V<|mv c V V<|wa V (q_len V T22.sl V (q.lift (le_ u)))<|mv (i64 d) V V<|?_;obtain ⟨s,K,a⟩:=bsi a;refine wls V V (zab (vs:=[i64 (h.length:Int),i64 d]) Tryz.func95 V V V (ar2 V V) (mend_Radius_calls (h.length:Int) d  s _  K) ?_);rintro _ Q ⟨rfl,E⟩;refine ⟨_,rfl,?_⟩;replace i:=i.lift (le_ E);have w:=u.trans E;refine wa V (q_minI V V V)<|wa V (q_gtI V V V)<|wa V (zae (v:=(.bool (decide ((if s<j then s else j)<B)))) V V V)<|wnt<|wci a V V (fun a=>?_) (fun a=>?_)
 ·refine W_sr<|av (.slice none 0 0) V V<|av (i64 11) V V<|wnt<|W_ret<|th_r<|?_;obtain rfl:=osi a;refine rt2 (.slice none 0 0) (i64 11) V V V V V V ?_;exact ⟨.slice none 0 0,rfl,w,Nw.nil _,SlK.nil _ _ _⟩
 refine zag<|W_th<|W_sr<|mv b V V<|av b V V<|av (i64 0) V V<|wnt<|W_ret ?_;obtain rfl:=osi a;refine rt2 b (i64 0) V V V V V V ?_;exact ⟨b,rfl,w,L,i.lift (Lift.sub (L':=[]) (fun _ _=>trivial))⟩
end Gk

/- Printed by gen.py: for each Go function a pure function, and that the Go code comes to it. No condition beside the equation that says what the pure function gives. -/
namespace Gk
open Go Go.Proofs
end Gk

/- Matrices of this seat's program: the struct, its field, its building. No condition. -/
namespace Gk
open Go Go.Proofs
end Gk

/- Records of this seat's program: structs behind their pointers. No condition. -/
namespace Gk
open Go Go.Proofs Go.RowKit
theorem cells_agg (cs:Array Value):(Value.agg cs).cells=cs:=rfl
theorem Lift.consN {w0 w:World} {L L':List Value} {v:Value} (g:Lift w0 w L L') (n:Nw w0 v):Lift w0 w L (v :: L'):=⟨g.blk,fun k hk ha=>⟨fun e=>Nat.not_lt_of_le (n k e) hk,g.av k hk ha⟩⟩
theorem cell_ar {l:List Int} {r:List Value} {i:Nat} {c:Int} (h:idx l (i:Int)=some c):((l.map i64 ++ r).toArray)[i]?=some (i64 c):=by
 obtain ⟨_,h1,h2⟩:=zcb.1 h
 have h1':i<l.length:=by simpa using h1
 have h2':l[i]=c:=by simpa using h2
 simp [List.getElem?_append_left,h1',h2']
theorem zfs {l:List Int} {r:List Value} {k m:Nat} {u:Value} (hl:l.length=k) (h:r[m]?=some u):((l.map i64 ++ r).toArray)[k+m]?=some u:=by
 subst hl
 rw [List.getElem?_toArray,List.getElem?_append_right (by rw [List.length_map];exact Nat.le_add_right _ _),List.length_map,Nat.add_sub_cancel_left];exact h
theorem lt_ar {l:List Int} {r:List Value} {k m:Nat} (hl:l.length=k) (h:m<r.length):k+m<((l.map i64 ++ r).toArray).size:=by
 subst hl
 simp;exact h
theorem set_ar {l:List Int} {r:List Value} {k m:Nat} {u:Value} (hl:l.length=k):((l.map i64 ++ r).toArray).setIfInBounds (k+m) u=(l.map i64 ++ r.set m u).toArray:=by
 subst hl
 apply Array.ext'
 rw [Array.toList_setIfInBounds,List.set_append_right _ _ (by rw [List.length_map];exact Nat.le_add_right _ _),List.length_map,Nat.add_sub_cancel_left]
theorem zdk {o:Oper} {f:Nat->Value} {T:TypeId} {x:Operand} {g m d j:Nat} (ho:o.op=.fieldAddr T x j) (hf:∀ (a:Addr) (w:World),(Instr.fieldAt T (.pointer (some a)) j).run Tryz.prog w=.ok (.pointer (some (a.add d))) w) (hx:ev f x=bpo g m):Qa Tryz.prog o f (bpo g (m+d)):=by
 intro w'
 simp [execOp,ho,hx,hf,zcg,Addr.add]
theorem stp_storeR {o:Oper} {f:Nat->Value} {w:World} {e T:TypeId} {x y:Operand} {g m:Nat} {u:Value} {cs cs':Array Value} (L1 L2:List Value) (ho:o.op=.store e x y) (hs:∀ w,(Go.sizeOf e).run Tryz.prog w=.ok 1 w) (hx:ev f x=bpo g m) (hy:ev f y=u) (h:Blk w g T cs) (hm:m<cs.size) (hc:u.oneCell'=true) (hset:cs.setIfInBounds m u=cs')
  {K:Value->World->Prop} (hk:∀ w',Blk w' g T cs'->Gr w w' (bp g)->Lift w w' (L1 ++ bp g :: L2) (L1 ++ bp g :: L2)->K undef w'):Stp Tryz.prog o f w K :=
 zdb ho hs hx hy h hm hc fun w' hB hg=>hk w' (by rw [hset] at hB;exact hB) (Gr.of hg) (Lift.own L1 L2 (Gr.of hg) (Nx.refl _ _))
def RcMd (w:World) (L:List Value) (v:Value) (c:Option (Bool×List UInt8×List (List UInt8)×List Int)):Prop :=
 (c=none/\v=.pointer none)∨∃ (x:Bool×List UInt8×List (List UInt8)×List Int) (g:Nat) (u0 u1 u2 u3:Value),c=some x/\v=bp g/\Av L g/\Blk w g 96 #[u0,u1,u2,u3]/\Fd w L u0 x.1/\By w L u1 x.2.1/\Rw w L u2 x.2.2.1/\In w L u3 x.2.2.2
theorem RcMd.lift {w w':World} {L L':List Value} {v:Value} {c:Option (Bool×List UInt8×List (List UInt8)×List Int)} (h:RcMd w L v c) (g:Lift w w' L L'):RcMd w' L' v c:=by
 rcases h with h | ⟨x,k,u0,u1,u2,u3,h1,h2,ha,hB,r0,r1,r2,r3⟩
 ·exact .inl h
 ·exact .inr ⟨x,k,u0,u1,u2,u3,h1,h2,g.av k hB.lt ha,g.blk k _ hB rfl ha,r0.lift g,r1.lift g,r2.lift g,r3.lift g⟩
theorem RcMd.nil (w:World) (L:List Value):RcMd w L (.pointer none) none:=.inl ⟨rfl,rfl⟩
theorem RcMd.mk {w:World} {L:List Value} {g:Nat} {u0 u1 u2 u3:Value} {x0:Bool} {x1:List UInt8} {x2:List (List UInt8)} {x3:List Int} (hB:Blk w g 96 #[u0,u1,u2,u3]) (ha:Av L g) (r0:Fd w L u0 x0) (r1:By w L u1 x1) (r2:Rw w L u2 x2) (r3:In w L u3 x3):RcMd w L (bp g) (some (x0,x1,x2,x3)) :=
 .inr ⟨(x0,x1,x2,x3),g,u0,u1,u2,u3,rfl,rfl,ha,hB,r0,r1,r2,r3⟩
theorem RcMd.some {w:World} {L:List Value} {v:Value} {x:Bool×List UInt8×List (List UInt8)×List Int} {c:Option (Bool×List UInt8×List (List UInt8)×List Int)} (h:RcMd w L v c) (hc:c=some x):∃ (g:Nat) (u0 u1 u2 u3:Value),v=bp g/\Blk w g 96 #[u0,u1,u2,u3]/\Fd w L u0 x.1/\By w L u1 x.2.1/\Rw w L u2 x.2.2.1/\In w L u3 x.2.2.2:=by
 rcases h with ⟨h1,_⟩ | ⟨x',g,u0,u1,u2,u3,h1,h2,ha,hB,h3⟩
 ·rw [h1] at hc;cases hc
 ·rw [h1] at hc;obtain rfl:=Option.some.inj hc
  exact ⟨g,u0,u1,u2,u3,h2,hB,h3⟩
theorem RcMd.cells {w:World} {L:List Value} {v:Value} {c:Option (Bool×List UInt8×List (List UInt8)×List Int)} (h:RcMd w L v c):v.cells=#[v]:=by
 rcases h with ⟨_,rfl⟩ | ⟨_,_,_,_,_,_,_,rfl,_⟩ <;> rfl
theorem q_eqRMd {o:Oper} {f:Nat->Value} {w:World} {L:List Value} {x y:Operand} {v:Value} {t t' e:TypeId} {c:Option (Bool×List UInt8×List (List UInt8)×List Int)} (ho:o.op=.binOp .eql t x y t') (ht:Tryz.prog.underlying t=some (.pointer e)) (hx:ev f x=v) (hy:ev f y=.pointer none) (h:RcMd w L v c):Qa Tryz.prog o f (.bool c.isNone):=by
 rcases h with ⟨rfl,rfl⟩ | ⟨_,_,_,_,_,_,rfl,rfl,_⟩
 ·exact q_eqP ho ht hx hy
 ·exact q_eqP ho ht hx hy
theorem fieldAtMd0 (a:Addr) (w:World):(Instr.fieldAt 96 (.pointer (some a)) 0).run Tryz.prog w=.ok (.pointer (some (a.add 0))) w:=by
 simp [Instr.fieldAt,Instr.sureAddr,fieldPlace]
theorem fieldAtMd1 (a:Addr) (w:World):(Instr.fieldAt 96 (.pointer (some a)) 1).run Tryz.prog w=.ok (.pointer (some (a.add 1))) w:=by
 simp [Instr.fieldAt,Instr.sureAddr,fieldPlace]
theorem zh5 (a:Addr) (w:World):(Instr.fieldAt 96 (.pointer (some a)) 2).run Tryz.prog w=.ok (.pointer (some (a.add 2))) w:=by
 simp [Instr.fieldAt,Instr.sureAddr,fieldPlace]
theorem fieldAtMd3 (a:Addr) (w:World):(Instr.fieldAt 96 (.pointer (some a)) 3).run Tryz.prog w=.ok (.pointer (some (a.add 3))) w:=by
 simp [Instr.fieldAt,Instr.sureAddr,fieldPlace]
theorem zeroMd:∀ w,(zeroValue 96).run Tryz.prog w=.ok (.agg #[(.pointer none),(.slice none 0 0),(.slice none 0 0),(.slice none 0 0)]) w:=fun w=>by rw [Tryz.zeroValue96] <;> rfl
theorem buildMd_0_1 (v0:Value) (hv0:v0.cells=#[v0]) (v1:Value) (hv1:v1.cells=#[v1]) (w:World):(Instr.build 96 #[(0,v0),(1,v1)]).run Tryz.prog w=.ok (.agg #[v0,v1,(.slice none 0 0),(.slice none 0 0)]) w:=by
 unfold Instr.build
 simp only [Sem.run_bind,zeroMd,Result.andThen_ok,run_underlying Tryz.underlying96]
 have hfill:Instr.fill (fun i=>([((0:Nat),(1:Nat)),((1:Nat),(1:Nat)),((2:Nat),(1:Nat)),((3:Nat),(1:Nat))]:List (Nat×Nat))[i]?) #[(.pointer none),(.slice none 0 0),(.slice none 0 0),(.slice none 0 0)] [(0,v0),(1,v1)]=some #[v0,v1,(.slice none 0 0),(.slice none 0 0)]:=by simp [Instr.fill,hv0,hv1]
 simp [Tryz.sizeOf22,Tryz.sizeOf27,Tryz.sizeOf29,Tryz.sizeOf35,cells_agg,hfill]
def RcSt (w:World) (L:List Value) (v:Value) (c:Option (List Int×Bool×(Option (Bool×List UInt8×List (List UInt8)×List Int))×List (List UInt8)×List Int)):Prop :=
 (c=none/\v=.pointer none)∨∃ (x:List Int×Bool×(Option (Bool×List UInt8×List (List UInt8)×List Int))×List (List UInt8)×List Int) (g:Nat) (u1 u2 u3 u4:Value),c=some x/\v=bp g/\Av L g/\Blk w g 74 ((x.1).map i64 ++ [u1,u2,u3,u4]).toArray/\Fd w L u1 x.2.1/\RcMd w L u2 x.2.2.1/\Rw w L u3 x.2.2.2.1/\In w L u4 x.2.2.2.2/\(x.1).length=4
theorem RcSt.lift {w w':World} {L L':List Value} {v:Value} {c:Option (List Int×Bool×(Option (Bool×List UInt8×List (List UInt8)×List Int))×List (List UInt8)×List Int)} (h:RcSt w L v c) (g:Lift w w' L L'):RcSt w' L' v c:=by
 rcases h with h | ⟨x,k,u1,u2,u3,u4,h1,h2,ha,hB,r1,r2,r3,r4,q0⟩
 ·exact .inl h
 ·exact .inr ⟨x,k,u1,u2,u3,u4,h1,h2,g.av k hB.lt ha,g.blk k _ hB rfl ha,r1.lift g,r2.lift g,r3.lift g,r4.lift g,q0⟩
theorem RcSt.nil (w:World) (L:List Value):RcSt w L (.pointer none) none:=.inl ⟨rfl,rfl⟩
theorem RcSt.mk {w:World} {L:List Value} {g:Nat} {u1 u2 u3 u4:Value} {x0:List Int} {x1:Bool} {x2:Option (Bool×List UInt8×List (List UInt8)×List Int)} {x3:List (List UInt8)} {x4:List Int} (hB:Blk w g 74 (x0.map i64 ++ [u1,u2,u3,u4]).toArray) (ha:Av L g) (r1:Fd w L u1 x1) (r2:RcMd w L u2 x2) (r3:Rw w L u3 x3) (r4:In w L u4 x4) (q0:x0.length=4):RcSt w L (bp g) (some (x0,x1,x2,x3,x4)) :=
 .inr ⟨(x0,x1,x2,x3,x4),g,u1,u2,u3,u4,rfl,rfl,ha,hB,r1,r2,r3,r4,q0⟩
theorem RcSt.some {w:World} {L:List Value} {v:Value} {x:List Int×Bool×(Option (Bool×List UInt8×List (List UInt8)×List Int))×List (List UInt8)×List Int} {c:Option (List Int×Bool×(Option (Bool×List UInt8×List (List UInt8)×List Int))×List (List UInt8)×List Int)} (h:RcSt w L v c) (hc:c=some x):∃ (g:Nat) (u1 u2 u3 u4:Value),v=bp g/\Blk w g 74 ((x.1).map i64 ++ [u1,u2,u3,u4]).toArray/\Fd w L u1 x.2.1/\RcMd w L u2 x.2.2.1/\Rw w L u3 x.2.2.2.1/\In w L u4 x.2.2.2.2/\(x.1).length=4:=by
 rcases h with ⟨h1,_⟩ | ⟨x',g,u1,u2,u3,u4,h1,h2,ha,hB,h3⟩
 ·rw [h1] at hc;cases hc
 ·rw [h1] at hc;obtain rfl:=Option.some.inj hc
  exact ⟨g,u1,u2,u3,u4,h2,hB,h3⟩
theorem q_eqRSt {o:Oper} {f:Nat->Value} {w:World} {L:List Value} {x y:Operand} {v:Value} {t t' e:TypeId} {c:Option (List Int×Bool×(Option (Bool×List UInt8×List (List UInt8)×List Int))×List (List UInt8)×List Int)} (ho:o.op=.binOp .eql t x y t') (ht:Tryz.prog.underlying t=some (.pointer e)) (hx:ev f x=v) (hy:ev f y=.pointer none) (h:RcSt w L v c):Qa Tryz.prog o f (.bool c.isNone):=by
 rcases h with ⟨rfl,rfl⟩ | ⟨_,_,_,_,_,_,rfl,rfl,_⟩
 ·exact q_eqP ho ht hx hy
 ·exact q_eqP ho ht hx hy
theorem fieldAtSt0 (a:Addr) (w:World):(Instr.fieldAt 74 (.pointer (some a)) 0).run Tryz.prog w=.ok (.pointer (some (a.add 0))) w:=by
 simp [Instr.fieldAt,Instr.sureAddr,fieldPlace]
theorem fieldAtSt0_0 (a:Addr) (w:World):(Instr.fieldAt 25 (.pointer (some a)) 0).run Tryz.prog w=.ok (.pointer (some (a.add 0))) w:=by
 simp [Instr.fieldAt,Instr.sureAddr,fieldPlace]
theorem fieldAtSt1 (a:Addr) (w:World):(Instr.fieldAt 74 (.pointer (some a)) 1).run Tryz.prog w=.ok (.pointer (some (a.add 4))) w:=by
 simp [Instr.fieldAt,Instr.sureAddr,fieldPlace]
theorem fieldAtSt2 (a:Addr) (w:World):(Instr.fieldAt 74 (.pointer (some a)) 2).run Tryz.prog w=.ok (.pointer (some (a.add 5))) w:=by
 simp [Instr.fieldAt,Instr.sureAddr,fieldPlace]
theorem fieldAtSt3 (a:Addr) (w:World):(Instr.fieldAt 74 (.pointer (some a)) 3).run Tryz.prog w=.ok (.pointer (some (a.add 6))) w:=by
 simp [Instr.fieldAt,Instr.sureAddr,fieldPlace]
theorem fieldAtSt4 (a:Addr) (w:World):(Instr.fieldAt 74 (.pointer (some a)) 4).run Tryz.prog w=.ok (.pointer (some (a.add 7))) w:=by
 simp [Instr.fieldAt,Instr.sureAddr,fieldPlace]
theorem zeroSt:∀ w,(zeroValue 74).run Tryz.prog w=.ok (.agg #[(i64 0),(i64 0),(i64 0),(i64 0),(.pointer none),(.pointer none),(.slice none 0 0),(.slice none 0 0)]) w:=fun w=>by rw [Tryz.zeroValue74] <;> rfl
theorem buildSt_0_1_2 (l:List Int) (hl:l.length=4) (v1:Value) (hv1:v1.cells=#[v1]) (v2:Value) (hv2:v2.cells=#[v2]) (w:World):(Instr.build 74 #[(0,ag i64 l),(1,v1),(2,v2)]).run Tryz.prog w=.ok (.agg ((l.map i64 ++ [v1,v2,(.slice none 0 0),(.slice none 0 0)]).toArray)) w:=by
 obtain ⟨z0,z1,z2,z3,rfl⟩:∃ z0 z1 z2 z3,l=[z0,z1,z2,z3]:=by
  match l,hl with
  | [z0,z1,z2,z3],_=>exact ⟨z0,z1,z2,z3,rfl⟩
 show (Instr.build 74 #[(0,.agg #[i64 z0,i64 z1,i64 z2,i64 z3]),(1,v1),(2,v2)]).run Tryz.prog w=.ok (.agg #[i64 z0,i64 z1,i64 z2,i64 z3,v1,v2,(.slice none 0 0),(.slice none 0 0)]) w
 unfold Instr.build
 simp only [Sem.run_bind,zeroSt,Result.andThen_ok,run_underlying Tryz.underlying74]
 have hfill:Instr.fill (fun i=>([((0:Nat),(4:Nat)),((4:Nat),(1:Nat)),((5:Nat),(1:Nat)),((6:Nat),(1:Nat)),((7:Nat),(1:Nat))]:List (Nat×Nat))[i]?) #[(i64 0),(i64 0),(i64 0),(i64 0),(.pointer none),(.pointer none),(.slice none 0 0),(.slice none 0 0)] [(0,.agg #[i64 z0,i64 z1,i64 z2,i64 z3]),(1,v1),(2,v2)]=some #[i64 z0,i64 z1,i64 z2,i64 z3,v1,v2,(.slice none 0 0),(.slice none 0 0)]:=by simp [Instr.fill,cells_agg,hv1,hv2]
 simp [Tryz.sizeOf25,Tryz.sizeOf27,Tryz.sizeOf29,Tryz.sizeOf35,Tryz.sizeOf70,cells_agg,hfill]
theorem buildSt_0_1_3 (l:List Int) (hl:l.length=4) (v1:Value) (hv1:v1.cells=#[v1]) (v3:Value) (hv3:v3.cells=#[v3]) (w:World):(Instr.build 74 #[(0,ag i64 l),(1,v1),(3,v3)]).run Tryz.prog w=.ok (.agg ((l.map i64 ++ [v1,(.pointer none),v3,(.slice none 0 0)]).toArray)) w:=by
 obtain ⟨z0,z1,z2,z3,rfl⟩:∃ z0 z1 z2 z3,l=[z0,z1,z2,z3]:=by
  match l,hl with
  | [z0,z1,z2,z3],_=>exact ⟨z0,z1,z2,z3,rfl⟩
 show (Instr.build 74 #[(0,.agg #[i64 z0,i64 z1,i64 z2,i64 z3]),(1,v1),(3,v3)]).run Tryz.prog w=.ok (.agg #[i64 z0,i64 z1,i64 z2,i64 z3,v1,(.pointer none),v3,(.slice none 0 0)]) w
 unfold Instr.build
 simp only [Sem.run_bind,zeroSt,Result.andThen_ok,run_underlying Tryz.underlying74]
 have hfill:Instr.fill (fun i=>([((0:Nat),(4:Nat)),((4:Nat),(1:Nat)),((5:Nat),(1:Nat)),((6:Nat),(1:Nat)),((7:Nat),(1:Nat))]:List (Nat×Nat))[i]?) #[(i64 0),(i64 0),(i64 0),(i64 0),(.pointer none),(.pointer none),(.slice none 0 0),(.slice none 0 0)] [(0,.agg #[i64 z0,i64 z1,i64 z2,i64 z3]),(1,v1),(3,v3)]=some #[i64 z0,i64 z1,i64 z2,i64 z3,v1,(.pointer none),v3,(.slice none 0 0)]:=by simp [Instr.fill,cells_agg,hv1,hv3]
 simp [Tryz.sizeOf25,Tryz.sizeOf27,Tryz.sizeOf29,Tryz.sizeOf35,Tryz.sizeOf70,cells_agg,hfill]
end Gk

/- Maps from numbers to bools: made, written, read, counted. No condition. -/
namespace Gk
open Go Go.RowKit
section
variable {P : Program} {f : Nat → Value} {w : World} {o : Oper} {x y z : Operand} {t kt et : TypeId} {g : Nat} {m : List (Int × Bool)} {k : Int} {b : Bool}
end
end Gk

/- Maps from numbers to bytes: made, written, read, counted. No condition. -/
namespace Gk
open Go Go.RowKit
section
variable {P : Program} {f : Nat → Value} {w : World} {o : Oper} {x y z : Operand} {t kt et : TypeId} {g : Nat} {m : List (Int × UInt8)} {k : Int} {b : UInt8}
end
end Gk

/- Printed by gen.py: for each Go function a pure function, and that the Go code comes to it. No condition beside the equation that says what the pure function gives. -/
namespace Gk
open Go Go.Proofs
noncomputable def zcd (b:List UInt8) (c:List UInt8):Option Bool :=
(if (b.length:Int)=(c.length:Int) then
((iterC (fun a:Int =>
(if a<(b.length:Int) then
((idx b a).bind fun d =>
((idx c a).bind fun e =>
(if d=e then some (.inl (wI (a+1)))
else some (.inr (.inr false)))))
else some (.inr (.inl ())))) 0).bind (Sum.elim (fun g => some true) (fun f=>some f)))
else some false)
theorem zf1 (j:List UInt8) (r:List UInt8) (f:Value) (h:Value) (w:Bool) (w0:World) (i:By w0 [] f j) (m:By w0 [] h r) (b:zcd j r=some w) :
  Calls Tryz.prog 70 [f,h].toArray w0 (fun C F=>C=.returned (.bool w)/\Ext w0 F):=by
 have g:Ext w0 w0:=Ext.refl w0;unfold zcd at b;refine zaj (n:=26) Tryz.func70 V V V<|W_sr<|av (.bool false) V V<|wnt<|W_seq<|W_sr<|mv f V V<|wa V (q_len V T22.sl V (i.lift (le_ g)))<|mv h V V<|wa V (q_len V T22.sl V (m.lift (le_ g)))<|wa V (q_neI V V V)<|wnt<|zal _ V V (fun k=>?_) (fun k=>?_)
 ·replace b:=(if_neg (zbd k)).symm.trans b;refine W_sr<|av (.bool false) V V<|wnt<|W_ret<|th_r<|?_;obtain rfl:=osi b;refine rt1 (.bool false) V V V V ?_;exact ⟨rfl,g⟩
 replace b:=(if_pos (zbc k)).symm.trans b;refine zag<|W_th<|W_seq<|W_sr<|mv f V V<|wa V (q_len V T22.sl V (i.lift (le_ g)))<|mv (i64 0) V V<|wnt ?_;obtain ⟨H,B,b⟩:=bsi b;refine W_mid (fun c q=>∃ A,H=.inl A/\c 26=undef/\Ext w0 q) ?_ ?_
 ·refine zad<|za9 (fun d c q=>c 0=f/\c 1=h/\c 12=i64 (j.length:Int)/\c 13=i64 d/\c 26=undef/\Ext w0 q) B ?_ ?_
  ·exact ⟨rfl,rfl,rfl,rfl,rfl,g⟩
  rintro d _ _ G ⟨x,z,y,o,p,s⟩ a v;refine W_sr<|wa V (q_ltI V o y)<|wnt<|W_seq<|wci a V V (fun a=>?_) (fun a=>?_)
  ·refine zag<|W_th<|W_seq<|zad<|W_sr<|mv (i64 d) V o<|av (i64 d) V V<|wnt<|W_seq<|zbi [3,7] [(0,0),(1,0),(2,0),(3,1),(4,0),(5,0),(6,0),(7,1),(8,0)] mixed (by kernel_rfl) (by kernel_rfl) (by kernel_rfl) (by kernel_rfl) ?_;have I:=Ext.drew G;have e:=s.trans I;refine sv f V V x<|sv (i64 d) V V V<|bse a fun J t a=>sa V V (q_adr V T22 V V (i.lift (le_ e)) t)<|sq V V (zaz V T22 V (i.lift (le_ e)) t)<|sv h V V z<|sv (i64 d) V V V<|bse a fun K u a=>sa V V (q_adr V T22 V V (m.lift (le_ e)) u)<|sq V V (zaz V T22 V (m.lift (le_ e)) u)<|sa V V (q_ne8 V V V)<|zax<|W_th<|zal _ V V (fun l=>?_) (fun l=>?_)
   ·replace a:=(if_neg (zbd l)).symm.trans a;refine W_sr<|av (.bool false) V V<|wnt<|W_ret<|bk_r<|th_r<|?_;obtain rfl:=osi a;obtain rfl:=v _ rfl;simp only [Sum.elim_inr] at b;refine th_r<|bk_r<|th_r<|th_r<|?_;obtain rfl:=osi b;refine rt1 (.bool false) V V V p ?_;exact ⟨rfl,e⟩
   replace a:=(if_pos (zbc l)).symm.trans a;refine zag<|bk_n<|W_th<|W_rg<|wa V (zar V o V)<|mv (i64 (wI (d+1))) V V<|zam<|?_;obtain rfl:=osi a;exact ⟨_,rfl,x,z,y,rfl,p,e⟩
  refine za1<|th_x<|?_;obtain rfl:=osi a;obtain rfl:=v _ rfl;refine th_x<|bk_x<|?_;exact ⟨_,rfl,p,s⟩
 rintro _ L ⟨A,rfl,E,D⟩;simp only [Sum.elim_inl] at b;refine W_th<|W_sr<|av (.bool true) V V<|wnt<|W_ret<|?_;obtain rfl:=osi b;refine rt1 (.bool true) V V V E ?_;exact ⟨rfl,D⟩
noncomputable def zg2 (c:Option (Bool×List UInt8×List (List UInt8)×List Int)) (d:UInt8):Option (List UInt8) :=
(if c.isNone=true then some ([]:List UInt8)
else
((c).bind fun a =>
((zc3 a.1 a.2.1 d).bind fun j =>
((idx a.2.2.1 0).bind fun g =>
((makeL (g.length:Int) (0:UInt8)).bind fun h =>
((iterC (fun b:List UInt8×Int =>
(if b.2<(a.2.2.1.length:Int) then
((idx a.2.2.1 b.2).bind fun e =>
((idx j.1 b.2).bind fun f =>
((zc2 a.1 b.1 f e).bind fun i => some (.inl (i,wI (b.2+1))))))
else some (.inr b.1))) (h,0)).bind fun k => some k))))))
theorem zey (T:Option (Bool×List UInt8×List (List UInt8)×List Int)) (p:UInt8) (f:Value) (a4:List UInt8) (w0:World) (Z:RcMd w0 [] f T) (a:zg2 T p=some a4) :
  Calls Tryz.prog 38 [f,u8 p].toArray w0 (fun aI aD=>∃ P:Value,aI=.returned P/\Ext w0 aD/\Nw w0 P/\OwK (Sc u8) aD [] 5 P a4):=by
 have M:Ext w0 w0:=Ext.refl w0;unfold zg2 at a;refine zaj (n:=56) Tryz.func38 V V V<|W_sr<|av (.slice none 0 0) V V<|wnt<|W_seq<|W_sr<|mv f V V<|wa V (q_eqRMd V V V V (Z.lift (le_ M)))<|wnt<|zal _ V V (fun N=>?_) (fun N=>?_)
 ·replace a:=(if_pos N).symm.trans a;refine W_sr<|av (.slice none 0 0) V V<|wnt<|W_ret<|th_r<|?_;obtain rfl:=osi a;refine rt1 (.slice none 0 0) V V V V ?_;exact ⟨.slice none 0 0,rfl,M,Nw.nil _,OwK.nil _ _ _ _⟩
 replace a:=(if_neg (ne_true_of_eq_false N)).symm.trans a;refine zag<|W_th<|W_seq<|zbi [3,7] [(0,0),(1,0),(2,0),(3,1),(4,0),(5,0),(6,0),(7,1),(8,0),(9,2),(10,0),(11,0),(12,0),(13,0),(14,0)] mixed (by kernel_rfl) (by kernel_rfl) (by kernel_rfl) (by kernel_rfl) ?_;have bB:=Ext.drew w0;have r:=M.trans bB;refine sv f V V V ?_;obtain ⟨B,aO,a⟩:=bsi a;obtain ⟨e,l,Q,S,bH,x,t,a0,aU,w,bF⟩:=RcMd.some Z aO;refine sa V V (zbe (g:=e) (m:=0) V (Eq.trans V x))<|sa V V (zdk (g:=e) (m:=0) (d:=0) V fieldAtMd0 V)<|sq V V (zan (u:=l) V Tryz.isAgg27 V (t.ext r) V)<|sv f V V V<|sa V V (zbe (g:=e) (m:=0) V (Eq.trans V x))<|sa V V (zdk (g:=e) (m:=0) (d:=1) V fieldAtMd1 V)<|sq V V (zan (u:=Q) V Tryz.isAgg22 V (t.ext r) V)<|sv (u8 p) V V V<|?_;obtain ⟨y,aT,a⟩:=bsi a;refine wsc V (by kernel_rfl) V V (zab (vs:=[l,Q,u8 p]) Tryz.func71 V V V (ar3 V V V) (ze2 B.1 B.2.1 p l Q y _ (a0.lift (le_ r)) (aU.lift (le_ r)) aT) ?_);rintro _ b9 ⟨j,rfl,bC,aZ,b3⟩;refine ⟨_,rfl,?_⟩;have O:By b9 [] j y.1:=OwK.slk (Sc.stab _) _ (OwK.scal b3 (j::[])) (fun a1 aQ=>(Old.nil _) a1 (aZ a1 aQ)) (fun _ s=>s.2);have k:=r.trans bC;refine sv (.tuple #[j,i64 y.2]) V V V<|sa V V (zac V V V)<|sa V V (zac V V V)<|sa V V (zaq (v:=j) V V)<|sa V V (zaq (v:=i64 y.2) V V)<|zax<|W_th<|W_sr<|mv f V V<|wa V (zbe (g:=e) (m:=0) V (Eq.trans V x))<|wa V (zdk (g:=e) (m:=0) (d:=2) V zh5 V)<|wq V (zan (u:=S) V Tryz.isAgg29 V (t.ext k) V)<|bse a fun bD Y a=>wa V (q_adr V T29 V V (w.lift (le_ k)) Y)<|zdi V V V T29 V w Y k (fun bI aN=>?_);refine wa V (q_len V T22.sl V (aN.lift (le_ k))) ?_;obtain ⟨bE,aP,a⟩:=bsi a;refine wls V V (zbm (L:=[]) (R:=Sc u8) V T22 V V aP (fun _ _=>rfl) ?_);intro aC bK b4 a3 aK bG;have aF:=zaa aK;replace O:=O.lift (Lift.call _ aF a3);have aX:=Nw.ext k a3;have K:=k.trans aF;refine av aC V V ?_
 refine wnt<|W_seq<|W_sr<|mv f V V<|wa V (zbe (g:=e) (m:=0) V (Eq.trans V x))<|wa V (zdk (g:=e) (m:=0) (d:=2) V zh5 V)<|wq V (zan (u:=S) V Tryz.isAgg29 V (t.ext K) V)<|wa V (q_len V T29.sl V (w.lift (le_ K)))<|mv (i64 0) V V<|wnt<|?_;obtain ⟨bA,aG,a⟩:=bsi a;refine W_mid (fun c o=>∃ I:Value,c 7=I/\c 56=undef/\Ext w0 o/\OwK (Sc u8) o [I] 5 I bA/\Nw w0 I) ?_ ?_
 ·refine zad<|za9 (fun h c o=>∃ A:Value,c 0=f/\c 5=j/\c 7=A/\c 36=S/\c 37=i64 (B.2.2.1.length:Int)/\c 38=i64 h.2/\c 56=undef/\Ext w0 o/\OwK (Sc u8) o [A] 5 A h.1/\Nw w0 A/\By o [A] j y.1) aG ?_ ?_
  ·exact ⟨aC,rfl,rfl,rfl,rfl,rfl,rfl,rfl,K,b4,aX,O⟩
  rintro h _ _ b7 ⟨z,a6,aA,aB,a7,a8,E,a9,C,D,aV,i⟩ b aR;refine W_sr<|wa V (q_ltI V E a8)<|wnt<|W_seq<|wci b V V (fun b=>?_) (fun b=>?_)
  ·refine zag<|W_th<|W_seq<|zad<|W_sr<|mv (i64 h.2) V E<|bse b fun aH W b=>wa V (q_adr V T29 a7 E (w.lift (le_ C)) W)<|zdi V V V T29 V w W C (fun F aM=>?_);refine av (i64 h.2) V V<|av F V V<|wnt<|zbi [3,8] [(0,0),(1,0),(2,0),(3,1),(4,0),(5,0),(6,0),(7,0),(8,1),(9,0),(10,2),(11,0)] mixed (by kernel_rfl) (by kernel_rfl) (by kernel_rfl) (by kernel_rfl) ?_;have J:=Ext.drew b7;replace i:=i.lift (le_ J);replace D:=D.extL (Sc.stab _) J (le_ J);have q:=C.trans J;refine sv f V V a6<|sa V V (zbe (g:=e) (m:=0) V (Eq.trans V x))<|sa V V (zdk (g:=e) (m:=0) (d:=0) V fieldAtMd0 V)<|sq V V (zan (u:=l) V Tryz.isAgg27 V (t.ext q) V)<|sv z V V aB<|sv j V V aA<|sv (i64 h.2) V V V<|bse b fun U X b=>sa V V (q_adr V T22 V V i X)<|sq V V (zaz V T22 V i X)<|sv F V V V<|?_;obtain ⟨a5,aS,b⟩:=bsi b;refine wsc V (by kernel_rfl) V V (zab (vs:=[l,z,u8 U,F]) Tryz.func72 V V V (ar4 V V V V) (zdd B.1 h.1 U aH l z F a5 _ (a0.lift (le_ q)) (D.rd (Sc.stab _)) (aM.lift (le_ q)) aS) ?_);rintro _ b8 ⟨G,rfl,aE,a2,b2⟩;refine ⟨_,rfl,?_⟩;have b1:OwK (Sc u8) b8 (G::[z]) 5 G a5:=OwK.scal b2 _;replace i:=i.lift (Lift.call _ aE a2);have aY:=Nw.ext q a2;have aJ:=q.trans aE;refine sa V V (zaq (v:=G) V V)<|zax<|bk_n<|W_th<|W_rg<|wa V (zar V E V)<|mv (i64 (wI (h.2+1))) V V<|zam<|?_;obtain rfl:=osi b;exact ⟨_,rfl,G,a6,aA,rfl,a7,a8,rfl,a9,aJ,b1.weak (Sc.stab _) (fun _ s=>⟨s.1,trivial⟩),aY,i.lift (Lift.sub (fun _ s=>⟨s.1,trivial⟩))⟩
  refine za1<|th_x<|?_;obtain rfl:=osi b;obtain rfl:=aR _ rfl;refine th_x<|bk_x<|?_;exact ⟨z,aB,a9,C,D,aV⟩
 rintro _ bJ ⟨H,b6,b5,aL,b0,aW⟩;refine W_th<|W_sr<|mv H V b6<|av H V V<|wnt<|W_ret<|?_;obtain rfl:=osi a;refine rt1 H V V V b5 ?_;exact ⟨H,rfl,aL,aW,b0.weak (Sc.stab _) (fun _ _=>trivial)⟩
noncomputable def mend_odd (d:Option (Bool×List UInt8×List (List UInt8)×List Int)) (e:List UInt8) (f:List (List UInt8)):Option (List Int) :=
((idx f 0).bind fun i =>
((makeL (i.length:Int) false).bind fun o =>
((d).bind fun r =>
((iterC (fun c:List Bool×Int =>
(if c.2<(e.length:Int) then
((idx e c.2).bind fun j =>
((zg2 d j).bind fun g =>
((iterC (fun a:List Bool×Int =>
(if a.2<(g.length:Int) then
((idx g a.2).bind fun k =>
((idx a.1 a.2).bind fun l =>
(if l=true then some (.inl (a.1.set (a.2:Int).toNat true,wI (a.2+1)))
else
((idx f c.2).bind fun m =>
((idx m a.2).bind fun n => some (.inl (a.1.set (a.2:Int).toNat (!decide (k=n)),wI (a.2+1))))))))
else some (.inr a.1))) (c.1,0)).bind fun s => some (.inl (s,wI (c.2+1))))))
else some (.inr c.1))) (o,(r.2.1.length:Int))).bind fun h =>
((iterC (fun b:List Int×Int =>
(if b.2<(h.length:Int) then
((idx h b.2).bind fun p =>
(if p=true then
((appL b.1 ([b.2]:List Int)).bind fun q => some (.inl (q,wI (b.2+1))))
else some (.inl (b.1,wI (b.2+1)))))
else some (.inr b.1))) (([]:List Int),0)).bind fun t => some t)))))
theorem mend_odd_calls (Y:Option (Bool×List UInt8×List (List UInt8)×List Int)) (aN:List UInt8) (aO:List (List UInt8)) (r:Value) (x:Value) (y:Value) (b7:List Int) (w0:World) (b1:RcMd w0 [] r Y) (a5:By w0 [] x aN) (O:Rw w0 [] y aO) (i:mend_odd Y aN aO=some b7) :
  Calls Tryz.prog 67 [r,x,y].toArray w0 (fun bJ bD=>∃ aJ:Value,bJ=.returned aJ/\Ext w0 bD/\Nw w0 aJ/\OwK (Sc i64) bD [] 3 aJ b7):=by
 have F:Ext w0 w0:=Ext.refl w0;unfold mend_odd at i;refine zaj (n:=75) Tryz.func67 V V V<|W_sr<|av (.slice none 0 0) V V<|wnt<|W_sr<|av (.slice none 0 0) V V<|wnt<|W_sr<|mv y V V<|bse i fun dA aV i=>wa V (q_adr V T29 V V (O.lift (le_ F)) aV)<|zdi V V V T29 V O aV F (fun dM bW=>?_);refine wa V (q_len V T22.sl V (bW.lift (le_ F))) ?_;obtain ⟨dC,bX,i⟩:=bsi i;refine wls V V (zbm (L:=[]) (R:=Sc bl) V T124 V V bX (fun _ _=>rfl) ?_);intro b dS cN cE bQ dH;have d8:=zaa bQ;have cH:=Nw.ext F cE;have a0:=F.trans d8;refine av b V V<|wnt<|W_seq<|W_sr<|mv r V V<|?_;obtain ⟨bI,bZ,i⟩:=bsi i;obtain ⟨aT,dJ,d4,dK,dL,c5,bS,dE,c4,dF,dG⟩:=RcMd.some b1 bZ;refine wa V (zbe (g:=aT) (m:=0) V (Eq.trans V c5))<|wa V (zdk (g:=aT) (m:=0) (d:=1) V fieldAtMd1 V)<|wq V (zan (u:=d4) V Tryz.isAgg22 V (bS.ext a0) V)<|wa V (q_len V T22.sl V (c4.lift (le_ a0)))<|av (i64 (bI.2.1.length:Int)) V V<|wnt<|?_;obtain ⟨aM,bG,i⟩:=bsi i;refine W_mid (fun a c=>a 7=(.slice none 0 0)/\a 8=b/\a 75=undef/\Ext w0 c/\OwK (Sc bl) c [b] 4 b aM/\Nw w0 b) ?_ ?_
 ·refine zad<|za9 (fun p a c=>a 0=r/\a 1=x/\a 2=y/\a 7=(.slice none 0 0)/\a 8=b/\a 9=i64 p.2/\a 75=undef/\Ext w0 c/\OwK (Sc bl) c [b] 4 b p.1/\Nw w0 b) bG ?_ ?_
  ·exact ⟨rfl,rfl,rfl,rfl,rfl,rfl,rfl,a0,cN,cH⟩
  rintro p _ _ dX ⟨b8,a9,cU,bA,bB,aI,b9,z,I,b3⟩ j c3;refine W_seq<|W_sr<|mv (i64 p.2) V aI<|mv x V a9<|wa V (q_len V T22.sl V (a5.lift (le_ z)))<|wa V (q_ltI V V V)<|wnt<|wci j V V (fun j=>?_) (fun j=>?_)
  ·refine zag<|W_th<|W_seq<|zad<|W_sr<|mv r V b8<|mv x V a9<|mv (i64 p.2) V aI ?_;obtain ⟨aP,aW,j⟩:=bsi j;refine wa V (q_adr V T22 V V (a5.lift (le_ z)) aW)<|wq V (zaz V T22 V (a5.lift (le_ z)) aW)<|?_;obtain ⟨Q,c0,j⟩:=bsi j;refine wls V V (zab (vs:=[r,u8 aP]) Tryz.func38 V V V (ar2 V V) (zey Y aP r Q _ (b1.lift (le_ z)) c0) ?_);rintro _ d5 ⟨U,rfl,aL,cD,cK⟩;refine ⟨_,rfl,?_⟩;have b2:By d5 [b] U Q:=OwK.slk (Sc.stab _) _ (OwK.scal cK (U::[b])) (fun G a4=>(Old.cons (Old.nil _) I.lt) G (cD G a4)) (fun _ q=>q.2);replace I:=I.extL (Sc.stab _) aL (le_ aL);have bK:=z.trans aL;refine wa V (q_len V T22.sl V b2)<|mv (i64 0) V V<|wnt<|?_;obtain ⟨d7,bE,j⟩:=bsi j;refine W_mid (fun a c=>a 0=r/\a 1=x/\a 2=y/\a 7=(.slice none 0 0)/\a 8=b/\a 9=i64 p.2/\a 75=undef/\Ext w0 c/\OwK (Sc bl) c [b] 4 b d7/\Nw w0 b) ?_ ?_
   ·refine zad<|za9 (fun o a c=>a 0=r/\a 1=x/\a 2=y/\a 7=(.slice none 0 0)/\a 8=b/\a 9=i64 p.2/\a 35=U/\a 36=i64 (Q.length:Int)/\a 37=i64 o.2/\a 75=undef/\Ext w0 c/\OwK (Sc bl) c [b] 4 b o.1/\Nw w0 b/\By c [b] U Q) bE ?_ ?_
    ·exact ⟨b8,a9,cU,bA,bB,aI,rfl,rfl,rfl,b9,bK,I,b3,b2⟩
    rintro o _ _ dO ⟨a7,a8,S,aG,M,T,aA,aB,J,aE,t,w,H,s⟩ e c1;refine W_sr<|wa V (q_ltI V J aB)<|wnt<|W_seq<|wci e V V (fun e=>?_) (fun e=>?_)
    ·refine zag<|W_th<|W_seq<|zad<|W_sr<|mv (i64 o.2) V J<|bse e fun E aX e=>wa V (q_adr V T22 aA J s aX)<|wq V (zaz V T22 V s aX)<|av (i64 o.2) V V<|av (u8 E) V V<|wnt<|W_rg<|mv b V M<|mv (i64 o.2) V V<|?_;refine mv b V M<|mv (i64 o.2) V V<|bse e fun bH A e=>wa V (q_adr V T124 V V (w.rd (Sc.stab _)) A)<|wq V (zaz V T124 V (w.rd (Sc.stab _)) A)<|wlb V V (zau (v:=(.bool bH)) V V) (fun a2=>?_) (fun a2=>?_)
     ·replace e:=(if_pos a2).symm.trans e;refine wk V<|wk V<|wk V<|wk V<|wk V<|wk V<|wk V<|wk V<|wk V<|wa V (zao (v:=(.bool true)) V V V)<|wa V (q_adr V T124 V V (w.rd (Sc.stab _)) A)<|wln V V (zcp (R:=Sc bl) (u:=(.bool true)) (Sc.stab _) [] [] V T124 V V w (zfx true A) V V ?_);intro dP cL bO c7;replace s:=s.lift c7;have bL:=t.grown bO H;refine zam<|bk_n<|W_th<|W_rg<|wa V (zar V J V)<|mv (i64 (wI (o.2+1))) V V<|zam<|?_;obtain rfl:=osi e;exact ⟨_,rfl,a7,a8,S,aG,M,T,aA,aB,rfl,aE,bL,cL,H,s⟩
     replace e:=(if_neg (ne_true_of_eq_false a2)).symm.trans e;refine mv (u8 E) V V<|mv y V S<|mv (i64 p.2) V T<|bse e fun dB aY e=>wa V (q_adr V T29 V V (O.lift (le_ t)) aY)<|zdi V V V T29 V O aY t (fun dN aU=>?_);refine mv (i64 o.2) V V ?_;obtain ⟨Z,aZ,e⟩:=bsi e;refine wa V (q_adr V T22 V V (aU.lift (le_ t)) aZ)<|wq V (zaz V T22 V (aU.lift (le_ t)) aZ)<|wa V (q_ne8 V V V)<|wa V (zae (v:=(.bool (!decide (E=Z)))) V V V)<|wa V (q_adr V T124 V V (w.rd (Sc.stab _)) A)<|wln V V (zcp (R:=Sc bl) (u:=(.bool (!decide (E=Z)))) (Sc.stab _) [] [] V T124 V V w (zfx (!decide (E=Z)) A) V V ?_);intro dQ cM bP c8;replace s:=s.lift c8;have bM:=t.grown bP H;refine zam<|bk_n<|W_th<|W_rg<|wa V (zar V J V)<|mv (i64 (wI (o.2+1))) V V<|zam<|?_;obtain rfl:=osi e;exact ⟨_,rfl,a7,a8,S,aG,M,T,aA,aB,rfl,aE,bM,cM,H,s⟩
    refine za1<|th_x<|?_;obtain rfl:=osi e;obtain rfl:=c1 _ rfl;refine th_x<|bk_x<|?_;exact ⟨a7,a8,S,aG,M,T,aE,t,w,H⟩
   rintro _ dR ⟨cR,cS,cT,cY,d1,d3,cV,bT,cI,cA⟩;refine bk_n<|W_th<|W_rg<|mv (i64 p.2) V d3<|wa V (zar V V V)<|av (i64 (wI (p.2+1))) V V<|zam<|?_;obtain rfl:=osi j;exact ⟨_,rfl,cR,cS,cT,cY,d1,rfl,cV,bT,cI,cA⟩
  refine za1<|th_x<|?_;obtain rfl:=osi j;obtain rfl:=c3 _ rfl;refine th_x<|bk_x<|?_;exact ⟨bA,bB,b9,z,I,b3⟩
 rintro _ dT ⟨cZ,d2,cW,bU,b6,cB⟩;refine W_th<|W_seq<|W_sr<|mv b V d2<|wa V (q_len V T124.sl V (b6.rd (Sc.stab _)))<|mv (i64 0) V V<|wnt<|?_;obtain ⟨d9,bF,i⟩:=bsi i;refine W_mid (fun a c=>∃ X:Value,a 7=X/\a 75=undef/\Ext w0 c/\OwK (Sc i64) c [X] 3 X d9/\Nw w0 X) ?_ ?_
 ·refine zad<|za9 (fun f a c=>∃ D:Value,a 7=D/\a 61=b/\a 62=i64 (aM.length:Int)/\a 63=i64 f.2/\a 75=undef/\Ext w0 c/\OwK (Sc i64) c [D,b] 3 D f.1/\Nw w0 D/\OwK (Sc bl) c [D,b] 4 b aM/\Nw w0 b/\Nq D b) bF ?_ ?_
  ·exact ⟨.slice none 0 0,cZ,rfl,rfl,rfl,cW,bU,OwK.nil _ _ _ _,Nw.nil _,b6.weak (Sc.stab _) (fun _ q=>⟨zgq,q.1,trivial⟩),cB,Nq.nil _⟩
  rintro f _ _ dU ⟨C,aH,aC,aD,K,aF,a1,B,P,k,b4,a6⟩ h c2;refine W_sr<|wa V (q_ltI V K aD)<|wnt<|W_seq<|wci h V V (fun h=>?_) (fun h=>?_)
  ·refine zag<|W_th<|W_seq<|zad<|W_sr<|mv (i64 f.2) V K<|bse h fun aQ b0 h=>wa V (q_adr V T124 aC K (k.rd (Sc.stab _)) b0)<|wq V (zaz V T124 V (k.rd (Sc.stab _)) b0)<|av (i64 f.2) V V<|av (.bool aQ) V V<|wnt<|W_sr<|mv (.bool aQ) V V<|wnt<|zal _ V V (fun a3=>?_) (fun a3=>?_)
   ·replace h:=(if_pos a3).symm.trans h;refine W_rg<|mv C V aH<|mv (i64 f.2) V V<|wls V V (zbt (L:=[C,b]) (R:=Sc i64) [i64 f.2] ([f.2]:List Int) V T35 V (by exact ⟨rfl,rfl,trivial⟩) V (litC i64 oneC_i64 (us:=[i64 f.2]) (l:=([f.2]:List Int)) V) V (litS i64 (us:=[i64 f.2]) (l:=([f.2]:List Int)) V) ?_);intro bC d6 cO cF bR dI;have N:=zaa bR;have c6:In d6 [C,b] bC ([f.2]:List Int):=OwK.slk (Sc.stab _) _ cO (fun G a4=>(Old.cons (Old.cons (Old.nil _) k.lt) B.lt) G (cF G a4)) (fun _ q=>q.2);replace B:=B.extL (Sc.stab _) N (le_ N);replace k:=k.extL (Sc.stab _) N (le_ N);have aR:=a1.trans N;obtain ⟨dD,bY,h⟩:=bsi h;refine wls V V (zbf (R:=Sc i64) (v:=C) (u:=bC) (Sc.stab _) [] [b] V T35 V V B c6 (fun _ _ q=>q) bY oc_i64 ?_);intro aK dV cP aS b5 c9;have cQ:Nq b aK:=k.nxt a6.symm b5;replace k:=k.other (Sc.stab _) aS a6.symm c9;have bN:=aR.grown aS P;have cG:=Nw.nxt aR P b5;refine av aK V V<|zam<|bk_n<|W_th<|W_rg<|wa V (zar V K V)<|mv (i64 (wI (f.2+1))) V V<|zam<|?_;obtain rfl:=osi h;exact ⟨_,rfl,aK,rfl,aC,aD,rfl,aF,bN,cP,cG,k,b4,cQ.symm⟩
   replace h:=(if_neg (ne_true_of_eq_false a3)).symm.trans h;refine zag<|bk_n<|W_th<|W_rg<|wa V (zar V K V)<|mv (i64 (wI (f.2+1))) V V<|zam<|?_;obtain rfl:=osi h;exact ⟨_,rfl,C,aH,aC,aD,rfl,aF,a1,B,P,k,b4,a6⟩
  refine za1<|th_x<|?_;obtain rfl:=osi h;obtain rfl:=c2 _ rfl;refine th_x<|bk_x<|?_;exact ⟨C,aH,aF,a1,B.weak (Sc.stab _) (fun _ q=>⟨q.1,trivial⟩),P⟩
 rintro _ dW ⟨W,d0,cX,bV,cJ,cC⟩;refine W_th<|W_sr<|mv W V d0<|av W V V<|wnt<|W_ret<|?_;obtain rfl:=osi i;refine rt1 W V V V cX ?_;exact ⟨W,rfl,bV,cC,cJ.weak (Sc.stab _) (fun _ _=>trivial)⟩
noncomputable def zgb (a:Option (Bool×List UInt8×List (List UInt8)×List Int)):Option (List Int) :=
(if a.isNone=true then some ([]:List Int)
else
((a).bind fun b =>
((zcq b.2.2.2).bind fun c => some c)))
theorem mend_Wrong_calls (j:Option (Bool×List UInt8×List (List UInt8)×List Int)) (e:Value) (o:List Int) (w0:World) (l:RcMd w0 [] e j) (a:zgb j=some o) :
  Calls Tryz.prog 37 [e].toArray w0 (fun s q=>∃ h:Value,s=.returned h/\Ext w0 q/\Nw w0 h/\OwK (Sc i64) q [] 3 h o):=by
 have b:Ext w0 w0:=Ext.refl w0;unfold zgb at a;refine zaj (n:=10) Tryz.func37 V V V<|W_sr<|av (.slice none 0 0) V V<|wnt<|W_seq<|W_sr<|mv e V V<|wa V (q_eqRMd V V V V (l.lift (le_ b)))<|wnt<|zal _ V V (fun f=>?_) (fun f=>?_)
 ·replace a:=(if_pos f).symm.trans a;refine W_sr<|av (.slice none 0 0) V V<|wnt<|W_ret<|th_r<|?_;obtain rfl:=osi a;refine rt1 (.slice none 0 0) V V V V ?_;exact ⟨.slice none 0 0,rfl,b,Nw.nil _,OwK.nil _ _ _ _⟩
 replace a:=(if_neg (ne_true_of_eq_false f)).symm.trans a;refine zag<|W_th<|W_sr<|mv e V V<|?_;obtain ⟨r,w,a⟩:=bsi a;obtain ⟨k,J,K,L,i,z,v,G,H,I,y⟩:=RcMd.some l w;refine wa V (zbe (g:=k) (m:=0) V (Eq.trans V z))<|wa V (zdk (g:=k) (m:=0) (d:=3) V fieldAtMd3 V)<|wq V (zan (u:=i) V Tryz.isAgg35 V (v.ext b) V)<|?_;obtain ⟨p,x,a⟩:=bsi a;refine wls V V (zab (vs:=[i]) Tryz.func42 V V V (ar1 V) (zd7 r.2.2.2 i p _ (y.lift (le_ b)) x) ?_);rintro _ E ⟨c,rfl,F,A,D⟩;refine ⟨_,rfl,?_⟩;have C:OwK (Sc i64) E (c::[]) 3 c p:=OwK.scal D _;have B:=Nw.ext b A;have t:=b.trans F;refine av c V V<|wnt<|W_ret<|?_;obtain rfl:=osi a;refine rt1 c V V V V ?_;exact ⟨c,rfl,t,B,C.weak (Sc.stab _) (fun _ _=>trivial)⟩
noncomputable def ze7 (a:List UInt8) (b:List (List UInt8)):Option Bool :=
((idx b 0).bind fun c => some (!decide ((a.length:Int)=(c.length:Int))))
theorem mend_Rows_1_calls (a0r:List UInt8) (b0:List (List UInt8)) (p0:Value) (gc0:Nat) (cv0:Value) (r:Bool) (w0:World) (hp0:By w0 [] p0 a0r) (hcB0:Blk w0 gc0 29 #[cv0]) (hcv0:Rw w0 [] cv0 b0) (H:ze7 a0r b0=some r) :
  Calls Tryz.prog 66 [p0,(bp gc0)].toArray w0 (fun e w'=>e=.returned (.bool r)/\Ext w0 w'):=by
 have hE:Ext w0 w0:=Ext.refl w0;unfold ze7 at H;refine zaj (n:=11) Tryz.func66 rfl rfl rfl ?_;refine W_seq<|W_rg<|av (.bool false) rfl rfl<|wnt<|W_seq<|W_rg<|mv p0 rfl rfl<|wa rfl (q_len rfl T22.sl rfl (hp0.lift (le_ hE)))<|?_;refine wq rfl (zan (u:=cv0) rfl Tryz.isAgg29 rfl (hcB0.ext hE) rfl) ?_;obtain ⟨c1,hc1,H⟩:=bsi H;refine wa rfl (q_adr rfl T29 rfl rfl (hcv0.lift (le_ hE)) hc1) ?_;refine zdi rfl rfl rfl T29 rfl hcv0 hc1 hE (fun v2 ha2=>?_);refine wa rfl (q_len rfl T22.sl rfl (ha2.lift (le_ hE)))<|wa rfl (q_neI rfl rfl rfl)<|av (.bool ((!decide ((a0r.length:Int)=(c1.length:Int))))) rfl rfl<|wnt<|W_ret<|?_;obtain rfl:=osi H;refine rt1 (.bool ((!decide ((a0r.length:Int)=(c1.length:Int))))) rfl rfl rfl rfl ?_;exact ⟨rfl,hE⟩
noncomputable def zev (c:Bool) (g:Int) (d:List UInt8) (b:List (List UInt8)) (j:Int):Option (Option (Bool×List UInt8×List (List UInt8)×List Int)×Int) :=
((zhn c g d (b.length:Int) j).bind fun m =>
(if m=0 then
((lim b.length).bind fun L =>
((anyO (fun J=>ze7 J b) b).bind fun E =>
(if E=true then some ((none:Option (Bool×List UInt8×List (List UInt8)×List Int)),3)
else
((subL d 0 g).bind fun q =>
((zah q).bind fun e =>
((subL b 0 g).bind fun k =>
((iterC (fun s21:List (List UInt8)×Int =>
(if s21.2<(k.length:Int) then
((idx k s21.2).bind fun t =>
((zah t).bind fun D =>
((appL s21.1 [D]).bind fun u => some (.inl (u,wI (s21.2+1))))))
else some (.inr s21.1))) (([]:List (List UInt8)),0)).bind fun o =>
((mend_odd (some (c,e,o,([]:List Int))) d b).bind fun n =>
((iterC (fun s52:List (List UInt8)×Int =>
(if s52.2<(n.length:Int) then
((idx n s52.2).bind fun h =>
((iterC (fun f:List UInt8×Int =>
(if f.2<(b.length:Int) then
((idx b f.2).bind fun v =>
((idx v h).bind fun w =>
((appL f.1 ([w]:List UInt8)).bind fun x => some (.inl (x,wI (f.2+1))))))
else some (.inr f.1))) (([]:List UInt8),0)).bind fun G =>
((zel c g d G j).bind fun i =>
(if i.2=0 then
((iterC (fun s76:List (List UInt8)×Int =>
(if s76.2<(e.length:Int) then
((idx e s76.2).bind fun y =>
((idx s76.1 s76.2).bind fun l =>
((zg0 c i.1 y).bind fun F =>
((idx l h).bind fun K => some (.inl (s76.1.set (s76.2:Int).toNat (l.set (h:Int).toNat F),wI (s76.2+1)))))))
else some (.inr s76.1))) (s52.1,0)).bind fun H => some (.inl (H,wI (s52.2+1))))
else some (.inr (.inr ((none:Option (Bool×List UInt8×List (List UInt8)×List Int)),i.2)))))))
else some (.inr (.inl s52.1)))) (o,0)).bind (Sum.elim (fun p =>
((iterC (fun a:List Int×Int =>
(if a.2<(d.length:Int) then
((idx d a.2).bind fun z =>
((idx b a.2).bind fun r =>
((zg2 (some (c,e,p,a.1)) z).bind fun B =>
((zcd B r).bind fun C =>
(if (!C)=true then
((appL a.1 ([a.2]:List Int)).bind fun s => some (.inl (s,wI (a.2+1))))
else some (.inl (a.1,wI (a.2+1))))))))
else some (.inr a.1))) (([]:List Int),0)).bind fun I => some (some (c,e,p,I),0))) (fun A=>some A)))))))))))
else some ((none:Option (Bool×List UInt8×List (List UInt8)×List Int)),m)))
theorem mend_Rows_calls (aK:Bool) (y:Int) (b0:List UInt8) (a4:List (List UInt8)) (I:Int) (o:Value) (t:Value) (s:Value) (dV:Option (Bool×List UInt8×List (List UInt8)×List Int)×Int) (w0:World) (j:List Value) (Z:Old w0 j) (aN:Fd w0 j o aK) (a8:By w0 [] t b0) (N:Rw w0 [] s a4) (k:zev aK y b0 a4 I=some dV) :
  Calls Tryz.prog 36 [o,i64 y,t,s,i64 I].toArray w0 (fun cW cT=>∃ h3:Value,cW=.returned (.tuple #[h3,i64 dV.2])/\Ext w0 cT/\RcMd cT j h3 dV.1):=by
 have d4:Ext w0 w0:=Ext.refl w0;unfold zev at k;refine zaj (n:=155) Tryz.func36 V V V<|W_sr<|wls V V (zb7 (v:=s) (cs:=#[s]) j V V (zci _ _ (N.lift (le_ d4))) ?_);intro e n6 J j5 i1 mR;have mH:=zaa i1;have jL:=Nw.ext d4 j5;have bV:=d4.trans mH;refine av (.pointer none) V V<|av (i64 0) V V<|wnt<|W_seq<|W_sr<|mv o V V<|mv (i64 y) V V<|mv t V V<|wq V (zan (u:=s) V Tryz.isAgg29 V J V)<|wa V (q_len V T29.sl V (N.lift (le_ bV)))<|mv (i64 I) V V<|?_;obtain ⟨b5,iG,k⟩:=bsi k;refine wls V V (zab (vs:=[o,i64 y,t,i64 (a4.length:Int),i64 I]) Tryz.func65 V V V (ar5 V V V V V) (mend_check_calls aK y b0 (a4.length:Int) I o t b5 _ ((aN.lift (Lift.sub (L':=[]) (fun _ _=>trivial))).lift (le_ bV)) (a8.lift (le_ bV)) iG) ?_);rintro _ nC ⟨rfl,hD⟩;refine ⟨_,rfl,?_⟩;replace J:=J.ext hD;have bW:=bV.trans hD;refine av (i64 b5) V V<|wnt<|W_sr<|mv (i64 b5) V V<|wa V (q_neI V V V)<|wnt<|zal _ V V (fun d7=>?_) (fun d7=>?_)
 ·replace k:=(if_neg (zbd d7)).symm.trans k;refine W_sr<|mv (i64 b5) V V<|av (.pointer none) V V<|av (i64 b5) V V<|wnt<|W_ret<|th_r<|?_;obtain rfl:=osi k;refine rt2 (.pointer none) (i64 b5) V V V V V V ?_;exact ⟨.pointer none,rfl,bW,RcMd.nil _ _⟩
 replace k:=(if_pos (zbc d7)).symm.trans k;refine zag<|W_th<|W_seq<|W_sr<|wq V (zan (u:=s) V Tryz.isAgg29 V J V)<|wa V (zfl (vs:=[bp e]) V (ar1 V))<|?_;obtain ⟨mW,iA,k⟩:=bsi k;obtain ⟨lA,iJ,k⟩:=bsi k;refine wls V V (zab (vs:=[s,(.func (.func 66) #[] [bp e].toArray)]) Tryz.func34 V V V (ar2 V V) (zb8 s a4 66 _ Tryz.func66 V V [bp e] (fun eB=>ze7 eB a4) lA _ (N.lift (le_ bW)) (zhm iA) iJ (fun eB _ b cT hG i6 u iO=>mend_Rows_1_calls eB a4 u e s b cT iO (J.ext hG) ((N.lift (le_ bW)).lift (le_ hG)) i6)) ?_);rintro _ nI ⟨rfl,hF⟩;refine ⟨_,rfl,?_⟩;replace J:=J.ext hF;have bF:=bW.trans hF;refine wnt<|zal _ V V (fun d9=>?_) (fun d9=>?_)
 ·replace k:=(if_pos d9).symm.trans k;refine W_sr<|av (.pointer none) V V<|av (i64 3) V V<|wnt<|W_ret<|th_r<|?_;obtain rfl:=osi k;refine rt2 (.pointer none) (i64 3) V V V V V V ?_;exact ⟨.pointer none,rfl,bF,RcMd.nil _ _⟩
 replace k:=(if_neg (ne_true_of_eq_false d9)).symm.trans k;refine zag<|W_th<|W_sr<|mv o V V<|mv t V V<|mv (i64 y) V V<|bse k fun hN eQ k=>wa V (zcr (a:=0) (b:=y) V T22 V (a8.lift (le_ bF)) V V eQ) ?_;obtain ⟨M,iD,k⟩:=bsi k;refine wls V V (zab (vs:=[subV t (0:Int).toNat (y:Int).toNat]) Tryz.func59 V V V (ar1 V) (zap hN (subV t (0:Int).toNat (y:Int).toNat) M _ (SlK.cut (L:=[]) (a8.lift (le_ bF)) eQ) iD) ?_);rintro _ m7 ⟨r,rfl,hB,j9,k2⟩;refine ⟨_,rfl,?_⟩;have c9:By m7 (bp e::j) r M:=OwK.slk (Sc.stab _) _ (OwK.scal k2 (r::(bp e::j))) (fun p B=>(Old.cons (Z.ext bF) J.ltB) p (j9 p B)) (fun _ h=>h.2);replace J:=J.ext hB;have cY:=bF.trans hB;refine wa V (q_buildS (ps:=#[(0,o),(1,r)]) V (by simp only [List.map_toArray,List.map_cons,List.map_nil];exact bs2 V V) (buildMd_0_1 o (zij ((aN.lift (Lift.sub (L':=[]) (fun _ _=>trivial))).lift (le_ cY))) r (zci _ _ c9))) ?_
 refine wls V V (zb7 (v:=(.agg #[o,r,.slice none 0 0,.slice none 0 0])) (cs:=#[o,r,.slice none 0 0,.slice none 0 0]) (bp e::j) V V V ?_);intro c m8 k3 dG i0 mT;have eA:=zaa i0;have kR:Nq (bp e) (bp c):=J.nq dG;replace J:=J.ext eA;have jA:=Nw.ext cY dG;have cZ:=cY.trans eA;have kS:Nq (bp c) (.tuple #[.slice none 0 0]):=nq_nilG _;have kT:Nq (bp e) (.tuple #[.slice none 0 0]):=nq_nilG _;replace c9:=(c9.lift (Lift.call _ eA dG)).lift (Lift.sub (L':=((.tuple #[.slice none 0 0])::bp c::bp e::j)) (fun _ h=>⟨nh_nilG,h⟩));have kI:OwD m8 22 5 (.tuple #[.slice none 0 0]) (.slice none 0 0) []:=OwD.nil _ _ _;have jV:Nw w0 (.tuple #[.slice none 0 0]):=nw_nilG _;refine av (bp c) V V<|wnt<|W_seq<|W_sr<|wq V (zan (u:=s) V Tryz.isAgg29 V J V)<|mv (i64 y) V V<|bse k fun hP c4 k=>wa V (zcr (a:=0) (b:=y) V T29 V (N.lift (le_ cZ)) V V c4)<|wa V (q_len V T29.sl V (SlK.cut (N.lift (le_ cZ)) c4))<|mv (i64 0) V V<|wnt<|?_;obtain ⟨hC,hH,k⟩:=bsi k;refine W_mid (fun f i=>∃ h9:Value,∃ bB:Value,f 0=o/\f 1=i64 y/\f 2=t/\f 4=i64 I/\f 8=bp e/\f 13=bp c/\f 155=undef/\Ext w0 i/\OwD i 22 5 bB h9 hC/\Nw w0 bB/\Blk i e 29 #[s]/\Nw w0 (bp e)/\Blk i c 96 #[o,r,h9,.slice none 0 0]/\Nw w0 (bp c)/\Nq bB (bp e)/\Nq bB (bp c)/\Nq (bp e) (bp c)/\By i (bB::bp e::bp c::j) r M) ?_ ?_
 ·refine zad<|za9 (fun cO f i=>∃ hA:Value,∃ bD:Value,f 0=o/\f 1=i64 y/\f 2=t/\f 4=i64 I/\f 8=bp e/\f 13=bp c/\f 49=subV s (0:Int).toNat (y:Int).toNat/\f 50=i64 (hP.length:Int)/\f 51=i64 cO.2/\f 155=undef/\Ext w0 i/\OwD i 22 5 bD hA cO.1/\Nw w0 bD/\Blk i e 29 #[s]/\Nw w0 (bp e)/\Blk i c 96 #[o,r,hA,.slice none 0 0]/\Nw w0 (bp c)/\Nq bD (bp e)/\Nq bD (bp c)/\Nq (bp e) (bp c)/\By i (bD::bp e::bp c::j) r M) hH ?_ ?_
  ·exact ⟨.slice none 0 0,(.tuple #[.slice none 0 0]),rfl,rfl,rfl,rfl,rfl,rfl,rfl,rfl,rfl,rfl,cZ,kI,jV,J,jL,k3,jA,kT.symm,kS.symm,kR,c9.lift (Lift.sub (fun _ h=>⟨h.1,h.2.2.1,h.2.1,h.2.2.2⟩))⟩
  rintro cO _ _ m9 ⟨e9,bC,fS,g8,gD,gK,gZ,cN,gJ,gO,e3,g1,c0,a1,dD,K,f5,Q,dI,dL,dO,dT,a0⟩ X iE;refine W_sr<|wa V (q_ltI V e3 gO)<|wnt<|W_seq<|wci X V V (fun X=>?_) (fun X=>?_)
  ·refine zag<|W_th<|W_seq<|zad<|W_sr<|bse X fun hQ eS X=>wa V (q_adr V T29 gJ e3 (SlK.cut (N.lift (le_ c0)) c4) eS)<|zdi V V V T29 V (SlK.cut N c4) eS c0 (fun cS i5=>?_);refine av cS V V<|wnt<|zbi [4] [(0,0),(1,0),(2,0),(3,0),(4,1),(5,0),(6,2),(7,2),(8,2),(9,0),(10,0),(11,2)] mixed (by kernel_rfl) (by kernel_rfl) (by kernel_rfl) (by kernel_rfl) ?_;have bR:=Ext.drew m9;replace a0:=a0.lift (le_ bR);replace a1:=a1.ext bR;replace K:=K.ext bR;replace Q:=Q.ext bR;have d0:=c0.trans bR;refine sv (bp c) V V cN<|sv (bp c) V V cN<|sa V V (zbe V V)<|sa V V (zdk (g:=c) (m:=0) (d:=2) V zh5 V)<|sq V V (zan (u:=e9) V Tryz.isAgg29 V Q V)<|sv cS V V V<|?_;obtain ⟨fR,iF,X⟩:=bsi X;refine wss V V V (zab (vs:=[cS]) Tryz.func59 V V V (ar1 V) (zap hQ cS fR _ (i5.lift (le_ d0)) iF) ?_);rintro _ mA ⟨T,rfl,b7,bH,k7⟩;refine ⟨_,rfl,b7,?_⟩;have bL:OwK (Sc u8) mA (T::(bC::bp e::bp c::j)) 5 T fR:=OwK.scal k7 _;have kZ:Nq bC T:=a1.nq bH;have l1:Nq (bp e) T:=K.nq bH;have l2:Nq (bp c) T:=Q.nq bH;replace a1:=a1.ext b7;replace K:=K.ext b7;replace Q:=Q.ext b7;have jM:=Nw.ext d0 bH;have eF:=d0.trans b7;refine wss V V V (zbt (L:=(T::bC::bp e::bp c::j)) (R:=Sc (fun x:Value=>x)) [T] [T] V T29 V (by exact ⟨rfl,rfl,trivial⟩) V (litV bL) V (fun _ _ _ _ _ _=>rfl) ?_);intro h6 mB kB jN eK mU;refine ⟨zaa eK,?_⟩;have aU:=zaa eK;have iV:SlK (Sc (fun x:Value=>x)) mB (T::bC::bp e::bp c::j) h6 [T]:=OwK.slk (Sc.stab _) _ kB (fun p B=>(Old.cons (Old.cons (Old.cons (Old.cons (Z.ext eF) Q.ltB) K.ltB) a1.ltB) bL.lt) p (jN p B)) (fun _ h=>h.2);replace a0:=(a0.lift (Lift.call _ b7 bH)).lift (le_ aU);replace bL:=bL.extL (Sc.stab _) aU (le_ aU);replace a1:=a1.ext aU;replace K:=K.ext aU;replace Q:=Q.ext aU;have eG:=eF.trans aU;obtain ⟨mM,i8,X⟩:=bsi X;refine wsc V (by kernel_rfl) V V (stp_appendD (x:=T) (u:=e9) (q:=h6) [T] (bp e::bp c::j) V T29 V V a1 iV bL kZ.symm i8 ?_)
   intro cV aX e8 nB cI d1 dJ c3 iZ;replace a0:=a0.lift iZ;have l3:Nq (bp e) cV:=K.nxt dL.symm dJ;have l4:Nq (bp c) cV:=Q.nxt dO.symm dJ;replace K:=K.other d1 dL.symm;replace Q:=Q.other d1 dO.symm;have hT:=eG.grown d1 dD;have jP:=Nw.nxt eG dD dJ;have l5:Nq (bp e) aX:=OwD.relist c3 l3 l1;have fQ:Nq (bp c) aX:=OwD.relist c3 l4 l2
   have jQ:Nw w0 aX:=fun p B=>(c3 p B).elim (jP p) (jM p)
   refine sa V V (zbe V V)<|sa V V (zdk (g:=c) (m:=0) (d:=2) V zh5 V)<|wsn V (by kernel_rfl) V V (stp_storeR (u:=e8) (cs':=#[o,r,e8,.slice none 0 0]) [aX,bp e] j V Tryz.sizeOf29 V V Q (Nat.le_of_ble_eq_true V) (oc_sl _ _ _ _ cI.rd) V ?_);intro nD kC d2 j0;replace a0:=(a0.lift (Lift.sub (show ∀ p,Av (T::cV::bp e::bp c::j) p->Av (aX::bp e::bp c::j) p from fun _ h=>⟨(fun cW=>(c3 _ cW).elim h.2.1 h.1),h.2.2.1,h.2.2.2.1,h.2.2.2.2⟩))).lift j0;replace cI:=cI.other d2 fQ.symm;replace K:=K.other d2 dT;have hU:=hT.grown d2 dI;refine zax<|bk_n<|W_th<|W_rg<|wa V (zar V e3 V)<|mv (i64 (wI (cO.2+1))) V V<|zam<|?_;obtain rfl:=osi X;exact ⟨_,rfl,e8,aX,fS,g8,gD,gK,gZ,cN,gJ,gO,rfl,g1,hU,cI,jQ,K,f5,kC,dI,l5.symm,fQ.symm,dT,a0⟩
  refine za1<|th_x<|?_;obtain rfl:=osi X;obtain rfl:=iE _ rfl;refine th_x<|bk_x<|?_;exact ⟨e9,bC,fS,g8,gD,gK,gZ,cN,g1,c0,a1,dD,K,f5,Q,dI,dL,dO,dT,a0⟩
 rintro _ nE ⟨E,cU,lC,lO,gE,lT,h0,fX,lJ,bG,bI,j2,bK,jC,bM,jH,kJ,kM,kU,c6⟩;refine W_th<|W_seq<|W_sr<|mv (bp c) V fX<|mv t V gE<|wq V (zan (u:=s) V Tryz.isAgg29 (by exact h0) bK V)<|?_;obtain ⟨U,iH,k⟩:=bsi k;refine wls V V (zab (vs:=[bp c,t,s]) Tryz.func67 V V V (ar3 V V V) (mend_odd_calls (some (aK,M,hC,([]:List Int))) b0 a4 (bp c) t s U _ (RcMd.mk bM trivial ((aN.lift (Lift.sub (L':=[]) (fun _ _=>trivial))).lift (le_ bG)) (c6.lift (Lift.sub (L':=[]) (fun _ _=>trivial))) bI.rd (SlK.nil _ _ _)) (a8.lift (le_ bG)) (N.lift (le_ bG)) iH) ?_);rintro _ mC ⟨W,rfl,bS,jR,kD⟩;refine ⟨_,rfl,?_⟩;have f1:In mC (cU::bp e::bp c::j) W U:=OwK.slk (Sc.stab _) _ (OwK.scal kD (W::(cU::bp e::bp c::j))) (fun p B=>(Old.cons (Old.cons (Old.cons (Z.ext bG) bM.ltB) bK.ltB) bI.ltB) p (jR p B)) (fun _ h=>h.2);replace c6:=c6.lift (le_ bS);replace bI:=bI.ext bS;replace bK:=bK.ext bS;replace bM:=bM.ext bS;have hV:=bG.trans bS;refine wa V (q_len V T35.sl V f1)<|mv (i64 0) V V<|wnt<|?_;obtain ⟨mI,hI,k⟩:=bsi k;refine W_mid (fun f i=>∃ b9,mI=.inl b9/\∃ bA:Value,f 2=t/\f 8=bp e/\f 13=bp c/\f 155=undef/\Ext w0 i/\OwD i 22 5 bA E b9/\Nw w0 bA/\Blk i e 29 #[s]/\Nw w0 (bp e)/\Blk i c 96 #[o,r,E,.slice none 0 0]/\Nw w0 (bp c)/\Nq bA (bp e)/\Nq bA (bp c)/\Nq (bp e) (bp c)/\By i (bA::bp e::bp c::j) r M) ?_ ?_
 ·refine zad<|za9 (fun a3 f i=>∃ aZ:Value,f 0=o/\f 1=i64 y/\f 2=t/\f 4=i64 I/\f 8=bp e/\f 13=bp c/\f 70=W/\f 71=i64 (U.length:Int)/\f 72=i64 a3.2/\f 155=undef/\Ext w0 i/\OwD i 22 5 aZ E a3.1/\Nw w0 aZ/\Blk i e 29 #[s]/\Nw w0 (bp e)/\Blk i c 96 #[o,r,E,.slice none 0 0]/\Nw w0 (bp c)/\Nq aZ (bp e)/\Nq aZ (bp c)/\Nq (bp e) (bp c)/\By i (aZ::bp e::bp c::j) r M/\In i (aZ::bp e::bp c::j) W U) hI ?_ ?_
  ·exact ⟨cU,lC,lO,gE,lT,h0,fX,rfl,rfl,rfl,lJ,hV,bI,j2,bK,jC,bM,jH,kJ,kM,kU,c6,f1⟩
  rintro a3 _ _ nF ⟨w,lD,lP,gF,lU,e6,fY,gP,gS,e4,g2,d5,fE,f4,dK,f6,fG,f9,fH,fI,fK,f0,dA⟩ C eZ;refine W_sr<|wa V (q_ltI V e4 gS)<|wnt<|W_seq<|wci C V V (fun C=>?_) (fun C=>?_)
  ·refine zag<|W_th<|W_seq<|zad<|W_sr<|bse C fun b1 eT C=>wa V (q_adr V T35 gP e4 dA eT)<|wq V (zaz V T35 V dA eT)<|av (i64 b1) V V<|wnt<|W_sr<|av (.slice none 0 0) V V<|wnt<|?_;refine W_seq<|W_sr<|wq V (zan (u:=s) V Tryz.isAgg29 (by exact e6) dK V)<|wa V (q_len V T29.sl V (N.lift (le_ d5)))<|mv (i64 0) V V<|wnt<|?_;obtain ⟨hE,hJ,C⟩:=bsi C;refine W_mid (fun f i=>∃ a7:Value,f 0=o/\f 1=i64 y/\f 2=t/\f 4=i64 I/\f 8=bp e/\f 13=bp c/\f 17=i64 b1/\f 18=a7/\f 70=W/\f 71=i64 (U.length:Int)/\f 72=i64 a3.2/\f 155=undef/\Ext w0 i/\OwK (Sc u8) i (a7::w::bp e::bp c::j) 5 a7 hE/\Nw w0 a7/\OwD i 22 5 w E a3.1/\Nw w0 w/\Blk i e 29 #[s]/\Nw w0 (bp e)/\Blk i c 96 #[o,r,E,.slice none 0 0]/\Nw w0 (bp c)/\Nq a7 w/\Nq a7 (bp e)/\Nq a7 (bp c)/\Nq w (bp e)/\Nq w (bp c)/\Nq (bp e) (bp c)/\By i (a7::w::bp e::bp c::j) r M/\In i (a7::w::bp e::bp c::j) W U) ?_ ?_
   ·refine zad<|za9 (fun cP f i=>∃ a6:Value,f 0=o/\f 1=i64 y/\f 2=t/\f 4=i64 I/\f 8=bp e/\f 13=bp c/\f 17=i64 b1/\f 18=a6/\f 70=W/\f 71=i64 (U.length:Int)/\f 72=i64 a3.2/\f 76=s/\f 77=i64 (a4.length:Int)/\f 78=i64 cP.2/\f 155=undef/\Ext w0 i/\OwK (Sc u8) i (a6::w::bp e::bp c::j) 5 a6 cP.1/\Nw w0 a6/\OwD i 22 5 w E a3.1/\Nw w0 w/\Blk i e 29 #[s]/\Nw w0 (bp e)/\Blk i c 96 #[o,r,E,.slice none 0 0]/\Nw w0 (bp c)/\Nq a6 w/\Nq a6 (bp e)/\Nq a6 (bp c)/\Nq w (bp e)/\Nq w (bp c)/\Nq (bp e) (bp c)/\By i (a6::w::bp e::bp c::j) r M/\In i (a6::w::bp e::bp c::j) W U) hJ ?_ ?_
    ·exact ⟨.slice none 0 0,lD,lP,gF,lU,e6,fY,rfl,rfl,gP,gS,e4,rfl,rfl,rfl,g2,d5,OwK.nil _ _ _ _,Nw.nil _,fE,f4,dK,f6,fG,f9,Nq.nil _,Nq.nil _,Nq.nil _,fH,fI,fK,f0.lift (Lift.sub (fun _ h=>⟨zgq,h.1,h.2.1,h.2.2.1,h.2.2.2⟩)),dA.lift (Lift.sub (fun _ h=>⟨zgq,h.1,h.2.1,h.2.2.1,h.2.2.2⟩))⟩
    rintro cP _ _ nG ⟨bP,fT,g9,gG,gL,h1,fZ,e2,g7,gQ,gT,gV,gX,gY,e5,g3,aM,bJ,dE,aA,f7,aB,fA,aC,fD,dM,dP,dS,fL,fO,fP,c7,cA⟩ Y iI;refine W_sr<|wa V (q_ltI V e5 gY)<|wnt<|W_seq<|wci Y V V (fun Y=>?_) (fun Y=>?_)
    ·refine zag<|W_th<|W_seq<|zad<|W_sr<|bse Y fun mN eU Y=>wa V (q_adr V T29 gX e5 (N.lift (le_ aM)) eU)<|zdi V V V T29 V N eU aM (fun h7 eP=>?_);refine av h7 V V<|wnt<|W_rg<|mv bP V g7<|mv h7 V V<|mv (i64 b1) V e2<|bse Y fun aL eV Y=>wa V (q_adr V T22 V V (eP.lift (le_ aM)) eV)<|wq V (zaz V T22 V (eP.lift (le_ aM)) eV)<|wls V V (zbt (L:=(bP::w::bp e::bp c::j)) (R:=Sc u8) [u8 aL] ([aL]:List UInt8) V T22 V (by exact ⟨rfl,rfl,trivial⟩) V (litC u8 zdu (us:=[u8 aL]) (l:=([aL]:List UInt8)) V) V (litS u8 (us:=[u8 aL]) (l:=([aL]:List UInt8)) V) ?_);intro h8 mD kE jS i2 mV;have aH:=zaa i2;have iW:By mD (bP::w::bp e::bp c::j) h8 ([aL]:List UInt8):=OwK.slk (Sc.stab _) _ kE (fun p B=>(Old.cons (Old.cons (Old.cons (Old.cons (Z.ext aM) aC.ltB) aB.ltB) aA.ltB) bJ.lt) p (jS p B)) (fun _ h=>h.2);replace bJ:=bJ.extL (Sc.stab _) aH (le_ aH);replace aA:=aA.ext aH;replace aB:=aB.ext aH;replace aC:=aC.ext aH;have eH:=aM.trans aH;obtain ⟨mO,i9,Y⟩:=bsi Y;refine wls V V (zbf (R:=Sc u8) (v:=bP) (u:=h8) (Sc.stab _) [] (w::bp e::bp c::j) V T22 V V bJ iW (fun _ _ h=>h) i9 oc_u8 ?_);intro bQ nH kF bZ cE f3;replace c7:=(c7.lift (le_ aH)).lift f3;replace cA:=(cA.lift (le_ aH)).lift f3;have l6:Nq w bQ:=aA.nxt dM.symm cE;have l7:Nq (bp e) bQ:=aB.nxt dP.symm cE;have l8:Nq (bp c) bQ:=aC.nxt dS.symm cE;replace aA:=aA.other bZ dM.symm;replace aB:=aB.other bZ dP.symm;replace aC:=aC.other bZ dS.symm;have hW:=eH.grown bZ dE;have jT:=Nw.nxt eH dE cE;refine av bQ V V<|zam<|bk_n<|W_th<|W_rg<|wa V (zar V e5 V)<|mv (i64 (wI (cP.2+1))) V V<|zam<|?_;obtain rfl:=osi Y;exact ⟨_,rfl,bQ,fT,g9,gG,gL,h1,fZ,e2,rfl,gQ,gT,gV,gX,gY,rfl,g3,hW,kF,jT,aA,f7,aB,fA,aC,fD,l6.symm,l7.symm,l8.symm,fL,fO,fP,c7,cA⟩
    refine za1<|th_x<|?_;obtain rfl:=osi Y;obtain rfl:=iI _ rfl;refine th_x<|bk_x<|?_;exact ⟨bP,fT,g9,gG,gL,h1,fZ,e2,g7,gQ,gT,gV,g3,aM,bJ,dE,aA,f7,aB,fA,aC,fD,dM,dP,dS,fL,fO,fP,c7,cA⟩
   rintro _ nJ ⟨cR,fU,gA,gH,gM,m2,g0,lM,lN,lW,lY,m0,g4,c1,fF,mX,cG,jD,cH,jI,bN,jO,mZ,n1,n2,kV,kY,l0,c8,dB⟩;refine W_th<|W_sr<|mv o V fU<|mv (i64 y) V gA<|mv t V gH<|mv cR V lN<|mv (i64 I) V gM<|?_;obtain ⟨a2,iK,C⟩:=bsi C;refine wls V V (zab (vs:=[o,i64 y,t,cR,i64 I]) Tryz.func68 V V V (ar5 V V V V V) (mend_column_calls aK y b0 hE I o t cR a2 _ ((aN.lift (Lift.sub (L':=[]) (fun _ _=>trivial))).lift (le_ c1)) (a8.lift (le_ c1)) (fF.rd (Sc.stab _)) iK) ?_);rintro _ mE ⟨aD,rfl,b8,jU,kG⟩;refine ⟨_,rfl,?_⟩;have iX:By mE (cR::w::bp e::bp c::j) aD a2.1:=SlK.avail kG _ (fun p B=>(Old.cons (Old.cons (Old.cons (Old.cons (Z.ext c1) bN.ltB) cH.ltB) cG.ltB) fF.lt) p (jU p B));replace c8:=c8.lift (le_ b8);replace dB:=dB.lift (le_ b8);replace cG:=cG.ext b8;replace cH:=cH.ext b8;replace bN:=bN.ext b8;have eI:=c1.trans b8;refine mv (.tuple #[aD,i64 a2.2]) V V<|wa V (zac V V V)<|wa V (zac V V V)<|av aD V V<|av (i64 a2.2) V V<|wnt<|W_seq<|W_seq<|W_rg<|mv (i64 a2.2) V V<|wa V (q_neI V V V)<|wnt<|zal _ V V (fun d8=>?_) (fun d8=>?_)
   ·replace C:=(if_neg (zbd d8)).symm.trans C;refine W_sr<|mv (i64 a2.2) V V<|av (.pointer none) V V<|av (i64 a2.2) V V<|wnt<|W_ret<|th_r<|bk_r<|th_r<|?_;obtain rfl:=osi C;obtain rfl:=eZ _ rfl;simp only [Sum.elim_inr] at k;refine th_r<|bk_r<|th_r<|th_r<|?_;obtain rfl:=osi k;refine rt2 (.pointer none) (i64 a2.2) V V V V V g4 ?_;exact ⟨.pointer none,rfl,eI,RcMd.nil _ _⟩
   replace C:=(if_pos (zbc d8)).symm.trans C;refine zag<|W_th<|W_sr<|mv (bp c) V g0<|wa V (zbe V V)<|wa V (zdk (g:=c) (m:=0) (d:=1) V fieldAtMd1 V)<|wq V (zan (u:=r) V Tryz.isAgg22 V bN V)<|wa V (q_len V T22.sl V c8)<|mv (i64 0) V V<|wnt<|?_;obtain ⟨mJ,hK,C⟩:=bsi C;refine W_mid (fun f i=>∃ aY:Value,f 0=o/\f 1=i64 y/\f 2=t/\f 4=i64 I/\f 8=bp e/\f 13=bp c/\f 70=W/\f 71=i64 (U.length:Int)/\f 72=i64 a3.2/\f 155=undef/\Ext w0 i/\OwD i 22 5 aY E mJ/\Nw w0 aY/\Blk i e 29 #[s]/\Nw w0 (bp e)/\Blk i c 96 #[o,r,E,.slice none 0 0]/\Nw w0 (bp c)/\Nq aY (bp e)/\Nq aY (bp c)/\Nq (bp e) (bp c)/\By i (aY::bp e::bp c::j) r M/\In i (aY::bp e::bp c::j) W U) ?_ ?_
   ·refine zad<|za9 (fun aP f i=>∃ aJ:Value,f 0=o/\f 1=i64 y/\f 2=t/\f 4=i64 I/\f 8=bp e/\f 13=bp c/\f 17=i64 b1/\f 21=aD/\f 70=W/\f 71=i64 (U.length:Int)/\f 72=i64 a3.2/\f 105=r/\f 106=i64 (M.length:Int)/\f 107=i64 aP.2/\f 155=undef/\Ext w0 i/\OwD i 22 5 aJ E aP.1/\Nw w0 aJ/\Blk i e 29 #[s]/\Nw w0 (bp e)/\Blk i c 96 #[o,r,E,.slice none 0 0]/\Nw w0 (bp c)/\Nq aJ (bp e)/\Nq aJ (bp c)/\Nq (bp e) (bp c)/\By i (aJ::bp e::bp c::j) r M/\By i (aJ::bp e::bp c::j) aD a2.1/\In i (aJ::bp e::bp c::j) W U) hK ?_ ?_
    ·exact ⟨w,fU,gA,gH,gM,m2,g0,lM,rfl,lW,lY,m0,rfl,rfl,rfl,g4,eI,cG,jD,cH,jI,bN,jO,kV,kY,l0,c8.lift (Lift.sub (fun _ h=>⟨h.2.1,h.2.2.1,h.2.2.2.1,h.2.2.2.2⟩)),iX.lift (Lift.sub (fun _ h=>⟨h.2.1,h.2.2.1,h.2.2.2.1,h.2.2.2.2⟩)),dB.lift (Lift.sub (fun _ h=>⟨h.2.1,h.2.2.1,h.2.2.2.1,h.2.2.2.2⟩))⟩
    rintro aP _ _ mF ⟨eC,dX,gB,gI,gN,h2,e0,g6,gC,gR,gU,gW,fV,fW,cM,g5,eN,a5,dF,b4,f8,aO,fB,dN,dQ,fM,a9,b2,b3⟩ S iL;refine W_sr<|wa V (q_ltI V cM fW)<|wnt<|W_seq<|wci S V V (fun S=>?_) (fun S=>?_)
    ·refine zag<|W_th<|W_seq<|zad<|W_sr<|mv (i64 aP.2) V cM<|bse S fun bT eW S=>wa V (q_adr V T22 fV cM a9 eW)<|wq V (zaz V T22 V a9 eW)<|av (i64 aP.2) V V<|av (u8 bT) V V<|wnt<|zbi [3,6] [(0,0),(1,0),(2,0),(3,1),(4,0),(5,0),(6,1),(7,0),(8,0),(9,0),(10,0),(11,2),(12,0),(13,2)] mixed (by kernel_rfl) (by kernel_rfl) (by kernel_rfl) (by kernel_rfl) ?_;have aV:=Ext.drew mF;replace a9:=a9.lift (le_ aV);replace b2:=b2.lift (le_ aV);replace b3:=b3.lift (le_ aV);replace a5:=a5.ext aV;replace aO:=aO.ext aV;have eJ:=eN.trans aV;refine sv (bp c) V V e0<|sa V V (zbe V V)<|sa V V (zdk (g:=c) (m:=0) (d:=2) V zh5 V)<|sq V V (zan (u:=E) V Tryz.isAgg29 V aO V)<|sv (i64 aP.2) V V V<|bse S fun mP c5 S=>sa V V (q_adr V T29 V V a5.rd c5)<|wsq_loadD V V V V T29 V a5 c5 (fun n4 eL=>?_);refine sv (i64 b1) V V g6<|sv o V V dX<|sv aD V V gC<|sv (u8 bT) V V V<|?_;obtain ⟨lB,iM,S⟩:=bsi S;refine wss V V V (zab (vs:=[o,aD,u8 bT]) Tryz.func69 V V V (ar3 V V V) (poly_Eval_calls aK a2.1 bT o aD lB _ ((aN.lift (Lift.sub (L':=[]) (fun _ _=>trivial))).lift (le_ eJ)) (b2.lift (Lift.sub (L':=[]) (fun _ _=>trivial))) iM) ?_);rintro _ nK ⟨rfl,aI⟩;refine ⟨_,rfl,aI,?_⟩;replace a5:=a5.ext aI;replace b4:=(b4.ext aV).ext aI;have hX:=eJ.trans aI;obtain ⟨mQ,eX,S⟩:=bsi S;refine sa V V (q_adr V T22 V V (OwD.rowrd a5 eL c5) eX)<|wsn V (by kernel_rfl) V V (stp_storeD [] (bp e::bp c::j) V T22 V V a5 eL c5 eX ?_);intro nL kH d3 dC;replace a9:=(a9.lift (le_ aI)).lift dC;replace b2:=(b2.lift (le_ aI)).lift dC;replace b3:=(b3.lift (le_ aI)).lift dC;replace b4:=b4.other d3 dN.symm;replace aO:=(aO.ext aI).other d3 dQ.symm
     have hY:=hX.grown d3 dF;refine zax<|bk_n<|W_th<|W_rg<|wa V (zar V cM V)<|mv (i64 (wI (aP.2+1))) V V<|zam<|?_;obtain rfl:=osi S;exact ⟨_,rfl,eC,dX,gB,gI,gN,h2,e0,g6,gC,gR,gU,gW,fV,fW,rfl,g5,hY,kH,dF,b4,f8,aO,fB,dN,dQ,fM,a9,b2,b3⟩
    refine za1<|th_x<|?_;obtain rfl:=osi S;obtain rfl:=iL _ rfl;refine th_x<|bk_x<|?_;exact ⟨eC,dX,gB,gI,gN,h2,e0,gR,gU,gW,g5,eN,a5,dF,b4,f8,aO,fB,dN,dQ,fM,a9,b3⟩
   rintro _ nM ⟨hM,lE,lQ,lR,lV,m3,lG,lX,lZ,m1,lK,i3,jX,j3,k5,jE,k9,jJ,kK,kN,kW,iQ,iU⟩;refine bk_n<|W_th<|W_rg<|wa V (zar V m1 V)<|mv (i64 (wI (a3.2+1))) V V<|zam<|?_;obtain rfl:=osi C;exact ⟨_,rfl,hM,lE,lQ,lR,lV,m3,lG,lX,lZ,rfl,lK,i3,jX,j3,k5,jE,k9,jJ,kK,kN,kW,iQ,iU⟩
  refine za1<|th_x<|?_;obtain rfl:=osi C;obtain rfl:=eZ _ rfl;refine th_x<|bk_x<|?_;exact ⟨_,rfl,w,gF,e6,fY,g2,d5,fE,f4,dK,f6,fG,f9,fH,fI,fK,f0⟩
 rintro _ nN ⟨b9,rfl,z,lS,m4,lH,lL,eO,jY,j4,k6,jF,kA,jK,kL,kO,kX,iR⟩;simp only [Sum.elim_inl] at k;refine W_th<|W_seq<|W_sr<|mv t V lS<|wa V (q_len V T22.sl V (a8.lift (le_ eO)))<|mv (i64 0) V V<|wnt<|?_;obtain ⟨mK,hL,k⟩:=bsi k;refine W_mid (fun f i=>∃ aR:Value,f 13=bp c/\f 155=undef/\Ext w0 i/\OwK (Sc i64) i (aR::z::bp c::j) 3 aR mK/\Nw w0 aR/\OwD i 22 5 z E b9/\Nw w0 z/\Blk i c 96 #[o,r,E,aR]/\Nw w0 (bp c)/\Nq aR z/\Nq aR (bp c)/\Nq z (bp c)/\By i (aR::z::bp c::j) r M) ?_ ?_
 ·refine zad<|za9 (fun G f i=>∃ aE:Value,f 8=bp e/\f 13=bp c/\f 127=t/\f 128=i64 (b0.length:Int)/\f 129=i64 G.2/\f 155=undef/\Ext w0 i/\OwK (Sc i64) i (aE::z::bp e::bp c::j) 3 aE G.1/\Nw w0 aE/\OwD i 22 5 z E b9/\Nw w0 z/\Blk i e 29 #[s]/\Nw w0 (bp e)/\Blk i c 96 #[o,r,E,aE]/\Nw w0 (bp c)/\Nq aE z/\Nq aE (bp e)/\Nq aE (bp c)/\Nq z (bp e)/\Nq z (bp c)/\Nq (bp e) (bp c)/\By i (aE::z::bp e::bp c::j) r M) hL ?_ ?_
  ·exact ⟨.slice none 0 0,m4,lH,rfl,rfl,rfl,lL,eO,OwK.nil _ _ _ _,Nw.nil _,jY,j4,k6,jF,kA,jK,Nq.nil _,Nq.nil _,Nq.nil _,kL,kO,kX,iR.lift (Lift.sub (fun _ h=>⟨zgq,h.1,h.2.1,h.2.2.1,h.2.2.2⟩))⟩
  rintro G _ _ mG ⟨aF,e7,b6,dY,dZ,bO,e1,c2,P,cB,F,dH,H,fC,D,cC,cJ,dR,cK,fN,cL,dU,O⟩ A iN;refine W_sr<|wa V (q_ltI V bO dZ)<|wnt<|W_seq<|wci A V V (fun A=>?_) (fun A=>?_)
  ·refine zag<|W_th<|W_seq<|zad<|W_sr<|mv (i64 G.2) V bO<|bse A fun bU eY A=>wa V (q_adr V T22 dY bO (a8.lift (le_ c2)) eY)<|wq V (zaz V T22 V (a8.lift (le_ c2)) eY)<|av (i64 G.2) V V<|av (u8 bU) V V<|wnt<|W_seq<|zbi [3,6] [(0,0),(1,0),(3,1),(4,0),(5,0),(6,1),(2,2),(7,2),(8,0)] mixed (by kernel_rfl) (by kernel_rfl) (by kernel_rfl) (by kernel_rfl) ?_;have aW:=Ext.drew mG;replace O:=O.lift (le_ aW);replace P:=P.extL (Sc.stab _) aW (le_ aW);replace F:=F.ext aW;replace H:=H.ext aW;replace D:=D.ext aW;have bE:=c2.trans aW;refine sv (bp c) V V b6<|sv (u8 bU) V V V<|sq V V (zan (u:=s) V Tryz.isAgg29 (by exact e7) H V)<|sv (i64 G.2) V V V<|bse A fun hO eR A=>sa V V (q_adr V T29 V V (N.lift (le_ bE)) eR)<|wsq_load V V V V T29 V N eR bE (fun h4 i4=>?_);obtain ⟨dW,iB,A⟩:=bsi A;refine wss V V V (zab (vs:=[bp c,u8 bU]) Tryz.func38 V V V (ar2 V V) (zey (some (aK,M,b9,G.1)) bU (bp c) dW _ (RcMd.mk D trivial ((aN.lift (Lift.sub (L':=[]) (fun _ _=>trivial))).lift (le_ bE)) (O.lift (Lift.sub (L':=[]) (fun _ _=>trivial))) F.rd (P.rd (Sc.stab _))) iB) ?_);rintro _ m5 ⟨cQ,rfl,aG,j6,jZ⟩;refine ⟨_,rfl,aG,?_⟩;have iS:By m5 (aF::z::bp e::bp c::j) cQ dW:=OwK.slk (Sc.stab _) _ (OwK.scal jZ (cQ::(aF::z::bp e::bp c::j))) (fun p B=>(Old.cons (Old.cons (Old.cons (Old.cons (Z.ext bE) D.ltB) H.ltB) F.ltB) P.lt) p (j6 p B)) (fun _ h=>h.2);replace O:=O.lift (le_ aG);replace P:=P.extL (Sc.stab _) aG (le_ aG);replace F:=F.ext aG;replace H:=H.ext aG;replace D:=D.ext aG;have eD:=bE.trans aG;obtain ⟨l9,iC,A⟩:=bsi A;refine wsc V (by kernel_rfl) V V (zab (vs:=[cQ,h4]) Tryz.func70 V V V (ar2 V V) (zf1 dW hO cQ h4 l9 _ (iS.lift (Lift.sub (L':=[]) (fun _ _=>trivial))) (i4.lift (le_ eD)) iC) ?_);rintro _ n7 ⟨rfl,aS⟩
   refine ⟨_,rfl,?_⟩;replace O:=O.lift (le_ aS);replace P:=P.extL (Sc.stab _) aS (le_ aS);replace F:=F.ext aS;replace H:=H.ext aS;replace D:=D.ext aS;have cX:=eD.trans aS;refine sa V V (q_not V V)<|zax<|W_th<|zal _ V V (fun d6=>?_) (fun d6=>?_)
   ·replace A:=(if_pos d6).symm.trans A;refine W_rg<|mv (bp c) V b6<|mv (bp c) V b6<|wa V (zbe V V)<|wa V (zdk (g:=c) (m:=0) (d:=3) V fieldAtMd3 V)<|wq V (zan (u:=aF) V Tryz.isAgg35 V D V)<|mv (i64 G.2) V V<|wls V V (zbt (L:=(aF::z::bp e::bp c::j)) (R:=Sc i64) [i64 G.2] ([G.2]:List Int) V T35 V (by exact ⟨rfl,rfl,trivial⟩) V (litC i64 oneC_i64 (us:=[i64 G.2]) (l:=([G.2]:List Int)) V) V (litS i64 (us:=[i64 G.2]) (l:=([G.2]:List Int)) V) ?_);intro h5 m6 k0 j7 hZ mS;have aT:=zaa hZ;have iT:In m6 (aF::z::bp e::bp c::j) h5 ([G.2]:List Int):=OwK.slk (Sc.stab _) _ k0 (fun p B=>(Old.cons (Old.cons (Old.cons (Old.cons (Z.ext cX) D.ltB) H.ltB) F.ltB) P.lt) p (j7 p B)) (fun _ h=>h.2);replace P:=P.extL (Sc.stab _) aT (le_ aT);replace F:=F.ext aT;replace H:=H.ext aT;replace D:=D.ext aT;have eE:=cX.trans aT;obtain ⟨mL,i7,A⟩:=bsi A;refine wls V V (zbf (R:=Sc i64) (v:=aF) (u:=h5) (Sc.stab _) [] (z::bp e::bp c::j) V T35 V V P iT (fun _ _ h=>h) i7 oc_i64 ?_);intro aQ n8 cF bX cD iY;replace O:=(O.lift (le_ aT)).lift iY;have kP:Nq z aQ:=F.nxt cJ.symm cD;have kQ:Nq (bp e) aQ:=H.nxt dR.symm cD;have fJ:Nq (bp c) aQ:=D.nxt cK.symm cD;replace D:=D.other bX cK.symm;have hR:=eE.grown bX cB;have j8:=Nw.nxt eE cB cD;refine wa V (zbe V V)<|wa V (zdk (g:=c) (m:=0) (d:=3) V fieldAtMd3 V)<|wln V V (stp_storeR (u:=aQ) (cs':=#[o,r,E,aQ]) [aQ,z,bp e] j V Tryz.sizeOf35 V V D (Nat.le_of_ble_eq_true V) (oc_own cF) V ?_);intro n9 k1 bY f2;replace O:=O.lift f2;replace cF:=cF.other (Sc.stab _) bY fJ.symm f2;replace F:=(F.other bX cJ.symm).other bY cL;replace H:=(H.other bX dR.symm).other bY dU;have hS:=hR.grown bY cC;refine zam<|bk_n<|W_th<|W_rg<|wa V (zar V bO V)<|?_
    refine mv (i64 (wI (G.2+1))) V V<|zam<|?_;obtain rfl:=osi A;exact ⟨_,rfl,aQ,e7,b6,dY,dZ,rfl,e1,hS,cF,j8,F,dH,H,fC,k1,cC,kP.symm,kQ.symm,fJ.symm,fN,cL,dU,O⟩
   replace A:=(if_neg (ne_true_of_eq_false d6)).symm.trans A;refine zag<|bk_n<|W_th<|W_rg<|wa V (zar V bO V)<|mv (i64 (wI (G.2+1))) V V<|zam<|?_;obtain rfl:=osi A;exact ⟨_,rfl,aF,e7,b6,dY,dZ,rfl,e1,cX,P,cB,F,dH,H,fC,D,cC,cJ,dR,cK,fN,cL,dU,O⟩
  refine za1<|th_x<|?_;obtain rfl:=osi A;obtain rfl:=iN _ rfl;refine th_x<|bk_x<|?_;exact ⟨aF,b6,e1,c2,P.weak (Sc.stab _) (fun _ h=>⟨h.1,h.2.1,h.2.2.2.1,h.2.2.2.2⟩),cB,F,dH,D,cC,cJ,cK,cL,O.lift (Lift.sub (fun _ h=>⟨h.1,h.2.1,h.2.2.2.1,h.2.2.2.2⟩))⟩
 rintro _ nA ⟨n5,lF,lI,eM,jW,j1,k4,jB,k8,jG,mY,n0,n3,iP⟩;refine W_th<|W_sr<|mv (bp c) V lF<|av (bp c) V V<|av (i64 0) V V<|wnt<|W_ret<|?_;obtain rfl:=osi k;refine rt2 (bp c) (i64 0) V V V V V lI ?_;exact ⟨bp c,rfl,eM,RcMd.mk k8 (Z _ (jG _ (hs_bp' _))) (aN.lift (le_ eM)) (iP.lift (Lift.sub (fun _ h=>h.2.2.2))) (k4.rw j (fun p B=>Z p (jB p B))) (OwK.slk (Sc.stab _) j jW (fun p B=>Z p (j1 p B)) (fun _ h=>h.2.2.2))⟩
end Gk

/- A fact of this seat's program: its type of rows of numbers (where S was built without it). No condition. -/
namespace Gk
open Go Go.Proofs
end Gk

/- Printed by gen.py: for each Go function a pure function, and that the Go code comes to it. No condition beside the equation that says what the pure function gives. -/
namespace Gk
open Go Go.Proofs
end Gk

/- Printed by gen.py: for each Go function a pure function, and that the Go code comes to it. No condition beside the equation that says what the pure function gives. -/
namespace Gk
open Go Go.Proofs
end Gk

/- Printed by gen.py: for each Go function a pure function, and that the Go code comes to it. No condition beside the equation that says what the pure function gives. -/
namespace Gk
open Go Go.Proofs
end Gk

/- Printed by gen.py: for each Go function a pure function, and that the Go code comes to it. No condition beside the equation that says what the pure function gives. -/
namespace Gk
open Go Go.Proofs
end Gk

/- Chapter 3: quotient and rest. No condition but lengths. -/
namespace Gk
open Gf
theorem revN_succ (n:Nat):revN (n+1)=(n:Int) :: revN n:=by
 simp [revN,List.range_succ]
theorem foldl_revN {σ:Type} (g:σ->Int->σ) (P:Nat->σ->Prop) (hs:∀ j s,P (j+1) s->P j (g s (j:Int))):∀ (n:Nat) (s:σ),P n s->P 0 ((revN n).foldl g s)
 | 0,s,h=>h
 | n+1,s,h=>by
  rw [revN_succ,List.foldl_cons]
  exact foldl_revN g P hs n _ (hs n s h)
def divStep (d:Nat) (top:UInt8) (Q:List UInt8) (s:List UInt8×List UInt8) (y:Int):List UInt8×List UInt8 :=
 let c:=mul (co s.1 (y.toNat+d - 1)) top
 (copyL s.1 y (sumL ((s.1.take (y.toNat+d)).drop y.toNat) c Q),s.2.set y.toNat c)
theorem poly_DivMod_eq (p q:List UInt8) (hp:p.length<=1000) (hq:q.length<=1000) (h0:trim q≠[]):∃ a b,zei true p q=some (a,b,0)/\trim a=a/\trim b=b/\b.length<(trim q).length/\(∀ i,co p i=co b i^^^co (pmul a q) i)/\a.length<=p.length+1:=by
 have hm:=zbl
 have h1000:2000<=most:=by decide
 have ld:=List.length_pos_iff.2 h0
 have tq:=trim_le q
 have hlead:=zgt q h0
 unfold zei
 rw [zes q (by omega),obs,if_neg (by simp),if_neg (by omega),zib _ (by omega) (by omega),zb0 (by omega),zh6]
 generalize hd:(trim q).length=d at *
 generalize hc:co q (d - 1)=lead at *
 simp only [Inv_eq,obs,if_neg hlead]
 unfold zah
 rw [zf5 p (by omega),obs]
 have en:(if 0<wI (wI ((p.length:Int) - (d:Int))+1) then wI (wI ((p.length:Int) - (d:Int))+1) else 0)=((p.length+1 - d:Nat):Int):=by
  have i1:wI ((p.length:Int) - (d:Int))=(p.length:Int) - (d:Int):=wI_of (by omega) (by omega)
  rw [i1,wI_of (by omega) (by omega)]
  split <;> omega
 rw [en,zbu _ _ (by omega),obs,List.length_replicate,zem (by omega),obs]
 generalize hn:p.length+1 - d=n at *
 have key:=zf9 (f:=fun (s72:List UInt8×List UInt8) (y72:Int)=>((idx s72.1 ((wI ((wI (y72+(d:Int))) - 1)))).bind fun c78=>((zcc true c78 (inv lead)).bind fun r79=>((idx s72.2 y72).bind fun c82=>((subL s72.1 y72 ((s72.1.length:Int))).bind fun c89 =>
   ((subL s72.1 y72 ((wI (y72+(d:Int))))).bind fun c90=>((zc2 true c90 r79 (trim q)).bind fun r91=>some ((copyL s72.1 y72 r91),(s72.2.set (y72:Int).toNat r79))))))))) (divStep d (inv lead) (trim q)) (xs:=revN n) (s0:=(p,List.replicate n 0))
  (fun _ s=>s.1.length=p.length/\s.2.length=n) ⟨rfl,by simp⟩ (by
   rintro k ⟨r,t⟩ x _ hx ⟨hr,ht⟩
   simp only at hr ht
   obtain ⟨i,hi,rfl⟩:=mem_revN.1 hx
   have e1:wI ((i:Int)+(d:Int))=((i+d:Nat):Int):=wI_add _ _ (by omega)
   simp only [e1]
   rw [zib _ (by omega) (by omega),zb0 (by omega),obs,Mul_eq,obs,zb0 (by omega),obs,zd6 _ _ _ (by omega) (Nat.le_refl _),obs,zd6 _ _ _ (by omega) (by omega),obs,
    Sum_eq _ _ _ (by simp;omega),obs]
   refine ⟨by simp only [divStep,Int.toNat_natCast],?_,?_⟩
   ·simp only [divStep];rw [zgw _ _ _ (by omega)];exact hr
   ·simp only [divStep,List.length_set];exact ht)
 rw [key.1,obs]
 have fin:=foldl_revN (divStep d (inv lead) (trim q)) (fun j s=>s.1.length=p.length/\s.2.length=n/\j<=n/\(∀ i,co p i=co s.1 i^^^co (pmul s.2 (trim q)) i)/\(∀ i,j+d<=i+1->co s.1 i=0)/\(∀ i,i<j->co s.2 i=0))
  (by
   rintro j ⟨r,t⟩ ⟨hr,ht,hj,hs,hz,hz2⟩
   simp only at hr ht hs hz hz2
   simp only [divStep,Int.toNat_natCast]
   generalize hc2:mul (co r (j+d - 1)) (inv lead)=c
   have hl2:((r.take (j+d)).drop j).length=d:=by simp;omega
   have hl3:(sumL ((r.take (j+d)).drop j) c (trim q)).length=d:=by rw [sumL_len,hl2]
   have hco:∀ i,co (copyL r (j:Int) (sumL ((r.take (j+d)).drop j) c (trim q))) i=co r i^^^(if i<j then 0 else mul c (co (trim q) (i - j))):=by
    intro i
    rw [co_copyL _ _ _ (by rw [hl3];omega),hl3,co_sumL,hl2]
    by_cases h1:j<=i/\i<j+d
    ·rw [if_pos h1,if_pos (show i - j<d by omega),if_neg (show ¬ i<j by omega),co_drop,co_take,show j+(i - j)=i by omega,if_pos (show i<j+d by omega)]
    ·rw [if_neg h1]
     by_cases h2:i<j
     ·rw [if_pos h2,xor_zero]
     ·rw [if_neg h2,co_ge (show (trim q).length<=i - j by omega),mul_zero,xor_zero]
   refine ⟨by rw [zgw _ _ _ (by omega)];exact hr,by simpa using ht,by omega,fun i=>?_,fun i hi=>?_,fun i hi=>?_⟩
   ·rw [hco i,co_pmul_set t j c _ i (by omega) (hz2 j (by omega)),hs i,zhb,xor_self,xor_zero]
   ·rw [hco i]
    by_cases h1:i=j+d - 1
    ·subst h1
     rw [if_neg (by omega),show j+d - 1 - j=d - 1 by omega,zh6,hc,← hc2,zda,inv_mul hlead,mul_one,xor_self]
    ·rw [hz i (by omega),if_neg (by omega),co_ge (show (trim q).length<=i - j by omega),mul_zero,xor_zero]
   ·rw [co_set (by omega),if_neg (by omega)];exact hz2 i (by omega)) n (p,List.replicate n 0)
  ⟨rfl,by simp,Nat.le_refl _,fun i=>by
   have:co (pmul (List.replicate n 0) (trim q)) i=0:=by rw [zhp _ [] _ (fun i=>by rw [co_rep,zcy]) i];rfl
   rw [this,xor_zero],fun i hi=>co_ge (by simp only;omega),fun i _=>co_rep _ _⟩
 generalize (revN n).foldl (divStep d (inv lead) (trim q)) (p,List.replicate n 0)=s at fin
 obtain ⟨r,t⟩:=s
 obtain ⟨hr,ht,_,hs,hz,_⟩:=fin
 simp only at hr ht hs hz
 simp only
 rw [zes t (by omega),obs,zes r (by omega),obs]
 refine ⟨trim t,trim r,rfl,zeg t,zeg r,?_,fun i=>?_,?_⟩
 ·have:=(zga r (d - 1)).2 (fun i hi=>hz i (by omega))
  omega
 ·rw [hs i,zh6]
  congr 1
  exact pmul_sim (zdr t).symm (zdr q) i
 ·have:=trim_le t;omega
end Gk

/- Wrong values among right ones: what is true of a remainder in Gao's way. Plain. No condition. -/
namespace Gf
theorem dg_zero {p:List UInt8} (h:dg p=0) (i:Nat):co p i=0:=dg_le.1 (Nat.le_of_eq h) i (Nat.zero_le i)
theorem dg_top {p:List UInt8} (h:dg p≠0):co p (dg p - 1)≠0:=zgt p (fun e=>h (by unfold dg;rw [e];rfl))
theorem dg_pmul_eq {p q:List UInt8} (hp:dg p≠0) (hq:dg q≠0):dg (pmul p q)=dg p+dg q - 1:=by
 rw [dg_sim (pmul_sim (zdr p).symm (zdr q).symm)]
 exact zfz (zeg p) (zeg q) (fun e=>hp (by unfold dg;rw [e];rfl)) (fun e=>hq (by unfold dg;rw [e];rfl))
theorem pmul_cancel {p q:List UInt8} (hq:dg q≠0) (h:∀ i,co (pmul p q) i=0):∀ i,co p i=0:=by
 by_cases hp:dg p=0
 ·exact dg_zero hp
 ·have h1:=dg_pmul_eq hp hq
  have h2:dg (pmul p q)<=0:=dg_le.2 fun i _=>h i
  omega
theorem pmul_zeroL {p q:List UInt8} (h:∀ i,co p i=0) (i:Nat):co (pmul p q) i=0:=by
 rw [zhp p [] q (fun i=>by rw [h i,zcy]) i];rfl
def wrg (xs ys p:List UInt8):Nat->Nat
 | 0=>0
 | n+1=>wrg xs ys p n+if evp p (co xs n)=co ys n then 0 else 1
theorem wr_le (xs ys p:List UInt8):∀ n,wrg xs ys p n<=n
 | 0=>Nat.le_refl _
 | n+1=>by have:=wr_le xs ys p n;unfold wrg;split <;> omega
theorem wr_sim {xs ys p q:List UInt8} (h:Sim p q):∀ n,wrg xs ys p n=wrg xs ys q n
 | 0=>rfl
 | n+1=>by unfold wrg;rw [wr_sim h n,ev_sim p q _ h]
def el (xs ys p:List UInt8):Nat->List UInt8
 | 0=>[1]
 | n+1=>if evp p (co xs n)=co ys n then el xs ys p n else pmul (el xs ys p n) [co xs n,1]
theorem dg_el (xs ys p:List UInt8):∀ n,dg (el xs ys p n)<=wrg xs ys p n+1
 | 0=>dg_len _
 | n+1=>by
  have h:=dg_el xs ys p n
  unfold el wrg
  split
  ·omega
  ·have:=zhh h (dg_lin (co xs n));omega
theorem el_top (xs ys p:List UInt8):∀ n,co (el xs ys p n) (wrg xs ys p n)=1
 | 0=>rfl
 | n+1=>by
  have h:=el_top xs ys p n
  unfold el wrg
  split
  ·exact h
  ·rw [zgv,h,dg_le.1 (dg_el xs ys p n) _ (Nat.le_refl _),zero_mul,zero_xor]
theorem el_ne (xs ys p:List UInt8) (n:Nat):dg (el xs ys p n)≠0:=fun h=>by
 have h1:=dg_zero h (wrg xs ys p n)
 rw [el_top] at h1
 exact absurd h1 (by decide)
theorem ev_el (xs ys p:List UInt8) (x:UInt8):∀ n,evp (el xs ys p n) x=0 ↔ ∃j,j<n/\evp p (co xs j)≠co ys j/\x=co xs j
 | 0=>⟨fun h=>by rw [show el xs ys p 0=[1] from rfl,ev_const] at h;exact absurd h (by decide),fun ⟨j,h,_⟩=>absurd h (Nat.not_lt_zero _)⟩
 | n+1=>by
  have ih:=ev_el xs ys p x n
  unfold el
  by_cases h:evp p (co xs n)=co ys n
  ·rw [if_pos h,ih]
   constructor
   ·rintro ⟨j,h1,h2,h3⟩;exact ⟨j,by omega,h2,h3⟩
   ·rintro ⟨j,h1,h2,h3⟩
    refine ⟨j,?_,h2,h3⟩
    by_cases hj:j=n
    ·exact absurd (hj ▸ h) h2
    ·omega
  ·rw [if_neg h,zfc,ev_lin]
   constructor
   ·intro h1
    rcases zil h1 with h1 | h1
    ·obtain ⟨j,h2,h3,h4⟩:=ih.1 h1;exact ⟨j,by omega,h3,h4⟩
    ·exact ⟨n,by omega,h,zdh h1⟩
   ·rintro ⟨j,h1,h2,h3⟩
    by_cases hj:j=n
    ·rw [h3,hj,xor_self,mul_zero]
    ·rw [ih.2 ⟨j,by omega,h2,h3⟩,zero_mul]
theorem gao_key {xs ys b v P:List UInt8} (hn:xs.Nodup) {t:Nat} (hb:∀ i,i<xs.length->evp b (co xs i)=mul (evp v (co xs i)) (co ys i)) (hP:dg P<=t)
  (h1:dg b+wrg xs ys P xs.length<=xs.length) (h2:dg v+t+wrg xs ys P xs.length<=xs.length+1):Sim b (pmul P v):=by
 have hE:=dg_el xs ys P xs.length
 have hs:Sim (pmul b (el xs ys P xs.length)) (pmul (pmul P v) (el xs ys P xs.length)):=by
  refine agree hn ?_ ?_ ?_
  ·have:=zhh (Nat.le_refl (dg b)) hE;omega
  ·have h3:=zhh hP (Nat.le_refl (dg v))
   have:=zhh h3 hE;omega
  ·intro a ha
   obtain ⟨j,hj,rfl⟩:=mem_co ha
   rw [zfc,zfc,zfc]
   by_cases hw:evp P (co xs j)=co ys j
   ·rw [hb j hj,hw,mul_comm (co ys j)]
   ·rw [(ev_el xs ys P (co xs j) xs.length).2 ⟨j,hj,hw,rfl⟩,mul_zero,mul_zero]
 have h0:=pmul_cancel (p:=pplus b (pmul P v)) (el_ne xs ys P xs.length) (fun i=>by rw [pmul_addL _ _ _ i,zch,hs i,xor_self])
 intro i
 have:=h0 i
 rw [zch] at this
 exact zdh this
theorem div_uniq {b v q r P:List UInt8} (h:∀ i,co b i=co r i^^^co (pmul q v) i) (hr:dg r<dg v) (hb:Sim b (pmul P v)):Sim q P/\∀ i,co r i=0:=by
 have hv:dg v≠0:=by omega
 have h1:Sim (pmul (pplus q P) v) r:=fun i=>by
  rw [pmul_addL _ _ _ i,zch,← hb i,h i,xor_comm,xor_assoc,xor_self,xor_zero]
 by_cases hq:dg (pplus q P)=0
 ·have h2:Sim q P:=fun i=>by
   have:=dg_zero hq i
   rw [zch] at this
   exact zdh this
  refine ⟨h2,fun i=>?_⟩
  rw [← h1 i]
  exact pmul_zeroL (dg_zero hq) i
 ·have h2:=dg_pmul_eq hq hv
  rw [dg_sim h1] at h2
  omega
def gl (xs ys p q:List UInt8):Nat->List UInt8
 | 0=>[]
 | n+1=>if evp p (co xs n)=co ys n/\evp q (co xs n)=co ys n then gl xs ys p q n ++ [co xs n] else gl xs ys p q n
theorem take_co {xs:List UInt8} {n:Nat} (h:n<xs.length):xs.take (n+1)=xs.take n ++ [co xs n]:=by
 rw [List.take_succ_eq_append_getElem h,co_lt h]
theorem gl_sub (xs ys p q:List UInt8):∀ n,n<=xs.length->(gl xs ys p q n).Sublist (xs.take n)
 | 0,_=>List.nil_sublist _
 | n+1,h=>by
  have ih:=gl_sub xs ys p q n (by omega)
  rw [take_co (by omega)]
  unfold gl
  split
  ·exact ih.append (List.Sublist.refl _)
  ·exact ih.trans (List.sublist_append_left _ _)
theorem gl_len (xs ys p q:List UInt8):∀ n,n<=(gl xs ys p q n).length+wrg xs ys p n+wrg xs ys q n
 | 0=>Nat.zero_le _
 | n+1=>by
  have ih:=gl_len xs ys p q n
  unfold gl wrg
  by_cases h1:evp p (co xs n)=co ys n
  ·by_cases h2:evp q (co xs n)=co ys n
   ·rw [if_pos ⟨h1,h2⟩,if_pos h1,if_pos h2,List.length_append];simp only [List.length_cons,List.length_nil];omega
   ·rw [if_neg (fun h=>h2 h.2),if_pos h1,if_neg h2];omega
  ·rw [if_neg (fun h=>h1 h.1),if_neg h1]
   split <;> omega
theorem gl_mem (xs ys p q:List UInt8):∀ n,∀ a∈gl xs ys p q n,evp p a=evp q a
 | 0,a,h=>by simp [gl] at h
 | n+1,a,h=>by
  unfold gl at h
  split at h
  ·rename_i h1
   rcases List.mem_append.1 h with h | h
   ·exact gl_mem xs ys p q n a h
   ·rw [List.mem_singleton] at h;subst h;rw [h1.1,h1.2]
  ·exact gl_mem xs ys p q n a h
theorem two_one {xs ys p q:List UInt8} (hn:xs.Nodup) {t:Nat} (hp:dg p<=t) (hq:dg q<=t) (h:wrg xs ys p xs.length+wrg xs ys q xs.length+t<=xs.length):Sim p q:=by
 have hs:=gl_sub xs ys p q xs.length (Nat.le_refl _)
 rw [List.take_of_length_le (Nat.le_refl _)] at hs
 have hl:=gl_len xs ys p q xs.length
 exact agree (hs.nodup hn) (by omega) (by omega) (gl_mem xs ys p q xs.length)
end Gf

/- What chapter 10's functions come to, in plain Lean. No condition but lengths. -/
namespace Gk
open Gf
theorem dg_lt_plus {p r:List UInt8} (h:dg r<dg p):dg (pplus r p)=dg p:=by
 refine Nat.le_antisymm (dg_pplus (Nat.le_of_lt h) (Nat.le_refl _)) (Nat.le_of_not_lt fun h2=>?_)
 have h3:=dg_le.1 (Nat.le_refl (dg (pplus r p))) (dg p - 1) (by omega)
 rw [zch,dg_le.1 (Nat.le_refl (dg r)) _ (by omega),zero_xor] at h3
 exact dg_top (by omega) h3
theorem tlen {p:List UInt8} (h:trim p=p):dg p=p.length:=by unfold dg;rw [h]
structure Ga (xs ys:List UInt8) (t:Nat) (a b u v:List UInt8):Prop where
 ta:trim a=a
 tb:trim b=b
 tu:trim u=u
 tv:trim v=v
 sum:a.length+v.length=xs.length+2
 ba:b.length<a.length
 uv:u.length<v.length
 big:xs.length+t+2<=2 * a.length
 ha:∀ i,i<xs.length->evp a (co xs i)=mul (evp u (co xs i)) (co ys i)
 hb:∀ i,i<xs.length->evp b (co xs i)=mul (evp v (co xs i)) (co ys i)
theorem Ga.next {xs ys a b u v q r:List UInt8} {t:Nat} (h:Ga xs ys t a b u v) (hc:xs.length+t+2<=2 * b.length) (hq:trim q=q) (hr:trim r=r) (hlt:r.length<b.length) (hs:∀ i,co a i=co r i^^^co (pmul q b) i) :
  q.length+b.length=a.length+1/\Ga xs ys t b r v (trim (pplus u (trim (pmul q v)))):=by
 have ta:=tlen h.ta
 have tb:=tlen h.tb
 have tu:=tlen h.tu
 have tv:=tlen h.tv
 have tq:=tlen hq
 have tr:=tlen hr
 have hba:=h.ba
 have huv:=h.uv
 have hsum:=h.sum
 have hq0:dg q≠0:=fun h0=>by
  have:dg a=dg r:=dg_sim fun i=>by rw [hs i,pmul_zeroL (dg_zero h0) i,xor_zero]
  omega
 have h1:=dg_pmul_eq hq0 (show dg b≠0 by omega)
 have h2:dg a=dg (pmul q b):=by
  rw [← dg_lt_plus (r:=r) (p:=pmul q b) (by omega)]
  exact dg_sim fun i=>by rw [hs i,zch]
 have h3:=dg_pmul_eq hq0 (show dg v≠0 by omega)
 have h4:dg (trim (pplus u (trim (pmul q v))))=dg (pmul q v):=by
  rw [dg_sim (zdr _),dg_sim (pplus_sim (Sim.refl u) (zdr (pmul q v))),dg_lt_plus (by omega)]
 have h5:=tlen (zeg (pplus u (trim (pmul q v))))
 refine ⟨by omega,h.tb,hr,h.tv,zeg _,by omega,hlt,by omega,hc,h.hb,fun i hi=>?_⟩
 rw [ev_trim,zff,ev_trim,zfc,add_mul,← h.ha i hi,zda,← h.hb i hi,← zfc]
 have h6:=ev_sim a (pplus r (pmul q b)) (co xs i) (fun j=>by rw [hs j,zch])
 rw [h6,zff,xor_assoc,xor_self,xor_zero]
theorem gao_spec (xs ys:List UInt8) (t:Nat) (hl:xs.length=ys.length) (h1:1<=t) (ht:t<=xs.length) (h255:xs.length<=255) (hn:xs.Nodup) :
  ∃ q ok,mend_gao true (t:Int) xs ys=some (q,ok)/\q.length<=1000/\(ok=true->dg q<=t/\trim q=q)/\∀ P,dg P<=t->2 * wrg xs ys P xs.length<=xs.length - t->q=trim P/\ok=true:=by
 obtain ⟨N,e1,t1,d1,v1⟩:=poly_Through_ok xs ys hl (by omega) h255 hn
 have hm:=zbl
 have hh:=h257
 have h1000:10000<=most:=by decide
 have lv:=van_length xs
 have tN:=tlen t1
 unfold mend_gao
 rw [poly_Vanish_eq xs h255,obs,e1,obs]
 obtain ⟨y,e2,b,v,rfl,a,u,hG,hc⟩:=zgl (body:=fun s10:List UInt8×List UInt8×List UInt8×List UInt8=>((zds s10.2.1).bind fun r12=>(if (wI ((xs.length:Int)+(t:Int)))<=(wI (2 * r12)) then ((zei true s10.1 s10.2.1).bind fun r15=>(if r15.2.2=0 then
   ((zf7 true r15.1 s10.2.2.2).bind fun r20=>((zg4 s10.2.2.1 r20.1).bind fun r23=>some (.inl (s10.2.1,r15.2.1,s10.2.2.2,r23)))) else some (.inr (.inr (([]:List UInt8),false))))) else some (.inr (.inl (s10.2.1,s10.2.2.2))))))
  (fun s=>Ga xs ys t s.1 s.2.1 s.2.2.1 s.2.2.2) (fun s=>s.1.length) (fun y:(List UInt8×List UInt8)⊕(List UInt8×Bool)=>∃ b v,y=.inl (b,v)/\∃ a u,Ga xs ys t a b u v/\2 * b.length<=xs.length+t+1)
  (by
   rintro ⟨a,b,u,v⟩ hG
   simp only at hG ⊢
   have hba:=hG.ba
   have hsum:=hG.sum
   have huv:=hG.uv
   have e3:wI (2 * ((b.length:Int) - 1))=2 * ((b.length:Int) - 1):=wI_of (by omega) (by omega)
   rw [zhd b (by omega),hG.tb,obs,e3,wI_add _ _ (by omega)]
   by_cases hc:xs.length+t+2<=2 * b.length
   ·have hb0:trim b≠[]:=fun e=>by rw [hG.tb] at e;rw [e] at hc;simp at hc
    obtain ⟨q,r,e4,tq,tr,hlt,hs,hql⟩:=poly_DivMod_eq a b (by omega) (by omega) hb0
    rw [hG.tb] at hlt
    obtain ⟨h5,h6⟩:=hG.next hc tq tr hlt hs
    rw [if_pos (by omega),e4,obs,if_pos rfl,poly_Mul_eq q v (by omega) (by omega) (.inr (.inr (by rw [tq,hG.tv];omega))),obs]
    have h7:=pmul_len q v
    have h8:=trim_le (pmul q v)
    rw [poly_Add_eq u _ (by omega) (by simp only;omega),obs]
    exact .inl ⟨_,rfl,h6,hba⟩
   ·rw [if_neg (by omega)]
    exact .inr ⟨_,rfl,b,v,rfl,a,u,hG,by omega⟩)
  (van xs,N,[],[1]) ⟨van_trim xs,t1,rfl,trim_one,by simp only [List.length_cons,List.length_nil];omega,by simp only;omega,by simp,by simp only;omega,fun i hi=>by
   rw [(van_root xs (co xs i)).2 (co_mem hi)];exact (zero_mul _).symm,fun i hi=>by rw [v1 i hi,ev_const,one_mul]⟩
 have hba:=hG.ba
 have hsum:=hG.sum
 have huv:=hG.uv
 have hbig:=hG.big
 have tv:=tlen hG.tv
 have tb:=tlen hG.tb
 have hv0:trim v≠[]:=fun e=>by rw [hG.tv] at e;rw [e] at huv;simp at huv
 obtain ⟨q,r,e4,tq,tr,hlt,hs,hql⟩:=poly_DivMod_eq b v (by omega) (by omega) hv0
 rw [hG.tv] at hlt
 have tq':=tlen tq
 have tr':=tlen tr
 have hgood:∀ P,dg P<=t->2 * wrg xs ys P xs.length<=xs.length - t->q=trim P/\r=[]:=fun P hP hw=>by
  have k1:=gao_key (b:=b) (v:=v) hn (t:=t) hG.hb hP (by omega) (by omega)
  obtain ⟨k2,k3⟩:=div_uniq (r:=r) (q:=q) hs (by omega) k1
  exact ⟨by rw [← tq];exact zii _ _ k2,by rw [← tr];exact trim_zero r k3⟩
 rw [e2,obs]
 simp only [Sum.elim_inl]
 rw [e4,obs]
 simp only
 rw [if_pos trivial]
 by_cases hr0:r=[]
 ·rw [if_pos (by rw [hr0];rfl),zhd q (by omega),tq,obs]
  refine ⟨q,_,rfl,by omega,fun h=>⟨?_,tq⟩,fun P hP hw=>?_⟩
  ·have:=of_decide_eq_true h;omega
  ·have:=(hgood P hP hw).1
   refine ⟨this,decide_eq_true ?_⟩
   have h9:dg q=dg P:=by rw [this];exact dg_sim (zdr P)
   omega
 ·have hp:=List.length_pos_iff.2 hr0
  rw [if_neg (by omega)]
  exact ⟨q,false,rfl,by omega,fun h=>Bool.noConfusion h,fun P hP hw=>absurd (hgood P hP hw).2 hr0⟩
theorem wrong_eq (p xs ys:List UInt8) (hl:xs.length=ys.length) (h:xs.length<=most) (hp:p.length<=most):zh1 true p xs ys=some ((wrg xs ys p xs.length:Nat):Int):=by
 unfold zh1
 have hm:=zbl
 refine zbp ?_ rfl
 refine zas (fun i=>(((wrg xs ys p i:Nat):Int),(i:Int))) xs.length _ rfl ?_ ?_
 ·intro i hi
  have hle:=wr_le xs ys p i
  simp only
  rw [if_pos (by omega),zb0 hi,obs,zb0 (by omega),obs,poly_Eval_eq _ _ hp,obs,za3 i (by omega)]
  by_cases he:evp p (co xs i)=co ys i
  ·rw [if_pos he,wrg,if_pos he];rfl
  ·rw [if_neg he,za3 _ (by omega)]
   conv=>rhs;rw [wrg,if_neg he]
 ·simp
theorem Radius_eq (n t:Nat) (h:t<=n) (hn:n<=1000):zgk (n:Int) (t:Int)=some (((n - t) / 2:Nat):Int):=by
 unfold zgk
 rw [if_neg (by omega),wI_sub _ _ h (by omega)]
 have:=divI_nat (n - t) 2 (by decide) (by omega)
 rw [show ((2:Nat):Int)=2 from rfl] at this
 rw [this,obs]
def Good (t e:Nat) (xs ys P:List UInt8):Prop:=dg P<=t/\wrg xs ys P xs.length<=e/\2 * wrg xs ys P xs.length<=xs.length - t
theorem Good.uniq {t e:Nat} {xs ys P Q:List UInt8} (hn:xs.Nodup) (ht:t<=xs.length) (h:Good t e xs ys P) (k:Good t e xs ys Q):Sim P Q :=
 two_one (ys:=ys) hn h.1 k.1 (by have:=h.2.2;have:=k.2.2;omega)
theorem column_spec (xs ys:List UInt8) (t:Nat) (e:Nat) (hl:xs.length=ys.length) (h1:1<=t) (ht:t<=xs.length) (h255:xs.length<=255) (hn:xs.Nodup) :
  (∀ P,Good t e xs ys P->zel true (t:Int) xs ys (e:Int)=some (trim P,0))/\((∀ P,¬ Good t e xs ys P)->zel true (t:Int) xs ys (e:Int)=some ([],11)):=by
 obtain ⟨q,ok,e1,hql,hok,hP⟩:=gao_spec xs ys t hl h1 ht h255 hn
 have hm:=zbl
 have h1000:10000<=most:=by decide
 unfold zel
 rw [e1,obs]
 simp only
 have hmin:(if (((xs.length - t) / 2:Nat):Int)<(e:Int) then (((xs.length - t) / 2:Nat):Int) else (e:Int))=((min e ((xs.length - t) / 2):Nat):Int):=minI _ _
 constructor
 ·rintro P ⟨p1,p2,p3⟩
  obtain ⟨rfl,rfl⟩:=hP P p1 p3
  rw [if_neg (by decide),wrong_eq _ _ _ hl (by omega) (by omega),obs,Radius_eq _ _ ht (by omega),obs,hmin,wr_sim (zdr P),if_neg (by omega)]
 ·intro hno
  cases ok with
  | false=>rw [if_pos (by decide)]
  | true =>
   obtain ⟨k1,k2⟩:=hok rfl
   have:=hno q
   rw [if_neg (by decide),wrong_eq _ _ _ hl (by omega) (by omega),obs,Radius_eq _ _ ht (by omega),obs,hmin,if_pos ?_]
   have h3:¬ (wrg xs ys q xs.length<=e/\2 * wrg xs ys q xs.length<=xs.length - t):=fun h=>this ⟨k1,h.1,h.2⟩
   omega
def mcode (t:Int) (xs:List UInt8) (n e:Int):Int:=if (xs.length:Int)=n then (if t<1∨255<t∨e<0 then 2 else if (xs.length:Int)<t then 5 else if xs.length=0 then 5 else if 255<xs.length then 4 else if xs.Nodup then 0 else 6) else 1
theorem mend_check_eq (t:Int) (xs:List UInt8) (n e:Int) (h:xs.length<=most):zhn true t xs n e=some (mcode t xs n e):=by
 unfold zhn mcode
 rw [if_neg (by simp)]
 by_cases h1:(xs.length:Int)=n
 ·rw [if_pos h1,if_pos h1]
  by_cases h2:t<1
  ·rw [if_pos h2,if_pos (.inl h2)]
  ·rw [if_neg h2]
   by_cases h3:255<t
   ·rw [if_pos h3,if_pos (.inr (.inl h3))]
   ·rw [if_neg h3]
    by_cases h4:e<0
    ·rw [if_pos h4,if_pos (.inr (.inr h4))]
    ·rw [if_neg h4,if_neg (show ¬ (t<1∨255<t∨e<0) from not_or.2 ⟨h2,not_or.2 ⟨h3,h4⟩⟩)]
     by_cases h5:(xs.length:Int)<t
     ·rw [if_pos h5,if_pos h5]
     ·rw [if_neg h5,if_neg h5]
      have hck:=zh8 xs h
      by_cases hok:xs.length≠0/\xs.length<=255/\xs.Nodup
      ·obtain ⟨k0,k1,k2⟩:=hok
       rw [zgp xs 0 k0 k1 k2,obs,if_neg k0,if_neg (by omega),if_pos k2]
      ·rw [poly_Weights_bad xs 0 _ hck ?_,obs]
       by_cases k0:xs.length=0
       ·rw [if_pos k0];decide
       ·rw [if_neg k0]
        by_cases k1:255<xs.length
        ·rw [if_pos k1];decide
        ·rw [if_neg k1,if_neg (fun k2=>hok ⟨k0,by omega,k2⟩)];decide
 ·rw [if_neg h1,if_neg h1]
theorem mcode_ok {t:Int} {xs:List UInt8} {n e:Int} (hc:mcode t xs n e=0):(xs.length:Int)=n/\1<=t/\t<=(xs.length:Int)/\0<=e/\xs.length<=255/\xs.Nodup:=by
 unfold mcode at hc
 split at hc
 ·split at hc
  ·cases hc
  ·rename_i h1 h2
   split at hc
   ·cases hc
   ·split at hc
    ·cases hc
    ·split at hc
     ·cases hc
     ·split at hc
      ·rename_i h3 h4 h5 h6
       refine ⟨h1,Int.not_lt.1 fun h=>h2 (.inl h),by omega,Int.not_lt.1 fun h=>h2 (.inr (.inr h)),by omega,h6⟩
      ·cases hc
 ·cases hc
end Gk

/- Chapter 8: unlike places, sums of shares, what shares of a dealing tell. No condition but lengths. -/
namespace Gk
open Gf
end Gk

/- Chapter 10: the law MendCorrects. No condition. -/
namespace Gk
open Gf
end Gk

/- Printed by gen.py: for each Go function a pure function, and that the Go code comes to it. No condition beside the equation that says what the pure function gives. -/
namespace Gk
open Go Go.Proofs
end Gk

/- Chapter 10: the law MendColumns. No condition. -/
namespace Gk
open Gf
end Gk

/- Chapter 10: the law MendRows. No condition. -/
namespace Gk
open Gf
def clm (rows:List (List UInt8)) (k n:Nat):List UInt8:=(List.range n).map fun i=>co (rows.getD i []) k
theorem clm_len (rows:List (List UInt8)) (k n:Nat):(clm rows k n).length=n:=by simp [clm]
theorem co_clm (rows:List (List UInt8)) (k n i:Nat) (h:i<n):co (clm rows k n) i=co (rows.getD i []) k:=by unfold clm;rw [zd8,if_pos h]
def atR (ps:List UInt8) (rs:List (List UInt8)) (L:Nat) (x:UInt8):List UInt8:=(List.range L).map fun k=>sm (fun i=>mul (wt ps i x) (co (rs.getD i []) k)) ps.length
theorem atR_len (ps:List UInt8) (rs:List (List UInt8)) (L:Nat) (x:UInt8):(atR ps rs L x).length=L:=by simp [atR]
theorem At_eq (ps:List UInt8) (rs:List (List UInt8)) (L:Nat) (w:List Int) (x:UInt8) (h0:ps.length≠0) (h1:ps.length<=255) (hn:ps.Nodup) (hl:rs.length=ps.length) (hr:∀ i,i<ps.length->(rs.getD i []).length=L) (hL:L<=1000) :
  zg2 (some (true,ps,rs,w)) x=some (atR ps rs L x):=by
 have hm:1000<=most:=by decide
 unfold zg2
 rw [if_neg (by simp),obs]
 simp only
 rw [zgp ps x h0 h1 hn,obs,idx_0 (by omega),obs,hr 0 (by omega),zbu _ _ (by omega),obs]
 refine zbp (x:=atR ps rs L x) ?_ rfl
 refine zas (fun j=>((List.range L).map fun k=>sm (fun i=>mul (wt ps i x) (co (rs.getD i []) k)) j,(j:Int))) ps.length _ ?_ (fun j hj=>?_) ?_
 ·congr 1
  refine zcx (by simp) fun k=>?_
  rw [co_rep,zd8]
  split <;> rfl
 ·simp only
  rw [if_pos (by omega),zc8 (by omega),obs,zb0 (by rw [wts_len];exact hj),obs,co_wts ps x j hj,Sum_eq _ _ _ (by simp;omega),obs,za3 j (by omega)]
  congr 3
  refine zcx (by rw [sumL_len];simp) fun k=>?_
  rw [co_sumL,List.length_map,List.length_range,zd8,zd8]
  by_cases hk:k<L
  ·rw [if_pos hk,if_pos hk,if_pos hk];rfl
  ·rw [if_neg hk,if_neg hk]
 ·simp only
  rw [if_neg (by omega)];rfl
def bt (n:Nat) (g:Nat->Bool):List Bool:=(List.range n).map g
theorem bt_len (n:Nat) (g:Nat->Bool):(bt n g).length=n:=by simp [bt]
theorem idx_bt {n k:Nat} (g:Nat->Bool) (h:k<n):idx (bt n g) (k:Int)=some (g k):=by
 rw [zgf];simp [bt,h]
theorem bt_set (n k:Nat) (g:Nat->Bool) (b:Bool):(bt n g).set k b=bt n (fun j=>if j=k then b else g j):=by
 refine List.ext_getElem? fun j=>?_
 rw [List.getElem?_set]
 unfold bt
 by_cases h:k=j
 ·subst h
  rw [if_pos rfl]
  by_cases hk:k<n
  ·simp [hk]
  ·simp [hk]
 ·rw [if_neg h]
  by_cases hj:j<n
  ·simp [hj,Ne.symm h]
  ·simp [hj]
theorem bt_congr {n:Nat} {g h:Nat->Bool} (e:∀ j,j<n->g j=h j):bt n g=bt n h:=List.map_congr_left fun j hj=>e j (List.mem_range.1 hj)
theorem bt_rep (n:Nat):List.replicate n false=bt n (fun _=>false):=by
 refine List.ext_getElem? fun j=>?_
 unfold bt
 by_cases hj:j<n
 ·simp [hj]
 ·simp [hj]
theorem or_loop {body:List Bool×Int->Option ((List Bool×Int)⊕List Bool)} (n L:Nat) (hL:L<=n) (g h:Nat->Bool)
  (hs:∀ (k:Nat) (s:List Bool),k<L->idx s (k:Int)=some (g k)->body (s,(k:Int))=some (.inl (s.set k (g k||h k),((k+1:Nat):Int))))
  (he:∀ s,body (s,(L:Int))=some (.inr s)):iterC body (bt n g,0)=some (bt n (fun k=>if k<L then g k||h k else g k)):=by
 refine zas (fun k=>(bt n (fun j=>if j<k then g j||h j else g j),(k:Int))) L _ (by simp) (fun k hk=>?_) (he _)
 rw [hs k _ hk (by rw [idx_bt _ (by omega)];simp),bt_set]
 congr 3
 refine bt_congr fun j hj=>?_
 by_cases e:j=k
 ·rw [if_pos e,if_pos (by omega),e]
 ·rw [if_neg e]
  by_cases h1:j<k
  ·rw [if_pos h1,if_pos (by omega)]
  ·rw [if_neg h1,if_neg (by omega)]
theorem filt_loop {body:List Int×Int->Option ((List Int×Int)⊕List Int)} (L:Nat) (g:Nat->Bool)
  (hs:∀ (k:Nat) (s:List Int),k<L->s.length<=k->body (s,(k:Int))=some (.inl (if g k=true then s ++ [(k:Int)] else s,((k+1:Nat):Int))))
  (he:∀ s,body (s,(L:Int))=some (.inr s)):iterC body ([],0)=some (((List.range L).filter g).map fun (k:Nat)=>(k:Int)):=by
 refine zas (fun k=>(((List.range k).filter g).map fun (k:Nat)=>(k:Int),(k:Int))) L _ rfl (fun k hk=>?_) (he _)
 have hl:((List.range k).filter g).length<=k:=by
  have:=List.length_filter_le g (List.range k);simpa using this
 rw [hs k _ hk (by rw [List.length_map];exact hl),List.range_succ,List.filter_append]
 by_cases e:g k=true
 ·rw [if_pos e];simp [e]
 ·rw [if_neg e];simp [e]
theorem iterEqF {S X:Type} {body:S->Option (S⊕X)} {s0:S} {y:X} (h:∃ x,iterC body s0=some x/\x=y):iterC body s0=some y:=by
 obtain ⟨x,e,rfl⟩:=h
 exact e
def dif (ps xs:List UInt8) (rows:List (List UInt8)) (L i k:Nat):Bool:=decide (co (atR ps (rows.take ps.length) L (co xs i)) k≠co (rows.getD i []) k)
def oddB (ps xs:List UInt8) (rows:List (List UInt8)) (L j k:Nat):Bool:=(List.range j).any fun i=>decide (ps.length<=i)&&dif ps xs rows L i k
theorem oddB_succ (ps xs:List UInt8) (rows:List (List UInt8)) (L j k:Nat) (h:ps.length<=j):oddB ps xs rows L (j+1) k=(oddB ps xs rows L j k||dif ps xs rows L j k):=by
 unfold oddB
 rw [List.range_succ,List.any_append]
 simp [h]
theorem oddB_start (ps xs:List UInt8) (rows:List (List UInt8)) (L k:Nat):oddB ps xs rows L ps.length k=false:=by
 unfold oddB
 rw [List.any_eq_false]
 intro i hi
 have:=List.mem_range.1 hi
 simp;omega
theorem odd_eq (ps xs:List UInt8) (rows:List (List UInt8)) (L:Nat) (h0:ps.length≠0) (h1:ps.length<=255) (hn:ps.Nodup) (hx:ps.length<=xs.length) (hx2:xs.length<=255) (hl:rows.length=xs.length) (hr:∀ i,i<xs.length->(rows.getD i []).length=L) (hL:L<=1000) :
  mend_odd (some (true,ps,rows.take ps.length,[])) xs rows=some (((List.range L).filter (oddB ps xs rows L xs.length)).map fun (k:Nat)=>(k:Int)):=by
 have hm:1000<=most:=by decide
 have hm2:=zbl
 have htk:∀ i,i<ps.length->(rows.take ps.length).getD i []=rows.getD i []:=fun i hi=>by simp [List.getD_eq_getElem?_getD,List.getElem?_take,hi]
 unfold mend_odd
 rw [idx_0 (by omega),obs,hr 0 (by omega),zbu _ _ (by omega),obs,obs]
 simp only
 refine zbp (x:=bt L (oddB ps xs rows L xs.length)) (iterEqF (iterC_from (s0:=List.replicate L false) (fun (i:Nat) (s:List Bool)=>s=bt L (oddB ps xs rows L i)) ps.length xs.length hx (fun x=>x=bt L (oddB ps xs rows L xs.length)) ?_ ?_ ?_)) ?_
 ·rw [bt_rep];exact bt_congr fun j _=>(oddB_start _ _ _ _ _).symm
 ·rintro i s hi1 hi2 rfl
  simp only
  have hAt:=At_eq ps (rows.take ps.length) L [] (co xs i) h0 h1 hn (by simp;omega) (fun i hi=>by rw [htk i hi];exact hr i (by omega)) hL
  rw [if_pos (by omega),zb0 hi2,obs,hAt,obs,atR_len]
  refine ⟨_,zbp (or_loop L L (Nat.le_refl _) _ (fun k=>dif ps xs rows L i k) (fun k s hk hks=>?_) (fun s=>by simp)) (by rw [za3 i (by omega)]),?_⟩
  ·simp only
   rw [if_pos (by omega),zb0 (by rw [atR_len];exact hk),obs,hks,obs]
   by_cases hb:oddB ps xs rows L i k=true
   ·rw [if_pos hb,hb,Bool.true_or,za3 k (by omega),Int.toNat_natCast]
   ·rw [if_neg hb,zc8 (by omega),obs,zb0 (by rw [hr i hi2];exact hk),obs,za3 k (by omega),Int.toNat_natCast]
    rw [Bool.not_eq_true] at hb
    rw [hb,Bool.false_or]
    unfold dif
    by_cases hc:co (atR ps (rows.take ps.length) L (co xs i)) k=co (rows.getD i []) k <;> simp [hc]
  ·refine bt_congr fun k hk=>?_
   rw [if_pos hk,oddB_succ _ _ _ _ _ _ hi1]
 ·rintro s rfl
  exact ⟨_,by simp only;rw [if_neg (by omega)],rfl⟩
 ·rw [bt_len]
  refine zbp (filt_loop L (oddB ps xs rows L xs.length) (fun k s hk hks=>?_) (fun s=>by simp)) rfl
  simp only
  rw [if_pos (by omega),idx_bt _ hk,obs]
  by_cases hb:oddB ps xs rows L xs.length k=true
  ·rw [if_pos hb,if_pos hb,ze1 _ _ (by simp;omega) rfl,obs,za3 k (by omega)]
  ·rw [if_neg hb,if_neg hb,za3 k (by omega)]
open Classical in
noncomputable def PK (t e:Nat) (xs ys:List UInt8):List UInt8:=if h:∃ a,Good t e xs ys a then Classical.choose h else []
theorem PK_good {t e:Nat} {xs ys:List UInt8} (h:∃ P,Good t e xs ys P):Good t e xs ys (PK t e xs ys):=by
 unfold PK;rw [dif_pos h];exact Classical.choose_spec h
theorem wrg_zero {xs ys P:List UInt8}:∀ n,(∀ i,i<n->evp P (co xs i)=co ys i)->wrg xs ys P n=0
 | 0,_=>rfl
 | n+1,h=>by unfold wrg;rw [wrg_zero n (fun i hi=>h i (by omega)),h n (by omega),if_pos rfl]
theorem co_takeU (xs:List UInt8) {t i:Nat} (h:i<t):co (xs.take t) i=co xs i:=by rw [co_take,if_pos h]
theorem atR_poly {ps:List UInt8} {rs:List (List UInt8)} {L k:Nat} (hn:ps.Nodup) {P:List UInt8} (hP:dg P<=ps.length) (hk:k<L) (h:∀ i,i<ps.length->co (rs.getD i []) k=evp P (co ps i)) (x:UInt8):co (atR ps rs L x) k=evp P x:=by
 unfold atR
 rw [zd8,if_pos hk,lagrange hn hP x]
 exact sm_congr _ fun i hi=>by rw [h i hi]
theorem even_good {xs:List UInt8} {rows:List (List UInt8)} {t L k:Nat} (hn:xs.Nodup) (ht:t<=xs.length) (hk:k<L) (ho:oddB (xs.take t) xs rows L xs.length k=false):∃ P,dg P<=t/\∀ i,i<xs.length->evp P (co xs i)=co (rows.getD i []) k:=by
 have hpl:(xs.take t).length=t:=by simp;omega
 have hpn:(xs.take t).Nodup:=hn.sublist (List.take_sublist _ _)
 obtain ⟨P,hPe⟩:∃ P,P=lag (xs.take t) (fun i=>mul (co (rows.getD i []) k) (inv (pe (xs.take t) i (co (xs.take t) i) (xs.take t).length))) (xs.take t).length:=⟨_,rfl⟩
 have hP:dg P<=t:=by
  have:=dg_lag (xs.take t) (fun i=>mul (co (rows.getD i []) k) (inv (pe (xs.take t) i (co (xs.take t) i) (xs.take t).length))) (xs.take t).length (Nat.le_refl _)
  rw [hPe];omega
 have hat:∀ i,i<t->evp P (co xs i)=co (rows.getD i []) k:=fun i hi=>by
  have:=lag_at hpn (fun i=>co (rows.getD i []) k) (j:=i) (by omega)
  rw [co_takeU xs hi] at this
  rw [hPe];exact this
 refine ⟨P,hP,fun i hi=>?_⟩
 by_cases h:i<t
 ·exact hat i h
 ·unfold oddB at ho
  rw [List.any_eq_false] at ho
  have h2:=ho i (List.mem_range.2 hi)
  rw [hpl] at h2
  simp only [show t<=i by omega,decide_true,Bool.true_and] at h2
  unfold dif at h2
  simp only [ne_eq,decide_eq_true_eq,Classical.not_not] at h2
  rw [← h2,atR_poly hpn (P:=P) (by omega) hk (fun j hj=>?_)]
  rw [hpl] at hj
  rw [co_takeU xs hj,hat j hj]
  simp [List.getD_eq_getElem?_getD,List.getElem?_take,hpl,hj]
theorem good_even {xs:List UInt8} {rows:List (List UInt8)} {t e k:Nat} {P:List UInt8} (hP:dg P<=t) (h:∀ i,i<xs.length->evp P (co xs i)=co (rows.getD i []) k):Good t e xs (clm rows k xs.length) P:=by
 have:wrg xs (clm rows k xs.length) P xs.length=0:=wrg_zero _ fun i hi=>by rw [co_clm _ _ _ _ hi];exact h i hi
 exact ⟨hP,by omega,by omega⟩
theorem clm_loop (rows:List (List UInt8)) (k L n:Nat) (hl:rows.length=n) (hr:∀ i,i<n->(rows.getD i []).length=L) (hk:k<L) (hn:n<=1000):iterC (fun s56:List UInt8×Int =>
(if s56.2<(rows.length:Int) then
((idx rows s56.2).bind fun c59 =>
((idx c59 (k:Int)).bind fun c61 =>
((appL s56.1 (([c61]:List UInt8))).bind fun c65 => some (.inl (c65,(wI (s56.2+1)))))))
else some (.inr s56.1))) (([]:List UInt8),0)=some (clm rows k n):=by
 have hm:1000<most:=by decide
 refine zas (fun i=>(clm rows k i,(i:Int))) n _ rfl (fun i hi=>?_) (by simp only;rw [if_neg (by omega)])
 simp only
 rw [if_pos (by omega),zc8 (by omega),obs,zb0 (by rw [hr i hi];exact hk),obs,ze1 _ _ (by rw [clm_len];simp;omega) rfl,obs,za3 i (by omega)]
 unfold clm
 rw [List.range_succ,List.map_append];rfl
end Gk

/- Chapter 10: rows, mended. No condition. -/
namespace Gk
open Gf
theorem subL_0m {α:Type} (l:List α) (b:Nat) (h:b<=l.length):subL l 0 (b:Int)=some (l.take b):=by
 have:=zd6 l 0 b (Nat.zero_le _) h
 rwa [show ((0:Nat):Int)=0 from rfl,List.drop_zero] at this
theorem getD_takeR (rows:List (List UInt8)) {t i:Nat} (h:i<t):(rows.take t).getD i []=rows.getD i []:=by simp [List.getD_eq_getElem?_getD,List.getElem?_take,h]
theorem CloneB_eq (b:List UInt8) (h:b.length<=most):zah b=some b:=by
 unfold zah;exact zf5 b h
def Fixed (t e:Nat) (xs:List UInt8) (rows:List (List UInt8)) (L:Nat) (R:List (List UInt8)):Prop :=
 R.length=t/\(∀ i,i<t->(R.getD i []).length=L)/\(∀ k,k<L->∃ P,Good t e xs (clm rows k xs.length) P)/\∀ i,i<t->∀ k,k<L->co (R.getD i []) k=evp (PK t e xs (clm rows k xs.length)) (co xs i)
theorem fix_rows (t e:Nat) (xs:List UInt8) (rows:List (List UInt8)) (L:Nat) (h1:1<=t) (ht:t<=xs.length) (h255:xs.length<=255) (hn:xs.Nodup) (hl:rows.length=xs.length) (hr:∀ i,i<xs.length->(rows.getD i []).length=L) (hL:L<=1000) (od:List Nat) (hod:od=(List.range L).filter (oddB (xs.take t) xs rows L xs.length)) :
  ∃ x:(List (List UInt8))⊕(Option (Bool×List UInt8×List (List UInt8)×List Int)×Int),iterC (fun s52:List (List UInt8)×Int =>
(if s52.2<((od.map fun (k:Nat)=>(k:Int)).length:Int) then
((idx (od.map fun (k:Nat)=>(k:Int)) s52.2).bind fun c55 =>
((iterC (fun s56:List UInt8×Int =>
(if s56.2<(rows.length:Int) then
((idx rows s56.2).bind fun c59 =>
((idx c59 c55).bind fun c61 =>
((appL s56.1 (([c61]:List UInt8))).bind fun c65 => some (.inl (c65,(wI (s56.2+1)))))))
else some (.inr s56.1))) (([]:List UInt8),0)).bind fun x56 =>
((zel true (t:Int) xs x56 (e:Int)).bind fun r73 =>
(if r73.2=0 then
((iterC (fun s76:List (List UInt8)×Int =>
(if s76.2<((xs.take t).length:Int) then
((idx (xs.take t) s76.2).bind fun c79 =>
((idx s76.1 s76.2).bind fun c82 =>
((zg0 true r73.1 c79).bind fun r84 =>
((idx c82 c55).bind fun c86 => some (.inl ((s76.1.set (s76.2:Int).toNat (c82.set (c55:Int).toNat r84)),(wI (s76.2+1))))))))
else some (.inr s76.1))) (s52.1,0)).bind fun x76 => some (.inl (x76,(wI (s52.2+1)))))
else some (.inr (.inr ((none:Option (Bool×List UInt8×List (List UInt8)×List Int)),r73.2)))))))
else some (.inr (.inl s52.1)))) (rows.take t,0)=some x/\((∃ R,x=.inl R/\Fixed t e xs rows L R)∨(x=.inr (none,11)/\∃ k,k<L/\∀ P,¬ Good t e xs (clm rows k xs.length) P)):=by
 have hm:1000<=most:=by decide
 have hm2:=zbl
 have hodq:∀ q,q∈od->q<L:=fun q hq=>by
  rw [hod] at hq
  exact List.mem_range.1 (List.mem_filter.1 hq).1
 have hodl:∀ m,m<od.length->od.getD m 0<L:=fun m hm3=>hodq _ (by simp [List.getD_eq_getElem?_getD,hm3])
 have hodn:od.length<=L:=by
  rw [hod]
  have:=List.length_filter_le (oddB (xs.take t) xs rows L xs.length) (List.range L)
  simpa using this
 have hidx:∀ m,m<od.length->idx (od.map fun (k:Nat)=>(k:Int)) (m:Int)=some ((od.getD m 0:Nat):Int):=fun m hm3=>by
  rw [zgf];simp [List.getD_eq_getElem?_getD,hm3]
 refine zgl (fun s=>∃ j:Nat,s.2=(j:Int)/\j<=od.length/\s.1.length=t/\(∀ i,i<t->(s.1.getD i []).length=L)/\(∀ k,k∈od.take j->∃ P,Good t e xs (clm rows k xs.length) P)/\∀ i,i<t->∀ k,k<L->co (s.1.getD i []) k=if k∈od.take j then evp (PK t e xs (clm rows k xs.length)) (co xs i) else co (rows.getD i []) k) (fun s=>od.length - s.2.toNat) _ ?_ _ ⟨0,rfl,Nat.zero_le _,by simp;omega,fun i hi=>by rw [getD_takeR rows hi];exact hr i (by omega),by simp,fun i hi k hk=>by simp only;rw [if_neg (by simp),getD_takeR rows hi]⟩
 rintro ⟨R,_⟩ ⟨j,rfl,hj,hRl,hRr,hg,hco⟩
 simp only at hRl hRr hco ⊢
 by_cases hjl:j<od.length
 ·have hkL:=hodl j hjl
  have htk:od.take (j+1)=od.take j ++ [od.getD j 0]:=by
   rw [List.take_add_one]
   simp [List.getD_eq_getElem?_getD,hjl]
  rw [List.length_map,if_pos (by omega),hidx j hjl,obs,clm_loop rows (od.getD j 0) L xs.length hl hr hkL (by omega),obs]
  generalize od.getD j 0=k at hkL htk ⊢
  have hcs:=column_spec xs (clm rows k xs.length) t e (by rw [clm_len]) h1 ht h255 hn
  by_cases hgd:∃ P,Good t e xs (clm rows k xs.length) P
  ·left
   have hP:=PK_good hgd
   generalize hPe:PK t e xs (clm rows k xs.length)=P at hP
   have hPl:(trim P).length<=255:=by have:=hP.1;unfold dg at this;omega
   rw [hcs.1 P hP,obs,if_pos rfl]
   simp only
   refine ⟨_,zbp (rows_loop R t hRl (fun i=>(R.getD i []).set k (evp P (co xs i))) (fun i hi=>?_) (fun s=>by simp;omega)) (by rw [za3 j (by omega)]),⟨j+1,rfl,hjl,by simp,fun i hi=>?_,fun q hq=>?_,fun i hi q hq=>?_⟩,by simp only [Int.toNat_natCast];omega⟩
   ·simp only
    have hU:=zid R (fun i=>(R.getD i []).set k (evp P (co xs i))) i
    have hG:=getD_updR R (fun i=>(R.getD i []).set k (evp P (co xs i))) i i (by omega)
    rw [if_neg (by omega)] at hG
    generalize updR R (fun i=>(R.getD i []).set k (evp P (co xs i))) i=s at hU hG ⊢
    rw [if_pos (by rw [List.length_take];omega),zb0 (by rw [List.length_take];omega),obs,zc8 (by omega),obs,hG,poly_Eval_eq _ _ (by omega),obs,zb0 (by rw [hRr i hi];exact hkL),obs,za3 i (by omega),Int.toNat_natCast,Int.toNat_natCast,ev_trim,co_takeU xs hi]
   ·rw [getD_tab _ _ _ hi,List.length_set];exact hRr i hi
   ·rw [htk,List.mem_append] at hq
    rcases hq with hq | hq
    ·exact hg q hq
    ·rw [List.mem_singleton] at hq;rw [hq];exact hgd
   ·rw [getD_tab _ _ _ hi,co_set (by rw [hRr i hi];exact hkL),htk]
    by_cases e1:q=k
    ·rw [if_pos e1,if_pos (by simp [e1]),e1,hPe]
    ·rw [if_neg e1,hco i hi q hq]
     by_cases e2:q∈od.take j
     ·rw [if_pos e2,if_pos (by simp [e2])]
     ·rw [if_neg e2,if_neg (by simp [e2,e1])]
  ·right
   rw [hcs.2 (fun P hP=>hgd ⟨P,hP⟩),obs]
   exact ⟨_,rfl,.inr ⟨rfl,k,hkL,fun P hP=>hgd ⟨P,hP⟩⟩⟩
 ·right
  rw [List.length_map,if_neg (by omega)]
  have hjo:od.take j=od:=List.take_of_length_le (by omega)
  rw [hjo] at hg hco
  have hpn:∀ k,k<L->k ∉ od->oddB (xs.take t) xs rows L xs.length k=false:=fun k hk hno=>by
   cases hb:oddB (xs.take t) xs rows L xs.length k with
   | false=>rfl
   | true=>exact absurd (by rw [hod];exact List.mem_filter.2 ⟨List.mem_range.2 hk,hb⟩) hno
  have hgood:∀ k,k<L->∃ P,Good t e xs (clm rows k xs.length) P:=fun k hk=>by
   by_cases hko:k∈od
   ·exact hg k hko
   ·obtain ⟨P,hP,hPe⟩:=even_good hn ht hk (hpn k hk hko)
    exact ⟨P,good_even hP hPe⟩
  refine ⟨_,rfl,.inl ⟨R,rfl,hRl,hRr,hgood,fun i hi k hk=>?_⟩⟩
  rw [hco i hi k hk]
  by_cases hko:k∈od
  ·rw [if_pos hko]
  ·rw [if_neg hko]
   obtain ⟨P,hP,hPe⟩:=even_good hn ht hk (hpn k hk hko)
   rw [← hPe i (by omega)]
   exact ev_sim _ _ _ (Good.uniq hn ht (good_even hP hPe) (PK_good (hgood k hk)))
noncomputable def rowP (t e:Nat) (a:List UInt8) (d:List (List UInt8)) (b:Nat) (f:UInt8):List UInt8:=(List.range b).map fun c=>evp (PK t e a (clm d c a.length)) f
theorem rowP_len (t e:Nat) (xs:List UInt8) (rows:List (List UInt8)) (L:Nat) (x:UInt8):(rowP t e xs rows L x).length=L:=by simp [rowP]
theorem Fixed.at {t e:Nat} {xs:List UInt8} {rows R:List (List UInt8)} {L:Nat} (h:Fixed t e xs rows L R) (h1:1<=t) (ht:t<=xs.length) (h255:xs.length<=255) (hn:xs.Nodup) (hL:L<=1000) (w:List Int) (x:UInt8):zg2 (some (true,xs.take t,R,w)) x=some (rowP t e xs rows L x):=by
 obtain ⟨hl,hr,hg,hco⟩:=h
 have hpl:(xs.take t).length=t:=by simp;omega
 have hpn:(xs.take t).Nodup:=hn.sublist (List.take_sublist _ _)
 rw [At_eq (xs.take t) R L w x (by omega) (by omega) hpn (by omega) (fun i hi=>hr i (by omega)) hL]
 congr 1
 refine zcx (by rw [atR_len,rowP_len]) fun k=>?_
 by_cases hk:k<L
 ·rw [atR_poly hpn (P:=PK t e xs (clm rows k xs.length)) (by rw [hpl];exact (PK_good (hg k hk)).1) hk (fun i hi=>by rw [hpl] at hi;rw [hco i hi k hk,co_takeU xs hi])]
  unfold rowP;rw [zd8,if_pos hk]
 ·rw [co_ge (by rw [atR_len];omega),co_ge (by rw [rowP_len];omega)]
theorem Equal_eq (a b:List UInt8) (h:a.length<=most):zcd a b=some (decide (a=b)):=by
 have hm2:=zbl
 unfold zcd
 by_cases hl:a.length=b.length
 ·rw [if_pos (by omega)]
  obtain ⟨x,e,h1,h2⟩:=iterC_find (body:=fun s2:Int=>(if s2<(a.length:Int) then ((idx a s2).bind fun c7=>((idx b s2).bind fun c8=>(if c7=c8 then some (.inl (wI (s2+1))) else some (.inr (.inr false))))) else some (.inr (.inl ())))) a.length (fun i=>co a i≠co b i) (Sum.inr false:Unit⊕Bool) (Sum.inl ())
   (fun i hi hc=>by
    rw [if_pos (by omega),zb0 hi,obs,zb0 (by omega),obs,if_pos (Classical.not_not.1 hc),za3 i (by omega)])
   (fun i hi hc=>by
    rw [if_pos (by omega),zb0 hi,obs,zb0 (by omega),obs,if_neg hc]) (by simp)
  rw [e,obs]
  by_cases hab:∃ i,i<a.length/\co a i≠co b i
  ·rw [h1 hab,Sum.elim_inr,decide_eq_false]
   rintro rfl
   obtain ⟨i,_,hi⟩:=hab
   exact hi rfl
  ·have hall:∀ i,i<a.length->co a i=co b i:=fun i hi=>Classical.byContradiction fun hc=>hab ⟨i,hi,hc⟩
   rw [h2 (fun i hi hc=>hc (hall i hi)),Sum.elim_inl,decide_eq_true]
   refine zcx hl fun i=>?_
   by_cases hi:i<a.length
   ·exact hall i hi
   ·rw [co_ge (by omega),co_ge (by omega)]
 ·rw [if_neg (by omega),decide_eq_false]
  rintro rfl;exact hl rfl
noncomputable def badR (t e:Nat) (b:List UInt8) (a:List (List UInt8)) (L i:Nat):Bool:=!decide (rowP t e b a L (co b i)=a.getD i [])
noncomputable def mended (t e:Nat) (a:List UInt8) (f:List (List UInt8)) (b:Nat) (c:List (List UInt8)):Bool×List UInt8×List (List UInt8)×List Int:=(true,a.take t,c,((List.range a.length).filter (badR t e a f b)).map fun (d:Nat)=>(d:Int))
theorem Rows_spec (t e:Nat) (xs:List UInt8) (rows:List (List UInt8)) (L:Nat) (hc:mcode (t:Int) xs (rows.length:Int) (e:Int)=0) (hr:∀ i,i<rows.length->(rows.getD i []).length=L) (hL:L<=1000) :
  (∃ R,zev true (t:Int) xs rows (e:Int)=some (some (mended t e xs rows L R),0)/\Fixed t e xs rows L R)∨(zev true (t:Int) xs rows (e:Int)=some (none,11)/\∃ k,k<L/\∀ P,¬ Good t e xs (clm rows k xs.length) P):=by
 obtain ⟨q1,q2,q3,q4,q5,q6⟩:=mcode_ok hc
 have hm:1000<=most:=by decide
 have hm2:=zbl
 have hpl:(xs.take t).length=t:=by simp;omega
 unfold zev
 rw [mend_check_eq _ _ _ _ (by omega),hc,obs,if_pos rfl,zem (by omega),obs]
 have hany:anyO (fun y7=>ze7 y7 rows) rows=some (rows.any fun r=>decide (r.length≠L)):=zim _ _ _ fun r _=>by
  unfold ze7
  rw [idx_0 (by omega),obs,hr 0 (by omega)]
  by_cases h:r.length=L <;> simp [h]
  omega
 have hno:(rows.any fun r=>decide (r.length≠L))=false:=by
  rw [List.any_eq_false]
  intro r hr3
  obtain ⟨i,hi,rfl⟩:=mem_getD hr3
  rw [hr i hi];simp
 rw [hany,hno,obs,if_neg (by decide),subL_0m xs t (by omega),obs,CloneB_eq _ (by omega),obs,subL_0m rows t (by omega),obs]
 have hcl:iterC (fun s21:List (List UInt8)×Int=>(if s21.2<((rows.take t).length:Int) then ((idx (rows.take t) s21.2).bind fun c24=>((zah c24).bind fun r28=>((appL s21.1 [r28]).bind fun c37=>some (.inl (c37,(wI (s21.2+1))))))) else some (.inr s21.1))) (([]:List (List UInt8)),0)=some (rows.take t):=by
  have htl:(rows.take t).length=t:=by simp;omega
  refine zas (fun i=>((rows.take t).take i,(i:Int))) t _ (by simp) (fun i hi=>?_) ?_
  ·simp only
   rw [if_pos (by omega),zc8 (by omega),obs,CloneB_eq _ (by rw [getD_takeR rows hi,hr i (by omega)];omega),obs,ze1 _ _ (by simp;omega) rfl,obs,za3 i (by omega),rows_snoc (by omega)]
  ·simp only
   rw [if_neg (by omega),List.take_of_length_le (by omega)]
 have hodd:=odd_eq (xs.take t) xs rows L (by omega) (by omega) (q6.sublist (List.take_sublist _ _)) (by omega) q5 (by omega) (fun i hi=>hr i (by omega)) hL
 rw [hpl] at hodd
 rw [hcl,obs,hodd,obs]
 obtain ⟨x,ex,hx⟩:=fix_rows t e xs rows L (by omega) (by omega) q5 q6 (by omega) (fun i hi=>hr i (by omega)) hL _ rfl
 rw [ex,obs]
 rcases hx with ⟨R,rfl,hF⟩ | ⟨rfl,hb⟩
 ·left
  refine ⟨R,?_,hF⟩
  rw [Sum.elim_inl]
  refine zbp (filt_loop xs.length (badR t e xs rows L) (fun i s hi hs=>?_) (fun s=>by simp)) rfl
  simp only
  rw [if_pos (by omega),zb0 hi,obs,zc8 (by omega),obs,hF.at (by omega) (by omega) q5 q6 hL,obs,Equal_eq _ _ (by rw [rowP_len];omega),obs]
  unfold badR
  by_cases hb:rowP t e xs rows L (co xs i)=rows.getD i []
  ·rw [decide_eq_true hb,if_neg (by decide),if_neg (by decide),za3 i (by omega)]
  ·rw [decide_eq_false hb,if_pos (by decide),if_pos (by decide),ze1 _ _ (by simp;omega) rfl,obs,za3 i (by omega)]
 ·right
  exact ⟨by rw [Sum.elim_inr],hb⟩
theorem Rows_code (t:Int) (xs:List UInt8) (rows:List (List UInt8)) (e:Int) (h:xs.length<=most) (hc:mcode t xs (rows.length:Int) e≠0):zev true t xs rows e=some (none,mcode t xs (rows.length:Int) e):=by
 unfold zev
 rw [mend_check_eq _ _ _ _ h,obs,if_neg hc]
end Gk

/- Printed by gen.py: for each Go function a pure function, and that the Go code comes to it. No condition beside the equation that says what the pure function gives. -/
namespace Gk
open Go Go.Proofs
noncomputable def zif (a:UInt8):Option Bool := some (!decide (a=(0:UInt8)))
theorem word_Zero_1_calls (a0x:UInt8) (r:Bool) (w0:World) (H:zif a0x=some r) :
  Calls Tryz.prog 102 [(u8 a0x)].toArray w0 (fun e w'=>e=.returned (.bool r)/\Ext w0 w'):=by
 have hE:Ext w0 w0:=Ext.refl w0;unfold zif at H;refine zaj (n:=5) Tryz.func102 rfl rfl rfl ?_;refine W_seq<|W_rg<|av (.bool false) rfl rfl<|wnt<|W_seq<|W_rg<|mv (u8 a0x) rfl rfl<|wa rfl (q_ne8 rfl rfl (cst8 (0:UInt8) rfl))<|?_;refine av (.bool ((!decide (a0x=(0:UInt8))))) rfl rfl<|wnt<|W_ret<|?_;obtain rfl:=osi H;refine rt1 (.bool ((!decide (a0x=(0:UInt8))))) rfl rfl rfl rfl ?_;exact ⟨rfl,hE⟩
noncomputable def word_Zero (a:List UInt8):Option Bool :=
((lim a.length).bind fun d =>
((anyO (fun c=>zif c) a).bind fun b => some (!b)))
theorem word_Zero_calls (a0b:List UInt8) (p0:Value) (r:Bool) (w0:World) (hp0:By w0 [] p0 a0b) (H:word_Zero a0b=some r) :
  Calls Tryz.prog 73 [p0].toArray w0 (fun e w'=>e=.returned (.bool r)/\Ext w0 w'):=by
 have hE:Ext w0 w0:=Ext.refl w0;unfold word_Zero at H;refine zaj (n:=6) Tryz.func73 rfl rfl rfl ?_;refine W_seq<|W_rg<|av (.bool false) rfl rfl<|wnt<|W_seq<|W_rg<|mv p0 rfl rfl<|?_;obtain ⟨lim1,hl1,H⟩:=bsi H;obtain ⟨r1,hr1,H⟩:=bsi H;refine wls rfl rfl (zab (vs:=[p0,(.func (.func 102) #[] #[])]) Tryz.func101 rfl rfl rfl (ar2 rfl rfl) (zhu p0 a0b 102 _ Tryz.func102 rfl rfl [] (fun y1=>zif y1) r1 _ (hp0.lift (le_ hE)) (zhm hl1) hr1 (fun y1 _ b w' xE hb=>word_Zero_1_calls y1  b w'  hb)) ?_);rintro _ w1 ⟨rfl,x1⟩;refine ⟨_,rfl,?_⟩;have e2:=hE.trans x1;refine wa rfl (q_not rfl rfl)<|av (.bool ((!r1))) rfl rfl<|wnt<|W_ret<|?_;obtain rfl:=osi H;refine rt1 (.bool ((!r1))) rfl rfl rfl rfl ?_;exact ⟨rfl,e2⟩
end Gk

/- Printed by gen.py: for each Go function a pure function, and that the Go code comes to it. No condition beside the equation that says what the pure function gives. -/
namespace Gk
open Go Go.Proofs
noncomputable def za0 (a:Int) (b:List Int):Option Bool :=
(if a<1 then some true
else
((idx b 2).bind fun c => some (decide (c<a))))
theorem zgg (a0p:Int) (b0:List Int) (gc0:Nat) (r:Bool) (w0:World) (hcB0:Blk w0 gc0 25 (ac i64 b0)) (H:za0 a0p b0=some r) :
  Calls Tryz.prog 33 [(i64 a0p),(bp gc0)].toArray w0 (fun e w'=>e=.returned (.bool r)/\Ext w0 w'):=by
 have hE:Ext w0 w0:=Ext.refl w0;unfold za0 at H;refine zaj (n:=12) Tryz.func33 rfl rfl rfl ?_;refine W_seq<|W_rg<|av (.bool false) rfl rfl<|wnt<|W_seq<|W_rg<|mv (i64 a0p) rfl rfl<|wa rfl (q_ltI rfl rfl rfl)<|?_;refine wlb rfl rfl (zau (v:=(.bool ((decide (a0p<1))))) rfl rfl) (fun hb1=>?_) (fun hb1=>?_)
 ·replace H:=ifp hb1 H;refine wk rfl<|wk rfl<|wk rfl<|wk rfl<|wa rfl (zao (v:=(.bool true)) rfl rfl rfl)<|av (.bool true) rfl rfl<|wnt<|W_ret<|?_;obtain rfl:=osi H;refine rt1 (.bool true) rfl rfl rfl rfl ?_;exact ⟨rfl,hE⟩
 replace H:=ifn hb1 H;refine mv (i64 a0p) rfl rfl ?_;obtain ⟨c2,hc2,H⟩:=bsi H;refine wa rfl (zdf (j:=2) rfl fieldS2 rfl)<|wq rfl (zbv (m:=0) rfl G25 rfl (hcB0.ext hE) (zai _ _) hc2)<|wa rfl (q_gtI rfl rfl rfl)<|wa rfl (zae (v:=(.bool ((decide (c2<a0p))))) rfl rfl rfl)<|av (.bool ((decide (c2<a0p)))) rfl rfl<|wnt<|W_ret<|?_;obtain rfl:=osi H;refine rt1 (.bool ((decide (c2<a0p)))) rfl rfl rfl rfl ?_;exact ⟨rfl,hE⟩
noncomputable def zbo (b:List UInt8) (a:List Int):Option Bool :=
((lenA 4 a).bind fun d =>
((za6 a).bind fun c => some (!decide ((b.length:Int)=c))))
theorem zgh (a0r:List UInt8) (b0:List Int) (p0:Value) (gc0:Nat) (r:Bool) (w0:World) (hp0:By w0 [] p0 a0r) (hcB0:Blk w0 gc0 25 (ac i64 b0)) (H:zbo a0r b0=some r) :
  Calls Tryz.prog 35 [p0,(bp gc0)].toArray w0 (fun e w'=>e=.returned (.bool r)/\Ext w0 w'):=by
 have hE:Ext w0 w0:=Ext.refl w0;unfold zbo at H;refine zaj (n:=9) Tryz.func35 rfl rfl rfl ?_;refine W_seq<|W_rg<|av (.bool false) rfl rfl<|wnt<|W_seq<|W_rg<|mv p0 rfl rfl<|wa rfl (q_len rfl T22.sl rfl (hp0.lift (le_ hE)))<|?_;obtain ⟨c1,hc1,H⟩:=bsi H;refine wq rfl (zb2 (m:=0) rfl G25 rfl (hcB0.ext hE) (zai _ _) (zaf hc1)) ?_;obtain ⟨r2,hr2,H⟩:=bsi H;refine wls rfl rfl (zab (vs:=[(ag i64 b0)]) Tryz.func21 rfl rfl rfl (ar1 rfl) (zca b0  r2 _  hr2) ?_);rintro _ w2 ⟨rfl,x2⟩;refine ⟨_,rfl,?_⟩;have e3:=hE.trans x2;refine wa rfl (q_neI rfl rfl rfl)<|av (.bool ((!decide ((a0r.length:Int)=r2)))) rfl rfl<|wnt<|W_ret<|?_;obtain rfl:=osi H;refine rt1 (.bool ((!decide ((a0r.length:Int)=r2)))) rfl rfl rfl rfl ?_;exact ⟨rfl,e3⟩
noncomputable def zak (a:List Int) (g:Bool) (b:List Int) (c:List (List UInt8)):Option (Option (List Int×Bool×(Option (Bool×List UInt8×List (List UInt8)×List Int))×List (List UInt8)×List Int)×Int) :=
(if (!g)=true then some ((none:Option (List Int×Bool×(Option (Bool×List UInt8×List (List UInt8)×List Int))×List (List UInt8)×List Int)),1)
else
(if (b.length:Int)=(c.length:Int) then
((lenA 4 a).bind fun C =>
((zbb a).bind fun v =>
(if (!v)=true then some ((none:Option (List Int×Bool×(Option (Bool×List UInt8×List (List UInt8)×List Int))×List (List UInt8)×List Int)),2)
else
((lim b.length).bind fun D =>
((anyO (fun z=>za0 z a) b).bind fun s =>
(if s=true then some ((none:Option (List Int×Bool×(Option (Bool×List UInt8×List (List UInt8)×List Int))×List (List UInt8)×List Int)),2)
else
((lim c.length).bind fun E =>
((anyO (fun A=>zbo A a) c).bind fun t =>
(if t=true then some ((none:Option (List Int×Bool×(Option (Bool×List UInt8×List (List UInt8)×List Int))×List (List UInt8)×List Int)),3)
else
((idx a 1).bind fun i =>
(if (c.length:Int)<i then some ((none:Option (List Int×Bool×(Option (Bool×List UInt8×List (List UInt8)×List Int))×List (List UInt8)×List Int)),12)
else
((iterC (fun e:List UInt8×Int =>
(if e.2<(b.length:Int) then
((idx b e.2).bind fun j =>
((appL e.1 ([UInt8.ofInt j]:List UInt8)).bind fun k => some (.inl (k,wI (e.2+1)))))
else some (.inr e.1))) (([]:List UInt8),0)).bind fun w =>
((idx a 1).bind fun l =>
((idx a 3).bind fun m =>
((zev g l w c m).bind fun d =>
(if d.2=0 then
((lenA 4 a).bind fun B =>
((zgb d.1).bind fun h =>
((iterC (fun f:List Int×Int =>
(if f.2<(h.length:Int) then
((idx h f.2).bind fun n =>
((idx b n).bind fun o =>
((appL f.1 ([o]:List Int)).bind fun p => some (.inl (p,wI (f.2+1))))))
else some (.inr f.1))) (([]:List Int),0)).bind fun x =>
((idx a 1).bind fun q =>
((iterC (fun s62:List (List UInt8)×Int =>
(if s62.2<q then
((zg2 d.1 (UInt8.ofInt (wI (s62.2+1)))).bind fun u =>
((appL s62.1 ([u]:List (List UInt8))).bind fun r => some (.inl (r,wI (s62.2+1)))))
else some (.inr s62.1))) (([]:List (List UInt8)),0)).bind fun y => some (some (a,g,d.1,y,x),0))))))
else some ((none:Option (List Int×Bool×(Option (Bool×List UInt8×List (List UInt8)×List Int))×List (List UInt8)×List Int)),d.2)))))))))))))))))
else some ((none:Option (List Int×Bool×(Option (Bool×List UInt8×List (List UInt8)×List Int))×List (List UInt8)×List Int)),1)))
theorem zbh (o:List Int) (aP:Bool) (aB:List Int) (Y:List (List UInt8)) (q:Value) (z:Value) (A:Value) (c2:Option (List Int×Bool×(Option (Bool×List UInt8×List (List UInt8)×List Int))×List (List UInt8)×List Int)×Int) (w0:World) (e:List Value) (K:Old w0 e) (aT:Fd w0 e q aP) (a1:In w0 [] z aB) (aU:Rw w0 [] A Y) (a:zak o aP aB Y=some c2) :
  Calls Tryz.prog 13 [ag i64 o,q,z,A].toArray w0 (fun e6 aG=>∃ dT:Value,e6=.returned (.tuple #[dT,i64 c2.2])/\Ext w0 aG/\RcSt aG e dT c2.1):=by
 have cQ:Ext w0 w0:=Ext.refl w0;unfold zak at a;refine zaj (n:=121) Tryz.func13 V V V<|W_sr<|wls V V (zb7 (v:=ag i64 o) (cs:=ac i64 o) e V V V ?_);intro c h9 D f9 eD gT;have gM:=zaa eD;have fF:=Nw.ext cQ f9;have aC:=cQ.trans gM;refine av (.pointer none) V V<|av (i64 0) V V<|wnt<|W_seq<|zad<|W_sr<|mv q V V<|wa V (q_eqF V V V V ((aT.lift (Lift.sub (L':=[]) (fun _ _=>trivial))).lift (le_ aC)))<|wlb V V (zau (v:=(.bool (!aP))) V V) (fun bJ=>?_) (fun bJ=>?_)
 ·replace a:=(if_pos bJ).symm.trans a;refine wk V<|wk V<|wk V<|wk V<|wk V<|wa V (zao (v:=(.bool true)) V V V)<|av (.bool true) V V<|wnt<|zal true V V (fun _=>?_) (fun a0=>by cases a0);refine W_sr<|av (.pointer none) V V<|av (i64 1) V V<|wnt<|W_ret<|bk_r<|th_r<|?_;obtain rfl:=osi a;refine rt2 (.pointer none) (i64 1) V V V V V V ?_;exact ⟨.pointer none,rfl,aC,RcSt.nil _ _⟩
 replace a:=(if_neg (ne_true_of_eq_false bJ)).symm.trans a;refine mv z V V<|wa V (q_len V T35.sl V (a1.lift (le_ aC)))<|mv A V V<|wa V (q_len V T29.sl V (aU.lift (le_ aC)))<|wa V (q_neI V V V)<|wa V (zae (v:=(.bool (!decide ((aB.length:Int)=(Y.length:Int))))) V V V)<|av (.bool (!decide ((aB.length:Int)=(Y.length:Int)))) V V<|wnt<|zal _ V V (fun bK=>?_) (fun bK=>?_)
 ·replace a:=(if_neg (zbd bK)).symm.trans a;refine W_sr<|av (.pointer none) V V<|av (i64 1) V V<|wnt<|W_ret<|bk_r<|th_r<|?_;obtain rfl:=osi a;refine rt2 (.pointer none) (i64 1) V V V V V V ?_;exact ⟨.pointer none,rfl,aC,RcSt.nil _ _⟩
 replace a:=(if_pos (zbc bK)).symm.trans a;refine W_sr<|bse a fun gR eM a=>wq V (zb2 (m:=0) V G25 V D (zai _ _) (zaf eM)) ?_;obtain ⟨d9,eZ,a⟩:=bsi a;refine wls V V (zab (vs:=[ag i64 o]) Tryz.func20 V V V (ar1 V) (zb4 o  d9 _  eZ) ?_);rintro _ hK ⟨rfl,e0⟩;refine ⟨_,rfl,?_⟩;replace D:=D.ext e0;have bB:=aC.trans e0;refine wa V (q_not V V)<|wlb V V (zau (v:=(.bool (!d9))) V V) (fun bL=>?_) (fun bL=>?_)
 ·replace a:=(if_pos bL).symm.trans a;refine wk V<|wk V<|wk V<|wa V (zao (v:=(.bool true)) V V V)<|av (.bool true) V V<|wnt<|zal true V V (fun _=>?_) (fun a0=>by cases a0);refine W_sr<|av (.pointer none) V V<|av (i64 2) V V<|wnt<|W_ret<|bk_r<|th_r<|?_;obtain rfl:=osi a;refine rt2 (.pointer none) (i64 2) V V V V V V ?_;exact ⟨.pointer none,rfl,bB,RcSt.nil _ _⟩
 replace a:=(if_neg (ne_true_of_eq_false bL)).symm.trans a;refine mv z V V<|wa V (zfl (vs:=[bp c]) V (ar1 V))<|?_;obtain ⟨gZ,eP,a⟩:=bsi a;obtain ⟨c3,eR,a⟩:=bsi a;refine wls V V (zab (vs:=[z,(.func (.func 33) #[] [bp c].toArray)]) Tryz.func32 V V V (ar2 V V) (zic z aB 33 _ Tryz.func33 V V [bp c] (fun cC=>za0 cC o) c3 _ (a1.lift (le_ bB)) (zhm eP) eR (fun cC _ b9 aG cB a0=>zgg cC o c b9 aG (D.ext cB) a0)) ?_);rintro _ hA ⟨rfl,dX⟩;refine ⟨_,rfl,?_⟩;replace D:=D.ext dX;have bA:=bB.trans dX;refine wa V (zae (v:=(.bool c3)) V V V)<|av (.bool c3) V V<|wnt<|zal _ V V (fun bG=>?_) (fun bG=>?_)
 ·replace a:=(if_pos bG).symm.trans a;refine W_sr<|av (.pointer none) V V<|av (i64 2) V V<|wnt<|W_ret<|bk_r<|th_r<|?_;obtain rfl:=osi a;refine rt2 (.pointer none) (i64 2) V V V V V V ?_;exact ⟨.pointer none,rfl,bA,RcSt.nil _ _⟩
 replace a:=(if_neg (ne_true_of_eq_false bG)).symm.trans a;refine W_sr<|mv A V V<|wa V (zfl (vs:=[bp c]) V (ar1 V))<|?_;obtain ⟨h0,eQ,a⟩:=bsi a;obtain ⟨d8,eS,a⟩:=bsi a;refine wls V V (zab (vs:=[A,(.func (.func 35) #[] [bp c].toArray)]) Tryz.func34 V V V (ar2 V V) (zb8 A Y 35 _ Tryz.func35 V V [bp c] (fun cD=>zbo cD o) d8 _ (aU.lift (le_ bA)) (zhm eQ) eS (fun cD _ b9 aG cB a0 u f0=>zgh cD o u c b9 aG f0 (D.ext cB) a0)) ?_);rintro _ hB ⟨rfl,dY⟩;refine ⟨_,rfl,?_⟩;replace D:=D.ext dY;have aH:=bA.trans dY;refine av (.bool d8) V V<|wnt<|zal _ V V (fun bH=>?_) (fun bH=>?_)
 ·replace a:=(if_pos bH).symm.trans a;refine W_sr<|av (.pointer none) V V<|av (i64 3) V V<|wnt<|W_ret<|bk_r<|th_r<|?_;obtain rfl:=osi a;refine rt2 (.pointer none) (i64 3) V V V V V V ?_;exact ⟨.pointer none,rfl,aH,RcSt.nil _ _⟩
 replace a:=(if_neg (ne_true_of_eq_false bH)).symm.trans a;refine W_sr<|mv A V V<|wa V (q_len V T29.sl V (aU.lift (le_ aH)))<|bse a fun e4 eH a=>wa V (zdf (j:=1) V zgu V)<|wq V (zbv (m:=0) V G25 V D (zai _ _) eH)<|wa V (q_ltI V V V)<|av (.bool (decide ((Y.length:Int)<e4))) V V<|wnt<|wci a V V (fun a=>?_) (fun a=>?_)
 ·refine W_sr<|av (.pointer none) V V<|av (i64 12) V V<|wnt<|W_ret<|bk_r<|th_r<|?_;obtain rfl:=osi a;refine rt2 (.pointer none) (i64 12) V V V V V V ?_;exact ⟨.pointer none,rfl,aH,RcSt.nil _ _⟩
 refine zag<|bk_n<|W_th<|W_sr<|av (.slice none 0 0) V V<|wnt<|W_seq<|W_sr<|mv z V V<|wa V (q_len V T35.sl V (a1.lift (le_ aH)))<|mv (i64 0) V V<|wnt<|?_;obtain ⟨dZ,e1,a⟩:=bsi a;refine W_mid (fun f w=>∃ aM:Value,f 1=q/\f 2=z/\f 3=A/\f 4=bp c/\f 10=aM/\f 121=undef/\Ext w0 w/\OwK (Sc u8) w (aM::bp c::e) 5 aM dZ/\Nw w0 aM/\Blk w c 25 (ac i64 o)/\Nw w0 (bp c)/\Nq aM (bp c)) ?_ ?_
 ·refine zad<|za9 (fun b2 f w=>∃ aL:Value,f 1=q/\f 2=z/\f 3=A/\f 4=bp c/\f 10=aL/\f 48=z/\f 49=i64 (aB.length:Int)/\f 50=i64 b2.2/\f 121=undef/\Ext w0 w/\OwK (Sc u8) w (aL::bp c::e) 5 aL b2.1/\Nw w0 aL/\Blk w c 25 (ac i64 o)/\Nw w0 (bp c)/\Nq aL (bp c)) e1 ?_ ?_
  ·exact ⟨.slice none 0 0,rfl,rfl,rfl,rfl,rfl,rfl,rfl,rfl,rfl,aH,OwK.nil _ _ _ _,Nw.nil _,D,fF,Nq.nil _⟩
  rintro b2 _ _ hC ⟨aK,dI,dK,dM,dP,dB,dN,dO,c5,dC,aI,aJ,bO,S,d1,bV⟩ H eT;refine W_sr<|wa V (q_ltI V c5 dO)<|wnt<|W_seq<|wci H V V (fun H=>?_) (fun H=>?_)
  ·refine zag<|W_th<|W_seq<|zad<|W_sr<|bse H fun J cU H=>wa V (q_adr V T35 dN c5 (a1.lift (le_ aI)) cU)<|wq V (zaz V T35 V (a1.lift (le_ aI)) cU)<|av (i64 J) V V<|wnt<|W_rg<|mv aK V dB<|mv (i64 J) V V<|wa V (zhe V V V V)<|wls V V (zbt (L:=(aK::bp c::e)) (R:=Sc u8) [u8 (UInt8.ofInt J)] ([UInt8.ofInt J]:List UInt8) V T22 V (by exact ⟨rfl,rfl,trivial⟩) V (litC u8 zdu (us:=[u8 (UInt8.ofInt J)]) (l:=([UInt8.ofInt J]:List UInt8)) V) V (litS u8 (us:=[u8 (UInt8.ofInt J)]) (l:=([UInt8.ofInt J]:List UInt8)) V) ?_);intro dU gF fR fB eE gU;have b6:=zaa eE;have f3:By gF (aK::bp c::e) dU ([UInt8.ofInt J]:List UInt8):=OwK.slk (Sc.stab _) _ fR (fun p s=>(Old.cons (Old.cons (K.ext aI) S.ltB) aJ.lt) p (fB p s)) (fun _ h=>h.2);replace aJ:=aJ.extL (Sc.stab _) b6 (le_ b6);replace S:=S.ext b6;have cH:=aI.trans b6;obtain ⟨gO,eI,H⟩:=bsi H;refine wls V V (zbf (R:=Sc u8) (v:=aK) (u:=dU) (Sc.stab _) [] (bp c::e) V T22 V V aJ f3 (fun _ _ h=>h) eI oc_u8 ?_);intro c7 hD fS cN d5 gV;have g2:Nq (bp c) c7:=S.nxt bV.symm d5;replace S:=S.other cN bV.symm;have e7:=cH.grown cN bO;have fC:=Nw.nxt cH bO d5;refine av c7 V V<|zam<|bk_n<|W_th<|W_rg<|wa V (zar V c5 V)<|mv (i64 (wI (b2.2+1))) V V<|zam<|?_;obtain rfl:=osi H;exact ⟨_,rfl,c7,dI,dK,dM,dP,rfl,dN,dO,rfl,dC,e7,fS,fC,S,d1,g2.symm⟩
  refine za1<|th_x<|?_;obtain rfl:=osi H;obtain rfl:=eT _ rfl;refine th_x<|bk_x<|?_;exact ⟨aK,dI,dK,dM,dP,dB,dC,aI,aJ,bO,S,d1,bV⟩
 rintro _ hE ⟨a5,dJ,gC,gD,b4,g6,dD,aS,a3,f6,t,d2,h2⟩;refine W_th<|W_sr<|mv q V dJ<|bse a fun cE eJ a=>wa V (zdf (j:=1) V zgu (by exact b4))<|wq V (zbv (m:=0) V G25 V t (zai _ _) eJ)<|mv a5 V g6<|mv A V gD<|bse a fun cF eK a=>wa V (zdf (j:=3) V fieldS3 (by exact b4))<|wq V (zbv (m:=0) V G25 V t (zai _ _) eK)<|?_;obtain ⟨y,eU,a⟩:=bsi a;refine wls V V (zab (vs:=[q,i64 cE,a5,A,i64 cF]) Tryz.func36 V V V (ar5 V V V V V) (mend_Rows_calls aP cE dZ Y cF q a5 A y _ (a5::bp c::e) (Old.cons (Old.cons (K.ext aS) t.ltB) a3.lt) (aT.lift (((Lift.ext aS e).consN d2).consN f6)) (a3.rd (Sc.stab _)) (aU.lift (le_ aS)) eU) ?_);rintro _ hF ⟨i,rfl,b7,a2⟩;refine ⟨_,rfl,?_⟩;replace a3:=a3.extL (Sc.stab _) b7 (le_ b7);replace t:=t.ext b7;have aQ:=aS.trans b7;refine mv (.tuple #[i,i64 y.2]) V V<|wa V (zac V V V)<|wa V (zac V V V)<|av i V V<|av (i64 y.2) V V<|wnt<|W_seq<|W_seq<|W_rg<|mv (i64 y.2) V V<|wa V (q_neI V V V)<|wnt<|zal _ V V (fun bI=>?_) (fun bI=>?_)
 ·replace a:=(if_neg (zbd bI)).symm.trans a;refine W_sr<|mv (i64 y.2) V V<|av (.pointer none) V V<|av (i64 y.2) V V<|wnt<|W_ret<|th_r<|?_;obtain rfl:=osi a;refine rt2 (.pointer none) (i64 y.2) V V V V V dD ?_;exact ⟨.pointer none,rfl,aQ,RcSt.nil _ _⟩
 replace a:=(if_pos (zbc bI)).symm.trans a;refine zag<|W_th<|W_sr<|?_;obtain ⟨gP,M,a⟩:=bsi a;refine wq V (zb2 (m:=0) V G25 (by exact b4) t (zai _ _) (zaf M))<|mv q V dJ<|mv i V V<|wa V (q_buildS (ps:=#[(0,ag i64 o),(1,q),(2,i)]) V (by simp only [List.map_toArray,List.map_cons,List.map_nil];exact bs3 V V V) (buildSt_0_1_2 o (zaf M) q (zij ((aT.lift (Lift.sub (L':=[]) (fun _ _=>trivial))).lift (le_ aQ))) i (RcMd.cells a2)))<|?_
 refine wls V V (zb7 (v:=(.agg ((o.map i64 ++ [q,i,.slice none 0 0,.slice none 0 0]).toArray))) (cs:=((o.map i64 ++ [q,i,.slice none 0 0,.slice none 0 0]).toArray)) (a5::bp c::e) V V V ?_);intro b hG aW aV eF gW;have aO:=zaa eF;have g3:Nq (bp c) (bp b):=t.nq aV;replace a2:=a2.lift (Lift.call _ aO aV);replace a3:=a3.extL (Sc.stab _) aO (Lift.call _ aO aV);replace t:=t.ext aO;have fG:=Nw.ext aQ aV;have cI:=aQ.trans aO;refine av (bp b) V V<|wnt<|W_seq<|W_sr<|mv i V V<|?_;obtain ⟨aZ,eV,a⟩:=bsi a;refine wls V V (zab (vs:=[i]) Tryz.func37 V V V (ar1 V) (mend_Wrong_calls y.1 i aZ _ (a2.lift (Lift.sub (L':=[]) (fun _ _=>trivial))) eV) ?_);rintro _ gG ⟨b5,rfl,b8,fH,fV⟩;refine ⟨_,rfl,?_⟩;have cX:In gG (bp b::a5::bp c::e) b5 aZ:=OwK.slk (Sc.stab _) _ (OwK.scal fV (b5::(bp b::a5::bp c::e))) (fun p s=>(Old.cons (Old.cons (Old.cons (K.ext cI) t.ltB) a3.lt) aW.ltB) p (fH p s)) (fun _ h=>h.2);replace a2:=a2.lift (le_ b8);replace aW:=aW.ext b8;replace t:=t.ext b8;have e8:=cI.trans b8;refine wa V (q_len V T35.sl V cX)<|mv (i64 0) V V<|wnt<|?_;obtain ⟨cA,e2,a⟩:=bsi a;refine W_mid (fun f w=>∃ a6:Value,f 4=bp c/\f 13=i/\f 15=bp b/\f 121=undef/\Ext w0 w/\OwK (Sc i64) w (a6::bp c::bp b::e) 3 a6 cA/\Nw w0 a6/\Blk w c 25 (ac i64 o)/\Nw w0 (bp c)/\Blk w b 74 ((o.map i64 ++ [q,i,.slice none 0 0,a6]).toArray)/\Nw w0 (bp b)/\Nq a6 (bp c)/\Nq a6 (bp b)/\Nq (bp c) (bp b)/\RcMd w (a6::bp c::bp b::e) i y.1) ?_ ?_
 ·refine zad<|za9 (fun b3 f w=>∃ W:Value,f 2=z/\f 4=bp c/\f 13=i/\f 15=bp b/\f 80=b5/\f 81=i64 (aZ.length:Int)/\f 82=i64 b3.2/\f 121=undef/\Ext w0 w/\OwK (Sc i64) w (W::bp c::bp b::e) 3 W b3.1/\Nw w0 W/\Blk w c 25 (ac i64 o)/\Nw w0 (bp c)/\Blk w b 74 ((o.map i64 ++ [q,i,.slice none 0 0,W]).toArray)/\Nw w0 (bp b)/\Nq W (bp c)/\Nq W (bp b)/\Nq (bp c) (bp b)/\RcMd w (W::bp c::bp b::e) i y.1/\In w (W::bp c::bp b::e) b5 aZ) e2 ?_ ?_
  ·exact ⟨.slice none 0 0,gC,b4,rfl,rfl,rfl,rfl,rfl,dD,e8,OwK.nil _ _ _ _,Nw.nil _,t,d2,aW,fG,Nq.nil _,Nq.nil _,g3,a2.lift (Lift.sub (fun _ h=>⟨zgq,h.2.2.1,h.1,h.2.2.2⟩)),cX.lift (Lift.sub (fun _ h=>⟨zgq,h.2.2.1,h.1,h.2.2.2⟩))⟩
  rintro b3 _ _ gH ⟨aN,dL,dQ,dG,b0,dR,dS,c6,dE,cR,a4,bP,G,d3,E,bR,bW,bY,c0,Q,N⟩ B eW;refine W_sr<|wa V (q_ltI V c6 dS)<|wnt<|W_seq<|wci B V V (fun B=>?_) (fun B=>?_)
  ·refine zag<|W_th<|W_seq<|zad<|W_sr<|bse B fun cG cV B=>wa V (q_adr V T35 dR c6 N cV)<|wq V (zaz V T35 V N cV)<|av (i64 cG) V V<|wnt<|zbi [4,8] [(0,0),(1,0),(2,0),(3,0),(4,1),(5,0),(6,0),(7,0),(8,1),(9,2),(10,2),(11,0),(12,0),(13,2)] mixed (by kernel_rfl) (by kernel_rfl) (by kernel_rfl) (by kernel_rfl) ?_;have a7:=Ext.drew gH;replace a4:=a4.extL (Sc.stab _) a7 (le_ a7);replace G:=G.ext a7;replace E:=E.ext a7;have aR:=cR.trans a7;refine sv (bp b) V V b0<|sv (bp b) V V b0<|sa V V (zbe V V)<|sa V V (zdk (g:=b) (m:=0) (d:=7) V fieldAtSt4 V)<|sq V V (zan (u:=aN) V Tryz.isAgg35 V E (zfs (m:=3) (zaf M) V))<|sv z V V dL<|sv (i64 cG) V V V<|bse B fun Z cW B=>sa V V (q_adr V T35 V V (a1.lift (le_ aR)) cW)<|sq V V (zaz V T35 V (a1.lift (le_ aR)) cW)<|wss V V V (zbt (L:=(aN::bp c::bp b::e)) (R:=Sc i64) [i64 Z] ([Z]:List Int) V T35 V (by exact ⟨rfl,rfl,trivial⟩) V (litC i64 oneC_i64 (us:=[i64 Z]) (l:=([Z]:List Int)) V) V (litS i64 (us:=[i64 Z]) (l:=([Z]:List Int)) V) ?_);intro dV gI fW fI cO gX;refine ⟨zaa cO,?_⟩;have a8:=zaa cO;have f4:In gI (aN::bp c::bp b::e) dV ([Z]:List Int):=OwK.slk (Sc.stab _) _ fW (fun p s=>(Old.cons (Old.cons (Old.cons (K.ext aR) E.ltB) G.ltB) a4.lt) p (fI p s)) (fun _ h=>h.2);replace Q:=(Q.lift (le_ a7)).lift (le_ a8);replace N:=(N.lift (le_ a7)).lift (le_ a8);replace a4:=a4.extL (Sc.stab _) a8 (le_ a8);replace G:=G.ext a8;replace E:=E.ext a8;have cJ:=aR.trans a8;obtain ⟨gQ,eL,B⟩:=bsi B;refine wsc V (by kernel_rfl) V V (zbf (R:=Sc i64) (v:=aN) (u:=dV) (Sc.stab _) [] (bp c::bp b::e) V T35 V V a4 f4 (fun _ _ h=>h) eL oc_i64 ?_);intro aE hH aX bC bT cZ;replace Q:=Q.lift cZ;replace N:=N.lift cZ;have g4:Nq (bp c) aE:=G.nxt bW.symm bT;have d6:Nq (bp b) aE:=E.nxt bY.symm bT
   replace E:=E.other bC bY.symm;have e9:=cJ.grown bC bP;have fJ:=Nw.nxt cJ bP bT;refine sa V V (zbe V V)<|sa V V (zdk (g:=b) (m:=0) (d:=7) V fieldAtSt4 V)<|wsn V (by kernel_rfl) V V (stp_storeR (u:=aE) (cs':=((o.map i64 ++ [q,i,.slice none 0 0,aE]).toArray)) [aE,bp c] e V Tryz.sizeOf35 V V E (lt_ar (m:=3) (zaf M) (Nat.le_of_ble_eq_true V)) (oc_own aX) (set_ar (m:=3) (zaf M)) ?_);intro hI fX bD bM;replace Q:=Q.lift bM;replace N:=N.lift bM;replace aX:=aX.other (Sc.stab _) bD d6.symm bM;replace G:=(G.other bC bW.symm).other bD c0;have eA:=e9.grown bD bR;refine zax<|bk_n<|W_th<|W_rg<|wa V (zar V c6 V)<|mv (i64 (wI (b3.2+1))) V V<|zam<|?_;obtain rfl:=osi B;exact ⟨_,rfl,aE,dL,dQ,dG,b0,dR,dS,rfl,dE,eA,aX,fJ,G,d3,fX,bR,g4.symm,d6.symm,c0,Q,N⟩
  refine za1<|th_x<|?_;obtain rfl:=osi B;obtain rfl:=eW _ rfl;refine th_x<|bk_x<|?_;exact ⟨aN,dQ,dG,b0,dE,cR,a4,bP,G,d3,E,bR,bW,bY,c0,Q⟩
 rintro _ hJ ⟨k,gE,g9,gA,g7,eG,fN,f7,fP,h1,fT,fD,h3,g1,h6,f1⟩;refine W_th<|W_seq<|W_sr<|bse a fun e5 eN a=>wa V (zdf (j:=1) V zgu (by exact gE))<|wq V (zbv (m:=0) V G25 V fP (zai _ _) eN)<|mv (i64 0) V V<|wnt<|?_;obtain ⟨gN,e3,a⟩:=bsi a;refine W_mid (fun f w=>∃ U:Value,f 15=bp b/\f 121=undef/\Ext w0 w/\OwK By w (U::k::bp b::e) 22 U gN/\Nw w0 U/\OwK (Sc i64) w (U::k::bp b::e) 3 k cA/\Nw w0 k/\Blk w b 74 ((o.map i64 ++ [q,i,U,k]).toArray)/\Nw w0 (bp b)/\Nq U k/\Nq U (bp b)/\Nq k (bp b)/\RcMd w (U::k::bp b::e) i y.1) ?_ ?_
 ·refine zad<|za9 (fun O f w=>∃ T:Value,f 13=i/\f 15=bp b/\f 101=i64 e5/\f 102=i64 O.2/\f 121=undef/\Ext w0 w/\OwK By w (T::k::bp b::e) 22 T O.1/\Nw w0 T/\OwK (Sc i64) w (T::k::bp b::e) 3 k cA/\Nw w0 k/\Blk w b 74 ((o.map i64 ++ [q,i,T,k]).toArray)/\Nw w0 (bp b)/\Nq T k/\Nq T (bp b)/\Nq k (bp b)/\RcMd w (T::k::bp b::e) i y.1) e3 ?_ ?_
  ·exact ⟨.slice none 0 0,g9,gA,rfl,rfl,g7,eG,OwK.nil _ _ _ _,Nw.nil _,fN.weak (Sc.stab _) (fun _ h=>⟨zgq,h.1,h.2.2.1,h.2.2.2⟩),f7,fT,fD,Nq.nil _,Nq.nil _,g1,f1.lift (Lift.sub (fun _ h=>⟨zgq,h.1,h.2.2.1,h.2.2.2⟩))⟩
  rintro O _ _ gJ ⟨P,dH,b1,dA,c4,dF,cS,F,bQ,x,d4,r,bS,bX,bZ,c1,C⟩ I eX;refine W_sr<|wa V (q_ltI V c4 dA)<|wnt<|W_seq<|wci I V V (fun I=>?_) (fun I=>?_)
  ·refine zag<|W_th<|W_seq<|zad<|W_sr<|mv (i64 O.2) V c4<|av (i64 O.2) V V<|wnt<|zbi [4] [(0,0),(1,0),(2,0),(3,0),(4,1),(5,0),(6,0),(7,0),(8,0),(9,2),(10,2),(11,2),(12,0),(13,0),(14,2)] mixed (by kernel_rfl) (by kernel_rfl) (by kernel_rfl) (by kernel_rfl) ?_;have a9:=Ext.drew gJ;replace C:=C.lift (le_ a9);replace F:=F.extL (SlK.stab (Sc.stab _)) a9 (le_ a9);replace x:=x.extL (Sc.stab _) a9 (le_ a9);replace r:=r.ext a9;have cK:=cS.trans a9;refine sv (bp b) V V b1<|sv (bp b) V V b1<|sa V V (zbe V V)<|sa V V (zdk (g:=b) (m:=0) (d:=6) V fieldAtSt3 V)<|sq V V (zan (u:=P) V Tryz.isAgg29 V r (zfs (m:=2) (zaf M) V))<|sv i V V dH<|sv (i64 O.2) V V V<|sa V V (zar V V V)<|sa V V (zhe V V V V) ?_;obtain ⟨aD,eY,I⟩:=bsi I;refine wss V V V (zab (vs:=[i,u8 (UInt8.ofInt (wI (O.2+1)))]) Tryz.func38 V V V (ar2 V V) (zey y.1 (UInt8.ofInt (wI (O.2+1))) i aD _ (C.lift (Lift.sub (L':=[]) (fun _ _=>trivial))) eY) ?_);rintro _ c9 ⟨c8,rfl,X,fK,fY⟩;refine ⟨_,rfl,X,?_⟩;have cY:By c9 (P::k::bp b::e) c8 aD:=OwK.slk (Sc.stab _) _ (OwK.scal fY (c8::(P::k::bp b::e))) (fun p s=>(Old.cons (Old.cons (Old.cons (K.ext cK) r.ltB) x.lt) F.lt) p (fK p s)) (fun _ h=>h.2);replace C:=C.lift (le_ X);replace F:=F.extL (SlK.stab (Sc.stab _)) X (le_ X);replace x:=x.extL (Sc.stab _) X (le_ X);replace r:=r.ext X;have cL:=cK.trans X;refine wss V V V (zbt (L:=(P::k::bp b::e)) (R:=By) [c8] ([aD]:List (List UInt8)) V T29 V (by exact ⟨rfl,rfl,trivial⟩) V (LitR.cells (R:=By) (w:=c9) (L:=(P::k::bp b::e)) (l:=([aD]:List (List UInt8))) (LitR.cons cY LitR.nil) (fun u gL h=>zci u gL h)) V (LitR.all (R:=By) (w:=c9) (L:=(P::k::bp b::e)) (l:=([aD]:List (List UInt8))) (SlK.stab (Sc.stab _)) (LitR.cons cY LitR.nil)) ?_);intro dW gK fZ fL cP gY;refine ⟨zaa cP,?_⟩;have aA:=zaa cP;have f5:Rw gK (P::k::bp b::e) dW ([aD]:List (List UInt8)):=OwK.slk (SlK.stab (Sc.stab _)) _ fZ (fun p s=>(Old.cons (Old.cons (Old.cons (K.ext cL) r.ltB) x.lt) F.lt) p (fL p s)) (fun _ h=>h.2)
   replace F:=F.extL (SlK.stab (Sc.stab _)) aA (le_ aA);replace x:=x.extL (Sc.stab _) aA (le_ aA);replace r:=r.ext aA;have cM:=cL.trans aA;obtain ⟨gS,eO,I⟩:=bsi I;refine wsc V (by kernel_rfl) V V (zbf (R:=By) (v:=P) (u:=dW) (SlK.stab (Sc.stab _)) [] (k::bp b::e) V T29 V V F f5 (fun _ _ h=>h) eO oc_sl ?_);intro aF hL aY bE bU d0;replace C:=(C.lift (le_ aA)).lift d0;have g5:Nq k aF:=x.nxt bX.symm bU;have d7:Nq (bp b) aF:=r.nxt bZ.symm bU;replace r:=r.other bE bZ.symm;have eB:=cM.grown bE bQ;have fM:=Nw.nxt cM bQ bU;refine sa V V (zbe V V)<|sa V V (zdk (g:=b) (m:=0) (d:=6) V fieldAtSt3 V)<|wsn V (by kernel_rfl) V V (stp_storeR (u:=aF) (cs':=((o.map i64 ++ [q,i,aF,k]).toArray)) [aF,k] e V Tryz.sizeOf29 V V r (lt_ar (m:=2) (zaf M) (Nat.le_of_ble_eq_true V)) (oc_own aY) (set_ar (m:=2) (zaf M)) ?_);intro hM g0 bF bN;replace C:=C.lift bN;replace aY:=aY.other (SlK.stab (Sc.stab _)) bF d7.symm bN;replace x:=(x.other (Sc.stab _) bE bX.symm d0).other (Sc.stab _) bF c1 bN;have eC:=eB.grown bF bS;refine zax<|bk_n<|W_th<|W_rg<|wa V (zar V c4 V)<|mv (i64 (wI (O.2+1))) V V<|zam<|?_;obtain rfl:=osi I;exact ⟨_,rfl,aF,dH,b1,dA,rfl,dF,eC,aY,fM,x,d4,g0,bS,g5.symm,d7.symm,c1,C⟩
  refine za1<|th_x<|?_;obtain rfl:=osi I;obtain rfl:=eX _ rfl;refine th_x<|bk_x<|?_;exact ⟨P,b1,dF,cS,F,bQ,x,d4,r,bS,bX,bZ,c1,C⟩
 rintro _ hN ⟨h8,gB,g8,cT,fO,f8,fQ,fA,fU,fE,h4,h5,h7,f2⟩;refine W_th<|W_sr<|mv (bp b) V gB<|av (bp b) V V<|av (i64 0) V V<|wnt<|W_ret<|?_;obtain rfl:=osi a;refine rt2 (bp b) (i64 0) V V V V V g8 ?_;exact ⟨bp b,rfl,cT,RcSt.mk fU (K _ (fE _ (hs_bp' _))) (aT.lift (le_ cT)) (f2.lift (Lift.sub (fun _ h=>h.2.2.2))) (OwK.slk (SlK.stab (Sc.stab _)) e fO (fun p s=>K p (f8 p s)) (fun _ h=>h.2.2.2)) (OwK.slk (Sc.stab _) e fQ (fun p s=>K p (fA p s)) (fun _ h=>h.2.2.2)) (zaf M)⟩
noncomputable def zg5 (a:Option (List Int×Bool×(Option (Bool×List UInt8×List (List UInt8)×List Int))×List (List UInt8)×List Int)):Option Bool :=
((a).bind fun b =>
((zat b.2.2.2.1).bind fun c =>
((word_Zero c).bind fun d => some d)))
theorem zg6 (a0x:Option (List Int×Bool×(Option (Bool×List UInt8×List (List UInt8)×List Int))×List (List UInt8)×List Int)) (p0:Value) (r:Bool) (w0:World) (hp0:RcSt w0 [] p0 a0x) (H:zg5 a0x=some r) :
  Calls Tryz.prog 39 [p0].toArray w0 (fun e w'=>e=.returned (.bool r)/\Ext w0 w'):=by
 have hE:Ext w0 w0:=Ext.refl w0;unfold zg5 at H;refine zaj (n:=9) Tryz.func39 rfl rfl rfl ?_;refine W_seq<|W_rg<|av (.bool false) rfl rfl<|wnt<|W_seq<|W_rg<|mv p0 rfl rfl<|?_;obtain ⟨c1,hc1,H⟩:=bsi H;obtain ⟨g1,u1_1,u1_2,u1_3,u1_4,hv1,hB1,hu1_1,hu1_2,hu1_3,hu1_4,hu1_0⟩:=RcSt.some hp0 hc1;refine wa rfl (zbe (g:=g1) (m:=0) rfl (Eq.trans rfl hv1))<|wa rfl (zdk (g:=g1) (m:=0) (d:=6) rfl fieldAtSt3 rfl)<|wq rfl (zan (u:=u1_3) rfl Tryz.isAgg29 rfl (hB1.ext hE) (zfs (m:=2) hu1_0 rfl))<|?_;obtain ⟨r2,hr2,H⟩:=bsi H;refine wls rfl rfl (zab (vs:=[u1_3]) Tryz.func29 rfl rfl rfl (ar1 rfl) (za4 c1.2.2.2.1 u1_3 r2 _ (hu1_3.lift (le_ hE)) hr2) ?_);rintro _ w2 ⟨v2,rfl,x2,n2_0,o2_0⟩;refine ⟨_,rfl,?_⟩;have i2_0:By w2 [] v2 r2:=OwK.slk (Sc.stab _) _ (OwK.scal o2_0 (v2 :: [])) (fun k hk=>(Old.nil _) k (n2_0 k hk)) (fun _ h=>h.2);have e3:=hE.trans x2;obtain ⟨r4,hr4,H⟩:=bsi H;refine wls rfl rfl (zab (vs:=[v2]) Tryz.func73 rfl rfl rfl (ar1 rfl) (word_Zero_calls r2 v2 r4 _ (i2_0.lift (Lift.sub (L':=[]) (fun _ _=>trivial))) hr4) ?_);rintro _ w4 ⟨rfl,x4⟩;refine ⟨_,rfl,?_⟩;have e5:=e3.trans x4;refine av (.bool r4) rfl rfl<|wnt<|W_ret<|?_;obtain rfl:=osi H;refine rt1 (.bool r4) rfl rfl rfl rfl ?_;exact ⟨rfl,e5⟩
noncomputable def zeq (c:Option (List Int×Bool×(Option (Bool×List UInt8×List (List UInt8)×List Int))×List (List UInt8)×List Int)):Option (List UInt8×Int) :=
(if c.isNone=true then some (([]:List UInt8),1)
else
((c).bind fun a =>
((idx a.1 0).bind fun h =>
(if h=0 then
((zg2 a.2.2.1 (0:UInt8)).bind fun i => some (i,0))
else
((zg5 c).bind fun j =>
(if j=true then
((makeL 440 (0:UInt8)).bind fun e => some (e,0))
else
((code_Glue a.2.2.2.1 473).bind fun b =>
(if b.2=0 then
((idx b.1 0).bind fun f =>
(if f=(1:UInt8) then
((subL b.1 1 (b.1.length:Int)).bind fun g =>
((aont_Open a.2.1 g).bind fun d => some (d.1,d.2)))
else some (([]:List UInt8),11)))
else some (([]:List UInt8),11)))))))))
theorem zg8 (q:Option (List Int×Bool×(Option (Bool×List UInt8×List (List UInt8)×List Int))×List (List UInt8)×List Int)) (e:Value) (F:List UInt8×Int) (w0:World) (D:RcSt w0 [] e q) (c:zeq q=some F) :
  Calls Tryz.prog 14 [e].toArray w0 (fun Z T=>∃ G:Value,Z=.returned (.tuple #[G,i64 F.2])/\Ext w0 T/\Nw w0 G/\OwK (Sc u8) T [] 5 G F.1):=by
 have h:Ext w0 w0:=Ext.refl w0;unfold zeq at c;refine zaj (n:=50) Tryz.func14 V V V<|W_sr<|av (.slice none 0 0) V V<|av (i64 0) V V<|wnt<|W_seq<|zad<|W_seq<|W_rg<|mv e V V<|wa V (q_eqRSt V V V V (D.lift (le_ h)))<|av (.bool q.isNone) V V<|wnt<|zal _ V V (fun z=>?_) (fun z=>?_)
 ·replace c:=(if_pos z).symm.trans c;refine W_sr<|av (.slice none 0 0) V V<|av (i64 1) V V<|wnt<|W_ret<|bk_r<|th_r<|?_;obtain rfl:=osi c;refine rt2 (.slice none 0 0) (i64 1) V V V V V V ?_;exact ⟨.slice none 0 0,rfl,h,Nw.nil _,OwK.nil _ _ _ _⟩
 replace c:=(if_neg (ne_true_of_eq_false z)).symm.trans c;refine W_sr<|mv e V V<|?_;obtain ⟨x,a6,c⟩:=bsi c;obtain ⟨f,H,I,J,b3,t,s,aD,aE,aF,b1,E⟩:=RcSt.some D a6;refine wa V (zbe (g:=f) (m:=0) V (Eq.trans V t))<|wa V (zdk (g:=f) (m:=0) (d:=0) V fieldAtSt0 V)<|bse c fun M a7 c=>wa V (zdk (g:=f) (m:=0) (d:=0) V fieldAtSt0_0 V)<|wq V (zan (u:=i64 M) V Tryz.isAgg3 V (s.ext h) (cell_ar a7))<|wa V (q_eqI V V V)<|av (.bool (decide (M=0))) V V<|wnt<|wci c V V (fun c=>?_) (fun c=>?_)
 ·refine W_sr<|mv e V V<|wa V (zbe (g:=f) (m:=0) V (Eq.trans V t))<|wa V (zdk (g:=f) (m:=0) (d:=5) V fieldAtSt2 V)<|wq V (zan (u:=I) V Tryz.isAgg70 V (s.ext h) (zfs (m:=1) E V))<|?_;obtain ⟨Q,aB,c⟩:=bsi c;refine wls V V (zab (vs:=[I,u8 0]) Tryz.func38 V V V (ar2 V (by exact (cst8 (0:UInt8) V))) (zey x.2.2.1 (0:UInt8) I Q _ (aE.lift (le_ h)) aB) ?_);rintro _ aU ⟨p,rfl,aY,aL,aS⟩;refine ⟨_,rfl,?_⟩;have aR:OwK (Sc u8) aU (p::[]) 5 p Q:=OwK.scal aS _;have aM:=Nw.ext h aL;have a2:=h.trans aY;refine av p V V<|av (i64 0) V V<|wnt<|W_ret<|bk_r<|th_r<|?_;obtain rfl:=osi c;refine rt2 p (i64 0) V V V V V V ?_;exact ⟨p,rfl,a2,aM,aR.weak (Sc.stab _) (fun _ _=>trivial)⟩
 refine W_sr<|mv e V V<|?_;obtain ⟨S,aC,c⟩:=bsi c;refine wls V V (zab (vs:=[e]) Tryz.func39 V V V (ar1 V) (zg6 q e S _ (D.lift (le_ h)) aC) ?_);rintro _ b5 ⟨rfl,aZ⟩;refine ⟨_,rfl,?_⟩;have l:=h.trans aZ;refine av (.bool S) V V<|wnt<|zal _ V V (fun A=>?_) (fun A=>?_)
 ·replace c:=(if_pos A).symm.trans c;refine W_sr<|?_;obtain ⟨b0,a5,c⟩:=bsi c;refine wls V V (zbm (L:=[]) (R:=Sc u8) V T22 V V a5 (fun _ _=>rfl) ?_);intro K b4 aN aG a3 b2;have aV:=zaa a3;have aH:=Nw.ext l aG;have a0:=l.trans aV;refine av K V V<|av (i64 0) V V<|wnt<|W_ret<|bk_r<|th_r<|?_;obtain rfl:=osi c;refine rt2 K (i64 0) V V V V V V ?_;exact ⟨K,rfl,a0,aH,aN.weak (Sc.stab _) (fun _ _=>trivial)⟩
 replace c:=(if_neg (ne_true_of_eq_false A)).symm.trans c;refine zag<|bk_n<|W_th<|W_sr<|mv e V V<|wa V (zbe (g:=f) (m:=0) V (Eq.trans V t))<|wa V (zdk (g:=f) (m:=0) (d:=6) V fieldAtSt3 V)<|wq V (zan (u:=J) V Tryz.isAgg29 V (s.ext l) (zfs (m:=2) E V)) ?_;obtain ⟨i,a9,c⟩:=bsi c;refine wls V V (zab (vs:=[J,i64 473]) Tryz.func40 V V V (ar2 V V) (code_Glue_calls x.2.2.2.1 473 J i _ (aF.lift (le_ l)) a9) ?_);rintro _ U ⟨j,rfl,aW,aI,aO⟩;refine ⟨_,rfl,?_⟩;have k:By U [] j i.1:=SlK.avail aO _ (fun P a8=>(Old.nil _) P (aI P a8));have y:=l.trans aW;refine mv (.tuple #[j,i64 i.2]) V V<|wa V (zac V V V)<|wa V (zac V V V)<|av j V V<|av (i64 i.2) V V<|wnt<|W_seq<|W_seq<|W_rg<|mv (i64 i.2) V V<|wa V (q_neI V V V)<|wlb V V (zau (v:=(.bool (!decide (i.2=0)))) V V) (fun B=>?_) (fun B=>?_)
 ·replace c:=(if_neg (zbd B)).symm.trans c;refine wk V<|wk V<|wk V<|wk V<|wa V (zao (v:=(.bool true)) V V V)<|wnt<|zal true V V (fun _=>?_) (fun a4=>by cases a4);refine W_sr<|av (.slice none 0 0) V V<|av (i64 11) V V<|wnt<|W_ret<|th_r<|?_;obtain rfl:=osi c;refine rt2 (.slice none 0 0) (i64 11) V V V V V V ?_;exact ⟨.slice none 0 0,rfl,y,Nw.nil _,OwK.nil _ _ _ _⟩
 replace c:=(if_pos (zbc B)).symm.trans c;refine mv j V V ?_;obtain ⟨X,N,c⟩:=bsi c;refine wa V (q_adr V T22 V V k N)<|wq V (zaz V T22 V k N)<|wa V (q_ne8 V V (cst8 (1:UInt8) V))<|wa V (zae (v:=(.bool (!decide (X=(1:UInt8))))) V V V)<|wnt<|zal _ V V (fun C=>?_) (fun C=>?_)
 ·replace c:=(if_neg (zbd C)).symm.trans c;refine W_sr<|av (.slice none 0 0) V V<|av (i64 11) V V<|wnt<|W_ret<|th_r<|?_;obtain rfl:=osi c;refine rt2 (.slice none 0 0) (i64 11) V V V V V V ?_;exact ⟨.slice none 0 0,rfl,y,Nw.nil _,OwK.nil _ _ _ _⟩
 replace c:=(if_pos (zbc C)).symm.trans c;refine zag<|W_th<|W_seq<|zbi [3] [(0,0),(1,0),(2,0),(3,1),(4,0),(5,0),(6,2),(7,0),(8,0),(9,0),(10,0)] mixed (by kernel_rfl) (by kernel_rfl) (by kernel_rfl) (by kernel_rfl) ?_;have W:=Ext.drew U;replace k:=k.lift (le_ W);have r:=y.trans W;refine sv e V V V<|sa V V (zbe (g:=f) (m:=0) V (Eq.trans V t))<|sa V V (zdk (g:=f) (m:=0) (d:=4) V fieldAtSt1 V)<|sq V V (zan (u:=H) V Tryz.isAgg27 V (s.ext r) (zfs (m:=0) E V))<|sv j V V V<|bse c fun Y O c=>sa V V (zcr (a:=1) (b:=(i.1.length:Int)) V T22 V k V V O) ?_;obtain ⟨w,aA,c⟩:=bsi c;refine wsc V (by kernel_rfl) V V (zab (vs:=[H,subV j (1:Int).toNat ((i.1.length:Int):Int).toNat]) Tryz.func41 V V V (ar2 V V) (aont_Open_calls x.2.1 Y H (subV j (1:Int).toNat ((i.1.length:Int):Int).toNat) w _ (aD.lift (le_ r)) (SlK.cut (L:=[]) (k.lift (Lift.sub (L':=[]) (fun _ _=>trivial))) O) aA) ?_);rintro _ aT ⟨o,rfl,aX,aJ,aQ⟩;refine ⟨_,rfl,?_⟩;have aP:OwK (Sc u8) aT (o::[]) 5 o w.1:=OwK.scal aQ _;have aK:=Nw.ext r aJ;have a1:=r.trans aX;refine sa V V (zac V V V)<|sa V V (zac V V V)<|sa V V (zaq (v:=o) V V)<|sa V V (zaq (v:=i64 w.2) V V)<|zax<|W_th<|W_ret<|?_;obtain rfl:=osi c;refine rt2 o (i64 w.2) V V V V V V ?_;exact ⟨o,rfl,a1,aK,aP.weak (Sc.stab _) (fun _ _=>trivial)⟩
noncomputable def zhw (b:Option (List Int×Bool×(Option (Bool×List UInt8×List (List UInt8)×List Int))×List (List UInt8)×List Int)) (a:Int):Option (List UInt8) :=
(if b.isNone=true then some ([]:List UInt8)
else
(if a<1 then some ([]:List UInt8)
else
(if 255<a then some ([]:List UInt8)
else
((b).bind fun c =>
((zg2 c.2.2.1 (UInt8.ofInt a)).bind fun d => some d)))))
theorem stripe_Row_calls (h:Option (List Int×Bool×(Option (Bool×List UInt8×List (List UInt8)×List Int))×List (List UInt8)×List Int)) (b:Int) (f:Value) (r:List UInt8) (w0:World) (q:RcSt w0 [] f h) (a:zhw h b=some r) :
  Calls Tryz.prog 16 [f,i64 b].toArray w0 (fun x t=>∃ l:Value,x=.returned l/\Ext w0 t/\Nw w0 l/\OwK (Sc u8) t [] 5 l r):=by
 have c:Ext w0 w0:=Ext.refl w0;unfold zhw at a;refine zaj (n:=22) Tryz.func16 V V V<|W_sr<|av (.slice none 0 0) V V<|wnt<|W_seq<|W_sr<|mv f V V<|wa V (q_eqRSt V V V V (q.lift (le_ c)))<|wlb V V (zau (v:=(.bool h.isNone)) V V) (fun j=>?_) (fun j=>?_)
 ·replace a:=(if_pos j).symm.trans a;refine wk V<|wk V<|wa V (zao (v:=(.bool true)) V V V)<|mv (.bool true) V V<|wk V<|wk V<|wa V (zao (v:=(.bool true)) V V V)<|wnt<|zal true V V (fun _=>?_) (fun i=>by cases i);refine W_sr<|av (.slice none 0 0) V V<|wnt<|W_ret<|th_r<|?_;obtain rfl:=osi a;refine rt1 (.slice none 0 0) V V V V ?_;exact ⟨.slice none 0 0,rfl,c,Nw.nil _,OwK.nil _ _ _ _⟩
 replace a:=(if_neg (ne_true_of_eq_false j)).symm.trans a;refine mv (i64 b) V V<|wa V (q_ltI V V V)<|wa V (zae (v:=(.bool (decide (b<1)))) V V V)<|wlb V V (zau (v:=(.bool (decide (b<1)))) V V) (fun k=>?_) (fun k=>?_)
 ·replace a:=ifp k a;refine wk V<|wk V<|wa V (zao (v:=(.bool true)) V V V)<|wnt<|zal true V V (fun _=>?_) (fun i=>by cases i);refine W_sr<|av (.slice none 0 0) V V<|wnt<|W_ret<|th_r<|?_;obtain rfl:=osi a;refine rt1 (.slice none 0 0) V V V V ?_;exact ⟨.slice none 0 0,rfl,c,Nw.nil _,OwK.nil _ _ _ _⟩
 replace a:=ifn k a;refine mv (i64 b) V V<|wa V (q_gtI V V V)<|wa V (zae (v:=(.bool (decide (255<b)))) V V V)<|wnt<|wci a V V (fun a=>?_) (fun a=>?_)
 ·refine W_sr<|av (.slice none 0 0) V V<|wnt<|W_ret<|th_r<|?_;obtain rfl:=osi a;refine rt1 (.slice none 0 0) V V V V ?_;exact ⟨.slice none 0 0,rfl,c,Nw.nil _,OwK.nil _ _ _ _⟩
 refine zag<|W_th<|W_sr<|mv f V V<|?_;obtain ⟨w,A,a⟩:=bsi a;obtain ⟨p,O,o,P,Q,E,z,L,D,M,N,C⟩:=RcSt.some q A;refine wa V (zbe (g:=p) (m:=0) V (Eq.trans V E))<|wa V (zdk (g:=p) (m:=0) (d:=5) V fieldAtSt2 V)<|wq V (zan (u:=o) V Tryz.isAgg70 V (z.ext c) (zfs (m:=1) C V))<|mv (i64 b) V V<|wa V (zhe V V V V)<|?_;obtain ⟨s,B,a⟩:=bsi a;refine wls V V (zab (vs:=[o,u8 (UInt8.ofInt b)]) Tryz.func38 V V V (ar2 V V) (zey w.2.2.1 (UInt8.ofInt b) o s _ (D.lift (le_ c)) B) ?_);rintro _ J ⟨e,rfl,K,F,I⟩;refine ⟨_,rfl,?_⟩;have H:OwK (Sc u8) J (e::[]) 5 e s:=OwK.scal I _;have G:=Nw.ext c F;have y:=c.trans K;refine av e V V<|wnt<|W_ret<|?_;obtain rfl:=osi a;refine rt1 e V V V V ?_;exact ⟨e,rfl,y,G,H.weak (Sc.stab _) (fun _ _=>trivial)⟩
noncomputable def zfu (a:Option (List Int×Bool×(Option (Bool×List UInt8×List (List UInt8)×List Int))×List (List UInt8)×List Int)):Option (List Int) :=
(if a.isNone=true then some ([]:List Int)
else
((a).bind fun b =>
((zcq b.2.2.2.2).bind fun c => some c)))
theorem stripe_Wrong_calls (j:Option (List Int×Bool×(Option (Bool×List UInt8×List (List UInt8)×List Int))×List (List UInt8)×List Int)) (e:Value) (o:List Int) (w0:World) (l:RcSt w0 [] e j) (a:zfu j=some o) :
  Calls Tryz.prog 15 [e].toArray w0 (fun s q=>∃ h:Value,s=.returned h/\Ext w0 q/\Nw w0 h/\OwK (Sc i64) q [] 3 h o):=by
 have b:Ext w0 w0:=Ext.refl w0;unfold zfu at a;refine zaj (n:=10) Tryz.func15 V V V<|W_sr<|av (.slice none 0 0) V V<|wnt<|W_seq<|W_sr<|mv e V V<|wa V (q_eqRSt V V V V (l.lift (le_ b)))<|wnt<|zal _ V V (fun f=>?_) (fun f=>?_)
 ·replace a:=(if_pos f).symm.trans a;refine W_sr<|av (.slice none 0 0) V V<|wnt<|W_ret<|th_r<|?_;obtain rfl:=osi a;refine rt1 (.slice none 0 0) V V V V ?_;exact ⟨.slice none 0 0,rfl,b,Nw.nil _,OwK.nil _ _ _ _⟩
 replace a:=(if_neg (ne_true_of_eq_false f)).symm.trans a;refine zag<|W_th<|W_sr<|mv e V V<|?_;obtain ⟨r,w,a⟩:=bsi a;obtain ⟨k,K,L,M,i,A,v,H,I,J,z,y⟩:=RcSt.some l w;refine wa V (zbe (g:=k) (m:=0) V (Eq.trans V A))<|wa V (zdk (g:=k) (m:=0) (d:=7) V fieldAtSt4 V)<|wq V (zan (u:=i) V Tryz.isAgg35 V (v.ext b) (zfs (m:=3) y V))<|?_;obtain ⟨p,x,a⟩:=bsi a;refine wls V V (zab (vs:=[i]) Tryz.func42 V V V (ar1 V) (zd7 r.2.2.2.2 i p _ (z.lift (le_ b)) x) ?_);rintro _ F ⟨c,rfl,G,B,E⟩;refine ⟨_,rfl,?_⟩;have D:OwK (Sc i64) F (c::[]) 3 c p:=OwK.scal E _;have C:=Nw.ext b B;have t:=b.trans G;refine av c V V<|wnt<|W_ret<|?_;obtain rfl:=osi a;refine rt1 c V V V V ?_;exact ⟨c,rfl,t,C,D.weak (Sc.stab _) (fun _ _=>trivial)⟩
noncomputable def zb9 (b:List UInt8) (a:List Int):Option Bool :=
((lenA 4 a).bind fun d =>
((za6 a).bind fun c => some (!decide ((b.length:Int)=c))))
theorem zg3 (a0r:List UInt8) (b0:List Int) (p0:Value) (gc0:Nat) (r:Bool) (w0:World) (hp0:By w0 [] p0 a0r) (hcB0:Blk w0 gc0 25 (ac i64 b0)) (H:zb9 a0r b0=some r) :
  Calls Tryz.prog 43 [p0,(bp gc0)].toArray w0 (fun e w'=>e=.returned (.bool r)/\Ext w0 w'):=by
 have hE:Ext w0 w0:=Ext.refl w0;unfold zb9 at H;refine zaj (n:=9) Tryz.func43 rfl rfl rfl ?_;refine W_seq<|W_rg<|av (.bool false) rfl rfl<|wnt<|W_seq<|W_rg<|mv p0 rfl rfl<|wa rfl (q_len rfl T22.sl rfl (hp0.lift (le_ hE)))<|?_;obtain ⟨c1,hc1,H⟩:=bsi H;refine wq rfl (zb2 (m:=0) rfl G25 rfl (hcB0.ext hE) (zai _ _) (zaf hc1)) ?_;obtain ⟨r2,hr2,H⟩:=bsi H;refine wls rfl rfl (zab (vs:=[(ag i64 b0)]) Tryz.func21 rfl rfl rfl (ar1 rfl) (zca b0  r2 _  hr2) ?_);rintro _ w2 ⟨rfl,x2⟩;refine ⟨_,rfl,?_⟩;have e3:=hE.trans x2;refine wa rfl (q_neI rfl rfl rfl)<|av (.bool ((!decide ((a0r.length:Int)=r2)))) rfl rfl<|wnt<|W_ret<|?_;obtain rfl:=osi H;refine rt1 (.bool ((!decide ((a0r.length:Int)=r2)))) rfl rfl rfl rfl ?_;exact ⟨rfl,e3⟩
noncomputable def zc4 (a:List Int) (c:Bool) (b:List (List UInt8)) (d:List UInt8):Option (List (List UInt8)×Int) :=
((lenA 4 a).bind fun v =>
((zbk a c d).bind fun k =>
(if k=0 then
((idx a 2).bind fun o =>
(if (b.length:Int)=o then
((lim b.length).bind fun x =>
((anyO (fun s=>zb9 s a) b).bind fun p =>
(if p=true then some (([]:List (List UInt8)),3)
else
((idx a 0).bind fun l =>
(if l=0 then
((idx a 1).bind fun m =>
((lenA 4 a).bind fun t =>
((zcf a).bind fun q =>
((shamir_Delta c m d q 440).bind fun e =>
(if e.2=0 then
((shamir_Add b e.1).bind fun h => some (h.1,h.2))
else some (([]:List (List UInt8)),e.2))))))
else
((lenA 4 a).bind fun u =>
((idx a 1).bind fun n =>
((subL b 0 n).bind fun g =>
((zg5 (some (a,c,(none:Option (Bool×List UInt8×List (List UInt8)×List Int)),g,([]:List Int)))).bind fun r =>
(if r=true then
((shamir_Add b b).bind fun i => some (i.1,i.2))
else
((zeq (some (a,c,(none:Option (Bool×List UInt8×List (List UInt8)×List Int)),g,([]:List Int)))).bind fun f =>
(if f.2=0 then
((lenA 4 a).bind fun w =>
((zav a c f.1 d).bind fun j => some (j.1,j.2)))
else some (([]:List (List UInt8)),f.2)))))))))))))
else some (([]:List (List UInt8)),3)))
else some (([]:List (List UInt8)),k))))
theorem zh2 (f:List Int) (w:Bool) (x:List (List UInt8)) (E:List UInt8) (i:Value) (e:Value) (o:Value) (a9:List (List UInt8)×Int) (w0:World) (h:List Value) (y:Old w0 h) (B:Fd w0 [] i w) (q:Rw w0 [] e x) (a8:By w0 [] o E) (c:zc4 f w x E=some a9) :
  Calls Tryz.prog 17 [ag i64 f,i,e,o].toArray w0 (fun aR X=>∃ U:Value,aR=.returned (.tuple #[U,i64 a9.2])/\Ext w0 X/\Nw w0 U/\OwK By X (U::h) 22 U a9.1):=by
 have aX:Ext w0 w0:=Ext.refl w0;unfold zc4 at c;refine zaj (n:=84) Tryz.func17 V V V<|W_sr<|wls V V (zb7 (v:=ag i64 f) (cs:=ac i64 f) h V V V ?_);intro g cO d cM aV cJ;have c9:=zaa aV;have Z:=aX.trans c9;refine av (.slice none 0 0) V V<|av (i64 0) V V<|wnt<|W_seq<|W_sr<|bse c fun cH b2 c=>wq V (zb2 (m:=0) V G25 V d (zai _ _) (zaf b2))<|mv i V V<|mv o V V<|?_;obtain ⟨C,bE,c⟩:=bsi c;refine wls V V (zab (vs:=[ag i64 f,i,o]) Tryz.func24 V V V (ar3 V V V) (zep f w E i o C _ (B.lift (le_ Z)) (a8.lift (le_ Z)) bE) ?_);rintro _ cR ⟨rfl,aP⟩;refine ⟨_,rfl,?_⟩;replace d:=d.ext aP;have I:=Z.trans aP;refine av (i64 C) V V<|wnt<|W_sr<|mv (i64 C) V V<|wa V (q_neI V V V)<|wnt<|zal _ V V (fun a6=>?_) (fun a6=>?_)
 ·replace c:=(if_neg (zbd a6)).symm.trans c;refine W_sr<|mv (i64 C) V V<|av (.slice none 0 0) V V<|av (i64 C) V V<|wnt<|W_ret<|th_r<|?_;obtain rfl:=osi c;refine rt2 (.slice none 0 0) (i64 C) V V V V V V ?_;exact ⟨.slice none 0 0,rfl,I,Nw.nil _,OwK.nil _ _ _ _⟩
 replace c:=(if_pos (zbc a6)).symm.trans c;refine zag<|W_th<|W_seq<|W_sr<|mv e V V<|wa V (q_len V T29.sl V (q.lift (le_ I)))<|bse c fun aQ b4 c=>wa V (zdf (j:=2) V fieldS2 V)<|wq V (zbv (m:=0) V G25 V d (zai _ _) b4)<|wa V (q_neI V V V)<|wlb V V (zau (v:=(.bool (!decide ((x.length:Int)=aQ)))) V V) (fun a7=>?_) (fun a7=>?_)
 ·replace c:=(if_neg (zbd a7)).symm.trans c;refine wk V<|wk V<|wk V<|wa V (zao (v:=(.bool true)) V V V)<|wnt<|zal true V V (fun _=>?_) (fun a1=>by cases a1);refine W_sr<|av (.slice none 0 0) V V<|av (i64 3) V V<|wnt<|W_ret<|th_r<|?_;obtain rfl:=osi c;refine rt2 (.slice none 0 0) (i64 3) V V V V V V ?_;exact ⟨.slice none 0 0,rfl,I,Nw.nil _,OwK.nil _ _ _ _⟩
 replace c:=(if_pos (zbc a7)).symm.trans c;refine mv e V V<|wa V (zfl (vs:=[bp g]) V (ar1 V))<|?_;obtain ⟨cL,b5,c⟩:=bsi c;obtain ⟨aI,b6,c⟩:=bsi c;refine wls V V (zab (vs:=[e,(.func (.func 43) #[] [bp g].toArray)]) Tryz.func34 V V V (ar2 V V) (zb8 e x 43 _ Tryz.func43 V V [bp g] (fun aE=>zb9 aE f) aI _ (q.lift (le_ I)) (zhm b5) b6 (fun aE _ b X cD a1 c2 bF=>zg3 aE f c2 g b X bF (d.ext cD) a1)) ?_);rintro _ aJ ⟨rfl,aK⟩;refine ⟨_,rfl,?_⟩;replace d:=d.ext aK;have Y:=I.trans aK;refine wa V (zae (v:=(.bool aI)) V V V)<|wnt<|zal _ V V (fun a2=>?_) (fun a2=>?_)
 ·replace c:=(if_pos a2).symm.trans c;refine W_sr<|av (.slice none 0 0) V V<|av (i64 3) V V<|wnt<|W_ret<|th_r<|?_;obtain rfl:=osi c;refine rt2 (.slice none 0 0) (i64 3) V V V V V V ?_;exact ⟨.slice none 0 0,rfl,Y,Nw.nil _,OwK.nil _ _ _ _⟩
 replace c:=(if_neg (ne_true_of_eq_false a2)).symm.trans c;refine zag<|W_th<|W_seq<|W_sr<|bse c fun cE aY c=>wa V (zdf (j:=0) V fieldS0 V)<|wq V (zbv (m:=0) V G25 V d (zai _ _) aY)<|wa V (q_eqI V V V)<|wnt<|wci c V V (fun c=>?_) (fun c=>?_)
 ·refine W_seq<|zbi [2,4] [(0,0),(1,0),(2,1),(3,0),(4,1),(5,2),(6,2),(7,0),(8,0),(9,0),(10,0),(11,0)] mixed (by kernel_rfl) (by kernel_rfl) (by kernel_rfl) (by kernel_rfl) ?_;have aL:=Ext.drew aJ;replace d:=d.ext aL;have aH:=Y.trans aL;refine sv i V V V ?_;obtain ⟨aF,aZ,c⟩:=bsi c;refine sa V V (zdf (j:=1) V zgu V)<|sq V V (zbv (m:=0) V G25 V d (zai _ _) aZ)<|sv o V V V<|bse c fun cF b0 c=>sq V V (zb2 (m:=0) V G25 V d (zai _ _) (zaf b0)) ?_;obtain ⟨aA,b7,c⟩:=bsi c;refine wss V V V (zab (vs:=[ag i64 f]) Tryz.func26 V V V (ar1 V) (zee f  aA _  b7) ?_);rintro _ c3 ⟨W,rfl,aB,bJ,bS⟩;refine ⟨_,rfl,aB,?_⟩;have bG:By c3 (bp g::h) W aA:=OwK.slk (Sc.stab _) _ (OwK.scal bS (W::(bp g::h))) (fun u J=>(Old.cons (y.ext aH) d.ltB) u (bJ u J)) (fun _ k=>k.2);replace d:=d.ext aB;have G:=aH.trans aB;obtain ⟨s,b8,c⟩:=bsi c;refine wsc V (by kernel_rfl) V V (zab (vs:=[i,i64 aF,o,W,i64 440]) Tryz.func44 V V V (ar5 V V V V V) (shamir_Delta_calls w aF E aA 440 i o W s _ (bp g::h) (Old.cons (y.ext G) d.ltB) (B.lift (le_ G)) (a8.lift (le_ G)) (bG.lift (Lift.sub (L':=[]) (fun _ _=>trivial))) b8) ?_);rintro _ c4 ⟨D,rfl,aM,bK,bT⟩;refine ⟨_,rfl,?_⟩;have bH:Rw c4 (bp g::h) D s.1:=OwK.slk (SlK.stab (Sc.stab _)) _ bT (fun u J=>(Old.cons (y.ext G) d.ltB) u (bK u J)) (fun _ k=>k.2);replace d:=d.ext aM;have H:=G.trans aM;refine sv (.tuple #[D,i64 s.2]) V V V<|sa V V (zac V V V)<|sa V V (zac V V V)<|sa V V (zaq (v:=D) V V)<|sa V V (zaq (v:=i64 s.2) V V)<|zax<|W_th<|W_seq<|W_sr<|mv (i64 s.2) V V<|wa V (q_neI V V V)<|wnt<|zal _ V V (fun a3=>?_) (fun a3=>?_)
  ·replace c:=(if_neg (zbd a3)).symm.trans c;refine W_sr<|mv (i64 s.2) V V<|av (.slice none 0 0) V V<|av (i64 s.2) V V<|wnt<|W_ret<|th_r<|th_r ?_;obtain rfl:=osi c;refine rt2 (.slice none 0 0) (i64 s.2) V V V V V V ?_;exact ⟨.slice none 0 0,rfl,H,Nw.nil _,OwK.nil _ _ _ _⟩
  replace c:=(if_pos (zbc a3)).symm.trans c;refine zag<|W_th<|W_sr<|mv e V V<|mv D V V<|?_;obtain ⟨R,b9,c⟩:=bsi c;refine wls V V (zab (vs:=[e,D]) Tryz.func45 V V V (ar2 V V) (shamir_Add_calls x s.1 e D R _ (bp g::h) (Old.cons (y.ext H) d.ltB) (q.lift (le_ H)) (bH.lift (Lift.sub (L':=[]) (fun _ _=>trivial))) b9) ?_);rintro _ c5 ⟨K,rfl,cA,bL,bV⟩;refine ⟨_,rfl,?_⟩;have bU:OwK By c5 (K::(bp g::h)) 22 K R.1:=bV;have bM:=Nw.ext H bL;have aS:=H.trans cA;refine wa V (zac V V V)<|wa V (zac V V V)<|av K V V<|av (i64 R.2) V V<|wnt<|W_ret<|th_r<|?_;obtain rfl:=osi c;refine rt2 K (i64 R.2) V V V V V V ?_;exact ⟨K,rfl,aS,bM,bU.weak (SlK.stab (Sc.stab _)) (fun _ k=>⟨k.1,k.2.2⟩)⟩
 refine zag<|W_th<|W_seq<|zbi [0,4] [(0,1),(1,0),(2,0),(3,0),(4,1),(5,0),(6,0),(7,2),(8,0)] mixed (by kernel_rfl) (by kernel_rfl) (by kernel_rfl) (by kernel_rfl) ?_;have aN:=Ext.drew aJ;replace d:=d.ext aN;have O:=Y.trans aN;obtain ⟨cG,P,c⟩:=bsi c;refine sq V V (zb2 (m:=0) V G25 V d (zai _ _) (zaf P))<|sv i V V V<|sv e V V V<|bse c fun F b1 c=>sa V V (zdf (j:=1) V zgu V)<|sq V V (zbv (m:=0) V G25 V d (zai _ _) b1)<|?_;obtain ⟨aG,Q,c⟩:=bsi c;refine sa V V (zcr (a:=0) (b:=F) V T29 V (q.lift (le_ O)) V V Q)<|sa V V (q_buildS (ps:=#[(0,ag i64 f),(1,i),(3,subV e (0:Int).toNat (F:Int).toNat)]) V (by simp only [List.map_toArray,List.map_cons,List.map_nil];exact bs3 V V V) (buildSt_0_1_3 f (zaf P) i (zij (B.lift (le_ O))) (subV e (0:Int).toNat (F:Int).toNat) (zci _ _ (SlK.cut (q.lift (le_ O)) Q))))<|?_
 refine wsc V (by kernel_rfl) V V (zb7 (v:=(.agg ((f.map i64 ++ [i,.pointer none,subV e (0:Int).toNat (F:Int).toNat,.slice none 0 0]).toArray))) (cs:=((f.map i64 ++ [i,.pointer none,subV e (0:Int).toNat (F:Int).toNat,.slice none 0 0]).toArray)) (bp g::h) V V V ?_);intro l cP r cN aW cK;have aO:=zaa aW;have a0:=O.trans aO;refine sa V V (zaq (v:=bp l) V V)<|zax<|W_th<|W_seq<|W_sr<|mv (bp l) V V<|?_;obtain ⟨c1,bA,c⟩:=bsi c;refine wls V V (zab (vs:=[bp l]) Tryz.func39 V V V (ar1 V) (zg6 (some (f,w,(none:Option (Bool×List UInt8×List (List UInt8)×List Int)),aG,([]:List Int))) (bp l) c1 _ (RcSt.mk r trivial (B.lift (le_ a0)) (RcMd.nil _ _) (SlK.cut (L:=[]) (q.lift (le_ a0)) Q) (SlK.nil _ _ _) (zaf P)) bA) ?_);rintro _ cQ ⟨rfl,aC⟩;refine ⟨_,rfl,?_⟩;replace r:=r.ext aC;replace d:=(d.ext aO).ext aC;have p:=a0.trans aC;refine wnt<|zal _ V V (fun a4=>?_) (fun a4=>?_)
 ·replace c:=(if_pos a4).symm.trans c;refine W_sr<|mv e V V<|mv e V V<|?_;obtain ⟨S,bB,c⟩:=bsi c;refine wls V V (zab (vs:=[e,e]) Tryz.func45 V V V (ar2 V V) (shamir_Add_calls x x e e S _ (bp l::bp g::h) (Old.cons (Old.cons (y.ext p) d.ltB) r.ltB) (q.lift (le_ p)) (q.lift (le_ p)) bB) ?_);rintro _ c6 ⟨M,rfl,cB,bN,bX⟩;refine ⟨_,rfl,?_⟩;have bW:OwK By c6 (M::(bp l::bp g::h)) 22 M S.1:=bX;have bO:=Nw.ext p bN;have aT:=p.trans cB;refine wa V (zac V V V)<|wa V (zac V V V)<|av M V V<|av (i64 S.2) V V<|wnt<|W_ret<|th_r<|?_;obtain rfl:=osi c;refine rt2 M (i64 S.2) V V V V V V ?_;exact ⟨M,rfl,aT,bO,bW.weak (SlK.stab (Sc.stab _)) (fun _ k=>⟨k.1,k.2.2.2⟩)⟩
 replace c:=(if_neg (ne_true_of_eq_false a4)).symm.trans c;refine zag<|W_th<|W_sr<|mv (bp l) V V<|?_;obtain ⟨t,bC,c⟩:=bsi c;refine wls V V (zab (vs:=[bp l]) Tryz.func14 V V V (ar1 V) (zg8 (some (f,w,(none:Option (Bool×List UInt8×List (List UInt8)×List Int)),aG,([]:List Int))) (bp l) t _ (RcSt.mk r trivial (B.lift (le_ p)) (RcMd.nil _ _) (SlK.cut (L:=[]) (q.lift (le_ p)) Q) (SlK.nil _ _ _) (zaf P)) bC) ?_);rintro _ c7 ⟨z,rfl,aD,bP,bY⟩;refine ⟨_,rfl,?_⟩;have bI:By c7 (bp l::bp g::h) z t.1:=OwK.slk (Sc.stab _) _ (OwK.scal bY (z::(bp l::bp g::h))) (fun u J=>(Old.cons (Old.cons (y.ext p) d.ltB) r.ltB) u (bP u J)) (fun _ k=>k.2);replace r:=r.ext aD;replace d:=d.ext aD;have A:=p.trans aD;refine mv (.tuple #[z,i64 t.2]) V V<|wa V (zac V V V)<|wa V (zac V V V)<|av z V V<|av (i64 t.2) V V<|wnt<|W_seq<|W_seq<|W_rg<|mv (i64 t.2) V V<|wa V (q_neI V V V)<|wnt<|zal _ V V (fun a5=>?_) (fun a5=>?_)
 ·replace c:=(if_neg (zbd a5)).symm.trans c;refine W_sr<|mv (i64 t.2) V V<|av (.slice none 0 0) V V<|av (i64 t.2) V V<|wnt<|W_ret<|th_r<|?_;obtain rfl:=osi c;refine rt2 (.slice none 0 0) (i64 t.2) V V V V V V ?_;exact ⟨.slice none 0 0,rfl,A,Nw.nil _,OwK.nil _ _ _ _⟩
 replace c:=(if_pos (zbc a5)).symm.trans c;refine zag<|W_th<|W_sr<|bse c fun cI b3 c=>wq V (zb2 (m:=0) V G25 V d (zai _ _) (zaf b3))<|mv i V V<|mv z V V<|mv o V V<|?_;obtain ⟨T,bD,c⟩:=bsi c;refine wls V V (zab (vs:=[ag i64 f,i,z,o]) Tryz.func9 V V V (ar4 V V V V) (za7 f w t.1 E i z o T _ (bp l::bp g::h) (Old.cons (Old.cons (y.ext A) d.ltB) r.ltB) (B.lift (le_ A)) (bI.lift (Lift.sub (L':=[]) (fun _ _=>trivial))) (a8.lift (le_ A)) bD) ?_);rintro _ c8 ⟨N,rfl,cC,bQ,c0⟩;refine ⟨_,rfl,?_⟩;have bZ:OwK By c8 (N::(bp l::bp g::h)) 22 N T.1:=c0;have bR:=Nw.ext A bQ;have aU:=A.trans cC;refine wa V (zac V V V)<|wa V (zac V V V)<|av N V V<|av (i64 T.2) V V<|wnt<|W_ret<|?_;obtain rfl:=osi c;refine rt2 N (i64 T.2) V V V V V V ?_;exact ⟨N,rfl,aU,bR,bZ.weak (SlK.stab (Sc.stab _)) (fun _ k=>⟨k.1,k.2.2.2⟩)⟩
end Gk

/- Chapter 17: what is gathered. No condition but shapes that may be. -/
namespace Gk
open Gf
section
variable {m t n c : Nat}
theorem idx_gS {l:List Int} {k:Nat} (h:k<l.length):idx l (k:Int)=some (l.getD k 0):=by rw [zgf];simp [List.getD_eq_getElem?_getD,h]
theorem take_gS {l:List Int} {k:Nat} (h:k<l.length):l.take (k+1)=l.take k ++ [l.getD k 0]:=by
 rw [List.take_add_one];simp [List.getD_eq_getElem?_getD,h]
theorem ixS3:idx (shp m t n c) 3=some (c:Int):=rfl
def goodP (n:Nat) (p:Int):Prop:=1<=p/\p<=(n:Int)
theorem any_places (p:List Int) (h:∀ x∈p,goodP n x):anyO (fun y=>za0 y (shp m t n c)) p=some false:=by
 rw [zim (fun y=>za0 y (shp m t n c)) (fun x=>decide (x<1∨(n:Int)<x)) p fun x _=>by
  unfold za0
  by_cases h1:x<1
  ·rw [if_pos h1,decide_eq_true (.inl h1)]
  ·rw [if_neg h1,ixS2,obs]
   by_cases h2:(n:Int)<x
   ·rw [decide_eq_true h2,decide_eq_true (.inr h2)]
   ·rw [decide_eq_false h2,decide_eq_false (by omega)]]
 congr 1
 rw [List.any_eq_false]
 intro x hx
 have:=h x hx
 unfold goodP at this
 rw [decide_eq_false (by omega)];simp
theorem any_places_bad (p:List Int) (h:∃ x∈p,¬ goodP n x):anyO (fun y=>za0 y (shp m t n c)) p=some true:=by
 rw [zim (fun y=>za0 y (shp m t n c)) (fun x=>decide (x<1∨(n:Int)<x)) p fun x _=>by
  unfold za0
  by_cases h1:x<1
  ·rw [if_pos h1,decide_eq_true (.inl h1)]
  ·rw [if_neg h1,ixS2,obs]
   by_cases h2:(n:Int)<x
   ·rw [decide_eq_true h2,decide_eq_true (.inr h2)]
   ·rw [decide_eq_false h2,decide_eq_false (by omega)]]
 congr 1
 rw [List.any_eq_true]
 obtain ⟨x,hx,hb⟩:=h
 unfold goodP at hb
 exact ⟨x,hx,decide_eq_true (by omega)⟩
theorem any_lens (h:OkS m t n c) (r:List (List UInt8)):anyO (fun y=>zbo y (shp m t n c)) r=some (r.any fun q=>decide (q.length≠rowSz m t)):=zim _ _ _ fun q _=>by
 unfold zbo
 rw [lenS,obs,RowSize_ok h,obs]
 by_cases e:q.length=rowSz m t
 ·rw [decide_eq_true (by omega),decide_eq_false (by simp [e])];rfl
 ·rw [decide_eq_false (by omega),decide_eq_true e];rfl
theorem lens_ok (r:List (List UInt8)) (k:Nat) (h:∀ q∈r,q.length=k):(r.any fun q=>decide (q.length≠k))=false:=by
 rw [List.any_eq_false]
 intro q hq
 simp [h q hq]
theorem lens_bad (r:List (List UInt8)) (k:Nat) (h:∃ q∈r,q.length≠k):(r.any fun q=>decide (q.length≠k))=true:=by
 rw [List.any_eq_true]
 obtain ⟨q,hq,he⟩:=h
 exact ⟨q,hq,decide_eq_true he⟩
theorem Gather_none (s:List Int) (p:List Int) (r:List (List UInt8)):zak s false p r=some (none,1):=by
 unfold zak;rw [if_pos (by rfl)]
theorem Gather_lens (s:List Int) (p:List Int) (r:List (List UInt8)) (h:p.length≠r.length):zak s true p r=some (none,1):=by
 unfold zak;rw [if_neg (by decide),if_neg (by omega)]
theorem Gather_range (h:OkS m t n c) (p:List Int) (r:List (List UInt8)) (hl:p.length=r.length) (h1:p.length<=1000) (hp:∃ x∈p,¬ goodP n x):zak (shp m t n c) true p r=some (none,2):=by
 unfold zak
 rw [if_neg (by decide),if_pos (by omega),lenS,obs,zf0 h,obs,if_neg (by decide),zem (by omega),obs,any_places_bad p hp,obs,if_pos rfl]
theorem Gather_form (h:OkS m t n c) (p:List Int) (r:List (List UInt8)) (hl:p.length=r.length) (h1:p.length<=1000) (hp:∀ x∈p,goodP n x) (hr:∃ q∈r,q.length≠rowSz m t):zak (shp m t n c) true p r=some (none,3):=by
 unfold zak
 rw [if_neg (by decide),if_pos (by omega),lenS,obs,zf0 h,obs,if_neg (by decide),zem (by omega),obs,any_places p hp,obs,if_neg (by decide),zem (by omega),obs,any_lens h,obs,lens_bad _ _ hr,if_pos rfl]
theorem Gather_few (h:OkS m t n c) (p:List Int) (r:List (List UInt8)) (hl:p.length=r.length) (h1:p.length<=1000) (hp:∀ x∈p,goodP n x) (hr:∀ q∈r,q.length=rowSz m t) (ht:r.length<t):zak (shp m t n c) true p r=some (none,12):=by
 unfold zak
 rw [if_neg (by decide),if_pos (by omega),lenS,obs,zf0 h,obs,if_neg (by decide),zem (by omega),obs,any_places p hp,obs,if_neg (by decide),zem (by omega),obs,any_lens h,obs,lens_ok _ _ hr,if_neg (by decide),ixS1,obs,if_pos (by omega)]
theorem rowSz_pos (h:OkS m t n c):1<=rowSz m t/\rowSz m t<=1000:=by
 have ht:=h.t1
 unfold rowSz
 rcases h.m2 with rfl | rfl
 ·rw [if_pos rfl];omega
 ·rw [if_neg (by omega)]
  refine ⟨?_,psz_le t ht⟩
  have:=(psz_spec 473 t (by omega)).1
  rcases Nat.eq_zero_or_pos (psz 473 t) with e | e
  ·rw [e,Nat.zero_mul] at this;omega
  ·exact e
def ptsX (p:List Int):List UInt8:=p.map UInt8.ofInt
theorem ptsX_loop (p:List Int) (h1:p.length<=1000):iterC (fun s18:List UInt8×Int=>(if s18.2<(p.length:Int) then ((idx p s18.2).bind fun c21=>((appL s18.1 (([(UInt8.ofInt c21)]:List UInt8))).bind fun c24=>some (.inl (c24,(wI (s18.2+1)))))) else some (.inr s18.1))) (([]:List UInt8),0)=some (ptsX p):=by
 have hm:1000<=most:=by decide
 refine zas (fun i=>(ptsX (p.take i),(i:Int))) p.length _ (by simp [ptsX]) (fun i hi=>?_) ?_
 ·simp only
  rw [if_pos (by omega),idx_gS hi,obs,ze1 _ _ (by simp [ptsX];omega) rfl,obs,za3 i (by have:=zbl;omega),take_gS hi]
  simp [ptsX]
 ·simp only
  rw [if_neg (by omega),List.take_of_length_le (Nat.le_refl _)]
theorem Gather_code (h:OkS m t n c) (p:List Int) (r:List (List UInt8)) (hl:p.length=r.length) (h1:p.length<=1000) (hp:∀ x∈p,goodP n x) (hr:∀ q∈r,q.length=rowSz m t) (ht:t<=r.length) (hc:mcode (t:Int) (ptsX p) (r.length:Int) (c:Int)≠0):zak (shp m t n c) true p r=some (none,mcode (t:Int) (ptsX p) (r.length:Int) (c:Int)):=by
 have hm:1000<=most:=by decide
 unfold zak
 rw [if_neg (by decide),if_pos (by omega),lenS,obs,zf0 h,obs,if_neg (by decide),zem (by omega),obs,any_places p hp,obs,if_neg (by decide),zem (by omega),obs,any_lens h,obs,lens_ok _ _ hr,if_neg (by decide),ixS1,obs,if_neg (by omega),ptsX_loop p h1,obs,obs,ixS3,obs,Rows_code _ _ _ _ (by simp [ptsX];omega) hc,obs,if_neg hc]
noncomputable def badP (t c:Nat) (a:List Int) (e:List (List UInt8)) (b:Nat):List Int:=((List.range (ptsX a).length).filter (badR t c (ptsX a) e b)).map fun d=>a.getD d 0
theorem bad_loop (W:List Nat) (p:List Int) (h:∀ i∈W,i<p.length) (hW:W.length<=1000):iterC (fun s43:List Int×Int=>(if s43.2<((W.map fun (k:Nat)=>(k:Int)).length:Int) then ((idx (W.map fun (k:Nat)=>(k:Int)) s43.2).bind fun c46=>((idx p c46).bind fun c49=>((appL s43.1 (([c49]:List Int))).bind fun c52=>some (.inl (c52,(wI (s43.2+1))))))) else some (.inr s43.1))) (([]:List Int),0)=some (W.map fun i=>p.getD i 0):=by
 have hm:1000<=most:=by decide
 refine zas (fun i=>((W.take i).map fun i=>p.getD i 0,(i:Int))) W.length _ (by simp) (fun i hi=>?_) ?_
 ·simp only
  have hw:W.getD i 0<p.length:=h _ (by simp [List.getD_eq_getElem?_getD,hi])
  have hix:idx (W.map fun (k:Nat)=>(k:Int)) (i:Int)=some ((W.getD i 0:Nat):Int):=by
   rw [zgf];simp [List.getD_eq_getElem?_getD,hi]
  rw [List.length_map,if_pos (by omega),hix,obs,idx_gS hw,obs,ze1 _ _ (by simp;omega) rfl,obs,za3 i (by have:=zbl;omega),show W.take (i+1)=W.take i ++ [W.getD i 0] from by rw [List.take_add_one];simp [List.getD_eq_getElem?_getD,hi],List.map_append]
  rfl
 ·simp only
  rw [List.length_map,if_neg (by omega),List.take_of_length_le (Nat.le_refl _)]
theorem WrongM_eq (md:Bool×List UInt8×List (List UInt8)×List Int) (h:md.2.2.2.length<=most):zgb (some md)=some md.2.2.2:=by
 unfold zgb
 rw [if_neg (by simp),obs]
 unfold zcq
 rw [zf5 _ h];rfl
noncomputable def partsX (t c:Nat) (b:List Int) (d:List (List UInt8)) (a:Nat):List (List UInt8):=(plc t).map (rowP t c (ptsX b) d a)
theorem Gather_spec (h:OkS m t n c) (p:List Int) (r:List (List UInt8)) (hl:p.length=r.length) (h1:p.length<=1000) (hp:∀ x∈p,goodP n x) (hr:∀ q∈r,q.length=rowSz m t) (ht:t<=r.length) (hc:mcode (t:Int) (ptsX p) (r.length:Int) (c:Int)=0) :
  (∃ R,zak (shp m t n c) true p r=some (some (shp m t n c,true,some (mended t c (ptsX p) r (rowSz m t) R),partsX t c p r (rowSz m t),badP t c p r (rowSz m t)),0)/\Fixed t c (ptsX p) r (rowSz m t) R)∨(zak (shp m t n c) true p r=some (none,11)/\∃ k,k<rowSz m t/\∀ P,¬ Good t c (ptsX p) (clm r k (ptsX p).length) P):=by
 have hm:1000<=most:=by decide
 obtain ⟨q1,q2,q3,q4,q5,q6⟩:=mcode_ok hc
 obtain ⟨z1,z2⟩:=rowSz_pos h
 have ht1:=h.t1
 have hpl:(ptsX p).length=p.length:=by simp [ptsX]
 have hpre:∀ {X},(zev true (t:Int) (ptsX p) r (c:Int)).bind (fun r32=>(if r32.2=0 then
((lenA 4 (shp m t n c)).bind fun c35 =>
((zgb r32.1).bind fun r41 =>
((iterC (fun s43:List Int×Int =>
(if s43.2<(r41.length:Int) then
((idx r41 s43.2).bind fun c46 =>
((idx p c46).bind fun c49 =>
((appL s43.1 (([c49]:List Int))).bind fun c52 => some (.inl (c52,(wI (s43.2+1)))))))
else some (.inr s43.1))) (([]:List Int),0)).bind fun x43 =>
((idx (shp m t n c) 1).bind fun c61 =>
((iterC (fun s62:List (List UInt8)×Int =>
(if s62.2<c61 then
((zg2 r32.1 (UInt8.ofInt ((wI (s62.2+1))))).bind fun r68 =>
((appL s62.1 (([r68]:List (List UInt8)))).bind fun c72 => some (.inl (c72,(wI (s62.2+1))))))
else some (.inr s62.1))) (([]:List (List UInt8)),0)).bind fun x62 => some ((some (shp m t n c,true,r32.1,x62,x43)),0))))))
else some ((none:Option (List Int×Bool×(Option (Bool×List UInt8×List (List UInt8)×List Int))×List (List UInt8)×List Int)),r32.2)))=X->zak (shp m t n c) true p r=X:=by
  intro X hX
  unfold zak
  rw [if_neg (by decide),if_pos (by omega),lenS,obs,zf0 h,obs,if_neg (by decide),zem (by omega),obs,any_places p hp,obs,if_neg (by decide),zem (by omega),obs,any_lens h,obs,lens_ok _ _ hr,if_neg (by decide),ixS1,obs,if_neg (by omega),ptsX_loop p h1,obs,obs,ixS3,obs]
  rw [lenS,ixS1] at hX
  exact hX
 have hrr:∀ i,i<r.length->(r.getD i []).length=rowSz m t:=fun i hi=>hr _ (zfe hi)
 rcases Rows_spec t c (ptsX p) r (rowSz m t) hc hrr z2 with ⟨R,e,hF⟩ | ⟨e,hb⟩
 ·left
  refine ⟨R,hpre ?_,hF⟩
  have hfl:=List.length_filter_le (badR t c (ptsX p) r (rowSz m t)) (List.range (ptsX p).length)
  rw [List.length_range] at hfl
  rw [e,obs,if_pos rfl,lenS,obs]
  unfold mended
  rw [WrongM_eq _ (by simp only [List.length_map];omega),obs]
  simp only
  rw [bad_loop _ p (fun i hi=>by have:=List.mem_range.1 (List.mem_filter.1 hi).1;omega) (by omega),obs,ixS1,obs]
  refine zbp (x:=partsX t c p r (rowSz m t)) (zas (fun i=>((plc i).map (rowP t c (ptsX p) r (rowSz m t)),(i:Int))) t _ rfl (fun i hi=>?_) ?_) rfl
  ·simp only
   rw [if_pos (by omega),za3 i (by have:=zbl;omega),zh4,hF.at h.t1 (by omega) q5 q6 z2,obs,ze1 _ _ (by simp [plc_len];omega) rfl,obs]
   rw [show plc (i+1)=plc i ++ [UInt8.ofNat (i+1)] by unfold plc;rw [List.range_succ,List.map_append];rfl,List.map_append];rfl
  ·simp only
   rw [if_neg (by omega)];rfl
 ·right
  exact ⟨hpre (by rw [e,obs,if_neg (by decide)]),hb⟩
end
end Gk

/- Parts G17, Ql, Ni, L8e, Ne, Qn, Gza, L17g, Qp, Qq, one behind the other. What is proved: said at the head of each part. No condition beside those said there. -/
import Derived.Test.YtmbnjinlfeopaaaGreatRows
import Derived.Orders
import Derived.Deep.Draws
import Derived.Laws.World
import Derived.KernelRfl
import Derived.OrdersIn
import Derived.TacticsIn
import Derived.RangeFuncCalls
import Derived.Deep.LoopGhost
import Derived.Tactics
import Derived.Sort.LoopGhostIn
import Derived.RangeFuncLeaves
import Derived.RangeFuncNested
import Derived.RangeFuncRecord
import Derived.Laws.Sem
import Derived.OwnWalk
import Derived.RangeFuncWrites
import Derived.Laws.IdiomCopy
import Derived.WalkKit
import Derived.ProofKit
import Derived.OpenShut
import Derived.ChangeOld
import Derived.Below
import Derived.Test.YtmbnjinlfeopaaaGreatProg
import Derived.MapKept
import Derived.Lib.AppendZerosOnto
import Derived.Laws.CopyRow
import Derived.Laws.Cells
import Derived.Lib.SlBytesConst
import Derived.Test.YtmbnjinlfeopaaaGreatZPStripeTells1
import Derived.Test.YtmbnjinlfeopaaaGreatZPStripeTells2
import Derived.Test.YtmbnjinlfeopaaaGreatZPStripeTells3
import Derived.Test.YtmbnjinlfeopaaaGreatZPStripeTells4
import Derived.Test.YtmbnjinlfeopaaaGreatZPStripeTells5
set_option maxRecDepth 100000
set_option maxHeartbeats 8000000
set_option linter.unusedVariables false
set_option linter.unusedSimpArgs false
/- Printed by gen.py: for each Go function a pure function, and that the Go code comes to it. No condition beside the equation that says what the pure function gives. -/
namespace Gk
open Go Go.Proofs
noncomputable def zbj (a:Int) (b:List Int):Option Bool :=
(if a<1 then some true
else
((idx b 2).bind fun c => some (decide (c<a))))
theorem zg4 (a0p:Int) (b0:List Int) (gc0:Nat) (r:Bool) (w0:World) (hcB0:Blk w0 gc0 25 (ac i64 b0)) (H:zbj a0p b0=some r) :
  Calls Tryz.prog 33 [(i64 a0p),(bp gc0)].toArray w0 (fun e w'=>e=.returned (.bool r)/\Ext w0 w'):=by
 have hE:Ext w0 w0:=Ext.refl w0;unfold zbj at H;refine zai (n:=12) Tryz.func33 rfl rfl rfl ?_;refine W_seq<|W_rg<|av (.bool false) rfl rfl<|wnt<|W_seq<|W_rg<|mv (i64 a0p) rfl rfl<|wa rfl (q_ltI rfl rfl rfl)<|?_;refine wlb rfl rfl (za5 (v:=(.bool ((decide (a0p<1))))) rfl rfl) (fun hb1=>?_) (fun hb1=>?_)
 ·replace H:=ifp hb1 H;refine wk rfl<|wk rfl<|wk rfl<|wk rfl<|wa rfl (zaq (v:=(.bool true)) rfl rfl rfl)<|av (.bool true) rfl rfl<|wnt<|W_ret<|?_;obtain rfl:=osi H;refine rt1 (.bool true) rfl rfl rfl rfl ?_;exact ⟨rfl,hE⟩
 replace H:=ifn hb1 H;refine mv (i64 a0p) rfl rfl ?_;obtain ⟨c2,hc2,H⟩:=bsi H;refine wa rfl (zcu (j:=2) rfl fieldS2 rfl)<|wq rfl (zbg (m:=0) rfl G25 rfl (hcB0.ext hE) (zaj _ _) hc2)<|wa rfl (q_gtI rfl rfl rfl)<|wa rfl (zap (v:=(.bool ((decide (c2<a0p))))) rfl rfl rfl)<|av (.bool ((decide (c2<a0p)))) rfl rfl<|wnt<|W_ret<|?_;obtain rfl:=osi H;refine rt1 (.bool ((decide (c2<a0p)))) rfl rfl rfl rfl ?_;exact ⟨rfl,hE⟩
noncomputable def zbt (b:List UInt8) (a:List Int):Option Bool :=
((lenA 4 a).bind fun d =>
((zcf a).bind fun c => some (!decide ((b.length:Int)=c))))
theorem zhd (a0r:List UInt8) (b0:List Int) (p0:Value) (gc0:Nat) (r:Bool) (w0:World) (hp0:By w0 [] p0 a0r) (hcB0:Blk w0 gc0 25 (ac i64 b0)) (H:zbt a0r b0=some r) :
  Calls Tryz.prog 35 [p0,(bp gc0)].toArray w0 (fun e w'=>e=.returned (.bool r)/\Ext w0 w'):=by
 have hE:Ext w0 w0:=Ext.refl w0;unfold zbt at H;refine zai (n:=9) Tryz.func35 rfl rfl rfl ?_;refine W_seq<|W_rg<|av (.bool false) rfl rfl<|wnt<|W_seq<|W_rg<|mv p0 rfl rfl<|wa rfl (q_len rfl T22.sl rfl (hp0.lift (le_ hE)))<|?_;obtain ⟨c1,hc1,H⟩:=bsi H;refine wq rfl (zet (m:=0) rfl G25 rfl (hcB0.ext hE) (zaj _ _) (zag hc1)) ?_;obtain ⟨r2,hr2,H⟩:=bsi H;refine wls rfl rfl (zab (vs:=[(ag i64 b0)]) Tryz.func21 rfl rfl rfl (ar1 rfl) (zhh b0  r2 _  hr2) ?_);rintro _ w2 ⟨rfl,x2⟩;refine ⟨_,rfl,?_⟩;have e3:=hE.trans x2;refine wa rfl (q_neI rfl rfl rfl)<|av (.bool ((!decide ((a0r.length:Int)=r2)))) rfl rfl<|wnt<|W_ret<|?_;obtain rfl:=osi H;refine rt1 (.bool ((!decide ((a0r.length:Int)=r2)))) rfl rfl rfl rfl ?_;exact ⟨rfl,e3⟩
noncomputable def za6 (a:List Int) (g:Bool) (b:List Int) (c:List (List UInt8)):Option (Option (List Int×Bool×(Option (Bool×List UInt8×List (List UInt8)×List Int))×List (List UInt8)×List Int)×Int) :=
(if (!g)=true then some ((none:Option (List Int×Bool×(Option (Bool×List UInt8×List (List UInt8)×List Int))×List (List UInt8)×List Int)),1)
else
(if (b.length:Int)=(c.length:Int) then
((lenA 4 a).bind fun C =>
((zbm a).bind fun v =>
(if (!v)=true then some ((none:Option (List Int×Bool×(Option (Bool×List UInt8×List (List UInt8)×List Int))×List (List UInt8)×List Int)),2)
else
((lim b.length).bind fun D =>
((anyO (fun z=>zbj z a) b).bind fun s =>
(if s=true then some ((none:Option (List Int×Bool×(Option (Bool×List UInt8×List (List UInt8)×List Int))×List (List UInt8)×List Int)),2)
else
((lim c.length).bind fun E =>
((anyO (fun A=>zbt A a) c).bind fun t =>
(if t=true then some ((none:Option (List Int×Bool×(Option (Bool×List UInt8×List (List UInt8)×List Int))×List (List UInt8)×List Int)),3)
else
((idx a 1).bind fun i =>
(if (c.length:Int)<i then some ((none:Option (List Int×Bool×(Option (Bool×List UInt8×List (List UInt8)×List Int))×List (List UInt8)×List Int)),12)
else
((iterC (fun e:List UInt8×Int =>
(if e.2<(b.length:Int) then
((idx b e.2).bind fun j =>
((appL e.1 ([UInt8.ofInt j]:List UInt8)).bind fun k => some (.inl (k,wI (e.2+1)))))
else some (.inr e.1))) (([]:List UInt8),0)).bind fun w =>
((idx a 1).bind fun l =>
((idx a 3).bind fun m =>
((zgn g l w c m).bind fun d =>
(if d.2=0 then
((lenA 4 a).bind fun B =>
((zgh d.1).bind fun h =>
((iterC (fun f:List Int×Int =>
(if f.2<(h.length:Int) then
((idx h f.2).bind fun n =>
((idx b n).bind fun o =>
((appL f.1 ([o]:List Int)).bind fun p => some (.inl (p,wI (f.2+1))))))
else some (.inr f.1))) (([]:List Int),0)).bind fun x =>
((idx a 1).bind fun q =>
((iterC (fun s62:List (List UInt8)×Int =>
(if s62.2<q then
((zes d.1 (UInt8.ofInt (wI (s62.2+1)))).bind fun u =>
((appL s62.1 ([u]:List (List UInt8))).bind fun r => some (.inl (r,wI (s62.2+1)))))
else some (.inr s62.1))) (([]:List (List UInt8)),0)).bind fun y => some (some (a,g,d.1,y,x),0))))))
else some ((none:Option (List Int×Bool×(Option (Bool×List UInt8×List (List UInt8)×List Int))×List (List UInt8)×List Int)),d.2)))))))))))))))))
else some ((none:Option (List Int×Bool×(Option (Bool×List UInt8×List (List UInt8)×List Int))×List (List UInt8)×List Int)),1)))
theorem zhu (o:List Int) (aP:Bool) (aB:List Int) (Y:List (List UInt8)) (q:Value) (z:Value) (A:Value) (c2:Option (List Int×Bool×(Option (Bool×List UInt8×List (List UInt8)×List Int))×List (List UInt8)×List Int)×Int) (w0:World) (e:List Value) (K:Old w0 e) (aT:Fd w0 e q aP) (a1:In w0 [] z aB) (aU:Rw w0 [] A Y) (a:za6 o aP aB Y=some c2) :
  Calls Tryz.prog 13 [ag i64 o,q,z,A].toArray w0 (fun e6 aG=>∃ dT:Value,e6=.returned (.tuple #[dT,i64 c2.2])/\Ext w0 aG/\RcSt aG e dT c2.1):=by
 have cQ:Ext w0 w0:=Ext.refl w0;unfold za6 at a;refine zai (n:=121) Tryz.func13 V V V<|W_sr<|wls V V (zb0 (v:=ag i64 o) (cs:=ac i64 o) e V V V ?_);intro c h9 D f9 eD gT;have gM:=zaa eD;have fF:=Nw.ext cQ f9;have aC:=cQ.trans gM;refine av (.pointer none) V V<|av (i64 0) V V<|wnt<|W_seq<|zac<|W_sr<|mv q V V<|wa V (q_eqF V V V V ((aT.lift (Lift.sub (L':=[]) (fun _ _=>trivial))).lift (le_ aC)))<|wlb V V (za5 (v:=(.bool (!aP))) V V) (fun bJ=>?_) (fun bJ=>?_)
 ·replace a:=(if_pos bJ).symm.trans a;refine wk V<|wk V<|wk V<|wk V<|wk V<|wa V (zaq (v:=(.bool true)) V V V)<|av (.bool true) V V<|wnt<|zak true V V (fun _=>?_) (fun a0=>by cases a0);refine W_sr<|av (.pointer none) V V<|av (i64 1) V V<|wnt<|W_ret<|bk_r<|th_r<|?_;obtain rfl:=osi a;refine rt2 (.pointer none) (i64 1) V V V V V V ?_;exact ⟨.pointer none,rfl,aC,RcSt.nil _ _⟩
 replace a:=(if_neg (ne_true_of_eq_false bJ)).symm.trans a;refine mv z V V<|wa V (q_len V T35.sl V (a1.lift (le_ aC)))<|mv A V V<|wa V (q_len V T29.sl V (aU.lift (le_ aC)))<|wa V (q_neI V V V)<|wa V (zap (v:=(.bool (!decide ((aB.length:Int)=(Y.length:Int))))) V V V)<|av (.bool (!decide ((aB.length:Int)=(Y.length:Int)))) V V<|wnt<|zak _ V V (fun bK=>?_) (fun bK=>?_)
 ·replace a:=(if_neg (zbf bK)).symm.trans a;refine W_sr<|av (.pointer none) V V<|av (i64 1) V V<|wnt<|W_ret<|bk_r<|th_r<|?_;obtain rfl:=osi a;refine rt2 (.pointer none) (i64 1) V V V V V V ?_;exact ⟨.pointer none,rfl,aC,RcSt.nil _ _⟩
 replace a:=(if_pos (zbd bK)).symm.trans a;refine W_sr<|bse a fun gR eM a=>wq V (zet (m:=0) V G25 V D (zaj _ _) (zag eM)) ?_;obtain ⟨d9,eZ,a⟩:=bsi a;refine wls V V (zab (vs:=[ag i64 o]) Tryz.func20 V V V (ar1 V) (zcb o  d9 _  eZ) ?_);rintro _ hK ⟨rfl,e0⟩;refine ⟨_,rfl,?_⟩;replace D:=D.ext e0;have bB:=aC.trans e0;refine wa V (q_not V V)<|wlb V V (za5 (v:=(.bool (!d9))) V V) (fun bL=>?_) (fun bL=>?_)
 ·replace a:=(if_pos bL).symm.trans a;refine wk V<|wk V<|wk V<|wa V (zaq (v:=(.bool true)) V V V)<|av (.bool true) V V<|wnt<|zak true V V (fun _=>?_) (fun a0=>by cases a0);refine W_sr<|av (.pointer none) V V<|av (i64 2) V V<|wnt<|W_ret<|bk_r<|th_r<|?_;obtain rfl:=osi a;refine rt2 (.pointer none) (i64 2) V V V V V V ?_;exact ⟨.pointer none,rfl,bB,RcSt.nil _ _⟩
 replace a:=(if_neg (ne_true_of_eq_false bL)).symm.trans a;refine mv z V V<|wa V (zhc (vs:=[bp c]) V (ar1 V))<|?_;obtain ⟨gZ,eP,a⟩:=bsi a;obtain ⟨c3,eR,a⟩:=bsi a;refine wls V V (zab (vs:=[z,(.func (.func 33) #[] [bp c].toArray)]) Tryz.func32 V V V (ar2 V V) (zik z aB 33 _ Tryz.func33 V V [bp c] (fun cC=>zbj cC o) c3 _ (a1.lift (le_ bB)) (lim_lt eP) eR (fun cC _ b9 aG cB a0=>zg4 cC o c b9 aG (D.ext cB) a0)) ?_);rintro _ hA ⟨rfl,dX⟩;refine ⟨_,rfl,?_⟩;replace D:=D.ext dX;have bA:=bB.trans dX;refine wa V (zap (v:=(.bool c3)) V V V)<|av (.bool c3) V V<|wnt<|zak _ V V (fun bG=>?_) (fun bG=>?_)
 ·replace a:=(if_pos bG).symm.trans a;refine W_sr<|av (.pointer none) V V<|av (i64 2) V V<|wnt<|W_ret<|bk_r<|th_r<|?_;obtain rfl:=osi a;refine rt2 (.pointer none) (i64 2) V V V V V V ?_;exact ⟨.pointer none,rfl,bA,RcSt.nil _ _⟩
 replace a:=(if_neg (ne_true_of_eq_false bG)).symm.trans a;refine W_sr<|mv A V V<|wa V (zhc (vs:=[bp c]) V (ar1 V))<|?_;obtain ⟨h0,eQ,a⟩:=bsi a;obtain ⟨d8,eS,a⟩:=bsi a;refine wls V V (zab (vs:=[A,(.func (.func 35) #[] [bp c].toArray)]) Tryz.func34 V V V (ar2 V V) (zch A Y 35 _ Tryz.func35 V V [bp c] (fun cD=>zbt cD o) d8 _ (aU.lift (le_ bA)) (lim_lt eQ) eS (fun cD _ b9 aG cB a0 u f0=>zhd cD o u c b9 aG f0 (D.ext cB) a0)) ?_);rintro _ hB ⟨rfl,dY⟩;refine ⟨_,rfl,?_⟩;replace D:=D.ext dY;have aH:=bA.trans dY;refine av (.bool d8) V V<|wnt<|zak _ V V (fun bH=>?_) (fun bH=>?_)
 ·replace a:=(if_pos bH).symm.trans a;refine W_sr<|av (.pointer none) V V<|av (i64 3) V V<|wnt<|W_ret<|bk_r<|th_r<|?_;obtain rfl:=osi a;refine rt2 (.pointer none) (i64 3) V V V V V V ?_;exact ⟨.pointer none,rfl,aH,RcSt.nil _ _⟩
 replace a:=(if_neg (ne_true_of_eq_false bH)).symm.trans a;refine W_sr<|mv A V V<|wa V (q_len V T29.sl V (aU.lift (le_ aH)))<|bse a fun e4 eH a=>wa V (zcu (j:=1) V ze6 V)<|wq V (zbg (m:=0) V G25 V D (zaj _ _) eH)<|wa V (q_ltI V V V)<|av (.bool (decide ((Y.length:Int)<e4))) V V<|wnt<|wci a V V (fun a=>?_) (fun a=>?_)
 ·refine W_sr<|av (.pointer none) V V<|av (i64 12) V V<|wnt<|W_ret<|bk_r<|th_r<|?_;obtain rfl:=osi a;refine rt2 (.pointer none) (i64 12) V V V V V V ?_;exact ⟨.pointer none,rfl,aH,RcSt.nil _ _⟩
 refine zad<|bk_n<|W_th<|W_sr<|av (.slice none 0 0) V V<|wnt<|W_seq<|W_sr<|mv z V V<|wa V (q_len V T35.sl V (a1.lift (le_ aH)))<|mv (i64 0) V V<|wnt<|?_;obtain ⟨dZ,e1,a⟩:=bsi a;refine W_mid (fun f w=>∃ aM:Value,f 1=q/\f 2=z/\f 3=A/\f 4=bp c/\f 10=aM/\f 121=undef/\Ext w0 w/\OwK (Sc u8) w (aM::bp c::e) 5 aM dZ/\Nw w0 aM/\Blk w c 25 (ac i64 o)/\Nw w0 (bp c)/\Nq aM (bp c)) ?_ ?_
 ·refine zac<|za4 (fun b2 f w=>∃ aL:Value,f 1=q/\f 2=z/\f 3=A/\f 4=bp c/\f 10=aL/\f 48=z/\f 49=i64 (aB.length:Int)/\f 50=i64 b2.2/\f 121=undef/\Ext w0 w/\OwK (Sc u8) w (aL::bp c::e) 5 aL b2.1/\Nw w0 aL/\Blk w c 25 (ac i64 o)/\Nw w0 (bp c)/\Nq aL (bp c)) e1 ?_ ?_
  ·exact ⟨.slice none 0 0,rfl,rfl,rfl,rfl,rfl,rfl,rfl,rfl,rfl,aH,OwK.nil _ _ _ _,Nw.nil _,D,fF,Nq.nil _⟩
  rintro b2 _ _ hC ⟨aK,dI,dK,dM,dP,dB,dN,dO,c5,dC,aI,aJ,bO,S,d1,bV⟩ H eT;refine W_sr<|wa V (q_ltI V c5 dO)<|wnt<|W_seq<|wci H V V (fun H=>?_) (fun H=>?_)
  ·refine zad<|W_th<|W_seq<|zac<|W_sr<|bse H fun J cU H=>wa V (q_adr V T35 dN c5 (a1.lift (le_ aI)) cU)<|wq V (zav V T35 V (a1.lift (le_ aI)) cU)<|av (i64 J) V V<|wnt<|W_rg<|mv aK V dB<|mv (i64 J) V V<|wa V (zg6 V V V V)<|wls V V (zax (L:=(aK::bp c::e)) (R:=Sc u8) [u8 (UInt8.ofInt J)] ([UInt8.ofInt J]:List UInt8) V T22 V (by exact ⟨rfl,rfl,trivial⟩) V (litC u8 zbx (us:=[u8 (UInt8.ofInt J)]) (l:=([UInt8.ofInt J]:List UInt8)) V) V (litS u8 (us:=[u8 (UInt8.ofInt J)]) (l:=([UInt8.ofInt J]:List UInt8)) V) ?_);intro dU gF fR fB eE gU;have b6:=zaa eE;have f3:By gF (aK::bp c::e) dU ([UInt8.ofInt J]:List UInt8):=OwK.slk (Sc.stab _) _ fR (fun p s=>(Old.cons (Old.cons (K.ext aI) S.ltB) aJ.lt) p (fB p s)) (fun _ h=>h.2);replace aJ:=aJ.extL (Sc.stab _) b6 (le_ b6);replace S:=S.ext b6;have cH:=aI.trans b6;obtain ⟨gO,eI,H⟩:=bsi H;refine wls V V (zar (R:=Sc u8) (v:=aK) (u:=dU) (Sc.stab _) [] (bp c::e) V T22 V V aJ f3 (fun _ _ h=>h) eI oc_u8 ?_);intro c7 hD fS cN d5 gV;have g2:Nq (bp c) c7:=S.nxt bV.symm d5;replace S:=S.other cN bV.symm;have e7:=cH.grown cN bO;have fC:=Nw.nxt cH bO d5;refine av c7 V V<|zah<|bk_n<|W_th<|W_rg<|wa V (zam V c5 V)<|mv (i64 (wI (b2.2+1))) V V<|zah<|?_;obtain rfl:=osi H;exact ⟨_,rfl,c7,dI,dK,dM,dP,rfl,dN,dO,rfl,dC,e7,fS,fC,S,d1,g2.symm⟩
  refine zaz<|th_x<|?_;obtain rfl:=osi H;obtain rfl:=eT _ rfl;refine th_x<|bk_x<|?_;exact ⟨aK,dI,dK,dM,dP,dB,dC,aI,aJ,bO,S,d1,bV⟩
 rintro _ hE ⟨a5,dJ,gC,gD,b4,g6,dD,aS,a3,f6,t,d2,h2⟩;refine W_th<|W_sr<|mv q V dJ<|bse a fun cE eJ a=>wa V (zcu (j:=1) V ze6 (by exact b4))<|wq V (zbg (m:=0) V G25 V t (zaj _ _) eJ)<|mv a5 V g6<|mv A V gD<|bse a fun cF eK a=>wa V (zcu (j:=3) V fieldS3 (by exact b4))<|wq V (zbg (m:=0) V G25 V t (zaj _ _) eK)<|?_;obtain ⟨y,eU,a⟩:=bsi a;refine wls V V (zab (vs:=[q,i64 cE,a5,A,i64 cF]) Tryz.func36 V V V (ar5 V V V V V) (mend_Rows_calls aP cE dZ Y cF q a5 A y _ (a5::bp c::e) (Old.cons (Old.cons (K.ext aS) t.ltB) a3.lt) (aT.lift (((Lift.ext aS e).consN d2).consN f6)) (a3.rd (Sc.stab _)) (aU.lift (le_ aS)) eU) ?_);rintro _ hF ⟨i,rfl,b7,a2⟩;refine ⟨_,rfl,?_⟩;replace a3:=a3.extL (Sc.stab _) b7 (le_ b7);replace t:=t.ext b7;have aQ:=aS.trans b7;refine mv (.tuple #[i,i64 y.2]) V V<|wa V (zaf V V V)<|wa V (zaf V V V)<|av i V V<|av (i64 y.2) V V<|wnt<|W_seq<|W_seq<|W_rg<|mv (i64 y.2) V V<|wa V (q_neI V V V)<|wnt<|zak _ V V (fun bI=>?_) (fun bI=>?_)
 ·replace a:=(if_neg (zbf bI)).symm.trans a;refine W_sr<|mv (i64 y.2) V V<|av (.pointer none) V V<|av (i64 y.2) V V<|wnt<|W_ret<|th_r<|?_;obtain rfl:=osi a;refine rt2 (.pointer none) (i64 y.2) V V V V V dD ?_;exact ⟨.pointer none,rfl,aQ,RcSt.nil _ _⟩
 replace a:=(if_pos (zbd bI)).symm.trans a;refine zad<|W_th<|W_sr<|?_;obtain ⟨gP,M,a⟩:=bsi a;refine wq V (zet (m:=0) V G25 (by exact b4) t (zaj _ _) (zag M))<|mv q V dJ<|mv i V V<|wa V (q_buildS (ps:=#[(0,ag i64 o),(1,q),(2,i)]) V (by simp only [List.map_toArray,List.map_cons,List.map_nil];exact bs3 V V V) (buildSt_0_1_2 o (zag M) q (cells_fd ((aT.lift (Lift.sub (L':=[]) (fun _ _=>trivial))).lift (le_ aQ))) i (RcMd.cells a2)))<|?_
 refine wls V V (zb0 (v:=(.agg ((o.map i64 ++ [q,i,.slice none 0 0,.slice none 0 0]).toArray))) (cs:=((o.map i64 ++ [q,i,.slice none 0 0,.slice none 0 0]).toArray)) (a5::bp c::e) V V V ?_);intro b hG aW aV eF gW;have aO:=zaa eF;have g3:Nq (bp c) (bp b):=t.nq aV;replace a2:=a2.lift (Lift.call _ aO aV);replace a3:=a3.extL (Sc.stab _) aO (Lift.call _ aO aV);replace t:=t.ext aO;have fG:=Nw.ext aQ aV;have cI:=aQ.trans aO;refine av (bp b) V V<|wnt<|W_seq<|W_sr<|mv i V V<|?_;obtain ⟨aZ,eV,a⟩:=bsi a;refine wls V V (zab (vs:=[i]) Tryz.func37 V V V (ar1 V) (mend_Wrong_calls y.1 i aZ _ (a2.lift (Lift.sub (L':=[]) (fun _ _=>trivial))) eV) ?_);rintro _ gG ⟨b5,rfl,b8,fH,fV⟩;refine ⟨_,rfl,?_⟩;have cX:In gG (bp b::a5::bp c::e) b5 aZ:=OwK.slk (Sc.stab _) _ (OwK.scal fV (b5::(bp b::a5::bp c::e))) (fun p s=>(Old.cons (Old.cons (Old.cons (K.ext cI) t.ltB) a3.lt) aW.ltB) p (fH p s)) (fun _ h=>h.2);replace a2:=a2.lift (le_ b8);replace aW:=aW.ext b8;replace t:=t.ext b8;have e8:=cI.trans b8;refine wa V (q_len V T35.sl V cX)<|mv (i64 0) V V<|wnt<|?_;obtain ⟨cA,e2,a⟩:=bsi a;refine W_mid (fun f w=>∃ a6:Value,f 4=bp c/\f 13=i/\f 15=bp b/\f 121=undef/\Ext w0 w/\OwK (Sc i64) w (a6::bp c::bp b::e) 3 a6 cA/\Nw w0 a6/\Blk w c 25 (ac i64 o)/\Nw w0 (bp c)/\Blk w b 74 ((o.map i64 ++ [q,i,.slice none 0 0,a6]).toArray)/\Nw w0 (bp b)/\Nq a6 (bp c)/\Nq a6 (bp b)/\Nq (bp c) (bp b)/\RcMd w (a6::bp c::bp b::e) i y.1) ?_ ?_
 ·refine zac<|za4 (fun b3 f w=>∃ W:Value,f 2=z/\f 4=bp c/\f 13=i/\f 15=bp b/\f 80=b5/\f 81=i64 (aZ.length:Int)/\f 82=i64 b3.2/\f 121=undef/\Ext w0 w/\OwK (Sc i64) w (W::bp c::bp b::e) 3 W b3.1/\Nw w0 W/\Blk w c 25 (ac i64 o)/\Nw w0 (bp c)/\Blk w b 74 ((o.map i64 ++ [q,i,.slice none 0 0,W]).toArray)/\Nw w0 (bp b)/\Nq W (bp c)/\Nq W (bp b)/\Nq (bp c) (bp b)/\RcMd w (W::bp c::bp b::e) i y.1/\In w (W::bp c::bp b::e) b5 aZ) e2 ?_ ?_
  ·exact ⟨.slice none 0 0,gC,b4,rfl,rfl,rfl,rfl,rfl,dD,e8,OwK.nil _ _ _ _,Nw.nil _,t,d2,aW,fG,Nq.nil _,Nq.nil _,g3,a2.lift (Lift.sub (fun _ h=>⟨zhm,h.2.2.1,h.1,h.2.2.2⟩)),cX.lift (Lift.sub (fun _ h=>⟨zhm,h.2.2.1,h.1,h.2.2.2⟩))⟩
  rintro b3 _ _ gH ⟨aN,dL,dQ,dG,b0,dR,dS,c6,dE,cR,a4,bP,G,d3,E,bR,bW,bY,c0,Q,N⟩ B eW;refine W_sr<|wa V (q_ltI V c6 dS)<|wnt<|W_seq<|wci B V V (fun B=>?_) (fun B=>?_)
  ·refine zad<|W_th<|W_seq<|zac<|W_sr<|bse B fun cG cV B=>wa V (q_adr V T35 dR c6 N cV)<|wq V (zav V T35 V N cV)<|av (i64 cG) V V<|wnt<|zbi [4,8] [(0,0),(1,0),(2,0),(3,0),(4,1),(5,0),(6,0),(7,0),(8,1),(9,2),(10,2),(11,0),(12,0),(13,2)] mixed (by kernel_rfl) (by kernel_rfl) (by kernel_rfl) (by kernel_rfl) ?_;have a7:=Ext.drew gH;replace a4:=a4.extL (Sc.stab _) a7 (le_ a7);replace G:=G.ext a7;replace E:=E.ext a7;have aR:=cR.trans a7;refine sv (bp b) V V b0<|sv (bp b) V V b0<|sa V V (za9 V V)<|sa V V (zdp (g:=b) (m:=0) (d:=7) V fieldAtSt4 V)<|sq V V (zal (u:=aN) V Tryz.isAgg35 V E (zfp (m:=3) (zag M) V))<|sv z V V dL<|sv (i64 cG) V V V<|bse B fun Z cW B=>sa V V (q_adr V T35 V V (a1.lift (le_ aR)) cW)<|sq V V (zav V T35 V (a1.lift (le_ aR)) cW)<|wss V V V (zax (L:=(aN::bp c::bp b::e)) (R:=Sc i64) [i64 Z] ([Z]:List Int) V T35 V (by exact ⟨rfl,rfl,trivial⟩) V (litC i64 zgf (us:=[i64 Z]) (l:=([Z]:List Int)) V) V (litS i64 (us:=[i64 Z]) (l:=([Z]:List Int)) V) ?_);intro dV gI fW fI cO gX;refine ⟨zaa cO,?_⟩;have a8:=zaa cO;have f4:In gI (aN::bp c::bp b::e) dV ([Z]:List Int):=OwK.slk (Sc.stab _) _ fW (fun p s=>(Old.cons (Old.cons (Old.cons (K.ext aR) E.ltB) G.ltB) a4.lt) p (fI p s)) (fun _ h=>h.2);replace Q:=(Q.lift (le_ a7)).lift (le_ a8);replace N:=(N.lift (le_ a7)).lift (le_ a8);replace a4:=a4.extL (Sc.stab _) a8 (le_ a8);replace G:=G.ext a8;replace E:=E.ext a8;have cJ:=aR.trans a8;obtain ⟨gQ,eL,B⟩:=bsi B;refine wsc V (by kernel_rfl) V V (zar (R:=Sc i64) (v:=aN) (u:=dV) (Sc.stab _) [] (bp c::bp b::e) V T35 V V a4 f4 (fun _ _ h=>h) eL zg3 ?_);intro aE hH aX bC bT cZ;replace Q:=Q.lift cZ;replace N:=N.lift cZ;have g4:Nq (bp c) aE:=G.nxt bW.symm bT;have d6:Nq (bp b) aE:=E.nxt bY.symm bT
   replace E:=E.other bC bY.symm;have e9:=cJ.grown bC bP;have fJ:=Nw.nxt cJ bP bT;refine sa V V (za9 V V)<|sa V V (zdp (g:=b) (m:=0) (d:=7) V fieldAtSt4 V)<|wsn V (by kernel_rfl) V V (stp_storeR (u:=aE) (cs':=((o.map i64 ++ [q,i,.slice none 0 0,aE]).toArray)) [aE,bp c] e V Tryz.sizeOf35 V V E (lt_ar (m:=3) (zag M) (Nat.le_of_ble_eq_true V)) (oc_own aX) (set_ar (m:=3) (zag M)) ?_);intro hI fX bD bM;replace Q:=Q.lift bM;replace N:=N.lift bM;replace aX:=aX.other (Sc.stab _) bD d6.symm bM;replace G:=(G.other bC bW.symm).other bD c0;have eA:=e9.grown bD bR;refine zaw<|bk_n<|W_th<|W_rg<|wa V (zam V c6 V)<|mv (i64 (wI (b3.2+1))) V V<|zah<|?_;obtain rfl:=osi B;exact ⟨_,rfl,aE,dL,dQ,dG,b0,dR,dS,rfl,dE,eA,aX,fJ,G,d3,fX,bR,g4.symm,d6.symm,c0,Q,N⟩
  refine zaz<|th_x<|?_;obtain rfl:=osi B;obtain rfl:=eW _ rfl;refine th_x<|bk_x<|?_;exact ⟨aN,dQ,dG,b0,dE,cR,a4,bP,G,d3,E,bR,bW,bY,c0,Q⟩
 rintro _ hJ ⟨k,gE,g9,gA,g7,eG,fN,f7,fP,h1,fT,fD,h3,g1,h6,f1⟩;refine W_th<|W_seq<|W_sr<|bse a fun e5 eN a=>wa V (zcu (j:=1) V ze6 (by exact gE))<|wq V (zbg (m:=0) V G25 V fP (zaj _ _) eN)<|mv (i64 0) V V<|wnt<|?_;obtain ⟨gN,e3,a⟩:=bsi a;refine W_mid (fun f w=>∃ U:Value,f 15=bp b/\f 121=undef/\Ext w0 w/\OwK By w (U::k::bp b::e) 22 U gN/\Nw w0 U/\OwK (Sc i64) w (U::k::bp b::e) 3 k cA/\Nw w0 k/\Blk w b 74 ((o.map i64 ++ [q,i,U,k]).toArray)/\Nw w0 (bp b)/\Nq U k/\Nq U (bp b)/\Nq k (bp b)/\RcMd w (U::k::bp b::e) i y.1) ?_ ?_
 ·refine zac<|za4 (fun O f w=>∃ T:Value,f 13=i/\f 15=bp b/\f 101=i64 e5/\f 102=i64 O.2/\f 121=undef/\Ext w0 w/\OwK By w (T::k::bp b::e) 22 T O.1/\Nw w0 T/\OwK (Sc i64) w (T::k::bp b::e) 3 k cA/\Nw w0 k/\Blk w b 74 ((o.map i64 ++ [q,i,T,k]).toArray)/\Nw w0 (bp b)/\Nq T k/\Nq T (bp b)/\Nq k (bp b)/\RcMd w (T::k::bp b::e) i y.1) e3 ?_ ?_
  ·exact ⟨.slice none 0 0,g9,gA,rfl,rfl,g7,eG,OwK.nil _ _ _ _,Nw.nil _,fN.weak (Sc.stab _) (fun _ h=>⟨zhm,h.1,h.2.2.1,h.2.2.2⟩),f7,fT,fD,Nq.nil _,Nq.nil _,g1,f1.lift (Lift.sub (fun _ h=>⟨zhm,h.1,h.2.2.1,h.2.2.2⟩))⟩
  rintro O _ _ gJ ⟨P,dH,b1,dA,c4,dF,cS,F,bQ,x,d4,r,bS,bX,bZ,c1,C⟩ I eX;refine W_sr<|wa V (q_ltI V c4 dA)<|wnt<|W_seq<|wci I V V (fun I=>?_) (fun I=>?_)
  ·refine zad<|W_th<|W_seq<|zac<|W_sr<|mv (i64 O.2) V c4<|av (i64 O.2) V V<|wnt<|zbi [4] [(0,0),(1,0),(2,0),(3,0),(4,1),(5,0),(6,0),(7,0),(8,0),(9,2),(10,2),(11,2),(12,0),(13,0),(14,2)] mixed (by kernel_rfl) (by kernel_rfl) (by kernel_rfl) (by kernel_rfl) ?_;have a9:=Ext.drew gJ;replace C:=C.lift (le_ a9);replace F:=F.extL (SlK.stab (Sc.stab _)) a9 (le_ a9);replace x:=x.extL (Sc.stab _) a9 (le_ a9);replace r:=r.ext a9;have cK:=cS.trans a9;refine sv (bp b) V V b1<|sv (bp b) V V b1<|sa V V (za9 V V)<|sa V V (zdp (g:=b) (m:=0) (d:=6) V fieldAtSt3 V)<|sq V V (zal (u:=P) V Tryz.isAgg29 V r (zfp (m:=2) (zag M) V))<|sv i V V dH<|sv (i64 O.2) V V V<|sa V V (zam V V V)<|sa V V (zg6 V V V V) ?_;obtain ⟨aD,eY,I⟩:=bsi I;refine wss V V V (zab (vs:=[i,u8 (UInt8.ofInt (wI (O.2+1)))]) Tryz.func38 V V V (ar2 V V) (ze9 y.1 (UInt8.ofInt (wI (O.2+1))) i aD _ (C.lift (Lift.sub (L':=[]) (fun _ _=>trivial))) eY) ?_);rintro _ c9 ⟨c8,rfl,X,fK,fY⟩;refine ⟨_,rfl,X,?_⟩;have cY:By c9 (P::k::bp b::e) c8 aD:=OwK.slk (Sc.stab _) _ (OwK.scal fY (c8::(P::k::bp b::e))) (fun p s=>(Old.cons (Old.cons (Old.cons (K.ext cK) r.ltB) x.lt) F.lt) p (fK p s)) (fun _ h=>h.2);replace C:=C.lift (le_ X);replace F:=F.extL (SlK.stab (Sc.stab _)) X (le_ X);replace x:=x.extL (Sc.stab _) X (le_ X);replace r:=r.ext X;have cL:=cK.trans X;refine wss V V V (zax (L:=(P::k::bp b::e)) (R:=By) [c8] ([aD]:List (List UInt8)) V T29 V (by exact ⟨rfl,rfl,trivial⟩) V (LitR.cells (R:=By) (w:=c9) (L:=(P::k::bp b::e)) (l:=([aD]:List (List UInt8))) (LitR.cons cY LitR.nil) (fun u gL h=>zcj u gL h)) V (LitR.all (R:=By) (w:=c9) (L:=(P::k::bp b::e)) (l:=([aD]:List (List UInt8))) (SlK.stab (Sc.stab _)) (LitR.cons cY LitR.nil)) ?_);intro dW gK fZ fL cP gY;refine ⟨zaa cP,?_⟩;have aA:=zaa cP;have f5:Rw gK (P::k::bp b::e) dW ([aD]:List (List UInt8)):=OwK.slk (SlK.stab (Sc.stab _)) _ fZ (fun p s=>(Old.cons (Old.cons (Old.cons (K.ext cL) r.ltB) x.lt) F.lt) p (fL p s)) (fun _ h=>h.2)
   replace F:=F.extL (SlK.stab (Sc.stab _)) aA (le_ aA);replace x:=x.extL (Sc.stab _) aA (le_ aA);replace r:=r.ext aA;have cM:=cL.trans aA;obtain ⟨gS,eO,I⟩:=bsi I;refine wsc V (by kernel_rfl) V V (zar (R:=By) (v:=P) (u:=dW) (SlK.stab (Sc.stab _)) [] (k::bp b::e) V T29 V V F f5 (fun _ _ h=>h) eO oc_sl ?_);intro aF hL aY bE bU d0;replace C:=(C.lift (le_ aA)).lift d0;have g5:Nq k aF:=x.nxt bX.symm bU;have d7:Nq (bp b) aF:=r.nxt bZ.symm bU;replace r:=r.other bE bZ.symm;have eB:=cM.grown bE bQ;have fM:=Nw.nxt cM bQ bU;refine sa V V (za9 V V)<|sa V V (zdp (g:=b) (m:=0) (d:=6) V fieldAtSt3 V)<|wsn V (by kernel_rfl) V V (stp_storeR (u:=aF) (cs':=((o.map i64 ++ [q,i,aF,k]).toArray)) [aF,k] e V Tryz.sizeOf29 V V r (lt_ar (m:=2) (zag M) (Nat.le_of_ble_eq_true V)) (oc_own aY) (set_ar (m:=2) (zag M)) ?_);intro hM g0 bF bN;replace C:=C.lift bN;replace aY:=aY.other (SlK.stab (Sc.stab _)) bF d7.symm bN;replace x:=(x.other (Sc.stab _) bE bX.symm d0).other (Sc.stab _) bF c1 bN;have eC:=eB.grown bF bS;refine zaw<|bk_n<|W_th<|W_rg<|wa V (zam V c4 V)<|mv (i64 (wI (O.2+1))) V V<|zah<|?_;obtain rfl:=osi I;exact ⟨_,rfl,aF,dH,b1,dA,rfl,dF,eC,aY,fM,x,d4,g0,bS,g5.symm,d7.symm,c1,C⟩
  refine zaz<|th_x<|?_;obtain rfl:=osi I;obtain rfl:=eX _ rfl;refine th_x<|bk_x<|?_;exact ⟨P,b1,dF,cS,F,bQ,x,d4,r,bS,bX,bZ,c1,C⟩
 rintro _ hN ⟨h8,gB,g8,cT,fO,f8,fQ,fA,fU,fE,h4,h5,h7,f2⟩;refine W_th<|W_sr<|mv (bp b) V gB<|av (bp b) V V<|av (i64 0) V V<|wnt<|W_ret<|?_;obtain rfl:=osi a;refine rt2 (bp b) (i64 0) V V V V V g8 ?_;exact ⟨bp b,rfl,cT,RcSt.mk fU (K _ (fE _ (hs_bp' _))) (aT.lift (le_ cT)) (f2.lift (Lift.sub (fun _ h=>h.2.2.2))) (OwK.slk (SlK.stab (Sc.stab _)) e fO (fun p s=>K p (f8 p s)) (fun _ h=>h.2.2.2)) (OwK.slk (Sc.stab _) e fQ (fun p s=>K p (fA p s)) (fun _ h=>h.2.2.2)) (zag M)⟩
noncomputable def zd1 (a:Option (List Int×Bool×(Option (Bool×List UInt8×List (List UInt8)×List Int))×List (List UInt8)×List Int)):Option Bool :=
((a).bind fun b =>
((zat b.2.2.2.1).bind fun c =>
((word_Zero c).bind fun d => some d)))
theorem stripe_blank_calls (a0x:Option (List Int×Bool×(Option (Bool×List UInt8×List (List UInt8)×List Int))×List (List UInt8)×List Int)) (p0:Value) (r:Bool) (w0:World) (hp0:RcSt w0 [] p0 a0x) (H:zd1 a0x=some r) :
  Calls Tryz.prog 39 [p0].toArray w0 (fun e w'=>e=.returned (.bool r)/\Ext w0 w'):=by
 have hE:Ext w0 w0:=Ext.refl w0;unfold zd1 at H;refine zai (n:=9) Tryz.func39 rfl rfl rfl ?_;refine W_seq<|W_rg<|av (.bool false) rfl rfl<|wnt<|W_seq<|W_rg<|mv p0 rfl rfl<|?_;obtain ⟨c1,hc1,H⟩:=bsi H;obtain ⟨g1,u1_1,u1_2,u1_3,u1_4,hv1,hB1,hu1_1,hu1_2,hu1_3,hu1_4,hu1_0⟩:=RcSt.some hp0 hc1;refine wa rfl (za9 (g:=g1) (m:=0) rfl (Eq.trans rfl hv1))<|wa rfl (zdp (g:=g1) (m:=0) (d:=6) rfl fieldAtSt3 rfl)<|wq rfl (zal (u:=u1_3) rfl Tryz.isAgg29 rfl (hB1.ext hE) (zfp (m:=2) hu1_0 rfl))<|?_;obtain ⟨r2,hr2,H⟩:=bsi H;refine wls rfl rfl (zab (vs:=[u1_3]) Tryz.func29 rfl rfl rfl (ar1 rfl) (za2 c1.2.2.2.1 u1_3 r2 _ (hu1_3.lift (le_ hE)) hr2) ?_);rintro _ w2 ⟨v2,rfl,x2,n2_0,o2_0⟩;refine ⟨_,rfl,?_⟩;have i2_0:By w2 [] v2 r2:=OwK.slk (Sc.stab _) _ (OwK.scal o2_0 (v2 :: [])) (fun k hk=>(Old.nil _) k (n2_0 k hk)) (fun _ h=>h.2);have e3:=hE.trans x2;obtain ⟨r4,hr4,H⟩:=bsi H;refine wls rfl rfl (zab (vs:=[v2]) Tryz.func73 rfl rfl rfl (ar1 rfl) (word_Zero_calls r2 v2 r4 _ (i2_0.lift (Lift.sub (L':=[]) (fun _ _=>trivial))) hr4) ?_);rintro _ w4 ⟨rfl,x4⟩;refine ⟨_,rfl,?_⟩;have e5:=e3.trans x4;refine av (.bool r4) rfl rfl<|wnt<|W_ret<|?_;obtain rfl:=osi H;refine rt1 (.bool r4) rfl rfl rfl rfl ?_;exact ⟨rfl,e5⟩
noncomputable def zdh (c:Option (List Int×Bool×(Option (Bool×List UInt8×List (List UInt8)×List Int))×List (List UInt8)×List Int)):Option (List UInt8×Int) :=
(if c.isNone=true then some (([]:List UInt8),1)
else
((c).bind fun a =>
((idx a.1 0).bind fun h =>
(if h=0 then
((zes a.2.2.1 (0:UInt8)).bind fun i => some (i,0))
else
((zd1 c).bind fun j =>
(if j=true then
((makeL 440 (0:UInt8)).bind fun e => some (e,0))
else
((zid a.2.2.2.1 473).bind fun b =>
(if b.2=0 then
((idx b.1 0).bind fun f =>
(if f=(1:UInt8) then
((subL b.1 1 (b.1.length:Int)).bind fun g =>
((aont_Open a.2.1 g).bind fun d => some (d.1,d.2)))
else some (([]:List UInt8),11)))
else some (([]:List UInt8),11)))))))))
theorem stripe_Block_calls (q:Option (List Int×Bool×(Option (Bool×List UInt8×List (List UInt8)×List Int))×List (List UInt8)×List Int)) (e:Value) (F:List UInt8×Int) (w0:World) (D:RcSt w0 [] e q) (c:zdh q=some F) :
  Calls Tryz.prog 14 [e].toArray w0 (fun Z T=>∃ G:Value,Z=.returned (.tuple #[G,i64 F.2])/\Ext w0 T/\Nw w0 G/\OwK (Sc u8) T [] 5 G F.1):=by
 have h:Ext w0 w0:=Ext.refl w0;unfold zdh at c;refine zai (n:=50) Tryz.func14 V V V<|W_sr<|av (.slice none 0 0) V V<|av (i64 0) V V<|wnt<|W_seq<|zac<|W_seq<|W_rg<|mv e V V<|wa V (q_eqRSt V V V V (D.lift (le_ h)))<|av (.bool q.isNone) V V<|wnt<|zak _ V V (fun z=>?_) (fun z=>?_)
 ·replace c:=(if_pos z).symm.trans c;refine W_sr<|av (.slice none 0 0) V V<|av (i64 1) V V<|wnt<|W_ret<|bk_r<|th_r<|?_;obtain rfl:=osi c;refine rt2 (.slice none 0 0) (i64 1) V V V V V V ?_;exact ⟨.slice none 0 0,rfl,h,Nw.nil _,OwK.nil _ _ _ _⟩
 replace c:=(if_neg (ne_true_of_eq_false z)).symm.trans c;refine W_sr<|mv e V V<|?_;obtain ⟨x,a6,c⟩:=bsi c;obtain ⟨f,H,I,J,b3,t,s,aD,aE,aF,b1,E⟩:=RcSt.some D a6;refine wa V (za9 (g:=f) (m:=0) V (Eq.trans V t))<|wa V (zdp (g:=f) (m:=0) (d:=0) V fieldAtSt0 V)<|bse c fun M a7 c=>wa V (zdp (g:=f) (m:=0) (d:=0) V fieldAtSt0_0 V)<|wq V (zal (u:=i64 M) V Tryz.isAgg3 V (s.ext h) (cell_ar a7))<|wa V (q_eqI V V V)<|av (.bool (decide (M=0))) V V<|wnt<|wci c V V (fun c=>?_) (fun c=>?_)
 ·refine W_sr<|mv e V V<|wa V (za9 (g:=f) (m:=0) V (Eq.trans V t))<|wa V (zdp (g:=f) (m:=0) (d:=5) V fieldAtSt2 V)<|wq V (zal (u:=I) V Tryz.isAgg70 V (s.ext h) (zfp (m:=1) E V))<|?_;obtain ⟨Q,aB,c⟩:=bsi c;refine wls V V (zab (vs:=[I,u8 0]) Tryz.func38 V V V (ar2 V (by exact (cst8 (0:UInt8) V))) (ze9 x.2.2.1 (0:UInt8) I Q _ (aE.lift (le_ h)) aB) ?_);rintro _ aU ⟨p,rfl,aY,aL,aS⟩;refine ⟨_,rfl,?_⟩;have aR:OwK (Sc u8) aU (p::[]) 5 p Q:=OwK.scal aS _;have aM:=Nw.ext h aL;have a2:=h.trans aY;refine av p V V<|av (i64 0) V V<|wnt<|W_ret<|bk_r<|th_r<|?_;obtain rfl:=osi c;refine rt2 p (i64 0) V V V V V V ?_;exact ⟨p,rfl,a2,aM,aR.weak (Sc.stab _) (fun _ _=>trivial)⟩
 refine W_sr<|mv e V V<|?_;obtain ⟨S,aC,c⟩:=bsi c;refine wls V V (zab (vs:=[e]) Tryz.func39 V V V (ar1 V) (stripe_blank_calls q e S _ (D.lift (le_ h)) aC) ?_);rintro _ b5 ⟨rfl,aZ⟩;refine ⟨_,rfl,?_⟩;have l:=h.trans aZ;refine av (.bool S) V V<|wnt<|zak _ V V (fun A=>?_) (fun A=>?_)
 ·replace c:=(if_pos A).symm.trans c;refine W_sr<|?_;obtain ⟨b0,a5,c⟩:=bsi c;refine wls V V (zc8 (L:=[]) (R:=Sc u8) V T22 V V a5 (fun _ _=>rfl) ?_);intro K b4 aN aG a3 b2;have aV:=zaa a3;have aH:=Nw.ext l aG;have a0:=l.trans aV;refine av K V V<|av (i64 0) V V<|wnt<|W_ret<|bk_r<|th_r<|?_;obtain rfl:=osi c;refine rt2 K (i64 0) V V V V V V ?_;exact ⟨K,rfl,a0,aH,aN.weak (Sc.stab _) (fun _ _=>trivial)⟩
 replace c:=(if_neg (ne_true_of_eq_false A)).symm.trans c;refine zad<|bk_n<|W_th<|W_sr<|mv e V V<|wa V (za9 (g:=f) (m:=0) V (Eq.trans V t))<|wa V (zdp (g:=f) (m:=0) (d:=6) V fieldAtSt3 V)<|wq V (zal (u:=J) V Tryz.isAgg29 V (s.ext l) (zfp (m:=2) E V)) ?_;obtain ⟨i,a9,c⟩:=bsi c;refine wls V V (zab (vs:=[J,i64 473]) Tryz.func40 V V V (ar2 V V) (code_Glue_calls x.2.2.2.1 473 J i _ (aF.lift (le_ l)) a9) ?_);rintro _ U ⟨j,rfl,aW,aI,aO⟩;refine ⟨_,rfl,?_⟩;have k:By U [] j i.1:=SlK.avail aO _ (fun P a8=>(Old.nil _) P (aI P a8));have y:=l.trans aW;refine mv (.tuple #[j,i64 i.2]) V V<|wa V (zaf V V V)<|wa V (zaf V V V)<|av j V V<|av (i64 i.2) V V<|wnt<|W_seq<|W_seq<|W_rg<|mv (i64 i.2) V V<|wa V (q_neI V V V)<|wlb V V (za5 (v:=(.bool (!decide (i.2=0)))) V V) (fun B=>?_) (fun B=>?_)
 ·replace c:=(if_neg (zbf B)).symm.trans c;refine wk V<|wk V<|wk V<|wk V<|wa V (zaq (v:=(.bool true)) V V V)<|wnt<|zak true V V (fun _=>?_) (fun a4=>by cases a4);refine W_sr<|av (.slice none 0 0) V V<|av (i64 11) V V<|wnt<|W_ret<|th_r<|?_;obtain rfl:=osi c;refine rt2 (.slice none 0 0) (i64 11) V V V V V V ?_;exact ⟨.slice none 0 0,rfl,y,Nw.nil _,OwK.nil _ _ _ _⟩
 replace c:=(if_pos (zbd B)).symm.trans c;refine mv j V V ?_;obtain ⟨X,N,c⟩:=bsi c;refine wa V (q_adr V T22 V V k N)<|wq V (zav V T22 V k N)<|wa V (q_ne8 V V (cst8 (1:UInt8) V))<|wa V (zap (v:=(.bool (!decide (X=(1:UInt8))))) V V V)<|wnt<|zak _ V V (fun C=>?_) (fun C=>?_)
 ·replace c:=(if_neg (zbf C)).symm.trans c;refine W_sr<|av (.slice none 0 0) V V<|av (i64 11) V V<|wnt<|W_ret<|th_r<|?_;obtain rfl:=osi c;refine rt2 (.slice none 0 0) (i64 11) V V V V V V ?_;exact ⟨.slice none 0 0,rfl,y,Nw.nil _,OwK.nil _ _ _ _⟩
 replace c:=(if_pos (zbd C)).symm.trans c;refine zad<|W_th<|W_seq<|zbi [3] [(0,0),(1,0),(2,0),(3,1),(4,0),(5,0),(6,2),(7,0),(8,0),(9,0),(10,0)] mixed (by kernel_rfl) (by kernel_rfl) (by kernel_rfl) (by kernel_rfl) ?_;have W:=Ext.drew U;replace k:=k.lift (le_ W);have r:=y.trans W;refine sv e V V V<|sa V V (za9 (g:=f) (m:=0) V (Eq.trans V t))<|sa V V (zdp (g:=f) (m:=0) (d:=4) V fieldAtSt1 V)<|sq V V (zal (u:=H) V Tryz.isAgg27 V (s.ext r) (zfp (m:=0) E V))<|sv j V V V<|bse c fun Y O c=>sa V V (zdm (a:=1) (b:=(i.1.length:Int)) V T22 V k V V O) ?_;obtain ⟨w,aA,c⟩:=bsi c;refine wsc V (by kernel_rfl) V V (zab (vs:=[H,subV j (1:Int).toNat ((i.1.length:Int):Int).toNat]) Tryz.func41 V V V (ar2 V V) (aont_Open_calls x.2.1 Y H (subV j (1:Int).toNat ((i.1.length:Int):Int).toNat) w _ (aD.lift (le_ r)) (SlK.cut (L:=[]) (k.lift (Lift.sub (L':=[]) (fun _ _=>trivial))) O) aA) ?_);rintro _ aT ⟨o,rfl,aX,aJ,aQ⟩;refine ⟨_,rfl,?_⟩;have aP:OwK (Sc u8) aT (o::[]) 5 o w.1:=OwK.scal aQ _;have aK:=Nw.ext r aJ;have a1:=r.trans aX;refine sa V V (zaf V V V)<|sa V V (zaf V V V)<|sa V V (zan (v:=o) V V)<|sa V V (zan (v:=i64 w.2) V V)<|zaw<|W_th<|W_ret<|?_;obtain rfl:=osi c;refine rt2 o (i64 w.2) V V V V V V ?_;exact ⟨o,rfl,a1,aK,aP.weak (Sc.stab _) (fun _ _=>trivial)⟩
noncomputable def zda (b:Option (List Int×Bool×(Option (Bool×List UInt8×List (List UInt8)×List Int))×List (List UInt8)×List Int)) (a:Int):Option (List UInt8) :=
(if b.isNone=true then some ([]:List UInt8)
else
(if a<1 then some ([]:List UInt8)
else
(if 255<a then some ([]:List UInt8)
else
((b).bind fun c =>
((zes c.2.2.1 (UInt8.ofInt a)).bind fun d => some d)))))
theorem zf8 (h:Option (List Int×Bool×(Option (Bool×List UInt8×List (List UInt8)×List Int))×List (List UInt8)×List Int)) (b:Int) (f:Value) (r:List UInt8) (w0:World) (q:RcSt w0 [] f h) (a:zda h b=some r) :
  Calls Tryz.prog 16 [f,i64 b].toArray w0 (fun x t=>∃ l:Value,x=.returned l/\Ext w0 t/\Nw w0 l/\OwK (Sc u8) t [] 5 l r):=by
 have c:Ext w0 w0:=Ext.refl w0;unfold zda at a;refine zai (n:=22) Tryz.func16 V V V<|W_sr<|av (.slice none 0 0) V V<|wnt<|W_seq<|W_sr<|mv f V V<|wa V (q_eqRSt V V V V (q.lift (le_ c)))<|wlb V V (za5 (v:=(.bool h.isNone)) V V) (fun j=>?_) (fun j=>?_)
 ·replace a:=(if_pos j).symm.trans a;refine wk V<|wk V<|wa V (zaq (v:=(.bool true)) V V V)<|mv (.bool true) V V<|wk V<|wk V<|wa V (zaq (v:=(.bool true)) V V V)<|wnt<|zak true V V (fun _=>?_) (fun i=>by cases i);refine W_sr<|av (.slice none 0 0) V V<|wnt<|W_ret<|th_r<|?_;obtain rfl:=osi a;refine rt1 (.slice none 0 0) V V V V ?_;exact ⟨.slice none 0 0,rfl,c,Nw.nil _,OwK.nil _ _ _ _⟩
 replace a:=(if_neg (ne_true_of_eq_false j)).symm.trans a;refine mv (i64 b) V V<|wa V (q_ltI V V V)<|wa V (zap (v:=(.bool (decide (b<1)))) V V V)<|wlb V V (za5 (v:=(.bool (decide (b<1)))) V V) (fun k=>?_) (fun k=>?_)
 ·replace a:=ifp k a;refine wk V<|wk V<|wa V (zaq (v:=(.bool true)) V V V)<|wnt<|zak true V V (fun _=>?_) (fun i=>by cases i);refine W_sr<|av (.slice none 0 0) V V<|wnt<|W_ret<|th_r<|?_;obtain rfl:=osi a;refine rt1 (.slice none 0 0) V V V V ?_;exact ⟨.slice none 0 0,rfl,c,Nw.nil _,OwK.nil _ _ _ _⟩
 replace a:=ifn k a;refine mv (i64 b) V V<|wa V (q_gtI V V V)<|wa V (zap (v:=(.bool (decide (255<b)))) V V V)<|wnt<|wci a V V (fun a=>?_) (fun a=>?_)
 ·refine W_sr<|av (.slice none 0 0) V V<|wnt<|W_ret<|th_r<|?_;obtain rfl:=osi a;refine rt1 (.slice none 0 0) V V V V ?_;exact ⟨.slice none 0 0,rfl,c,Nw.nil _,OwK.nil _ _ _ _⟩
 refine zad<|W_th<|W_sr<|mv f V V<|?_;obtain ⟨w,A,a⟩:=bsi a;obtain ⟨p,O,o,P,Q,E,z,L,D,M,N,C⟩:=RcSt.some q A;refine wa V (za9 (g:=p) (m:=0) V (Eq.trans V E))<|wa V (zdp (g:=p) (m:=0) (d:=5) V fieldAtSt2 V)<|wq V (zal (u:=o) V Tryz.isAgg70 V (z.ext c) (zfp (m:=1) C V))<|mv (i64 b) V V<|wa V (zg6 V V V V)<|?_;obtain ⟨s,B,a⟩:=bsi a;refine wls V V (zab (vs:=[o,u8 (UInt8.ofInt b)]) Tryz.func38 V V V (ar2 V V) (ze9 w.2.2.1 (UInt8.ofInt b) o s _ (D.lift (le_ c)) B) ?_);rintro _ J ⟨e,rfl,K,F,I⟩;refine ⟨_,rfl,?_⟩;have H:OwK (Sc u8) J (e::[]) 5 e s:=OwK.scal I _;have G:=Nw.ext c F;have y:=c.trans K;refine av e V V<|wnt<|W_ret<|?_;obtain rfl:=osi a;refine rt1 e V V V V ?_;exact ⟨e,rfl,y,G,H.weak (Sc.stab _) (fun _ _=>trivial)⟩
noncomputable def zex (a:Option (List Int×Bool×(Option (Bool×List UInt8×List (List UInt8)×List Int))×List (List UInt8)×List Int)):Option (List Int) :=
(if a.isNone=true then some ([]:List Int)
else
((a).bind fun b =>
((zby b.2.2.2.2).bind fun c => some c)))
theorem zhp (j:Option (List Int×Bool×(Option (Bool×List UInt8×List (List UInt8)×List Int))×List (List UInt8)×List Int)) (e:Value) (o:List Int) (w0:World) (l:RcSt w0 [] e j) (a:zex j=some o) :
  Calls Tryz.prog 15 [e].toArray w0 (fun s q=>∃ h:Value,s=.returned h/\Ext w0 q/\Nw w0 h/\OwK (Sc i64) q [] 3 h o):=by
 have b:Ext w0 w0:=Ext.refl w0;unfold zex at a;refine zai (n:=10) Tryz.func15 V V V<|W_sr<|av (.slice none 0 0) V V<|wnt<|W_seq<|W_sr<|mv e V V<|wa V (q_eqRSt V V V V (l.lift (le_ b)))<|wnt<|zak _ V V (fun f=>?_) (fun f=>?_)
 ·replace a:=(if_pos f).symm.trans a;refine W_sr<|av (.slice none 0 0) V V<|wnt<|W_ret<|th_r<|?_;obtain rfl:=osi a;refine rt1 (.slice none 0 0) V V V V ?_;exact ⟨.slice none 0 0,rfl,b,Nw.nil _,OwK.nil _ _ _ _⟩
 replace a:=(if_neg (ne_true_of_eq_false f)).symm.trans a;refine zad<|W_th<|W_sr<|mv e V V<|?_;obtain ⟨r,w,a⟩:=bsi a;obtain ⟨k,K,L,M,i,A,v,H,I,J,z,y⟩:=RcSt.some l w;refine wa V (za9 (g:=k) (m:=0) V (Eq.trans V A))<|wa V (zdp (g:=k) (m:=0) (d:=7) V fieldAtSt4 V)<|wq V (zal (u:=i) V Tryz.isAgg35 V (v.ext b) (zfp (m:=3) y V))<|?_;obtain ⟨p,x,a⟩:=bsi a;refine wls V V (zab (vs:=[i]) Tryz.func42 V V V (ar1 V) (zeb r.2.2.2.2 i p _ (z.lift (le_ b)) x) ?_);rintro _ F ⟨c,rfl,G,B,E⟩;refine ⟨_,rfl,?_⟩;have D:OwK (Sc i64) F (c::[]) 3 c p:=OwK.scal E _;have C:=Nw.ext b B;have t:=b.trans G;refine av c V V<|wnt<|W_ret<|?_;obtain rfl:=osi a;refine rt1 c V V V V ?_;exact ⟨c,rfl,t,C,D.weak (Sc.stab _) (fun _ _=>trivial)⟩
end Gk

/- Chapter 17: what is gathered. No condition but shapes that may be. -/
namespace Gk
open Gf
section
variable {m t n c : Nat}
theorem idx_gS {l:List Int} {k:Nat} (h:k<l.length):idx l (k:Int)=some (l.getD k 0):=by rw [zf5];simp [List.getD_eq_getElem?_getD,h]
theorem take_gS {l:List Int} {k:Nat} (h:k<l.length):l.take (k+1)=l.take k ++ [l.getD k 0]:=by
 rw [List.take_add_one];simp [List.getD_eq_getElem?_getD,h]
theorem ixS3:idx (shp m t n c) 3=some (c:Int):=rfl
def goodP (n:Nat) (p:Int):Prop:=1<=p/\p<=(n:Int)
theorem any_places (p:List Int) (h:∀ x∈p,goodP n x):anyO (fun y=>zbj y (shp m t n c)) p=some false:=by
 rw [anyO_all (fun y=>zbj y (shp m t n c)) (fun x=>decide (x<1∨(n:Int)<x)) p fun x _=>by
  unfold zbj
  by_cases h1:x<1
  ·rw [if_pos h1,decide_eq_true (.inl h1)]
  ·rw [if_neg h1,ixS2,obs]
   by_cases h2:(n:Int)<x
   ·rw [decide_eq_true h2,decide_eq_true (.inr h2)]
   ·rw [decide_eq_false h2,decide_eq_false (by omega)]]
 congr 1
 rw [List.any_eq_false]
 intro x hx
 have:=h x hx
 unfold goodP at this
 rw [decide_eq_false (by omega)];simp
theorem any_lens (h:OkS m t n c) (r:List (List UInt8)):anyO (fun y=>zbt y (shp m t n c)) r=some (r.any fun q=>decide (q.length≠rowSz m t)):=anyO_all _ _ _ fun q _=>by
 unfold zbt
 rw [lenS,obs,RowSize_ok h,obs]
 by_cases e:q.length=rowSz m t
 ·rw [decide_eq_true (by omega),decide_eq_false (by simp [e])];rfl
 ·rw [decide_eq_false (by omega),decide_eq_true e];rfl
theorem lens_ok (r:List (List UInt8)) (k:Nat) (h:∀ q∈r,q.length=k):(r.any fun q=>decide (q.length≠k))=false:=by
 rw [List.any_eq_false]
 intro q hq
 simp [h q hq]
theorem rowSz_pos (h:OkS m t n c):1<=rowSz m t/\rowSz m t<=1000:=by
 have ht:=h.t1
 unfold rowSz
 rcases h.m2 with rfl | rfl
 ·rw [if_pos rfl];omega
 ·rw [if_neg (by omega)]
  refine ⟨?_,psz_le t ht⟩
  have:=(psz_spec 473 t (by omega)).1
  rcases Nat.eq_zero_or_pos (psz 473 t) with e | e
  ·rw [e,Nat.zero_mul] at this;omega
  ·exact e
def ptsX (p:List Int):List UInt8:=p.map UInt8.ofInt
theorem ptsX_loop (p:List Int) (h1:p.length<=1000):iterC (fun s18:List UInt8×Int=>(if s18.2<(p.length:Int) then ((idx p s18.2).bind fun c21=>((appL s18.1 (([(UInt8.ofInt c21)]:List UInt8))).bind fun c24=>some (.inl (c24,(wI (s18.2+1)))))) else some (.inr s18.1))) (([]:List UInt8),0)=some (ptsX p):=by
 have hm:1000<=most:=by decide
 refine zas (fun i=>(ptsX (p.take i),(i:Int))) p.length _ (by simp [ptsX]) (fun i hi=>?_) ?_
 ·simp only
  rw [if_pos (by omega),idx_gS hi,obs,zen _ _ (by simp [ptsX];omega) rfl,obs,zau i (by have:=za8;omega),take_gS hi]
  simp [ptsX]
 ·simp only
  rw [if_neg (by omega),List.take_of_length_le (Nat.le_refl _)]
noncomputable def badP (t c:Nat) (a:List Int) (e:List (List UInt8)) (b:Nat):List Int:=((List.range (ptsX a).length).filter (badR t c (ptsX a) e b)).map fun d=>a.getD d 0
theorem bad_loop (W:List Nat) (p:List Int) (h:∀ i∈W,i<p.length) (hW:W.length<=1000):iterC (fun s43:List Int×Int=>(if s43.2<((W.map fun (k:Nat)=>(k:Int)).length:Int) then ((idx (W.map fun (k:Nat)=>(k:Int)) s43.2).bind fun c46=>((idx p c46).bind fun c49=>((appL s43.1 (([c49]:List Int))).bind fun c52=>some (.inl (c52,(wI (s43.2+1))))))) else some (.inr s43.1))) (([]:List Int),0)=some (W.map fun i=>p.getD i 0):=by
 have hm:1000<=most:=by decide
 refine zas (fun i=>((W.take i).map fun i=>p.getD i 0,(i:Int))) W.length _ (by simp) (fun i hi=>?_) ?_
 ·simp only
  have hw:W.getD i 0<p.length:=h _ (by simp [List.getD_eq_getElem?_getD,hi])
  have hix:idx (W.map fun (k:Nat)=>(k:Int)) (i:Int)=some ((W.getD i 0:Nat):Int):=by
   rw [zf5];simp [List.getD_eq_getElem?_getD,hi]
  rw [List.length_map,if_pos (by omega),hix,obs,idx_gS hw,obs,zen _ _ (by simp;omega) rfl,obs,zau i (by have:=za8;omega),show W.take (i+1)=W.take i ++ [W.getD i 0] from by rw [List.take_add_one];simp [List.getD_eq_getElem?_getD,hi],List.map_append]
  rfl
 ·simp only
  rw [List.length_map,if_neg (by omega),List.take_of_length_le (Nat.le_refl _)]
theorem WrongM_eq (md:Bool×List UInt8×List (List UInt8)×List Int) (h:md.2.2.2.length<=most):zgh (some md)=some md.2.2.2:=by
 unfold zgh
 rw [if_neg (by simp),obs]
 unfold zby
 rw [zel _ h];rfl
noncomputable def partsX (t c:Nat) (b:List Int) (d:List (List UInt8)) (a:Nat):List (List UInt8):=(plc t).map (rowP t c (ptsX b) d a)
theorem Gather_spec (h:OkS m t n c) (p:List Int) (r:List (List UInt8)) (hl:p.length=r.length) (h1:p.length<=1000) (hp:∀ x∈p,goodP n x) (hr:∀ q∈r,q.length=rowSz m t) (ht:t<=r.length) (hc:mcode (t:Int) (ptsX p) (r.length:Int) (c:Int)=0) :
  (∃ R,za6 (shp m t n c) true p r=some (some (shp m t n c,true,some (mended t c (ptsX p) r (rowSz m t) R),partsX t c p r (rowSz m t),badP t c p r (rowSz m t)),0)/\Fixed t c (ptsX p) r (rowSz m t) R)∨(za6 (shp m t n c) true p r=some (none,11)/\∃ k,k<rowSz m t/\∀ P,¬ Good t c (ptsX p) (clm r k (ptsX p).length) P):=by
 have hm:1000<=most:=by decide
 obtain ⟨q1,q2,q3,q4,q5,q6⟩:=mcode_ok hc
 obtain ⟨z1,z2⟩:=rowSz_pos h
 have ht1:=h.t1
 have hpl:(ptsX p).length=p.length:=by simp [ptsX]
 have hpre:∀ {X},(zgn true (t:Int) (ptsX p) r (c:Int)).bind (fun r32=>(if r32.2=0 then
((lenA 4 (shp m t n c)).bind fun c35 =>
((zgh r32.1).bind fun r41 =>
((iterC (fun s43:List Int×Int =>
(if s43.2<(r41.length:Int) then
((idx r41 s43.2).bind fun c46 =>
((idx p c46).bind fun c49 =>
((appL s43.1 (([c49]:List Int))).bind fun c52 => some (.inl (c52,(wI (s43.2+1)))))))
else some (.inr s43.1))) (([]:List Int),0)).bind fun x43 =>
((idx (shp m t n c) 1).bind fun c61 =>
((iterC (fun s62:List (List UInt8)×Int =>
(if s62.2<c61 then
((zes r32.1 (UInt8.ofInt ((wI (s62.2+1))))).bind fun r68 =>
((appL s62.1 (([r68]:List (List UInt8)))).bind fun c72 => some (.inl (c72,(wI (s62.2+1))))))
else some (.inr s62.1))) (([]:List (List UInt8)),0)).bind fun x62 => some ((some (shp m t n c,true,r32.1,x62,x43)),0))))))
else some ((none:Option (List Int×Bool×(Option (Bool×List UInt8×List (List UInt8)×List Int))×List (List UInt8)×List Int)),r32.2)))=X->za6 (shp m t n c) true p r=X:=by
  intro X hX
  unfold za6
  rw [if_neg (by decide),if_pos (by omega),lenS,obs,Right_ok h,obs,if_neg (by decide),lim_of (by omega),obs,any_places p hp,obs,if_neg (by decide),lim_of (by omega),obs,any_lens h,obs,lens_ok _ _ hr,if_neg (by decide),ixS1,obs,if_neg (by omega),ptsX_loop p h1,obs,obs,ixS3,obs]
  rw [lenS,ixS1] at hX
  exact hX
 have hrr:∀ i,i<r.length->(r.getD i []).length=rowSz m t:=fun i hi=>hr _ (zfm hi)
 rcases Rows_spec t c (ptsX p) r (rowSz m t) hc hrr z2 with ⟨R,e,hF⟩ | ⟨e,hb⟩
 ·left
  refine ⟨R,hpre ?_,hF⟩
  have hfl:=List.length_filter_le (badR t c (ptsX p) r (rowSz m t)) (List.range (ptsX p).length)
  rw [List.length_range] at hfl
  rw [e,obs,if_pos rfl,lenS,obs]
  unfold mended
  rw [WrongM_eq _ (by simp only [List.length_map];omega),obs]
  simp only
  rw [bad_loop _ p (fun i hi=>by have:=List.mem_range.1 (List.mem_filter.1 hi).1;omega) (by omega),obs,ixS1,obs]
  refine zbh (x:=partsX t c p r (rowSz m t)) (zas (fun i=>((plc i).map (rowP t c (ptsX p) r (rowSz m t)),(i:Int))) t _ rfl (fun i hi=>?_) ?_) rfl
  ·simp only
   rw [if_pos (by omega),zau i (by have:=za8;omega),zgj,hF.at h.t1 (by omega) q5 q6 z2,obs,zen _ _ (by simp [zdd];omega) rfl,obs]
   rw [show plc (i+1)=plc i ++ [UInt8.ofNat (i+1)] by unfold plc;rw [List.range_succ,List.map_append];rfl,List.map_append];rfl
  ·simp only
   rw [if_neg (by omega)];rfl
 ·right
  exact ⟨hpre (by rw [e,obs,if_neg (by decide)]),hb⟩
end
end Gk

/- Chapter 9: what pieces tell, in plain Lean. No condition but lengths. -/
namespace Gk
open Gf
def apol (xs:List UInt8) (shares:List (List UInt8)) (i:Nat):List UInt8:=lag xs (fun k=>mul (co (shares.getD k []) i) (inv (pe xs k (co xs k) xs.length))) xs.length
theorem dg_apol (xs:List UInt8) (shares:List (List UInt8)) (i:Nat):dg (apol xs shares i)<=xs.length:=dg_lag _ _ _ (Nat.le_refl _)
theorem atv_len (xs:List UInt8) (shares:List (List UInt8)) (d:Nat) (x:UInt8):(atv xs shares d x).length=d:=by simp [atv]
theorem co_atv (xs:List UInt8) (shares:List (List UInt8)) (d:Nat) (x:UInt8) (i:Nat) (h:i<d):co (atv xs shares d x) i=evp (apol xs shares i) x:=by
 unfold atv apol
 rw [zde,if_pos h,ev_lag]
 refine sm_congr _ fun k _=>?_
 unfold wt
 rw [mul_comm (mul (pe xs k x xs.length) _),mul_comm (pe xs k x xs.length),← zcz]
end Gk

/- Printed by gen.py: for each Go function a pure function, and that the Go code comes to it. No condition beside the equation that says what the pure function gives. -/
namespace Gk
open Go Go.Proofs
end Gk

/- Chapter 8: the law ShamirJoins. No condition. -/
namespace Gk
open Gf
end Gk

/- Chapter 17: rows that polynomials tell, gathered; what the block is then. No condition but shapes that may be. -/
namespace Gk
open Gf
structure Told (t L:Nat) (F:UInt8->List UInt8) (P:Nat->List UInt8):Prop where
 len:∀ x,(F x).length=L
 deg:∀ k,k<L->dg (P k)<=t
 num:∀ x k,k<L->co (F x) k=evp (P k) x
theorem zh2 (F:UInt8->List UInt8) (l:List UInt8) (i:Nat) (h:i<l.length):(l.map F).getD i []=F (co l i):=by
 simp [List.getD_eq_getElem?_getD,co,h]
section
variable {m t n c : Nat}
end
theorem Told.shr {t:Nat} (h1:1<=t) (b s:List UInt8) (hb:b.length=440):Told t (rowSz 0 t) (shr b s (t - 1)) (fun k=>colp b s (t - 1) k) :=
  { len:=fun x=>by rw [shr_len,hb];rfl
    deg:=fun k _=>Nat.le_trans (dg_len _) (by rw [colp_len];omega)
    num:=fun x k hk=>co_shr _ _ _ _ _ (by rw [hb];exact hk) }
def pcF (t:Nat) (g:List UInt8) (x:UInt8):List UInt8:=atv (plc t) (cutR g t (psz 473 t)) (psz 473 t) x
theorem Told.pc {t:Nat} (h1:1<=t) (g:List UInt8):Told t (rowSz 1 t) (pcF t g) (fun k=>apol (plc t) (cutR g t (psz 473 t)) k):=by
  have hz:rowSz 1 t=psz 473 t:=by unfold rowSz;rw [if_neg (by omega)]
  exact
  { len:=fun x=>by unfold pcF;rw [atv_len,hz]
    deg:=fun k _=>by have:=dg_apol (plc t) (cutR g t (psz 473 t)) k;rwa [zdd] at this
    num:=fun x k hk=>by unfold pcF;rw [co_atv _ _ _ _ _ (by rw [← hz];exact hk)] }
theorem rowsS_shr (t n:Nat) (b r:List UInt8):rowsS 0 t n b r=(plc n).map (shr b r (t - 1)):=by unfold rowsS;rw [if_pos rfl]
theorem rowsS_pc {t:Nat} (h1:1<=t) (n:Nat) (b r:List UInt8):rowsS 1 t n b r=(plc n).map (pcF t (pkg b r)):=by
 unfold rowsS plc
 rw [if_neg (by omega),List.map_map]
 refine List.map_congr_left fun i _=>?_
 unfold pc pcF
 rw [cutR_len,cutR_0 _ _ _ (by omega)];rfl
theorem parts_pc {t:Nat} (h1:1<=t) (h255:t<=255) (g:List UInt8):(plc t).map (pcF t g)=cutR g t (psz 473 t):=by
 refine rows_ext (by rw [List.length_map,zdd,cutR_len]) fun i hi=>?_
 rw [List.length_map,zdd] at hi
 rw [zh2 _ _ _ (by rw [zdd];exact hi)]
 exact atv_at (plc t) _ _ i (plc_nodup t h255) (by rw [zdd];exact hi) (by unfold cutR;rw [getD_tab _ _ _ hi];simp)
theorem Zero_eq (b:List UInt8) (h:b.length<=most):word_Zero b=some (decide (∀ x∈b,x=0)):=by
 unfold word_Zero
 have hm:=za8
 rw [lim_of (by omega),obs,anyO_all (fun y1=>zgv y1) (fun x=>!decide (x=0)) b (fun x _=>rfl),obs]
 congr 1
 by_cases h:∀ x∈b,x=0
 ·rw [decide_eq_true h,Bool.not_eq_true',List.any_eq_false]
  intro x hx;simp [h x hx]
 ·rw [decide_eq_false h,Bool.not_eq_false',List.any_eq_true]
  obtain ⟨x,hx⟩:=Classical.not_forall.1 h
  obtain ⟨h1,h2⟩:=Classical.not_imp.1 hx
  exact ⟨x,h1,by simpa using h2⟩
abbrev StV:=List Int×Bool×(Option (Bool×List UInt8×List (List UInt8)×List Int))×List (List UInt8)×List Int
theorem blank_eq (x:StV) (hf:x.2.2.2.1.flatten.length<=most) (hl:x.2.2.2.1.length<=most):zd1 (some x)=some (decide (∀ a∈x.2.2.2.1.flatten,a=0)):=by
 unfold zd1
 rw [obs,Concat_eq _ hf hl,obs,Zero_eq _ hf];rfl
section
variable {m t n c : Nat}
theorem tN_le (h:OkS 1 t n c):t * psz 473 t<=255000/\473<=t * psz 473 t:=by
 have h1:=h.t1;have h2:=h.tn;have h3:=h.n255
 have hp:=psz_le t h1
 have hs:=(psz_spec 473 t (by omega)).1
 refine ⟨Nat.le_trans (Nat.mul_le_mul (show t<=255 by omega) hp) (by omega),by rw [Nat.mul_comm];exact hs⟩
theorem cut_take (h:OkS 1 t n c) (g:List UInt8) (hg:g.length=473):(cutR g t (psz 473 t)).flatten.take 473=g:=by
 have:=(tN_le h).2
 rw [cutR_flat]
 refine zcc (by simp;omega) fun i=>?_
 rw [co_take,zde]
 by_cases hi:i<473
 ·rw [if_pos hi,if_pos (by omega)]
 ·rw [if_neg hi,co_ge (by omega)]
theorem Block_parts (h:OkS 1 t n c) (mm:Option (Bool×List UInt8×List (List UInt8)×List Int)) (w:List Int) (b r:List UInt8) (hb:b.length=440) (hr:r.length=32):zd1 (some ((shp 1 t n c,true,mm,cutR (pkg b r) t (psz 473 t),w):StV))=some false/\zdh (some ((shp 1 t n c,true,mm,cutR (pkg b r) t (psz 473 t),w):StV))=some (b,0):=by
 have hmo:(1000000:Nat)<=most:=by decide
 obtain ⟨z1,z2⟩:=tN_le h
 have hp:=pkg_len b r hb hr
 have h2:=h.tn;have h3:=h.n255
 have hfl:(cutR (pkg b r) t (psz 473 t)).flatten.length=t * psz 473 t:=by rw [cutR_flat];simp
 have hbl:zd1 (some ((shp 1 t n c,true,mm,cutR (pkg b r) t (psz 473 t),w):StV))=some false:=by
  rw [blank_eq _ (by simp only [hfl];omega) (by simp only [cutR_len];omega),decide_eq_false]
  intro hall
  have:(1:UInt8)=0:=hall 1 (by
   simp only [cutR_flat]
   exact List.mem_map.2 ⟨0,List.mem_range.2 (by omega),rfl⟩)
  exact absurd this (by decide)
 refine ⟨hbl,?_⟩
 unfold zdh
 have hgl:zid (cutR (pkg b r) t (psz 473 t)) 473=some (pkg b r,0):=by
  have:=Glue_ok (cutR (pkg b r) t (psz 473 t)) 473 (by omega) (by rw [cutR_len];omega) (by omega)
  rw [cut_take h _ hp] at this
  exact this
 have hwl:=wrapF_len r b hr
 obtain ⟨k1,k2⟩:=keyOf_wrap r b hr
 have hsub:subL (pkg b r) 1 ((pkg b r).length:Int)=some (wrapF r b):=by
  have:=zdj (pkg b r) 1 (pkg b r).length (by omega) (Nat.le_refl _)
  rw [show ((1:Nat):Int)=1 from rfl] at this
  rw [this,List.take_length];rfl
 rw [if_neg (by simp),obs]
 simp only
 rw [ixS0,obs,if_neg (by omega),hbl,obs,if_neg (by decide),hgl,obs,if_pos rfl]
 simp only
 rw [show idx (pkg b r) 0=some 1 from rfl,obs,if_pos rfl,hsub,obs,Open_ok _ (by omega) (by omega),obs,k1,k2,mixF_mixF]
end
theorem Block_at (t n c:Nat) (md:Bool×List UInt8×List (List UInt8)×List Int) (pt:List (List UInt8)) (w:List Int) (b:List UInt8) (h:zes (some md) 0=some b):zdh (some ((shp 0 t n c,true,some md,pt,w):StV))=some (b,0):=by
 unfold zdh
 rw [if_neg (by simp),obs]
 simp only
 rw [ixS0,obs,if_pos (by rfl),h,obs]
end Gk

/- A load that stands where orders differ. No condition. -/
namespace Gk
open Go
section
variable {P : Program} {ops : Array Oper} {qs : List Nat} {K : (Nat → Value) → World → Prop} {r : List (Nat × Nat)} {j : Nat} {o : Oper} {f : Nat → Value} {w w1 : World} {d : Nat}
variable {α : Type} {R : World → List Value → Value → α → Prop} {v z : Value} {L : List Value} {l : List α} {x : Operand} {t e : TypeId} {bytes : Nat} {i : Int} {a : α}
theorem zf9 (hj:ops[j]?=some o) (hw:wantF ops f o=true) (hd:o.dst=some d) (ho:o.op=.load e x) (T:TyS P t e z bytes) (hx:ev f x=adr v i.toNat) (h:SlK R w1 L v l) (hi:idx l i=some a) (hE:Ext w1 w)
  (hk:∀ u,R w1 L u a->ws P ops qs K r (upd f d u) w):ws P ops qs K ((j,2) :: r) f w:=by
 obtain ⟨u,hq,hu⟩:=q_load ho T hx h hi
 exact wss hj hw hd (Qt.stp (hq.ext hE) ⟨Ext.refl w,hk u hu⟩)
end
end Gk

/- Printed by gen.py: for each Go function a pure function, and that the Go code comes to it. No condition beside the equation that says what the pure function gives. -/
namespace Gk
open Go Go.Proofs
noncomputable def zfx (b:List (List UInt8)) (c:List UInt8) (f:Int):Option (List Int×List (List UInt8)) :=
((zev c 255).bind fun d =>
((iterC (fun s5:List Int×List (List UInt8)×Int =>
(if s5.2.2<(d.length:Int) then
((idx d s5.2.2).bind fun a =>
((if (a.toNat:Int)<=(b.length:Int) then
(if (s5.1.length:Int)<f then some true
else some (decide ((s5.1.length:Int)<(c.length:Int))))
else some false).bind fun k =>
(if k=true then
((idx b (wI ((a.toNat:Int) - 1))).bind fun g =>
((appL s5.1 ([(a.toNat:Int)]:List Int)).bind fun h =>
((appL ([]:List UInt8) g).bind fun i =>
((appL s5.2.1 [i]).bind fun j => some (.inl (h,j,wI (s5.2.2+1)))))))
else some (.inl (s5.1,s5.2.1,wI (s5.2.2+1))))))
else some (.inr (s5.1,s5.2.1)))) (([]:List Int),([]:List (List UInt8)),0)).bind fun e => some (e.1,e.2)))
theorem law17_picked_calls (eN:List (List UInt8)) (c6:List UInt8) (bB:Int) (bI:Value) (aR:Value) (g6:List Int×List (List UInt8)) (w0:World) (d:List Value) (z:Old w0 d) (a9:Rw w0 [] bI eN) (hS:By w0 [] aR c6) (bA:zfx eN c6 bB=some g6) :
  Calls Tryz.prog 12 [bI,aR,i64 bB].toArray w0 (fun i gE=>∃ e7 kD eA:Value,i=.returned (.tuple #[e7,kD])/\Ext w0 gE/\Nw w0 e7/\OwK (Sc i64) gE [] 3 e7 g6.1/\Nw w0 eA/\OwD gE 22 5 eA kD g6.2/\Nq e7 eA):=by
 have fH:Ext w0 w0:=Ext.refl w0;unfold zfx at bA;refine zai (n:=56) Tryz.func12 V V V<|W_sr<|av (.slice none 0 0) V V<|av (.slice none 0 0) V V<|?_;have dV:OwD w0 22 5 (.tuple #[.slice none 0 0]) (.slice none 0 0) []:=OwD.nil _ _ _;have pY:Nw w0 (.tuple #[.slice none 0 0]):=nw_nilG _;refine wnt<|W_sr<|av (.slice none 0 0) V V<|wnt<|W_sr<|av (.slice none 0 0) V V<|wnt<|W_seq<|W_sr<|mv aR V V<|?_;obtain ⟨bL,nL,bA⟩:=bsi bA;refine wls V V (zab (vs:=[aR,i64 255]) Tryz.func31 V V V (ar2 V V) (law08_Unlike_calls c6 255 aR bL _ (hS.lift (le_ fH)) nL) ?_);rintro _ t1 ⟨bO,rfl,l7,pL,qT⟩;refine ⟨_,rfl,?_⟩;have hU:By t1 ((.tuple #[.slice none 0 0])::d) bO bL:=OwK.slk (Sc.stab _) _ (OwK.scal qT (bO::((.tuple #[.slice none 0 0])::d))) (fun b h=>(Old.cons (z.ext fH) dV.ltB) b (pL b h)) (fun _ a=>a.2);replace dV:=dV.ext l7;have lK:=fH.trans l7;refine wa V (q_len V T22.sl V hU)<|mv (i64 0) V V<|wnt<|?_;obtain ⟨l8,l9,bA⟩:=bsi bA;refine W_mid (fun r Z=>∃ cX:Value,∃ l6:Value,∃ d7:Value,r 8=cX/\r 9=l6/\r 56=undef/\Ext w0 Z/\OwK (Sc i64) Z (cX::d7::d) 3 cX l8.1/\Nw w0 cX/\OwD Z 22 5 d7 l6 l8.2/\Nw w0 d7/\Nq cX d7) ?_ ?_
 ·refine zac<|za4 (fun y r Z=>∃ bP:Value,∃ l5:Value,∃ c5:Value,r 0=bI/\r 1=aR/\r 2=i64 bB/\r 8=bP/\r 9=l5/\r 14=bO/\r 15=i64 (bL.length:Int)/\r 16=i64 y.2.2/\r 56=undef/\Ext w0 Z/\OwK (Sc i64) Z (bP::c5::d) 3 bP y.1/\Nw w0 bP/\OwD Z 22 5 c5 l5 y.2.1/\Nw w0 c5/\Nq bP c5/\By Z (bP::c5::d) bO bL) l9 ?_ ?_
  ·exact ⟨.slice none 0 0,.slice none 0 0,(.tuple #[.slice none 0 0]),rfl,rfl,rfl,rfl,rfl,rfl,rfl,rfl,rfl,lK,OwK.nil _ _ _ _,Nw.nil _,dV,pY,Nq.nil _,hU.lift (Lift.sub (fun _ a=>⟨zhm,a.1,a.2⟩))⟩
  rintro y _ _ w2 ⟨m,B,f,e0,e3,e4,bM,e6,e1,e2,cU,e5,bC,bH,dP,dT,dQ,dW,cB⟩ g nM;refine W_sr<|wa V (q_ltI V cU e2)<|wnt<|W_seq<|wci g V V (fun g=>?_) (fun g=>?_)
  ·refine zad<|W_th<|W_seq<|zac<|W_sr<|bse g fun k hR g=>wa V (q_adr V T22 e1 cU cB hR)<|wq V (zav V T22 V cB hR)<|av (u8 k) V V<|wnt<|W_sr<|mv (u8 k) V V<|wa V (q_cvtI8 V V V V)<|?_;refine av (i64 (k.toNat:Int)) V V<|wnt<|W_seq<|?_;obtain ⟨t6,a8,g⟩:=bsi g;refine W_mid (fun r Z=>r 0=bI/\r 1=aR/\r 2=i64 bB/\r 8=m/\r 9=B/\r 12=i64 (k.toNat:Int)/\r 14=bO/\r 15=i64 (bL.length:Int)/\r 16=i64 y.2.2/\r 38=(.bool t6)/\r 56=undef/\Ext w0 Z/\OwK (Sc i64) Z (m::f::d) 3 m y.1/\Nw w0 m/\OwD Z 22 5 f B y.2.1/\Nw w0 f/\Nq m f/\By Z (m::f::d) bO bL) ?_ ?_
   ·refine W_rg<|mv (i64 (k.toNat:Int)) V V<|mv bI V e0<|wa V (q_len V T29.sl V (a9.lift (le_ bC)))<|wa V (q_leI V V V)<|wlb V V (za5 (v:=(.bool (decide ((k.toNat:Int)<=(eN.length:Int))))) V V) (fun fJ=>?_) (fun fJ=>?_)
    ·replace a8:=ifp fJ a8;refine mv m V bM<|wa V (q_len V T35.sl V (bH.rd (Sc.stab _)))<|mv (i64 bB) V e4<|wa V (q_ltI V V V)<|wlb V V (za5 (v:=(.bool (decide ((y.1.length:Int)<bB)))) V V) (fun fK=>?_) (fun fK=>?_)
     ·replace a8:=ifp fK a8;refine wk V<|wk V<|wk V<|wk V<|wk V<|wa V (zaq (v:=(.bool true)) V V V)<|wa V (zaq (v:=(.bool true)) V V V)<|zah<|?_;obtain rfl:=osi a8;exact ⟨e0,e3,e4,bM,e6,rfl,e1,e2,cU,rfl,e5,bC,bH,dP,dT,dQ,dW,cB⟩
     replace a8:=ifn fK a8;refine mv aR V e3<|wa V (q_len V T22.sl V (hS.lift (le_ bC)))<|mv m V bM<|wa V (q_len V T35.sl V (bH.rd (Sc.stab _)))<|wa V (q_gtI V V V)<|wa V (zap (v:=(.bool (decide ((y.1.length:Int)<(c6.length:Int))))) V V V)<|wa V (zaq (v:=(.bool (decide ((y.1.length:Int)<(c6.length:Int))))) V V V)<|zah<|?_;obtain rfl:=osi a8;exact ⟨e0,e3,e4,bM,e6,rfl,e1,e2,cU,rfl,e5,bC,bH,dP,dT,dQ,dW,cB⟩
    replace a8:=ifn fJ a8;refine wk V<|wk V<|wk V<|wk V<|wk V<|wk V<|wk V<|wk V<|wk V<|wk V<|wk V<|wa V (zap (v:=(.bool false)) V V V)<|zah<|?_;obtain rfl:=osi a8;exact ⟨e0,e3,e4,bM,e6,rfl,e1,e2,cU,rfl,e5,bC,bH,dP,dT,dQ,dW,cB⟩
   rintro _ sO ⟨Q,W,X,kB,kC,kA,S,T,U,sC,Y,hP,j,t,c,s,w,e⟩;refine W_th<|zak _ V sC (fun fL=>?_) (fun fL=>?_)
   ·replace g:=(if_pos fL).symm.trans g;refine W_drawT [] [(0,0),(1,0),(4,0),(6,0),(7,0),(8,0),(9,0)] (.br 2 [] (.br 3 [] (.br 5 [(10,2),(11,2),(12,2),(13,2),(14,0),(15,0)] .fin (.br 10 [(5,2),(11,2),(12,2),(13,2),(14,0),(15,0)] .fin .fin)) (.br 5 [] (.br 3 [(10,2),(11,2),(12,2),(13,2),(14,0),(15,0)] .fin (.br 10 [(3,2),(11,2),(12,2),(13,2),(14,0),(15,0)] .fin .fin)) (.br 10 [] (.br 3 [(5,2),(11,2),(12,2),(13,2),(14,0),(15,0)] .fin (.br 5 [(3,2),(11,2),(12,2),(13,2),(14,0),(15,0)] .fin .fin)) .fin))) (.br 5 [] (.br 2 [] (.br 3 [(10,2),(11,2),(12,2),(13,2),(14,0),(15,0)] .fin (.br 10 [(3,2),(11,2),(12,2),(13,2),(14,0),(15,0)] .fin .fin)) (.br 10 [(2,2),(3,2),(11,2),(12,2),(13,2),(14,0),(15,0)] .fin .fin)) (.br 10 [] (.br 2 [] (.br 3 [(5,2),(11,2),(12,2),(13,2),(14,0),(15,0)] .fin (.br 5 [(3,2),(11,2),(12,2),(13,2),(14,0),(15,0)] .fin .fin)) (.br 5 [(2,2),(3,2),(11,2),(12,2),(13,2),(14,0),(15,0)] .fin .fin)) .fin))) mixed (by kernel_rfl) (by kernel_rfl) (by kernel_rfl) (by kernel_rfl) ?_;have cZ:=Ext.drew sO;replace e:=e.lift (le_ cZ);replace j:=j.extL (Sc.stab _) cZ (le_ cZ);replace c:=c.ext cZ;have aM:=hP.trans cZ;refine sv m V V kB<|sv (i64 (k.toNat:Int)) V V kA<|sv B V V kC<|sv bI V V Q<|sv (i64 (k.toNat:Int)) V V kA<|sa V V (zbn V V V)<|bse g fun tE aN g=>sa V V (q_adr V T29 V V (a9.lift (le_ aM)) aN)<|zaw<|wr_br ?_ ?_
    ·refine wsc V (by kernel_rfl) V V (zax (L:=(m::f::d)) (R:=Sc i64) [i64 (k.toNat:Int)] ([(k.toNat:Int)]:List Int) V T35 V (by exact ⟨rfl,rfl,trivial⟩) V (litC i64 zgf (us:=[i64 (k.toNat:Int)]) (l:=([(k.toNat:Int)]:List Int)) V) V (litS i64 (us:=[i64 (k.toNat:Int)]) (l:=([(k.toNat:Int)]:List Int)) V) ?_);intro bN sS q8 oK lV uF;have d1:=zaa lV;have aP:In sS (m::f::d) bN ([(k.toNat:Int)]:List Int):=OwK.slk (Sc.stab _) _ q8 (fun b h=>(Old.cons (Old.cons (z.ext aM) c.ltB) j.lt) b (oK b h)) (fun _ a=>a.2);replace e:=e.lift (le_ d1);replace j:=j.extL (Sc.stab _) d1 (le_ d1);replace c:=c.ext d1;have aO:=aM.trans d1;refine zaw<|wt_br<|wr_br ?_ ?_
     ·obtain ⟨tI,mW,g⟩:=bsi g;refine wsc V (by kernel_rfl) V V (zar (R:=Sc i64) (v:=m) (u:=bN) (Sc.stab _) [] (f::d) V T35 V V j aP (fun _ _ a=>a) mW zg3 ?_);intro o vB p hF j4 o2;replace e:=e.lift o2;have dX:Nq f o:=c.nxt w.symm j4;replace c:=c.other hF w.symm;have c9:=aO.grown hF t;have iT:=Nw.nxt aO t j4;refine zaw<|wt_br<|wr_br ?_ ?_
      ·refine wsc V (by kernel_rfl) V V (zax (L:=(o::f::d)) (R:=Sc u8) [] ([]:List UInt8) V T22 V (by exact trivial) V (litC u8 zbx (us:=[]) (l:=([]:List UInt8)) V) V (litS u8 (us:=[]) (l:=([]:List UInt8)) V) ?_);intro g9 vI qH cE m0 uK;have d2:=zaa m0;have jS:Nq o g9:=p.nq cE;have jV:Nq f g9:=c.nq cE;replace p:=p.extL (Sc.stab _) d2 (Lift.call _ d2 cE);replace c:=c.ext d2;have iW:=Nw.ext c9 cE;have dA:=c9.trans d2;refine zf9 V V V V T29 V a9 aN dA (fun sJ mI=>?_);obtain ⟨tV,n9,g⟩:=bsi g;refine wsc V (by kernel_rfl) V V (zar (R:=Sc u8) (v:=g9) (u:=sJ) (Sc.stab _) [] (o::f::d) V T22 V V qH (mI.lift (le_ dA)) (fun _ _ a=>a) n9 oc_u8 ?_);intro aH vS cP f9 fY iF;replace e:=(e.lift (Lift.call _ d2 cE)).lift iF;have rV:Nq o aH:=p.nxt jS fY;have rZ:Nq f aH:=c.nxt jV fY;replace p:=p.other (Sc.stab _) f9 jS iF;replace c:=c.other f9 jV;have h4:=dA.grown f9 iW;have pJ:=Nw.nxt dA iW fY;refine wsc V (by kernel_rfl) V V (zax (L:=(aH::o::f::d)) (R:=Sc (fun x:Value=>x)) [aH] [aH] V T29 V (by exact ⟨rfl,rfl,trivial⟩) V (litV cP) V (fun _ _ _ _ _ _=>rfl) ?_);intro kZ t3 qR pK m9 uT;have b7:=zaa m9;have nY:SlK (Sc (fun x:Value=>x)) t3 (aH::o::f::d) kZ [aH]:=OwK.slk (Sc.stab _) _ qR (fun b h=>(Old.cons (Old.cons (Old.cons (z.ext h4) c.ltB) p.lt) cP.lt) b (pK b h)) (fun _ a=>a.2);replace cP:=cP.extL (Sc.stab _) b7 (le_ b7);replace p:=p.extL (Sc.stab _) b7 (le_ b7);replace c:=c.ext b7;have h5:=h4.trans b7;obtain ⟨tZ,nD,g⟩:=bsi g;refine wsc V (by kernel_rfl) V V (zb5 (x:=aH) (u:=B) (q:=kZ) [aH,o] d V T29 V V c nY cP rZ.symm nD ?_);intro eK c2 l0 vX qS hM jB dL iJ;replace e:=(e.lift (le_ b7)).lift iJ;have s1:Nq o eK:=p.nxt dX.symm jB;replace p:=p.other (Sc.stab _) hM dX.symm iJ;have lL:=h5.grown hM s;have pM:=Nw.nxt h5 s jB;have s2:Nq o c2:=OwD.relist dL s1 rV
       have pN:Nw w0 c2:=fun b h=>(dL b h).elim (pM b) (pJ b)
       replace e:=e.lift (Lift.sub (show ∀ b,Av (aH::o::eK::d) b->Av (o::c2::d) b from fun _ a=>⟨a.2.1,(fun i=>(dL _ i).elim a.2.2.1 a.1),a.2.2.2⟩));replace p:=p.weak (Sc.stab _) (show ∀ b,Av (aH::o::eK::d) b->Av (o::c2::d) b from fun _ a=>⟨a.2.1,(fun i=>(dL _ i).elim a.2.2.1 a.1),a.2.2.2⟩);refine sa V V (zan (v:=o) V V)<|sa V V (zan (v:=l0) V V)<|zaw<|zf2<|bk_n<|W_th<|W_rg<|wa V (zam V U V)<|mv (i64 (wI (y.2.2+1))) V V<|zah<|?_;obtain rfl:=osi g;exact ⟨_,rfl,o,l0,c2,Q,W,X,rfl,rfl,S,T,rfl,Y,lL,p,iT,qS,pN,s2,e⟩
      refine wr_br ?_ ?_
      ·refine zf9 V V V V T29 V a9 aN c9 (fun sK mJ=>?_);refine wsc V (by kernel_rfl) V V (zax (L:=(o::f::d)) (R:=Sc u8) [] ([]:List UInt8) V T22 V (by exact trivial) V (litC u8 zbx (us:=[]) (l:=([]:List UInt8)) V) V (litS u8 (us:=[]) (l:=([]:List UInt8)) V) ?_);intro gD vY qU cH mA uU;have d6:=zaa mA;have k4:Nq o gD:=p.nq cH;have k5:Nq f gD:=c.nq cH;replace p:=p.extL (Sc.stab _) d6 (Lift.call _ d6 cH);replace c:=c.ext d6;have iY:=Nw.ext c9 cH;have eV:=c9.trans d6;obtain ⟨u0,nE,g⟩:=bsi g;refine wsc V (by kernel_rfl) V V (zar (R:=Sc u8) (v:=gD) (u:=sK) (Sc.stab _) [] (o::f::d) V T22 V V qU (mJ.lift (le_ eV)) (fun _ _ a=>a) nE oc_u8 ?_);intro aJ vZ cR fC g1 iK;replace e:=(e.lift (Lift.call _ d6 cH)).lift iK;have s3:Nq o aJ:=p.nxt k4 g1;have s4:Nq f aJ:=c.nxt k5 g1;replace p:=p.other (Sc.stab _) fC k4 iK;replace c:=c.other fC k5;have h6:=eV.grown fC iY;have pO:=Nw.nxt eV iY g1;refine wsc V (by kernel_rfl) V V (zax (L:=(aJ::o::f::d)) (R:=Sc (fun x:Value=>x)) [aJ] [aJ] V T29 V (by exact ⟨rfl,rfl,trivial⟩) V (litV cR) V (fun _ _ _ _ _ _=>rfl) ?_);intro l1 t4 qV pP mB uV;have b8:=zaa mB;have nZ:SlK (Sc (fun x:Value=>x)) t4 (aJ::o::f::d) l1 [aJ]:=OwK.slk (Sc.stab _) _ qV (fun b h=>(Old.cons (Old.cons (Old.cons (z.ext h6) c.ltB) p.lt) cR.lt) b (pP b h)) (fun _ a=>a.2);replace cR:=cR.extL (Sc.stab _) b8 (le_ b8);replace p:=p.extL (Sc.stab _) b8 (le_ b8);replace c:=c.ext b8;have h7:=h6.trans b8;obtain ⟨u1,nF,g⟩:=bsi g;refine wsc V (by kernel_rfl) V V (zb5 (x:=aJ) (u:=B) (q:=l1) [aJ,o] d V T29 V V c nZ cR s4.symm nF ?_);intro eL c3 l2 w1 qW hN jC dM iL;replace e:=(e.lift (le_ b8)).lift iL;have s5:Nq o eL:=p.nxt dX.symm jC;replace p:=p.other (Sc.stab _) hN dX.symm iL;have lM:=h7.grown hN s;have pQ:=Nw.nxt h7 s jC;have s6:Nq o c3:=OwD.relist dM s5 s3
       have pR:Nw w0 c3:=fun b h=>(dM b h).elim (pQ b) (pO b)
       replace e:=e.lift (Lift.sub (show ∀ b,Av (aJ::o::eL::d) b->Av (o::c3::d) b from fun _ a=>⟨a.2.1,(fun i=>(dM _ i).elim a.2.2.1 a.1),a.2.2.2⟩));replace p:=p.weak (Sc.stab _) (show ∀ b,Av (aJ::o::eL::d) b->Av (o::c3::d) b from fun _ a=>⟨a.2.1,(fun i=>(dM _ i).elim a.2.2.1 a.1),a.2.2.2⟩);refine sa V V (zan (v:=o) V V)<|sa V V (zan (v:=l2) V V)<|zaw<|zf2<|bk_n<|W_th<|W_rg<|wa V (zam V U V)<|mv (i64 (wI (y.2.2+1))) V V<|zah<|?_;obtain rfl:=osi g;exact ⟨_,rfl,o,l2,c3,Q,W,X,rfl,rfl,S,T,rfl,Y,lM,p,iT,qW,pR,s6,e⟩
      trivial
     refine wr_br ?_ ?_
     ·refine wsc V (by kernel_rfl) V V (zax (L:=(m::f::d)) (R:=Sc u8) [] ([]:List UInt8) V T22 V (by exact trivial) V (litC u8 zbx (us:=[]) (l:=([]:List UInt8)) V) V (litS u8 (us:=[]) (l:=([]:List UInt8)) V) ?_);intro aS w3 aQ bG mC uW;have bS:=zaa mC;have dY:Nq m aS:=j.nq bG;have dZ:Nq f aS:=c.nq bG;replace e:=e.lift (Lift.call _ bS bG);replace aP:=aP.lift (Lift.call _ bS bG);replace j:=j.extL (Sc.stab _) bS (Lift.call _ bS bG);replace c:=c.ext bS;have dR:=Nw.ext aO bG;have cA:=aO.trans bS;refine zaw<|wt_br<|wr_br ?_ ?_
      ·obtain ⟨u2,nG,g⟩:=bsi g;refine wsc V (by kernel_rfl) V V (zar (R:=Sc i64) (v:=m) (u:=bN) (Sc.stab _) [aS] (f::d) V T35 V V j aP (fun _ _ a=>a) nG zg3 ?_);intro O w4 a6 fD g2 iM;have k6:Nq aS O:=aQ.nxt dY.symm g2;have k7:Nq f O:=c.nxt w.symm g2;replace aQ:=aQ.other (Sc.stab _) fD dY.symm iM;replace c:=c.other fD w.symm;have dB:=cA.grown fD t;have pS:=Nw.nxt cA t g2;refine zf9 V V V V T29 V a9 aN dB (fun sL mK=>?_);obtain ⟨u3,nH,g⟩:=bsi g;refine wsc V (by kernel_rfl) V V (zar (R:=Sc u8) (v:=aS) (u:=sL) (Sc.stab _) [] (O::f::d) V T22 V V aQ (mK.lift (le_ dB)) (fun _ _ a=>a) nH oc_u8 ?_);intro aK w5 cS fE g3 iN;replace e:=(e.lift iM).lift iN;have s7:Nq O aK:=a6.nxt k6.symm g3;have s8:Nq f aK:=c.nxt dZ g3;replace a6:=a6.other (Sc.stab _) fE k6.symm iN;replace c:=c.other fE dZ;have h8:=dB.grown fE dR;have pT:=Nw.nxt dB dR g3;refine wsc V (by kernel_rfl) V V (zax (L:=(aK::O::f::d)) (R:=Sc (fun x:Value=>x)) [aK] [aK] V T29 V (by exact ⟨rfl,rfl,trivial⟩) V (litV cS) V (fun _ _ _ _ _ _=>rfl) ?_);intro l3 t5 qX pU mD uX;have b9:=zaa mD;have o0:SlK (Sc (fun x:Value=>x)) t5 (aK::O::f::d) l3 [aK]:=OwK.slk (Sc.stab _) _ qX (fun b h=>(Old.cons (Old.cons (Old.cons (z.ext h8) c.ltB) a6.lt) cS.lt) b (pU b h)) (fun _ a=>a.2);replace cS:=cS.extL (Sc.stab _) b9 (le_ b9);replace a6:=a6.extL (Sc.stab _) b9 (le_ b9);replace c:=c.ext b9;have h9:=h8.trans b9;obtain ⟨u4,nI,g⟩:=bsi g;refine wsc V (by kernel_rfl) V V (zb5 (x:=aK) (u:=B) (q:=l3) [aK,O] d V T29 V V c o0 cS s8.symm nI ?_);intro eM c4 l4 w6 qY hO jD dN iO;replace e:=(e.lift (le_ b9)).lift iO;have s9:Nq O eM:=a6.nxt k7.symm jD;replace a6:=a6.other (Sc.stab _) hO k7.symm iO;have lN:=h9.grown hO s;have pV:=Nw.nxt h9 s jD;have sA:Nq O c4:=OwD.relist dN s9 s7
       have pW:Nw w0 c4:=fun b h=>(dN b h).elim (pV b) (pT b)
       replace e:=e.lift (Lift.sub (show ∀ b,Av (aK::O::eM::d) b->Av (O::c4::d) b from fun _ a=>⟨a.2.1,(fun i=>(dN _ i).elim a.2.2.1 a.1),a.2.2.2⟩));replace a6:=a6.weak (Sc.stab _) (show ∀ b,Av (aK::O::eM::d) b->Av (O::c4::d) b from fun _ a=>⟨a.2.1,(fun i=>(dN _ i).elim a.2.2.1 a.1),a.2.2.2⟩);refine sa V V (zan (v:=O) V V)<|sa V V (zan (v:=l4) V V)<|zaw<|zf2<|bk_n<|W_th<|W_rg<|wa V (zam V U V)<|mv (i64 (wI (y.2.2+1))) V V<|zah<|?_;obtain rfl:=osi g;exact ⟨_,rfl,O,l4,c4,Q,W,X,rfl,rfl,S,T,rfl,Y,lN,a6,pS,qY,pW,sA,e⟩
      refine wr_br ?_ ?_
      ·refine zf9 V V V V T29 V a9 aN cA (fun sM mL=>?_);obtain ⟨u5,nJ,g⟩:=bsi g;refine wsc V (by kernel_rfl) V V (zar (R:=Sc i64) (v:=m) (u:=bN) (Sc.stab _) [aS] (f::d) V T35 V V j aP (fun _ _ a=>a) nJ zg3 ?_);intro P w7 a7 fF g4 iP;have k8:Nq aS P:=aQ.nxt dY.symm g4;have k9:Nq f P:=c.nxt w.symm g4;replace aQ:=aQ.other (Sc.stab _) fF dY.symm iP;replace c:=c.other fF w.symm;have eW:=cA.grown fF t;have pX:=Nw.nxt cA t g4;obtain ⟨u6,nK,g⟩:=bsi g;refine wsc V (by kernel_rfl) V V (zar (R:=Sc u8) (v:=aS) (u:=sM) (Sc.stab _) [] (P::f::d) V T22 V V aQ (mL.lift (le_ eW)) (fun _ _ a=>a) nK oc_u8 ?_);intro aL w8 cT fG g5 iQ;replace e:=(e.lift iP).lift iQ;have sB:Nq P aL:=a7.nxt k8.symm g5;have r0:Nq f aL:=c.nxt dZ g5;replace a7:=a7.other (Sc.stab _) fG k8.symm iQ;replace c:=c.other fG dZ;have gF:=eW.grown fG dR;have o5:=Nw.nxt eW dR g5;refine wsc V (by kernel_rfl) V V (zax (L:=(aL::P::f::d)) (R:=Sc (fun x:Value=>x)) [aL] [aL] V T29 V (by exact ⟨rfl,rfl,trivial⟩) V (litV cT) V (fun _ _ _ _ _ _=>rfl) ?_);intro kE sN q0 o6 lO u7;have aV:=zaa lO;have nN:SlK (Sc (fun x:Value=>x)) sN (aL::P::f::d) kE [aL]:=OwK.slk (Sc.stab _) _ q0 (fun b h=>(Old.cons (Old.cons (Old.cons (z.ext gF) c.ltB) a7.lt) cT.lt) b (o6 b h)) (fun _ a=>a.2);replace cT:=cT.extL (Sc.stab _) aV (le_ aV);replace a7:=a7.extL (Sc.stab _) aV (le_ aV);replace c:=c.ext aV;have gG:=gF.trans aV;obtain ⟨t7,mM,g⟩:=bsi g;refine wsc V (by kernel_rfl) V V (zb5 (x:=aL) (u:=B) (q:=kE) [aL,P] d V T29 V V c nN cT r0.symm mM ?_);intro eB bT kF uY q1 hA iZ dC hV;replace e:=(e.lift (le_ aV)).lift hV;have r1:Nq P eB:=a7.nxt k9.symm iZ;replace a7:=a7.other (Sc.stab _) hA k9.symm hV;have lB:=gG.grown hA s;have o7:=Nw.nxt gG s iZ;have r2:Nq P bT:=OwD.relist dC r1 sB
       have o8:Nw w0 bT:=fun b h=>(dC b h).elim (o7 b) (o5 b)
       replace e:=e.lift (Lift.sub (show ∀ b,Av (aL::P::eB::d) b->Av (P::bT::d) b from fun _ a=>⟨a.2.1,(fun i=>(dC _ i).elim a.2.2.1 a.1),a.2.2.2⟩));replace a7:=a7.weak (Sc.stab _) (show ∀ b,Av (aL::P::eB::d) b->Av (P::bT::d) b from fun _ a=>⟨a.2.1,(fun i=>(dC _ i).elim a.2.2.1 a.1),a.2.2.2⟩);refine sa V V (zan (v:=P) V V)<|sa V V (zan (v:=kF) V V)<|zaw<|zf2<|bk_n<|W_th<|W_rg<|wa V (zam V U V)<|mv (i64 (wI (y.2.2+1))) V V<|zah<|?_;obtain rfl:=osi g;exact ⟨_,rfl,P,kF,bT,Q,W,X,rfl,rfl,S,T,rfl,Y,lB,a7,pX,q1,o8,r2,e⟩
      trivial
     refine wr_br ?_ ?_
     ·refine zf9 V V V V T29 V a9 aN aO (fun kG hQ=>?_);refine zaw<|wt_br<|wr_br ?_ ?_
      ·obtain ⟨t8,mN,g⟩:=bsi g;refine wsc V (by kernel_rfl) V V (zar (R:=Sc i64) (v:=m) (u:=bN) (Sc.stab _) [] (f::d) V T35 V V j aP (fun _ _ a=>a) mN zg3 ?_);intro C uZ E hB j0 o1;have jE:Nq f C:=c.nxt w.symm j0;replace c:=c.other hB w.symm;have gH:=aO.grown hB t;have o9:=Nw.nxt aO t j0;refine wsc V (by kernel_rfl) V V (zax (L:=(C::f::d)) (R:=Sc u8) [] ([]:List UInt8) V T22 V (by exact trivial) V (litC u8 zbx (us:=[]) (l:=([]:List UInt8)) V) V (litS u8 (us:=[]) (l:=([]:List UInt8)) V) ?_);intro g7 v0 q2 cC lP u9;have cY:=zaa lP;have jF:Nq C g7:=E.nq cC;have jG:Nq f g7:=c.nq cC;replace e:=(e.lift o1).lift (Lift.call _ cY cC);replace E:=E.extL (Sc.stab _) cY (Lift.call _ cY cC);replace c:=c.ext cY;have iR:=Nw.ext gH cC;have eO:=gH.trans cY;obtain ⟨t9,mO,g⟩:=bsi g;refine wsc V (by kernel_rfl) V V (zar (R:=Sc u8) (v:=g7) (u:=kG) (Sc.stab _) [] (C::f::d) V T22 V V q2 (hQ.lift (le_ eO)) (fun _ _ a=>a) mO oc_u8 ?_);intro aA v1 cI eX fM hW;have r3:Nq C aA:=E.nxt jF fM;have r4:Nq f aA:=c.nxt jG fM;replace E:=E.other (Sc.stab _) eX jF hW;replace c:=c.other eX jG;have gI:=eO.grown eX iR;have oA:=Nw.nxt eO iR fM;refine wsc V (by kernel_rfl) V V (zax (L:=(aA::C::f::d)) (R:=Sc (fun x:Value=>x)) [aA] [aA] V T29 V (by exact ⟨rfl,rfl,trivial⟩) V (litV cI) V (fun _ _ _ _ _ _=>rfl) ?_);intro kH sP q3 oB lQ uA;have aW:=zaa lQ;have nO:SlK (Sc (fun x:Value=>x)) sP (aA::C::f::d) kH [aA]:=OwK.slk (Sc.stab _) _ q3 (fun b h=>(Old.cons (Old.cons (Old.cons (z.ext gI) c.ltB) E.lt) cI.lt) b (oB b h)) (fun _ a=>a.2);replace e:=(e.lift hW).lift (le_ aW);replace cI:=cI.extL (Sc.stab _) aW (le_ aW);replace E:=E.extL (Sc.stab _) aW (le_ aW);replace c:=c.ext aW;have gJ:=gI.trans aW;obtain ⟨tA,mP,g⟩:=bsi g;refine wsc V (by kernel_rfl) V V (zb5 (x:=aA) (u:=B) (q:=kH) [aA,C] d V T29 V V c nO cI r4.symm mP ?_);intro eC bU kI v2 q4 hC j1 dD hX;replace e:=e.lift hX
       have r5:Nq C eC:=E.nxt jE.symm j1;replace E:=E.other (Sc.stab _) hC jE.symm hX;have lC:=gJ.grown hC s;have oC:=Nw.nxt gJ s j1;have r6:Nq C bU:=OwD.relist dD r5 r3
       have oD:Nw w0 bU:=fun b h=>(dD b h).elim (oC b) (oA b)
       replace e:=e.lift (Lift.sub (show ∀ b,Av (aA::C::eC::d) b->Av (C::bU::d) b from fun _ a=>⟨a.2.1,(fun i=>(dD _ i).elim a.2.2.1 a.1),a.2.2.2⟩));replace E:=E.weak (Sc.stab _) (show ∀ b,Av (aA::C::eC::d) b->Av (C::bU::d) b from fun _ a=>⟨a.2.1,(fun i=>(dD _ i).elim a.2.2.1 a.1),a.2.2.2⟩);refine sa V V (zan (v:=C) V V)<|sa V V (zan (v:=kI) V V)<|zaw<|zf2<|bk_n<|W_th<|W_rg<|wa V (zam V U V)<|mv (i64 (wI (y.2.2+1))) V V<|zah<|?_;obtain rfl:=osi g;exact ⟨_,rfl,C,kI,bU,Q,W,X,rfl,rfl,S,T,rfl,Y,lC,E,o9,q4,oD,r6,e⟩
      refine wr_br ?_ ?_
      ·refine wsc V (by kernel_rfl) V V (zax (L:=(m::f::d)) (R:=Sc u8) [] ([]:List UInt8) V T22 V (by exact trivial) V (litC u8 zbx (us:=[]) (l:=([]:List UInt8)) V) V (litS u8 (us:=[]) (l:=([]:List UInt8)) V) ?_);intro cV v3 dS bD lR uB;have bQ:=zaa lR;have jH:Nq m cV:=j.nq bD;have jI:Nq f cV:=c.nq bD;replace aP:=aP.lift (Lift.call _ bQ bD);replace j:=j.extL (Sc.stab _) bQ (Lift.call _ bQ bD);replace c:=c.ext bQ;have iS:=Nw.ext aO bD;have gK:=aO.trans bQ;obtain ⟨tB,mQ,g⟩:=bsi g;refine wsc V (by kernel_rfl) V V (zar (R:=Sc i64) (v:=m) (u:=bN) (Sc.stab _) [cV] (f::d) V T35 V V j aP (fun _ _ a=>a) mQ zg3 ?_);intro G v4 a0 eY fN hY;replace e:=(e.lift (Lift.call _ bQ bD)).lift hY;have jJ:Nq cV G:=dS.nxt jH.symm fN;have jK:Nq f G:=c.nxt w.symm fN;replace dS:=dS.other (Sc.stab _) eY jH.symm hY;replace c:=c.other eY w.symm;have eP:=gK.grown eY t;have oE:=Nw.nxt gK t fN;obtain ⟨tC,mR,g⟩:=bsi g;refine wsc V (by kernel_rfl) V V (zar (R:=Sc u8) (v:=cV) (u:=kG) (Sc.stab _) [] (G::f::d) V T22 V V dS (hQ.lift (le_ eP)) (fun _ _ a=>a) mR oc_u8 ?_);intro aB v5 cJ eZ fO hZ;have r7:Nq G aB:=a0.nxt jJ.symm fO;have r8:Nq f aB:=c.nxt jI fO;replace a0:=a0.other (Sc.stab _) eZ jJ.symm hZ;replace c:=c.other eZ jI;have gL:=eP.grown eZ iS;have oF:=Nw.nxt eP iS fO;refine wsc V (by kernel_rfl) V V (zax (L:=(aB::G::f::d)) (R:=Sc (fun x:Value=>x)) [aB] [aB] V T29 V (by exact ⟨rfl,rfl,trivial⟩) V (litV cJ) V (fun _ _ _ _ _ _=>rfl) ?_);intro kJ sQ q5 oG lS uC;have aX:=zaa lS;have nP:SlK (Sc (fun x:Value=>x)) sQ (aB::G::f::d) kJ [aB]:=OwK.slk (Sc.stab _) _ q5 (fun b h=>(Old.cons (Old.cons (Old.cons (z.ext gL) c.ltB) a0.lt) cJ.lt) b (oG b h)) (fun _ a=>a.2);replace e:=(e.lift hZ).lift (le_ aX);replace cJ:=cJ.extL (Sc.stab _) aX (le_ aX);replace a0:=a0.extL (Sc.stab _) aX (le_ aX);replace c:=c.ext aX;have gM:=gL.trans aX;obtain ⟨tD,mS,g⟩:=bsi g;refine wsc V (by kernel_rfl) V V (zb5 (x:=aB) (u:=B) (q:=kJ) [aB,G] d V T29 V V c nP cJ r8.symm mS ?_)
       intro eD bV kK v6 q6 hD j2 dE i0;replace e:=e.lift i0;have r9:Nq G eD:=a0.nxt jK.symm j2;replace a0:=a0.other (Sc.stab _) hD jK.symm i0;have lD:=gM.grown hD s;have oH:=Nw.nxt gM s j2;have rA:Nq G bV:=OwD.relist dE r9 r7
       have oI:Nw w0 bV:=fun b h=>(dE b h).elim (oH b) (oF b)
       replace e:=e.lift (Lift.sub (show ∀ b,Av (aB::G::eD::d) b->Av (G::bV::d) b from fun _ a=>⟨a.2.1,(fun i=>(dE _ i).elim a.2.2.1 a.1),a.2.2.2⟩));replace a0:=a0.weak (Sc.stab _) (show ∀ b,Av (aB::G::eD::d) b->Av (G::bV::d) b from fun _ a=>⟨a.2.1,(fun i=>(dE _ i).elim a.2.2.1 a.1),a.2.2.2⟩);refine sa V V (zan (v:=G) V V)<|sa V V (zan (v:=kK) V V)<|zaw<|zf2<|bk_n<|W_th<|W_rg<|wa V (zam V U V)<|mv (i64 (wI (y.2.2+1))) V V<|zah<|?_;obtain rfl:=osi g;exact ⟨_,rfl,G,kK,bV,Q,W,X,rfl,rfl,S,T,rfl,Y,lD,a0,oE,q6,oI,rA,e⟩
      trivial
     trivial
    refine wr_br ?_ ?_
    ·refine wsc V (by kernel_rfl) V V (zax (L:=(m::f::d)) (R:=Sc u8) [] ([]:List UInt8) V T22 V (by exact trivial) V (litC u8 zbx (us:=[]) (l:=([]:List UInt8)) V) V (litS u8 (us:=[]) (l:=([]:List UInt8)) V) ?_);intro H v7 A cD lT uD;have d0:=zaa lT;have bJ:Nq m H:=j.nq cD;have bK:Nq f H:=c.nq cD;replace e:=e.lift (Lift.call _ d0 cD);replace j:=j.extL (Sc.stab _) d0 (Lift.call _ d0 cD);replace c:=c.ext d0;have bE:=Nw.ext aM cD;have c7:=aM.trans d0;refine zaw<|wt_br<|wr_br ?_ ?_
     ·refine wsc V (by kernel_rfl) V V (zax (L:=(H::m::f::d)) (R:=Sc i64) [i64 (k.toNat:Int)] ([(k.toNat:Int)]:List Int) V T35 V (by exact ⟨rfl,rfl,trivial⟩) V (litC i64 zgf (us:=[i64 (k.toNat:Int)]) (l:=([(k.toNat:Int)]:List Int)) V) V (litS i64 (us:=[i64 (k.toNat:Int)]) (l:=([(k.toNat:Int)]:List Int)) V) ?_);intro g8 sR q7 oJ lU uE;have aY:=zaa lU;have hT:In sR (H::m::f::d) g8 ([(k.toNat:Int)]:List Int):=OwK.slk (Sc.stab _) _ q7 (fun b h=>(Old.cons (Old.cons (Old.cons (z.ext c7) c.ltB) j.lt) A.lt) b (oJ b h)) (fun _ a=>a.2);replace e:=e.lift (le_ aY);replace A:=A.extL (Sc.stab _) aY (le_ aY);replace j:=j.extL (Sc.stab _) aY (le_ aY);replace c:=c.ext aY;have c8:=c7.trans aY;refine zaw<|wt_br<|wr_br ?_ ?_
      ·obtain ⟨tF,mT,g⟩:=bsi g;refine wsc V (by kernel_rfl) V V (zar (R:=Sc i64) (v:=m) (u:=g8) (Sc.stab _) [H] (f::d) V T35 V V j hT (fun _ _ a=>a) mT zg3 ?_);intro I v8 a1 f0 fP i1;have jL:Nq H I:=A.nxt bJ.symm fP;have jM:Nq f I:=c.nxt w.symm fP;replace A:=A.other (Sc.stab _) f0 bJ.symm i1;replace c:=c.other f0 w.symm;have d8:=c8.grown f0 t;have oL:=Nw.nxt c8 t fP;refine zf9 V V V V T29 V a9 aN d8 (fun sG mF=>?_);obtain ⟨tG,mU,g⟩:=bsi g;refine wsc V (by kernel_rfl) V V (zar (R:=Sc u8) (v:=H) (u:=sG) (Sc.stab _) [] (I::f::d) V T22 V V A (mF.lift (le_ d8)) (fun _ _ a=>a) mU oc_u8 ?_);intro aC v9 cK f1 fQ i2;replace e:=(e.lift i1).lift i2;have rB:Nq I aC:=a1.nxt jL.symm fQ;have rC:Nq f aC:=c.nxt bK fQ;replace a1:=a1.other (Sc.stab _) f1 jL.symm i2;replace c:=c.other f1 bK;have gN:=d8.grown f1 bE;have oM:=Nw.nxt d8 bE fQ;refine wsc V (by kernel_rfl) V V (zax (L:=(aC::I::f::d)) (R:=Sc (fun x:Value=>x)) [aC] [aC] V T29 V (by exact ⟨rfl,rfl,trivial⟩) V (litV cK) V (fun _ _ _ _ _ _=>rfl) ?_);intro kL sT q9 oN lW uG;have aZ:=zaa lW;have nQ:SlK (Sc (fun x:Value=>x)) sT (aC::I::f::d) kL [aC]:=OwK.slk (Sc.stab _) _ q9 (fun b h=>(Old.cons (Old.cons (Old.cons (z.ext gN) c.ltB) a1.lt) cK.lt) b (oN b h)) (fun _ a=>a.2);replace cK:=cK.extL (Sc.stab _) aZ (le_ aZ);replace a1:=a1.extL (Sc.stab _) aZ (le_ aZ);replace c:=c.ext aZ;have gO:=gN.trans aZ;obtain ⟨tH,mV,g⟩:=bsi g;refine wsc V (by kernel_rfl) V V (zb5 (x:=aC) (u:=B) (q:=kL) [aC,I] d V T29 V V c nQ cK rC.symm mV ?_);intro eE bW kM vA qA hE j3 dF i3;replace e:=(e.lift (le_ aZ)).lift i3;have rD:Nq I eE:=a1.nxt jM.symm j3;replace a1:=a1.other (Sc.stab _) hE jM.symm i3;have lE:=gO.grown hE s;have oO:=Nw.nxt gO s j3;have rE:Nq I bW:=OwD.relist dF rD rB
       have oP:Nw w0 bW:=fun b h=>(dF b h).elim (oO b) (oM b)
       replace e:=e.lift (Lift.sub (show ∀ b,Av (aC::I::eE::d) b->Av (I::bW::d) b from fun _ a=>⟨a.2.1,(fun i=>(dF _ i).elim a.2.2.1 a.1),a.2.2.2⟩));replace a1:=a1.weak (Sc.stab _) (show ∀ b,Av (aC::I::eE::d) b->Av (I::bW::d) b from fun _ a=>⟨a.2.1,(fun i=>(dF _ i).elim a.2.2.1 a.1),a.2.2.2⟩);refine sa V V (zan (v:=I) V V)<|sa V V (zan (v:=kM) V V)<|zaw<|zf2<|bk_n<|W_th<|W_rg<|wa V (zam V U V)<|mv (i64 (wI (y.2.2+1))) V V<|zah<|?_;obtain rfl:=osi g;exact ⟨_,rfl,I,kM,bW,Q,W,X,rfl,rfl,S,T,rfl,Y,lE,a1,oL,qA,oP,rE,e⟩
      refine wr_br ?_ ?_
      ·refine zf9 V V V V T29 V a9 aN c8 (fun sH mG=>?_);obtain ⟨tJ,mX,g⟩:=bsi g;refine wsc V (by kernel_rfl) V V (zar (R:=Sc i64) (v:=m) (u:=g8) (Sc.stab _) [H] (f::d) V T35 V V j hT (fun _ _ a=>a) mX zg3 ?_);intro J vC a2 f2 fR i4;have jN:Nq H J:=A.nxt bJ.symm fR;have jO:Nq f J:=c.nxt w.symm fR;replace A:=A.other (Sc.stab _) f2 bJ.symm i4;replace c:=c.other f2 w.symm;have eQ:=c8.grown f2 t;have oQ:=Nw.nxt c8 t fR;obtain ⟨tK,mY,g⟩:=bsi g;refine wsc V (by kernel_rfl) V V (zar (R:=Sc u8) (v:=H) (u:=sH) (Sc.stab _) [] (J::f::d) V T22 V V A (mG.lift (le_ eQ)) (fun _ _ a=>a) mY oc_u8 ?_);intro aD vD cL f3 fS i5;replace e:=(e.lift i4).lift i5;have rF:Nq J aD:=a2.nxt jN.symm fS;have rG:Nq f aD:=c.nxt bK fS;replace a2:=a2.other (Sc.stab _) f3 jN.symm i5;replace c:=c.other f3 bK;have gP:=eQ.grown f3 bE;have oS:=Nw.nxt eQ bE fS;refine wsc V (by kernel_rfl) V V (zax (L:=(aD::J::f::d)) (R:=Sc (fun x:Value=>x)) [aD] [aD] V T29 V (by exact ⟨rfl,rfl,trivial⟩) V (litV cL) V (fun _ _ _ _ _ _=>rfl) ?_);intro kN sU qC oT lX uH;have b0:=zaa lX;have nR:SlK (Sc (fun x:Value=>x)) sU (aD::J::f::d) kN [aD]:=OwK.slk (Sc.stab _) _ qC (fun b h=>(Old.cons (Old.cons (Old.cons (z.ext gP) c.ltB) a2.lt) cL.lt) b (oT b h)) (fun _ a=>a.2);replace cL:=cL.extL (Sc.stab _) b0 (le_ b0);replace a2:=a2.extL (Sc.stab _) b0 (le_ b0);replace c:=c.ext b0;have gQ:=gP.trans b0;obtain ⟨tL,mZ,g⟩:=bsi g;refine wsc V (by kernel_rfl) V V (zb5 (x:=aD) (u:=B) (q:=kN) [aD,J] d V T29 V V c nR cL rG.symm mZ ?_);intro eF bX kO vE qD hG j5 dG i6;replace e:=(e.lift (le_ b0)).lift i6;have rH:Nq J eF:=a2.nxt jO.symm j5;replace a2:=a2.other (Sc.stab _) hG jO.symm i6;have lF:=gQ.grown hG s;have oU:=Nw.nxt gQ s j5;have rI:Nq J bX:=OwD.relist dG rH rF
       have oV:Nw w0 bX:=fun b h=>(dG b h).elim (oU b) (oS b)
       replace e:=e.lift (Lift.sub (show ∀ b,Av (aD::J::eF::d) b->Av (J::bX::d) b from fun _ a=>⟨a.2.1,(fun i=>(dG _ i).elim a.2.2.1 a.1),a.2.2.2⟩));replace a2:=a2.weak (Sc.stab _) (show ∀ b,Av (aD::J::eF::d) b->Av (J::bX::d) b from fun _ a=>⟨a.2.1,(fun i=>(dG _ i).elim a.2.2.1 a.1),a.2.2.2⟩);refine sa V V (zan (v:=J) V V)<|sa V V (zan (v:=kO) V V)<|zaw<|zf2<|bk_n<|W_th<|W_rg<|wa V (zam V U V)<|mv (i64 (wI (y.2.2+1))) V V<|zah<|?_;obtain rfl:=osi g;exact ⟨_,rfl,J,kO,bX,Q,W,X,rfl,rfl,S,T,rfl,Y,lF,a2,oQ,qD,oV,rI,e⟩
      trivial
     refine wr_br ?_ ?_
     ·refine zf9 V V V V T29 V a9 aN c7 (fun sI mH=>?_);refine wsc V (by kernel_rfl) V V (zax (L:=(H::m::f::d)) (R:=Sc i64) [i64 (k.toNat:Int)] ([(k.toNat:Int)]:List Int) V T35 V (by exact ⟨rfl,rfl,trivial⟩) V (litC i64 zgf (us:=[i64 (k.toNat:Int)]) (l:=([(k.toNat:Int)]:List Int)) V) V (litS i64 (us:=[i64 (k.toNat:Int)]) (l:=([(k.toNat:Int)]:List Int)) V) ?_);intro kP sV qE oW lY uI;have b1:=zaa lY;have nS:In sV (H::m::f::d) kP ([(k.toNat:Int)]:List Int):=OwK.slk (Sc.stab _) _ qE (fun b h=>(Old.cons (Old.cons (Old.cons (z.ext c7) c.ltB) j.lt) A.lt) b (oW b h)) (fun _ a=>a.2);replace A:=A.extL (Sc.stab _) b1 (le_ b1);replace j:=j.extL (Sc.stab _) b1 (le_ b1);replace c:=c.ext b1;have gR:=c7.trans b1;obtain ⟨tM,n0,g⟩:=bsi g;refine wsc V (by kernel_rfl) V V (zar (R:=Sc i64) (v:=m) (u:=kP) (Sc.stab _) [H] (f::d) V T35 V V j nS (fun _ _ a=>a) n0 zg3 ?_);intro K vF a3 f4 fT i7;replace e:=(e.lift (le_ b1)).lift i7;have jP:Nq H K:=A.nxt bJ.symm fT;have jQ:Nq f K:=c.nxt w.symm fT;replace A:=A.other (Sc.stab _) f4 bJ.symm i7;replace c:=c.other f4 w.symm;have eR:=gR.grown f4 t;have oX:=Nw.nxt gR t fT;obtain ⟨tN,n1,g⟩:=bsi g;refine wsc V (by kernel_rfl) V V (zar (R:=Sc u8) (v:=H) (u:=sI) (Sc.stab _) [] (K::f::d) V T22 V V A (mH.lift (le_ eR)) (fun _ _ a=>a) n1 oc_u8 ?_);intro aE vG cM f5 fU i8;have rJ:Nq K aE:=a3.nxt jP.symm fU;have rK:Nq f aE:=c.nxt bK fU;replace a3:=a3.other (Sc.stab _) f5 jP.symm i8;replace c:=c.other f5 bK;have gS:=eR.grown f5 bE;have oY:=Nw.nxt eR bE fU;refine wsc V (by kernel_rfl) V V (zax (L:=(aE::K::f::d)) (R:=Sc (fun x:Value=>x)) [aE] [aE] V T29 V (by exact ⟨rfl,rfl,trivial⟩) V (litV cM) V (fun _ _ _ _ _ _=>rfl) ?_);intro kQ sW qF oZ lZ uJ;have b2:=zaa lZ;have nT:SlK (Sc (fun x:Value=>x)) sW (aE::K::f::d) kQ [aE]:=OwK.slk (Sc.stab _) _ qF (fun b h=>(Old.cons (Old.cons (Old.cons (z.ext gS) c.ltB) a3.lt) cM.lt) b (oZ b h)) (fun _ a=>a.2);replace e:=(e.lift i8).lift (le_ b2);replace cM:=cM.extL (Sc.stab _) b2 (le_ b2)
      replace a3:=a3.extL (Sc.stab _) b2 (le_ b2);replace c:=c.ext b2;have gT:=gS.trans b2;obtain ⟨tO,n2,g⟩:=bsi g;refine wsc V (by kernel_rfl) V V (zb5 (x:=aE) (u:=B) (q:=kQ) [aE,K] d V T29 V V c nT cM rK.symm n2 ?_);intro eG bY kR vH qG hH j6 dH i9;replace e:=e.lift i9;have rL:Nq K eG:=a3.nxt jQ.symm j6;replace a3:=a3.other (Sc.stab _) hH jQ.symm i9;have lG:=gT.grown hH s;have p0:=Nw.nxt gT s j6;have rM:Nq K bY:=OwD.relist dH rL rJ
      have p1:Nw w0 bY:=fun b h=>(dH b h).elim (p0 b) (oY b)
      replace e:=e.lift (Lift.sub (show ∀ b,Av (aE::K::eG::d) b->Av (K::bY::d) b from fun _ a=>⟨a.2.1,(fun i=>(dH _ i).elim a.2.2.1 a.1),a.2.2.2⟩));replace a3:=a3.weak (Sc.stab _) (show ∀ b,Av (aE::K::eG::d) b->Av (K::bY::d) b from fun _ a=>⟨a.2.1,(fun i=>(dH _ i).elim a.2.2.1 a.1),a.2.2.2⟩);refine sa V V (zan (v:=K) V V)<|sa V V (zan (v:=kR) V V)<|zaw<|zf2<|bk_n<|W_th<|W_rg<|wa V (zam V U V)<|mv (i64 (wI (y.2.2+1))) V V<|zah<|?_;obtain rfl:=osi g;exact ⟨_,rfl,K,kR,bY,Q,W,X,rfl,rfl,S,T,rfl,Y,lG,a3,oX,qG,p1,rM,e⟩
     trivial
    refine wr_br ?_ ?_
    ·refine zf9 V V V V T29 V a9 aN aM (fun gA fI=>?_);refine zaw<|wt_br<|wr_br ?_ ?_
     ·refine wsc V (by kernel_rfl) V V (zax (L:=(m::f::d)) (R:=Sc i64) [i64 (k.toNat:Int)] ([(k.toNat:Int)]:List Int) V T35 V (by exact ⟨rfl,rfl,trivial⟩) V (litC i64 zgf (us:=[i64 (k.toNat:Int)]) (l:=([(k.toNat:Int)]:List Int)) V) V (litS i64 (us:=[i64 (k.toNat:Int)]) (l:=([(k.toNat:Int)]:List Int)) V) ?_);intro gB sX qI p2 m1 uL;have d3:=zaa m1;have dO:In sX (m::f::d) gB ([(k.toNat:Int)]:List Int):=OwK.slk (Sc.stab _) _ qI (fun b h=>(Old.cons (Old.cons (z.ext aM) c.ltB) j.lt) b (p2 b h)) (fun _ a=>a.2);replace e:=e.lift (le_ d3);replace j:=j.extL (Sc.stab _) d3 (le_ d3);replace c:=c.ext d3;have d9:=aM.trans d3;refine zaw<|wt_br<|wr_br ?_ ?_
      ·obtain ⟨tP,n3,g⟩:=bsi g;refine wsc V (by kernel_rfl) V V (zar (R:=Sc i64) (v:=m) (u:=gB) (Sc.stab _) [] (f::d) V T35 V V j dO (fun _ _ a=>a) n3 zg3 ?_);intro D vJ F hI j7 o3;have jR:Nq f D:=c.nxt w.symm j7;replace c:=c.other hI w.symm;have gU:=d9.grown hI t;have p3:=Nw.nxt d9 t j7;refine wsc V (by kernel_rfl) V V (zax (L:=(D::f::d)) (R:=Sc u8) [] ([]:List UInt8) V T22 V (by exact trivial) V (litC u8 zbx (us:=[]) (l:=([]:List UInt8)) V) V (litS u8 (us:=[]) (l:=([]:List UInt8)) V) ?_);intro gC vK qJ cF m2 uM;have d4:=zaa m2;have jT:Nq D gC:=F.nq cF;have jU:Nq f gC:=c.nq cF;replace e:=(e.lift o3).lift (Lift.call _ d4 cF);replace F:=F.extL (Sc.stab _) d4 (Lift.call _ d4 cF);replace c:=c.ext d4;have iU:=Nw.ext gU cF;have eS:=gU.trans d4;obtain ⟨tQ,n4,g⟩:=bsi g;refine wsc V (by kernel_rfl) V V (zar (R:=Sc u8) (v:=gC) (u:=gA) (Sc.stab _) [] (D::f::d) V T22 V V qJ (fI.lift (le_ eS)) (fun _ _ a=>a) n4 oc_u8 ?_);intro aF vL cN f6 fV iA;have rN:Nq D aF:=F.nxt jT fV;have rO:Nq f aF:=c.nxt jU fV;replace F:=F.other (Sc.stab _) f6 jT iA;replace c:=c.other f6 jU;have gV:=eS.grown f6 iU;have p4:=Nw.nxt eS iU fV;refine wsc V (by kernel_rfl) V V (zax (L:=(aF::D::f::d)) (R:=Sc (fun x:Value=>x)) [aF] [aF] V T29 V (by exact ⟨rfl,rfl,trivial⟩) V (litV cN) V (fun _ _ _ _ _ _=>rfl) ?_);intro kS sY qK p5 m3 uN;have b3:=zaa m3;have nU:SlK (Sc (fun x:Value=>x)) sY (aF::D::f::d) kS [aF]:=OwK.slk (Sc.stab _) _ qK (fun b h=>(Old.cons (Old.cons (Old.cons (z.ext gV) c.ltB) F.lt) cN.lt) b (p5 b h)) (fun _ a=>a.2);replace e:=(e.lift iA).lift (le_ b3);replace cN:=cN.extL (Sc.stab _) b3 (le_ b3);replace F:=F.extL (Sc.stab _) b3 (le_ b3);replace c:=c.ext b3;have gW:=gV.trans b3;obtain ⟨tR,n5,g⟩:=bsi g;refine wsc V (by kernel_rfl) V V (zb5 (x:=aF) (u:=B) (q:=kS) [aF,D] d V T29 V V c nU cN rO.symm n5 ?_);intro eH bZ kT vM qL hJ j8 dI iB;replace e:=e.lift iB
       have rP:Nq D eH:=F.nxt jR.symm j8;replace F:=F.other (Sc.stab _) hJ jR.symm iB;have lH:=gW.grown hJ s;have p6:=Nw.nxt gW s j8;have rQ:Nq D bZ:=OwD.relist dI rP rN
       have p7:Nw w0 bZ:=fun b h=>(dI b h).elim (p6 b) (p4 b)
       replace e:=e.lift (Lift.sub (show ∀ b,Av (aF::D::eH::d) b->Av (D::bZ::d) b from fun _ a=>⟨a.2.1,(fun i=>(dI _ i).elim a.2.2.1 a.1),a.2.2.2⟩));replace F:=F.weak (Sc.stab _) (show ∀ b,Av (aF::D::eH::d) b->Av (D::bZ::d) b from fun _ a=>⟨a.2.1,(fun i=>(dI _ i).elim a.2.2.1 a.1),a.2.2.2⟩);refine sa V V (zan (v:=D) V V)<|sa V V (zan (v:=kT) V V)<|zaw<|zf2<|bk_n<|W_th<|W_rg<|wa V (zam V U V)<|mv (i64 (wI (y.2.2+1))) V V<|zah<|?_;obtain rfl:=osi g;exact ⟨_,rfl,D,kT,bZ,Q,W,X,rfl,rfl,S,T,rfl,Y,lH,F,p3,qL,p7,rQ,e⟩
      refine wr_br ?_ ?_
      ·refine wsc V (by kernel_rfl) V V (zax (L:=(m::f::d)) (R:=Sc u8) [] ([]:List UInt8) V T22 V (by exact trivial) V (litC u8 zbx (us:=[]) (l:=([]:List UInt8)) V) V (litS u8 (us:=[]) (l:=([]:List UInt8)) V) ?_);intro cW vN dU bF m4 uO;have bR:=zaa m4;have jW:Nq m cW:=j.nq bF;have jX:Nq f cW:=c.nq bF;replace dO:=dO.lift (Lift.call _ bR bF);replace j:=j.extL (Sc.stab _) bR (Lift.call _ bR bF);replace c:=c.ext bR;have iV:=Nw.ext d9 bF;have gX:=d9.trans bR;obtain ⟨tS,n6,g⟩:=bsi g;refine wsc V (by kernel_rfl) V V (zar (R:=Sc i64) (v:=m) (u:=gB) (Sc.stab _) [cW] (f::d) V T35 V V j dO (fun _ _ a=>a) n6 zg3 ?_);intro M vO a4 f7 fW iC;replace e:=(e.lift (Lift.call _ bR bF)).lift iC;have jY:Nq cW M:=dU.nxt jW.symm fW;have jZ:Nq f M:=c.nxt w.symm fW;replace dU:=dU.other (Sc.stab _) f7 jW.symm iC;replace c:=c.other f7 w.symm;have eT:=gX.grown f7 t;have p8:=Nw.nxt gX t fW;obtain ⟨tT,n7,g⟩:=bsi g;refine wsc V (by kernel_rfl) V V (zar (R:=Sc u8) (v:=cW) (u:=gA) (Sc.stab _) [] (M::f::d) V T22 V V dU (fI.lift (le_ eT)) (fun _ _ a=>a) n7 oc_u8 ?_);intro aG vP cO f8 fX iD;have rR:Nq M aG:=a4.nxt jY.symm fX;have rS:Nq f aG:=c.nxt jX fX;replace a4:=a4.other (Sc.stab _) f8 jY.symm iD;replace c:=c.other f8 jX;have gY:=eT.grown f8 iV;have p9:=Nw.nxt eT iV fX;refine wsc V (by kernel_rfl) V V (zax (L:=(aG::M::f::d)) (R:=Sc (fun x:Value=>x)) [aG] [aG] V T29 V (by exact ⟨rfl,rfl,trivial⟩) V (litV cO) V (fun _ _ _ _ _ _=>rfl) ?_);intro kU sZ qM pA m5 uP;have b4:=zaa m5;have nV:SlK (Sc (fun x:Value=>x)) sZ (aG::M::f::d) kU [aG]:=OwK.slk (Sc.stab _) _ qM (fun b h=>(Old.cons (Old.cons (Old.cons (z.ext gY) c.ltB) a4.lt) cO.lt) b (pA b h)) (fun _ a=>a.2);replace e:=(e.lift iD).lift (le_ b4);replace cO:=cO.extL (Sc.stab _) b4 (le_ b4);replace a4:=a4.extL (Sc.stab _) b4 (le_ b4);replace c:=c.ext b4;have gZ:=gY.trans b4;obtain ⟨tU,n8,g⟩:=bsi g;refine wsc V (by kernel_rfl) V V (zb5 (x:=aG) (u:=B) (q:=kU) [aG,M] d V T29 V V c nV cO rS.symm n8 ?_)
       intro eI c0 kV vQ qN hK j9 dJ iE;replace e:=e.lift iE;have rT:Nq M eI:=a4.nxt jZ.symm j9;replace a4:=a4.other (Sc.stab _) hK jZ.symm iE;have lI:=gZ.grown hK s;have pB:=Nw.nxt gZ s j9;have rU:Nq M c0:=OwD.relist dJ rT rR
       have pC:Nw w0 c0:=fun b h=>(dJ b h).elim (pB b) (p9 b)
       replace e:=e.lift (Lift.sub (show ∀ b,Av (aG::M::eI::d) b->Av (M::c0::d) b from fun _ a=>⟨a.2.1,(fun i=>(dJ _ i).elim a.2.2.1 a.1),a.2.2.2⟩));replace a4:=a4.weak (Sc.stab _) (show ∀ b,Av (aG::M::eI::d) b->Av (M::c0::d) b from fun _ a=>⟨a.2.1,(fun i=>(dJ _ i).elim a.2.2.1 a.1),a.2.2.2⟩);refine sa V V (zan (v:=M) V V)<|sa V V (zan (v:=kV) V V)<|zaw<|zf2<|bk_n<|W_th<|W_rg<|wa V (zam V U V)<|mv (i64 (wI (y.2.2+1))) V V<|zah<|?_;obtain rfl:=osi g;exact ⟨_,rfl,M,kV,c0,Q,W,X,rfl,rfl,S,T,rfl,Y,lI,a4,p8,qN,pC,rU,e⟩
      trivial
     refine wr_br ?_ ?_
     ·refine wsc V (by kernel_rfl) V V (zax (L:=(m::f::d)) (R:=Sc u8) [] ([]:List UInt8) V T22 V (by exact trivial) V (litC u8 zbx (us:=[]) (l:=([]:List UInt8)) V) V (litS u8 (us:=[]) (l:=([]:List UInt8)) V) ?_);intro aU vR aT cG m6 uQ;have d5:=zaa m6;have k0:Nq m aU:=j.nq cG;have k1:Nq f aU:=c.nq cG;replace j:=j.extL (Sc.stab _) d5 (Lift.call _ d5 cG);replace c:=c.ext d5;have iX:=Nw.ext aM cG;have h0:=aM.trans d5;refine wsc V (by kernel_rfl) V V (zax (L:=(aU::m::f::d)) (R:=Sc i64) [i64 (k.toNat:Int)] ([(k.toNat:Int)]:List Int) V T35 V (by exact ⟨rfl,rfl,trivial⟩) V (litC i64 zgf (us:=[i64 (k.toNat:Int)]) (l:=([(k.toNat:Int)]:List Int)) V) V (litS i64 (us:=[i64 (k.toNat:Int)]) (l:=([(k.toNat:Int)]:List Int)) V) ?_);intro kW t0 qO pD m7 uR;have b5:=zaa m7;have nW:In t0 (aU::m::f::d) kW ([(k.toNat:Int)]:List Int):=OwK.slk (Sc.stab _) _ qO (fun b h=>(Old.cons (Old.cons (Old.cons (z.ext h0) c.ltB) j.lt) aT.lt) b (pD b h)) (fun _ a=>a.2);replace e:=(e.lift (Lift.call _ d5 cG)).lift (le_ b5);replace aT:=aT.extL (Sc.stab _) b5 (le_ b5);replace j:=j.extL (Sc.stab _) b5 (le_ b5);replace c:=c.ext b5;have h1:=h0.trans b5;obtain ⟨tW,nA,g⟩:=bsi g;refine wsc V (by kernel_rfl) V V (zar (R:=Sc i64) (v:=m) (u:=kW) (Sc.stab _) [aU] (f::d) V T35 V V j nW (fun _ _ a=>a) nA zg3 ?_);intro N vT a5 fA fZ iG;have k2:Nq aU N:=aT.nxt k0.symm fZ;have k3:Nq f N:=c.nxt w.symm fZ;replace aT:=aT.other (Sc.stab _) fA k0.symm iG;replace c:=c.other fA w.symm;have eU:=h1.grown fA t;have pE:=Nw.nxt h1 t fZ;obtain ⟨tX,nB,g⟩:=bsi g;refine wsc V (by kernel_rfl) V V (zar (R:=Sc u8) (v:=aU) (u:=gA) (Sc.stab _) [] (N::f::d) V T22 V V aT (fI.lift (le_ eU)) (fun _ _ a=>a) nB oc_u8 ?_);intro aI vU cQ fB g0 iH;replace e:=(e.lift iG).lift iH;have rW:Nq N aI:=a5.nxt k2.symm g0;have rX:Nq f aI:=c.nxt k1 g0;replace a5:=a5.other (Sc.stab _) fB k2.symm iH;replace c:=c.other fB k1;have h2:=eU.grown fB iX;have pF:=Nw.nxt eU iX g0;refine wsc V (by kernel_rfl) V V (zax (L:=(aI::N::f::d)) (R:=Sc (fun x:Value=>x)) [aI] [aI] V T29 V (by exact ⟨rfl,rfl,trivial⟩) V (litV cQ) V (fun _ _ _ _ _ _=>rfl) ?_)
      intro kX t2 qP pG m8 uS;have b6:=zaa m8;have nX:SlK (Sc (fun x:Value=>x)) t2 (aI::N::f::d) kX [aI]:=OwK.slk (Sc.stab _) _ qP (fun b h=>(Old.cons (Old.cons (Old.cons (z.ext h2) c.ltB) a5.lt) cQ.lt) b (pG b h)) (fun _ a=>a.2);replace cQ:=cQ.extL (Sc.stab _) b6 (le_ b6);replace a5:=a5.extL (Sc.stab _) b6 (le_ b6);replace c:=c.ext b6;have h3:=h2.trans b6;obtain ⟨tY,nC,g⟩:=bsi g;refine wsc V (by kernel_rfl) V V (zb5 (x:=aI) (u:=B) (q:=kX) [aI,N] d V T29 V V c nX cQ rX.symm nC ?_);intro eJ c1 kY vV qQ hL jA dK iI;replace e:=(e.lift (le_ b6)).lift iI;have rY:Nq N eJ:=a5.nxt k3.symm jA;replace a5:=a5.other (Sc.stab _) hL k3.symm iI;have lJ:=h3.grown hL s;have pH:=Nw.nxt h3 s jA;have s0:Nq N c1:=OwD.relist dK rY rW
      have pI:Nw w0 c1:=fun b h=>(dK b h).elim (pH b) (pF b)
      replace e:=e.lift (Lift.sub (show ∀ b,Av (aI::N::eJ::d) b->Av (N::c1::d) b from fun _ a=>⟨a.2.1,(fun i=>(dK _ i).elim a.2.2.1 a.1),a.2.2.2⟩));replace a5:=a5.weak (Sc.stab _) (show ∀ b,Av (aI::N::eJ::d) b->Av (N::c1::d) b from fun _ a=>⟨a.2.1,(fun i=>(dK _ i).elim a.2.2.1 a.1),a.2.2.2⟩);refine sa V V (zan (v:=N) V V)<|sa V V (zan (v:=kY) V V)<|zaw<|zf2<|bk_n<|W_th<|W_rg<|wa V (zam V U V)<|mv (i64 (wI (y.2.2+1))) V V<|zah<|?_;obtain rfl:=osi g;exact ⟨_,rfl,N,kY,c1,Q,W,X,rfl,rfl,S,T,rfl,Y,lJ,a5,pE,qQ,pI,s0,e⟩
     trivial
    trivial
   replace g:=(if_neg (ne_true_of_eq_false fL)).symm.trans g;refine zad<|bk_n<|W_th<|W_rg<|wa V (zam V U V)<|mv (i64 (wI (y.2.2+1))) V V<|zah<|?_;obtain rfl:=osi g;exact ⟨_,rfl,m,B,f,Q,W,X,kB,kC,S,T,rfl,Y,hP,j,t,c,s,w,e⟩
  refine zaz<|th_x<|?_;obtain rfl:=osi g;obtain rfl:=nM _ rfl;refine th_x<|bk_x<|?_;exact ⟨m,B,f,bM,e6,e5,bC,bH,dP,dT,dQ,dW⟩
 rintro _ vW ⟨e8,e9,lA,sE,sF,sD,mE,pZ,o4,qB,oR,qZ⟩;refine W_th<|W_sr<|mv e8 V sE<|mv e9 V sF<|av e8 V V<|av e9 V V<|wnt<|W_ret ?_;obtain rfl:=osi bA;refine rt2 e8 e9 V V V V V sD ?_;exact ⟨e8,e9,lA,rfl,mE,o4,pZ.weak (Sc.stab _) (fun _ _=>trivial),oR,qB,qZ⟩
noncomputable def zd9 (v:Int) (w:Int) (x:Int) (y:Int) (l:List UInt8) (p:List UInt8) (q:List UInt8) (g:List UInt8) (d:Int):Option Bool :=
(((zc6).bind fun a3 =>
(if (!a3)=true then
((zc6).bind fun a6 => some (.inr a6))
else
(if 500<(l.length:Int) then
((zc6).bind fun a7 => some (.inr a7))
else
(if 500<(p.length:Int) then
((zc6).bind fun U => some (.inr U))
else
(if 20<(q.length:Int) then
((zc6).bind fun Y => some (.inr Y))
else
(if 600<(g.length:Int) then
((zc6).bind fun a2 => some (.inr a2))
else some (.inl ()))))))).bind (Sum.elim (fun aE =>
((law17_Of v w x y).bind fun a =>
((lenA 4 (List.replicate 4 (0:Int))).bind fun aA =>
((lenA 4 a).bind fun aB =>
((field_New).bind fun u =>
((lenA 4 a).bind fun aC =>
((zd6 l).bind fun a4 =>
((zfw a p).bind fun a5 =>
((zb3 a u a4 a5).bind fun o =>
(if o.2=0 then
((idx a 1).bind fun F =>
((zfx o.1 q F).bind fun f =>
((idx a 1).bind fun G =>
((divI (wI ((wI ((f.1.length:Int) - G))+1)) 2).bind fun b =>
((nz (UInt64.ofInt (wI (b+1)))).bind fun aD =>
((idx a 3).bind fun e =>
((iterC (fun s50:List (List UInt8)×Int =>
(if s50.2<(if e<(wI (((UInt64.ofInt d) % (UInt64.ofInt (wI (b+1)))).toNat:Int)) then e else (wI (((UInt64.ofInt d) % (UInt64.ofInt (wI (b+1)))).toNat:Int))) then
((idx s50.1 s50.2).bind fun H =>
((appL ([]:List UInt8) H).bind fun I =>
((iterC (fun s71:List (List UInt8)×Int =>
(if s71.2<(g.length:Int) then
((idx g s71.2).bind fun J =>
((idx s71.1 s50.2).bind fun K =>
(if s71.2<(K.length:Int) then
((idx s71.1 s50.2).bind fun r =>
((idx r s71.2).bind fun L => some (.inl (s71.1.set (s50.2:Int).toNat (r.set (s71.2:Int).toNat (L^^^J)),wI (s71.2+1)))))
else some (.inl (s71.1,wI (s71.2+1))))))
else some (.inr s71.1))) (s50.1.set (s50.2:Int).toNat I,0)).bind fun k =>
((idx k s50.2).bind fun h =>
((idx h 0).bind fun m =>
(if 0<(g.length:Int) then
((idx (k.set (s50.2:Int).toNat (h.set (0:Int).toNat (m^^^(1:UInt8)))) s50.2).bind fun s =>
((idx s 0).bind fun M =>
((idx g 0).bind fun N => some (.inl (((k.set (s50.2:Int).toNat (h.set (0:Int).toNat (m^^^(1:UInt8)))).set (s50.2:Int).toNat (s.set (0:Int).toNat (M^^^N))),wI (s50.2+1))))))
else some (.inl (k.set (s50.2:Int).toNat (h.set (0:Int).toNat (m^^^(1:UInt8))),wI (s50.2+1)))))))))
else some (.inr s50.1))) (f.2,0)).bind fun a8 =>
((lenA 4 a).bind fun a9 =>
((za6 a u f.1 a8).bind fun c =>
(((idx a 1).bind fun z =>
(if (wI ((f.1.length:Int) - z))<(wI (2 * (if e<(wI (((UInt64.ofInt d) % (UInt64.ofInt (wI (b+1)))).toNat:Int)) then e else (wI (((UInt64.ofInt d) % (UInt64.ofInt (wI (b+1)))).toNat:Int))))) then
(if c.2=11 then some (.inr c.1.isNone)
else some (.inl ()))
else some (.inl ()))).bind (Sum.elim (fun aF =>
(if c.2=0 then
((zdh c.1).bind fun n =>
((if n.2=11 then
((idx a 1).bind fun A =>
(if (wI ((f.1.length:Int) - A))<(wI (2 * (if e<(wI (((UInt64.ofInt d) % (UInt64.ofInt (wI (b+1)))).toNat:Int)) then e else (wI (((UInt64.ofInt d) % (UInt64.ofInt (wI (b+1)))).toNat:Int))))) then some (.inr true)
else some (.inl ())))
else some (.inl ())).bind (Sum.elim (fun aG =>
((if n.2=0 then
((zd6 l).bind fun W =>
(if n.1=W then
((zex c.1).bind fun X =>
(if (X.length:Int)=(if e<(wI (((UInt64.ofInt d) % (UInt64.ofInt (wI (b+1)))).toNat:Int)) then e else (wI (((UInt64.ofInt d) % (UInt64.ofInt (wI (b+1)))).toNat:Int))) then some (.inl ())
else some (.inr false)))
else some (.inr false)))
else some (.inr false)).bind (Sum.elim (fun aH =>
((zex c.1).bind fun t =>
((iterC (fun i:Int =>
(if i<(t.length:Int) then
((idx t i).bind fun B =>
((idx f.1 i).bind fun C =>
(if B=C then some (.inl (wI (i+1)))
else some (.inr (.inr false)))))
else some (.inr (.inl ())))) 0).bind (Sum.elim (fun aI =>
((iterC (fun j:Int =>
((idx a 2).bind fun D =>
(if j<=D then
((idx o.1 (wI (j - 1))).bind fun E =>
((zda c.1 j).bind fun Z =>
(if Z=E then some (.inl (wI (j+1)))
else some (.inr (.inr false)))))
else some (.inr (.inl ()))))) 1).bind (Sum.elim (fun aJ =>
((zda c.1 0).bind fun a0 =>
((zda c.1 256).bind fun a1 => some (decide (wI ((a0.length:Int)+(a1.length:Int))=0))))) (fun T=>some T)))) (fun S=>some S))))) (fun R=>some R)))) (fun Q=>some Q))))
else some false)) (fun P=>some P))))))))))))
else some false)))))))))) (fun O=>some O)))
theorem law17_StripeTells_calls (aN:Int) (aO:Int) (aP:Int) (aQ:Int) (aR:List UInt8) (b7:List UInt8) (b8:List UInt8) (bR:List UInt8) (g:Int) (F:Value) (aD:Value) (aE:Value) (S:Value) (g4:Bool) (w0:World) (dG:By w0 [] F aR) (fK:By w0 [] aD b7) (fL:By w0 [] aE b8) (a6:By w0 [] S bR) (c:zd9 aN aO aP aQ aR b7 b8 bR g=some g4) :
  Calls Tryz.prog 3 [i64 aN,i64 aO,i64 aP,i64 aQ,F,aD,aE,S,i64 g].toArray w0 (fun a5 lW=>a5=.returned (.bool g4)/\Ext w0 lW):=by
 have iG:Ext w0 w0:=Ext.refl w0;unfold zd9 at c;refine zai (n:=260) Tryz.func3 V V V<|W_sr<|av (.bool false) V V<|wnt<|W_seq<|?_;obtain ⟨mC,h,c⟩:=bsi c;refine W_mid (fun a d=>∃ g7,mC=.inl g7/\a 0=i64 aN/\a 1=i64 aO/\a 2=i64 aP/\a 3=i64 aQ/\a 4=F/\a 5=aD/\a 6=aE/\a 7=S/\a 8=i64 g/\a 260=undef/\Ext w0 d) ?_ ?_
 ·refine W_sr<|?_;obtain ⟨g6,jB,h⟩:=bsi h;refine wls V V (zab (vs:=[]) Tryz.func6 V V V (ar0) (zcm   g6 _  jB) ?_);rintro _ nX ⟨rfl,mM⟩;refine ⟨_,rfl,?_⟩;have T:=iG.trans mM;refine wa V (q_not V V)<|wlb V V (za5 (v:=(.bool (!g6))) V V) (fun dC=>?_) (fun dC=>?_)
  ·replace h:=(if_pos dC).symm.trans h;refine wk V<|wk V<|wk V<|wa V (zaq (v:=(.bool true)) V V V)<|mv (.bool true) V V<|wk V<|wk V<|wk V<|?_;refine wa V (zaq (v:=(.bool true)) V V V)<|mv (.bool true) V V<|wk V<|wk V<|wk V<|wa V (zaq (v:=(.bool true)) V V V)<|mv (.bool true) V V<|wk V<|wk V<|wk V<|wa V (zaq (v:=(.bool true)) V V V)<|wnt<|zak true V V (fun _=>?_) (fun J=>by cases J);refine W_sr<|?_;obtain ⟨e3,jI,h⟩:=bsi h;refine wls V V (zab (vs:=[]) Tryz.func6 V V V (ar0) (zcm   e3 _  jI) ?_);rintro _ o1 ⟨rfl,mP⟩;refine ⟨_,rfl,?_⟩;have i6:=T.trans mP;refine av (.bool e3) V V<|wnt<|W_ret<|?_;obtain rfl:=osi h;simp only [Sum.elim_inr] at c;refine th_r<|th_r<|?_;obtain rfl:=osi c;refine rt1 (.bool e3) V V V V ?_;exact ⟨rfl,i6⟩
  replace h:=(if_neg (ne_true_of_eq_false dC)).symm.trans h;refine mv F V V<|wa V (q_len V T22.sl V (dG.lift (le_ T)))<|wa V (q_gtI V V V)<|wa V (zap (v:=(.bool (decide (500<(aR.length:Int))))) V V V)<|wlb V V (za5 (v:=(.bool (decide (500<(aR.length:Int))))) V V) (fun dE=>?_) (fun dE=>?_)
  ·replace h:=ifp dE h;refine wk V<|wk V<|wk V<|wa V (zaq (v:=(.bool true)) V V V)<|mv (.bool true) V V<|wk V<|wk V<|wk V<|?_;refine wa V (zaq (v:=(.bool true)) V V V)<|mv (.bool true) V V<|wk V<|wk V<|wk V<|wa V (zaq (v:=(.bool true)) V V V)<|wnt<|zak true V V (fun _=>?_) (fun J=>by cases J);refine W_sr<|?_;obtain ⟨e4,jL,h⟩:=bsi h;refine wls V V (zab (vs:=[]) Tryz.func6 V V V (ar0) (zcm   e4 _  jL) ?_);rintro _ o7 ⟨rfl,mR⟩;refine ⟨_,rfl,?_⟩;have i9:=T.trans mR;refine av (.bool e4) V V<|wnt<|W_ret<|?_;obtain rfl:=osi h;simp only [Sum.elim_inr] at c;refine th_r<|th_r<|?_;obtain rfl:=osi c;refine rt1 (.bool e4) V V V V ?_;exact ⟨rfl,i9⟩
  replace h:=ifn dE h;refine mv aD V V<|wa V (q_len V T22.sl V (fK.lift (le_ T)))<|wa V (q_gtI V V V)<|wa V (zap (v:=(.bool (decide (500<(b7.length:Int))))) V V V)<|wlb V V (za5 (v:=(.bool (decide (500<(b7.length:Int))))) V V) (fun d3=>?_) (fun d3=>?_)
  ·replace h:=ifp d3 h;refine wk V<|wk V<|wk V<|wa V (zaq (v:=(.bool true)) V V V)<|mv (.bool true) V V<|wk V<|wk V<|wk V<|wa V (zaq (v:=(.bool true)) V V V)<|wnt<|zak true V V (fun _=>?_) (fun J=>by cases J);refine W_sr<|?_;obtain ⟨dX,j1,h⟩:=bsi h;refine wls V V (zab (vs:=[]) Tryz.func6 V V V (ar0) (zcm   dX _  j1) ?_);rintro _ nP ⟨rfl,mE⟩;refine ⟨_,rfl,?_⟩;have hU:=T.trans mE;refine av (.bool dX) V V<|wnt<|W_ret<|?_;obtain rfl:=osi h;simp only [Sum.elim_inr] at c;refine th_r<|th_r<|?_;obtain rfl:=osi c;refine rt1 (.bool dX) V V V V ?_;exact ⟨rfl,hU⟩
  replace h:=ifn d3 h;refine mv aE V V<|wa V (q_len V T22.sl V (fL.lift (le_ T)))<|wa V (q_gtI V V V)<|wa V (zap (v:=(.bool (decide (20<(b8.length:Int))))) V V V)<|wlb V V (za5 (v:=(.bool (decide (20<(b8.length:Int))))) V V) (fun d9=>?_) (fun d9=>?_)
  ·replace h:=ifp d9 h;refine wk V<|wk V<|wk V<|wa V (zaq (v:=(.bool true)) V V V)<|wnt<|zak true V V (fun _=>?_) (fun J=>by cases J);refine W_sr<|?_;obtain ⟨dZ,j6,h⟩:=bsi h;refine wls V V (zab (vs:=[]) Tryz.func6 V V V (ar0) (zcm   dZ _  j6) ?_);rintro _ nT ⟨rfl,mJ⟩;refine ⟨_,rfl,?_⟩;have hX:=T.trans mJ;refine av (.bool dZ) V V<|wnt<|W_ret<|?_;obtain rfl:=osi h;simp only [Sum.elim_inr] at c;refine th_r<|th_r<|?_;obtain rfl:=osi c;refine rt1 (.bool dZ) V V V V ?_;exact ⟨rfl,hX⟩
  replace h:=ifn d9 h;refine mv S V V<|wa V (q_len V T22.sl V (a6.lift (le_ T)))<|wa V (q_gtI V V V)<|wa V (zap (v:=(.bool (decide (600<(bR.length:Int))))) V V V)<|wnt<|wci h V V (fun h=>?_) (fun h=>?_)
  ·refine W_sr<|?_;obtain ⟨e0,jA,h⟩:=bsi h;refine wls V V (zab (vs:=[]) Tryz.func6 V V V (ar0) (zcm   e0 _  jA) ?_);rintro _ nV ⟨rfl,mL⟩;refine ⟨_,rfl,?_⟩;have i0:=T.trans mL;refine av (.bool e0) V V<|wnt<|W_ret<|?_;obtain rfl:=osi h;simp only [Sum.elim_inr] at c;refine th_r<|th_r<|?_;obtain rfl:=osi c;refine rt1 (.bool e0) V V V V ?_;exact ⟨rfl,i0⟩
  refine zad ?_;obtain rfl:=osi h;exact ⟨_,rfl,rfl,rfl,rfl,rfl,rfl,rfl,rfl,rfl,rfl,rfl,T⟩
 rintro _ nW ⟨g7,rfl,l3,l7,lK,lP,hA,lR,lS,lT,lU,gY,iM⟩;simp only [Sum.elim_inl] at c;refine W_th<|W_sr<|mv (i64 aN) V l3<|mv (i64 aO) V l7<|mv (i64 aP) V lK<|mv (i64 aQ) V lP<|?_;obtain ⟨C,jC,c⟩:=bsi c;refine wls V V (zab (vs:=[i64 aN,i64 aO,i64 aP,i64 aQ]) Tryz.func7 V V V (ar4 V V V V) (law17_Of_calls aN aO aP aQ  C _  jC) ?_);rintro _ nY ⟨rfl,mN⟩;refine ⟨_,rfl,?_⟩;have f3:=iM.trans mN;refine wls V V (sal i64 (List.replicate 4 (0:Int)) [] V Z25 ?_);intro b nZ kO k7 iB nC;have mO:=zaa iB;have fY:=Nw.ext f3 k7;have i1:=f3.trans mO;obtain ⟨mX,iS,c⟩:=bsi c;obtain ⟨mY,iT,c⟩:=bsi c;refine wln V V (stp_storeG [] [] V G25 V V (zag iS) (zag iT) kO one_i64 ?_);intro o0 t iC nD;have i2:=i1.grown iC fY;refine wnt<|W_sr<|?_;obtain ⟨aF,jD,c⟩:=bsi c;refine wls V V (zab (vs:=[]) Tryz.func8 V V V (ar0) (zgr   aF _ [bp b] (Old.cons (Old.nil _) t.ltB)  jD) ?_);rintro _ m6 ⟨H,rfl,hK,M⟩;refine ⟨_,rfl,?_⟩;have i3:=i2.trans hK;refine av H V V<|wnt<|W_seq<|zbi [0,4] [(0,1),(1,0),(2,0),(4,1),(5,0),(3,2),(6,2),(7,2),(8,0),(9,0),(10,0),(11,0),(12,0)] mixed (by kernel_rfl) (by kernel_rfl) (by kernel_rfl) (by kernel_rfl) ?_;have eU:=Ext.drew m6;replace M:=M.lift (le_ eU);replace t:=(t.ext hK).ext eU;have f4:=i3.trans eU;obtain ⟨mZ,fH,c⟩:=bsi c;refine sq V V (zet (m:=0) V G25 V t (zaj _ _) (zag fH))<|sv H V V V<|sv F V V hA<|sq V V (zet (m:=0) V G25 V t (zaj _ _) (zag fH))<|sv aD V V lR<|?_;obtain ⟨e1,jE,c⟩:=bsi c;refine wss V V V (zab (vs:=[F]) Tryz.func10 V V V (ar1 V) (zc9 aR F e1 _ (dG.lift (le_ f4)) jE) ?_);rintro _ m7 ⟨cO,rfl,cS,k8,kP⟩;refine ⟨_,rfl,cS,?_⟩;have dL:By m7 [bp b] cO e1:=OwK.slk (Sc.stab _) _ (OwK.scal kP (cO::[bp b])) (fun f s=>(Old.cons (Old.nil _) t.ltB) f (k8 f s)) (fun _ e=>e.2);replace M:=M.lift (le_ cS)
 replace t:=t.ext cS;have f5:=f4.trans cS;obtain ⟨e2,jF,c⟩:=bsi c;refine wss V V V (zab (vs:=[ag i64 C,aD]) Tryz.func11 V V V (ar2 V V) (law17_Random_calls C b7 aD e2 _ (fK.lift (le_ f5)) jF) ?_);rintro _ m8 ⟨cP,rfl,bP,k9,kQ⟩;refine ⟨_,rfl,bP,?_⟩;have jV:By m8 [bp b] cP e2:=OwK.slk (Sc.stab _) _ (OwK.scal kQ (cP::[bp b])) (fun f s=>(Old.cons (Old.nil _) t.ltB) f (k9 f s)) (fun _ e=>e.2);replace M:=M.lift (le_ bP);replace dL:=dL.lift (le_ bP);replace t:=t.ext bP;have i4:=f5.trans bP;obtain ⟨G,jG,c⟩:=bsi c;refine wsc V (by kernel_rfl) V V (zab (vs:=[ag i64 C,H,cO,cP]) Tryz.func9 V V V (ar4 V V V V) (zc5 C aF e1 e2 H cO cP G _ [bp b] (Old.cons (Old.nil _) t.ltB) (M.lift (Lift.sub (L':=[]) (fun _ _=>trivial))) (dL.lift (Lift.sub (L':=[]) (fun _ _=>trivial))) (jV.lift (Lift.sub (L':=[]) (fun _ _=>trivial))) jG) ?_);rintro _ m9 ⟨p,rfl,eV,kA,kR⟩;refine ⟨_,rfl,?_⟩;have c4:Rw m9 [bp b] p G.1:=OwK.slk (SlK.stab (Sc.stab _)) _ kR (fun f s=>(Old.cons (Old.nil _) t.ltB) f (kA f s)) (fun _ e=>e.2);replace M:=M.lift (le_ eV);replace t:=t.ext eV;have bS:=i4.trans eV;refine sv (.tuple #[p,i64 G.2]) V V V<|sa V V (zaf V V V)<|sa V V (zaf V V V)<|sa V V (zan (v:=p) V V)<|sa V V (zan (v:=i64 G.2) V V)<|zaw<|W_th<|W_seq<|W_sr<|mv (i64 G.2) V V<|wa V (q_neI V V V)<|wnt<|zak _ V V (fun dD=>?_) (fun dD=>?_)
 ·replace c:=(if_neg (zbf dD)).symm.trans c;refine W_sr<|av (.bool false) V V<|wnt<|W_ret<|th_r<|?_;obtain rfl:=osi c;refine rt1 (.bool false) V V V gY ?_;exact ⟨rfl,bS⟩
 replace c:=(if_pos (zbd dD)).symm.trans c;refine zad<|W_th<|W_sr<|mv p V V<|mv aE V lS<|bse c fun eY iU c=>wa V (zcu (j:=1) V ze6 V)<|wq V (zbg (m:=0) V G25 V t (zaj _ _) iU)<|?_;obtain ⟨y,jH,c⟩:=bsi c;refine wls V V (zab (vs:=[p,aE,i64 eY]) Tryz.func12 V V V (ar3 V V V) (law17_picked_calls G.1 b8 eY p aE y _ [bp b] (Old.cons (Old.nil _) t.ltB) (c4.lift (Lift.sub (L':=[]) (fun _ _=>trivial))) (fL.lift (le_ bS)) jH) ?_);rintro _ mA ⟨r,A,bQ,rfl,cT,kB,kS,c7,kY,kF⟩;refine ⟨_,rfl,?_⟩;have fS:In mA (bQ::[bp b]) r y.1:=OwK.slk (Sc.stab _) _ (OwK.scal kS (r::bQ::[bp b])) (fun f s=>⟨kF f s,(Old.cons (Old.nil _) t.ltB) f (kB f s)⟩) (fun _ e=>e.2);have kZ:Nq (bp b) bQ:=t.nq c7;replace M:=M.lift (Lift.call _ cT c7);replace c4:=c4.lift (Lift.call _ cT c7);replace t:=t.ext cT;have kC:=Nw.ext bS c7;have i5:=bS.trans cT;refine mv (.tuple #[r,A]) V V<|wa V (zaf V V V)<|wa V (zaf V V V)<|av r V V<|av A V V<|wnt<|W_sr<|mv r V V<|wa V (q_len V T35.sl V fS)<|av (i64 (y.1.length:Int)) V V<|wnt<|W_sr<|mv (i64 g) V lU<|wa V (zfl V V V V)<|mv (i64 (y.1.length:Int)) V V ?_;obtain ⟨n0,iV,c⟩:=bsi c;refine wa V (zcu (j:=1) V ze6 V)<|wq V (zbg (m:=0) V G25 V t (zaj _ _) iV)<|wa V (zbn V V V)<|wa V (zam V V V)<|bse c fun k iW c=>wa V (q_divI V V V iW)<|wa V (zam V V V)<|wa V (zfl V V V V)<|bse c fun n1 iX c=>wa V (q_rem64 V V V (nz_ne iX))<|wa V (q_cvtI64 V V V V)<|av (i64 (wI (((UInt64.ofInt g) % (UInt64.ofInt (wI (k+1)))).toNat:Int))) V V<|?_
 refine wnt<|W_sr<|mv (i64 (wI (((UInt64.ofInt g) % (UInt64.ofInt (wI (k+1)))).toNat:Int))) V V<|bse c fun o iY c=>wa V (zcu (j:=3) V fieldS3 V)<|wq V (zbg (m:=0) V G25 V t (zaj _ _) iY)<|wa V (q_minI V V V)<|av (i64 (if o<(wI (((UInt64.ofInt g) % (UInt64.ofInt (wI (k+1)))).toNat:Int)) then o else (wI (((UInt64.ofInt g) % (UInt64.ofInt (wI (k+1)))).toNat:Int)))) V V<|wnt<|W_seq<|W_sr<|mv (i64 (if o<(wI (((UInt64.ofInt g) % (UInt64.ofInt (wI (k+1)))).toNat:Int)) then o else (wI (((UInt64.ofInt g) % (UInt64.ofInt (wI (k+1)))).toNat:Int)))) V V<|mv (i64 0) V V<|wnt<|?_;obtain ⟨hL,hR,c⟩:=bsi c;refine W_mid (fun a d=>∃ aJ:Value,a 4=F/\a 19=bp b/\a 20=H/\a 21=p/\a 23=r/\a 24=A/\a 25=i64 (y.1.length:Int)/\a 26=i64 (if o<(wI (((UInt64.ofInt g) % (UInt64.ofInt (wI (k+1)))).toNat:Int)) then o else (wI (((UInt64.ofInt g) % (UInt64.ofInt (wI (k+1)))).toNat:Int)))/\a 260=undef/\Ext w0 d/\OwD d 22 5 aJ A hL/\Nw w0 aJ/\Blk d b 25 (ac i64 C)/\Nw w0 (bp b)/\Nq aJ (bp b)/\Fd d [aJ,bp b] H aF/\Rw d [aJ,bp b] p G.1/\In d [aJ,bp b] r y.1) ?_ ?_
 ·refine zac<|za4 (fun D a d=>∃ aI:Value,a 4=F/\a 7=S/\a 19=bp b/\a 20=H/\a 21=p/\a 23=r/\a 24=A/\a 25=i64 (y.1.length:Int)/\a 26=i64 (if o<(wI (((UInt64.ofInt g) % (UInt64.ofInt (wI (k+1)))).toNat:Int)) then o else (wI (((UInt64.ofInt g) % (UInt64.ofInt (wI (k+1)))).toNat:Int)))/\a 105=i64 (if o<(wI (((UInt64.ofInt g) % (UInt64.ofInt (wI (k+1)))).toNat:Int)) then o else (wI (((UInt64.ofInt g) % (UInt64.ofInt (wI (k+1)))).toNat:Int)))/\a 106=i64 D.2/\a 260=undef/\Ext w0 d/\OwD d 22 5 aI A D.1/\Nw w0 aI/\Blk d b 25 (ac i64 C)/\Nw w0 (bp b)/\Nq aI (bp b)/\Fd d [aI,bp b] H aF/\Rw d [aI,bp b] p G.1/\In d [aI,bp b] r y.1) hR ?_ ?_
  ·exact ⟨bQ,hA,lT,rfl,rfl,rfl,rfl,rfl,rfl,rfl,rfl,rfl,gY,i5,kY,kC,t,fY,kZ.symm,M,c4,fS⟩
  rintro D _ _ o2 ⟨Z,hB,hD,gG,gI,gO,gU,cH,gW,h1,g9,e6,gZ,d2,N,dT,a4,fW,dW,a0,a1,a3⟩ q jJ;refine W_sr<|wa V (q_ltI V e6 g9)<|wnt<|W_seq<|wci q V V (fun q=>?_) (fun q=>?_)
  ·refine zad<|W_th<|W_seq<|zac<|W_sr<|mv (i64 D.2) V e6<|av (i64 D.2) V V<|wnt<|W_sr<|mv A V cH<|mv (i64 D.2) V V<|wls V V (zax (L:=[Z,bp b]) (R:=Sc u8) [] ([]:List UInt8) V T22 V (by exact trivial) V (litC u8 zbx (us:=[]) (l:=([]:List UInt8)) V) V (litS u8 (us:=[]) (l:=([]:List UInt8)) V) ?_);intro eT o3 kT aY iD nE;have b5:=zaa iD;have g2:Nq Z eT:=N.nq aY;have g3:Nq (bp b) eT:=a4.nq aY;replace N:=N.ext b5;replace a4:=a4.ext b5;have fZ:=Nw.ext d2 aY;have f6:=d2.trans b5;refine mv A V cH<|mv (i64 D.2) V V<|bse q fun n2 bB q=>wa V (q_adr V T29 V V N.rd bB)<|wlq_loadD V V V T29 V N bB (fun lV iE=>?_);obtain ⟨n3,iZ,q⟩:=bsi q;refine wls V V (zar (R:=Sc u8) (v:=eT) (u:=lV) (Sc.stab _) [] [Z,bp b] V T22 V V kT (OwD.rowrd N iE bB) (fun _ _ e=>e) iZ oc_u8 ?_);intro aH o4 kU d0 dV dO;replace a0:=(a0.lift (Lift.call _ b5 aY)).lift dO;replace a1:=(a1.lift (Lift.call _ b5 aY)).lift dO;replace a3:=(a3.lift (Lift.call _ b5 aY)).lift dO;have l0:Nq Z aH:=N.nxt g2 dV;have l1:Nq (bp b) aH:=a4.nxt g3 dV;replace N:=N.other d0 g2;have i7:=f6.grown d0 fZ;have kD:=Nw.nxt f6 fZ dV;refine wa V (q_adr V T29 V V N.rd bB)<|wln V V (stp_storeRow (x:=aH) [aH] [bp b] V T29 V V N bB kU l0.symm ?_);intro aM o5 kV f8 bA dP;replace a0:=a0.lift dP;replace a1:=a1.lift dP;replace a3:=a3.lift dP;replace a4:=(a4.other d0 g3).other f8 dW.symm;have f7:=i7.grown f8 dT;have l2:Nq (bp b) aM:=OwD.relist bA dW.symm l1
   have kE:Nw w0 aM:=fun f s=>(bA f s).elim (dT f) (kD f)
   replace a0:=a0.lift (Lift.sub (show ∀ f,Av [aH,Z,bp b] f->Av [aM,bp b] f from fun _ e=>⟨(fun a5=>(bA _ a5).elim e.2.1 e.1),e.2.2.1,trivial⟩));replace a1:=a1.lift (Lift.sub (show ∀ f,Av [aH,Z,bp b] f->Av [aM,bp b] f from fun _ e=>⟨(fun a5=>(bA _ a5).elim e.2.1 e.1),e.2.2.1,trivial⟩));replace a3:=a3.lift (Lift.sub (show ∀ f,Av [aH,Z,bp b] f->Av [aM,bp b] f from fun _ e=>⟨(fun a5=>(bA _ a5).elim e.2.1 e.1),e.2.2.1,trivial⟩));refine wnt<|W_seq<|W_sr<|mv S V hD<|wa V (q_len V T22.sl V (a6.lift (le_ f7)))<|mv (i64 0) V V<|wnt<|?_;obtain ⟨mQ,hS,q⟩:=bsi q;refine W_mid (fun a d=>∃ aL:Value,a 4=F/\a 7=S/\a 19=bp b/\a 20=H/\a 21=p/\a 23=r/\a 24=A/\a 25=i64 (y.1.length:Int)/\a 26=i64 (if o<(wI (((UInt64.ofInt g) % (UInt64.ofInt (wI (k+1)))).toNat:Int)) then o else (wI (((UInt64.ofInt g) % (UInt64.ofInt (wI (k+1)))).toNat:Int)))/\a 27=i64 D.2/\a 105=i64 (if o<(wI (((UInt64.ofInt g) % (UInt64.ofInt (wI (k+1)))).toNat:Int)) then o else (wI (((UInt64.ofInt g) % (UInt64.ofInt (wI (k+1)))).toNat:Int)))/\a 106=i64 D.2/\a 260=undef/\Ext w0 d/\OwD d 22 5 aL A mQ/\Nw w0 aL/\Blk d b 25 (ac i64 C)/\Nw w0 (bp b)/\Nq aL (bp b)/\Fd d [aL,bp b] H aF/\Rw d [aL,bp b] p G.1/\In d [aL,bp b] r y.1) ?_ ?_
   ·refine zac<|za4 (fun Y a d=>∃ aK:Value,a 4=F/\a 7=S/\a 19=bp b/\a 20=H/\a 21=p/\a 23=r/\a 24=A/\a 25=i64 (y.1.length:Int)/\a 26=i64 (if o<(wI (((UInt64.ofInt g) % (UInt64.ofInt (wI (k+1)))).toNat:Int)) then o else (wI (((UInt64.ofInt g) % (UInt64.ofInt (wI (k+1)))).toNat:Int)))/\a 27=i64 D.2/\a 105=i64 (if o<(wI (((UInt64.ofInt g) % (UInt64.ofInt (wI (k+1)))).toNat:Int)) then o else (wI (((UInt64.ofInt g) % (UInt64.ofInt (wI (k+1)))).toNat:Int)))/\a 106=i64 D.2/\a 118=S/\a 119=i64 (bR.length:Int)/\a 120=i64 Y.2/\a 260=undef/\Ext w0 d/\OwD d 22 5 aK A Y.1/\Nw w0 aK/\Blk d b 25 (ac i64 C)/\Nw w0 (bp b)/\Nq aK (bp b)/\Fd d [aK,bp b] H aF/\Rw d [aK,bp b] p G.1/\In d [aK,bp b] r y.1) hS ?_ ?_
    ·exact ⟨aM,hB,hD,gG,gI,gO,gU,cH,gW,h1,rfl,g9,e6,rfl,rfl,rfl,gZ,f7,kV,kE,a4,fW,l2.symm,a0,a1,a3⟩
    rintro Y _ _ o6 ⟨cU,eR,eS,eB,eC,eD,eF,bJ,eH,eO,bK,e5,e7,e8,e9,bI,eL,b9,Q,c5,bH,dU,c9,bC,bD,bG⟩ B jK;refine W_sr<|wa V (q_ltI V bI e9)<|wnt<|W_seq<|wci B V V (fun B=>?_) (fun B=>?_)
    ·refine zad<|W_th<|W_seq<|zac<|W_sr<|mv (i64 Y.2) V bI<|bse B fun eZ fI B=>wa V (q_adr V T22 e8 bI (a6.lift (le_ b9)) fI)<|wq V (zav V T22 V (a6.lift (le_ b9)) fI)<|av (i64 Y.2) V V<|av (u8 eZ) V V<|wnt<|W_sr<|mv (i64 Y.2) V V<|?_;refine mv A V bJ<|mv (i64 D.2) V bK<|bse B fun n4 dF B=>wa V (q_adr V T29 V V Q.rd dF)<|wlq_loadD V V V T29 V Q dF (fun nI iF=>?_);refine wa V (q_len V T22.sl V (OwD.rowrd Q iF dF))<|wa V (q_ltI V V V)<|wnt<|wci B V V (fun B=>?_) (fun B=>?_)
     ·refine W_rg<|mv A V bJ<|mv (i64 D.2) V bK<|bse B fun n5 aS B=>wa V (q_adr V T29 V V Q.rd aS)<|wlq_loadD V V V T29 V Q aS (fun nJ bT=>?_);refine mv (i64 Y.2) V V ?_;obtain ⟨n6,bW,B⟩:=bsi B;refine wa V (q_adr V T22 V V (OwD.rowrd Q bT aS) bW)<|wq V (zav V T22 V (OwD.rowrd Q bT aS) bW)<|mv (u8 eZ) V V<|wa V (zhl V V V)<|wa V (q_adr V T22 V V (OwD.rowrd Q bT aS) bW)<|wln V V (stp_storeD [] [bp b] V T22 V V Q bT aS bW ?_);intro o8 kW f9 dQ;replace bC:=bC.lift dQ;replace bD:=bD.lift dQ;replace bG:=bG.lift dQ;replace bH:=bH.other f9 c9.symm;have i8:=b9.grown f9 c5;refine zah<|bk_n<|W_th<|W_rg<|wa V (zam V bI V)<|mv (i64 (wI (Y.2+1))) V V<|zah<|?_;obtain rfl:=osi B;exact ⟨_,rfl,cU,eR,eS,eB,eC,eD,eF,bJ,eH,eO,bK,e5,e7,e8,e9,rfl,eL,i8,kW,c5,bH,dU,c9,bC,bD,bG⟩
     refine zad<|bk_n<|W_th<|W_rg<|wa V (zam V bI V)<|mv (i64 (wI (Y.2+1))) V V<|zah<|?_;obtain rfl:=osi B;exact ⟨_,rfl,cU,eR,eS,eB,eC,eD,eF,bJ,eH,eO,bK,e5,e7,e8,e9,rfl,eL,b9,Q,c5,bH,dU,c9,bC,bD,bG⟩
    refine zaz<|th_x<|?_;obtain rfl:=osi B;obtain rfl:=jK _ rfl;refine th_x<|bk_x<|?_;exact ⟨cU,eR,eS,eB,eC,eD,eF,bJ,eH,eO,bK,e5,e7,eL,b9,Q,c5,bH,dU,c9,bC,bD,bG⟩
   rintro _ o9 ⟨eW,hC,cM,gH,gJ,gP,gV,cI,gX,h2,h3,gA,gB,h0,iN,b0,c6,b1,fX,cA,aV,aW,aX⟩;refine W_th<|W_sr<|mv A V cI<|mv (i64 D.2) V h3<|bse q fun n7 aT q=>wa V (q_adr V T29 V V b0.rd aT)<|wlq_loadD V V V T29 V b0 aT (fun nK bU=>?_);obtain ⟨n8,bX,q⟩:=bsi q;refine wa V (q_adr V T22 V V (OwD.rowrd b0 bU aT) bX)<|wq V (zav V T22 V (OwD.rowrd b0 bU aT) bX)<|wa V (zhl V V (cst8 (1:UInt8) V))<|wa V (q_adr V T22 V V (OwD.rowrd b0 bU aT) bX)<|wln V V (stp_storeD [] [bp b] V T22 V V b0 bU aT bX ?_);intro mB W fA dR;replace aV:=aV.lift dR;replace aW:=aW.lift dR;replace aX:=aX.lift dR;replace b1:=b1.other fA cA.symm;have cY:=iN.grown fA c6;refine wnt<|W_sr<|mv S V cM<|wa V (q_len V T22.sl V (a6.lift (le_ cY)))<|wa V (q_gtI V V V)<|wnt<|wci q V V (fun q=>?_) (fun q=>?_)
   ·refine zbi [3,5,8] [(0,0),(1,0),(2,0),(3,1),(4,0),(5,1),(6,0),(7,0),(8,1),(9,0),(10,0),(11,2)] mixed (by kernel_rfl) (by kernel_rfl) (by kernel_rfl) (by kernel_rfl) ?_;have b6:=Ext.drew mB;replace W:=W.ext b6;have cZ:=cY.trans b6;refine sv A V V cI<|sv (i64 D.2) V V h3<|bse q fun n9 aU q=>sa V V (q_adr V T29 V V W.rd aU)<|wsq_loadD V V V V T29 V W aU (fun nL bV=>?_);obtain ⟨nA,bY,q⟩:=bsi q;refine sa V V (q_adr V T22 V V (OwD.rowrd W bV aU) bY)<|sq V V (zav V T22 V (OwD.rowrd W bV aU) bY)<|sv S V V cM<|bse q fun nB fJ q=>sa V V (q_adr V T22 V V (a6.lift (le_ cZ)) fJ)<|sq V V (zav V T22 V (a6.lift (le_ cZ)) fJ)<|sa V V (zhl V V V)<|sa V V (q_adr V T22 V V (OwD.rowrd W bV aU) bY)<|wsn V (by kernel_rfl) V V (stp_storeD [] [bp b] V T22 V V W bV aU bY ?_);intro oA kX fB dS;replace aV:=(aV.lift (le_ b6)).lift dS;replace aW:=(aW.lift (le_ b6)).lift dS;replace aX:=(aX.lift (le_ b6)).lift dS;replace b1:=(b1.ext b6).other fB cA.symm;have iA:=cZ.grown fB c6;refine zaw<|bk_n<|W_th<|W_rg<|wa V (zam V gB V)<|mv (i64 (wI (D.2+1))) V V<|zah<|?_;obtain rfl:=osi q;exact ⟨_,rfl,eW,hC,cM,gH,gJ,gP,gV,cI,gX,h2,gA,rfl,h0,iA,kX,c6,b1,fX,cA,aV,aW,aX⟩
   refine zad<|bk_n<|W_th<|W_rg<|wa V (zam V gB V)<|mv (i64 (wI (D.2+1))) V V<|zah<|?_;obtain rfl:=osi q;exact ⟨_,rfl,eW,hC,cM,gH,gJ,gP,gV,cI,gX,h2,gA,rfl,h0,cY,W,c6,b1,fX,cA,aV,aW,aX⟩
  refine zaz<|th_x<|?_;obtain rfl:=osi q;obtain rfl:=jJ _ rfl;refine th_x<|bk_x<|?_;exact ⟨Z,hB,gG,gI,gO,gU,cH,gW,h1,gZ,d2,N,dT,a4,fW,dW,a0,a1,a3⟩
 rintro _ nM ⟨hQ,h8,cF,l8,gK,eE,lE,eG,eM,eI,iH,g0,nF,aC,fV,nG,jM,c1,bE⟩;refine W_th<|W_sr<|bse c fun mS iO c=>wq V (zet (m:=0) V G25 (by exact cF) aC (zaj _ _) (zag iO))<|mv H V l8<|mv r V eE<|mv A V lE<|?_;obtain ⟨w,j0,c⟩:=bsi c;refine wls V V (zab (vs:=[ag i64 C,H,r,A]) Tryz.func13 V V V (ar4 V V V V) (zhu C aF y.1 hL H r A w _ [hQ,bp b] (Old.cons (Old.cons (Old.nil _) aC.ltB) g0.ltB) jM (bE.lift (Lift.sub (L':=[]) (fun _ _=>trivial))) g0.rd j0) ?_);rintro _ nN ⟨i,rfl,cQ,dI⟩;refine ⟨_,rfl,?_⟩;replace c1:=c1.lift (le_ cQ);replace bE:=bE.lift (le_ cQ);replace aC:=aC.ext cQ;have cV:=iH.trans cQ;refine mv (.tuple #[i,i64 w.2]) V V<|wa V (zaf V V V)<|wa V (zaf V V V)<|av i V V<|av (i64 w.2) V V<|wnt<|W_seq<|?_;obtain ⟨mD,P,c⟩:=bsi c;refine W_mid (fun a d=>∃ g8,mD=.inl g8/\a 4=F/\a 19=bp b/\a 21=p/\a 23=r/\a 25=i64 (y.1.length:Int)/\a 26=i64 (if o<(wI (((UInt64.ofInt g) % (UInt64.ofInt (wI (k+1)))).toNat:Int)) then o else (wI (((UInt64.ofInt g) % (UInt64.ofInt (wI (k+1)))).toNat:Int)))/\a 30=i/\a 31=i64 w.2/\a 260=undef/\Ext w0 d/\Blk d b 25 (ac i64 C)/\Nw w0 (bp b)/\Rw d [bp b] p G.1/\In d [bp b] r y.1/\RcSt d [bp b] i w.1) ?_ ?_
 ·refine W_sr<|mv (i64 (if o<(wI (((UInt64.ofInt g) % (UInt64.ofInt (wI (k+1)))).toNat:Int)) then o else (wI (((UInt64.ofInt g) % (UInt64.ofInt (wI (k+1)))).toNat:Int)))) V eM<|wa V (zg1 V V V)<|mv (i64 (y.1.length:Int)) V eG<|bse P fun mT iP P=>wa V (zcu (j:=1) V ze6 (by exact cF))<|wq V (zbg (m:=0) V G25 V aC (zaj _ _) iP)<|wa V (zbn V V V)<|wa V (q_gtI V V V)<|wnt<|wci P V V (fun P=>?_) (fun P=>?_)
  ·refine W_sr<|mv (i64 w.2) V V<|wa V (q_eqI V V V)<|wnt<|wci P V V (fun P=>?_) (fun P=>?_)
   ·refine W_sr<|mv i V V<|wa V (q_eqRSt V V V V dI)<|av (.bool w.1.isNone) V V<|wnt<|W_ret<|?_;obtain rfl:=osi P;simp only [Sum.elim_inr] at c;refine th_r<|th_r<|?_;obtain rfl:=osi c;refine rt1 (.bool w.1.isNone) V V V eI ?_;exact ⟨rfl,cV⟩
   refine zad ?_;obtain rfl:=osi P;exact ⟨_,rfl,h8,cF,gK,eE,eG,eM,rfl,rfl,eI,cV,aC,fV,c1.lift (Lift.sub (fun _ e=>⟨e.2.1,trivial⟩)),bE.lift (Lift.sub (fun _ e=>⟨e.2.1,trivial⟩)),dI.lift (Lift.sub (fun _ e=>⟨e.2.1,trivial⟩))⟩
  refine zad ?_;obtain rfl:=osi P;exact ⟨_,rfl,h8,cF,gK,eE,eG,eM,rfl,rfl,eI,cV,aC,fV,c1.lift (Lift.sub (fun _ e=>⟨e.2.1,trivial⟩)),bE.lift (Lift.sub (fun _ e=>⟨e.2.1,trivial⟩)),dI.lift (Lift.sub (fun _ e=>⟨e.2.1,trivial⟩))⟩
 rintro _ nO ⟨g8,rfl,h9,eA,gL,gS,lF,eN,eP,lM,cJ,fC,aZ,fT,bZ,c2,bF⟩;simp only [Sum.elim_inl] at c;refine W_th<|W_seq<|W_sr<|mv (i64 w.2) V lM<|wa V (q_neI V V V)<|wnt<|zak _ V V (fun d4=>?_) (fun d4=>?_)
 ·replace c:=(if_neg (zbf d4)).symm.trans c;refine W_sr<|av (.bool false) V V<|wnt<|W_ret<|th_r<|?_;obtain rfl:=osi c;refine rt1 (.bool false) V V V cJ ?_;exact ⟨rfl,fC⟩
 replace c:=(if_pos (zbd d4)).symm.trans c;refine zad<|W_th<|W_sr<|mv i V eP<|?_;obtain ⟨O,j2,c⟩:=bsi c;refine wls V V (zab (vs:=[i]) Tryz.func14 V V V (ar1 V) (stripe_Block_calls w.1 i O _ (bF.lift (Lift.sub (L':=[]) (fun _ _=>trivial))) j2) ?_);rintro _ lX ⟨aG,rfl,bL,k0,kH⟩;refine ⟨_,rfl,?_⟩;have fP:By lX [bp b] aG O.1:=OwK.slk (Sc.stab _) _ (OwK.scal kH (aG::[bp b])) (fun f s=>(Old.cons (Old.nil _) aZ.ltB) f (k0 f s)) (fun _ e=>e.2);replace bZ:=bZ.lift (le_ bL);replace c2:=c2.lift (le_ bL);replace bF:=bF.lift (le_ bL);replace aZ:=aZ.ext bL;have cW:=fC.trans bL;refine mv (.tuple #[aG,i64 O.2]) V V<|wa V (zaf V V V)<|wa V (zaf V V V)<|av aG V V<|av (i64 O.2) V V<|wnt<|W_seq<|?_;obtain ⟨mF,K,c⟩:=bsi c;refine W_mid (fun a d=>∃ gC,mF=.inl gC/\a 4=F/\a 19=bp b/\a 21=p/\a 23=r/\a 26=i64 (if o<(wI (((UInt64.ofInt g) % (UInt64.ofInt (wI (k+1)))).toNat:Int)) then o else (wI (((UInt64.ofInt g) % (UInt64.ofInt (wI (k+1)))).toNat:Int)))/\a 30=i/\a 32=aG/\a 33=i64 O.2/\a 260=undef/\Ext w0 d/\Blk d b 25 (ac i64 C)/\Nw w0 (bp b)/\Rw d [bp b] p G.1/\In d [bp b] r y.1/\RcSt d [bp b] i w.1/\By d [bp b] aG O.1) ?_ ?_
 ·refine W_sr<|mv (i64 O.2) V V<|wa V (q_eqI V V V)<|wlb V V (za5 (v:=(.bool (decide (O.2=11)))) V V) (fun d5=>?_) (fun d5=>?_)
  ·replace K:=ifp d5 K;refine mv (i64 (if o<(wI (((UInt64.ofInt g) % (UInt64.ofInt (wI (k+1)))).toNat:Int)) then o else (wI (((UInt64.ofInt g) % (UInt64.ofInt (wI (k+1)))).toNat:Int)))) V eN<|wa V (zg1 V V V)<|mv (i64 (y.1.length:Int)) V lF<|bse K fun hT iQ K=>wa V (zcu (j:=1) V ze6 (by exact eA))<|wq V (zbg (m:=0) V G25 V aZ (zaj _ _) iQ)<|wa V (zbn V V V)<|wa V (q_gtI V V V)<|wa V (zaq (v:=(.bool (decide ((wI ((y.1.length:Int) - hT))<(wI (2 * (if o<(wI (((UInt64.ofInt g) % (UInt64.ofInt (wI (k+1)))).toNat:Int)) then o else (wI (((UInt64.ofInt g) % (UInt64.ofInt (wI (k+1)))).toNat:Int))))))))) V V V)<|wnt<|wci K V V (fun K=>?_) (fun K=>?_)
   ·refine W_sr<|av (.bool true) V V<|wnt<|W_ret<|?_;obtain rfl:=osi K;simp only [Sum.elim_inr] at c;refine th_r<|th_r<|?_;obtain rfl:=osi c;refine rt1 (.bool true) V V V cJ ?_;exact ⟨rfl,cW⟩
   refine zad ?_;obtain rfl:=osi K;exact ⟨_,rfl,h9,eA,gL,gS,eN,eP,rfl,rfl,cJ,cW,aZ,fT,bZ,c2,bF,fP⟩
  replace K:=ifn d5 K;refine wk V<|wk V<|wk V<|wk V<|wk V<|wk V<|wk V<|wa V (zap (v:=(.bool false)) V V V)<|wnt<|zak false V V (fun J=>by cases J) (fun _=>?_);refine zad ?_;obtain rfl:=osi K;exact ⟨_,rfl,h9,eA,gL,gS,eN,eP,rfl,rfl,cJ,cW,aZ,fT,bZ,c2,bF,fP⟩
 rintro _ lY ⟨gC,rfl,lQ,l4,l9,lC,lJ,h4,lN,lO,cK,iI,U,jW,a7,a9,a2,dM⟩;simp only [Sum.elim_inl] at c;refine W_th<|W_seq<|?_;obtain ⟨mG,z,c⟩:=bsi c;refine W_mid (fun a d=>∃ gD,mG=.inl gD/\a 19=bp b/\a 21=p/\a 23=r/\a 30=i/\a 260=undef/\Ext w0 d/\Blk d b 25 (ac i64 C)/\Nw w0 (bp b)/\Rw d [bp b] p G.1/\In d [bp b] r y.1/\RcSt d [bp b] i w.1) ?_ ?_
 ·refine W_seq<|zbi [4,7] [(0,0),(1,0),(2,0),(3,0),(4,1),(5,0),(6,2),(7,1),(8,0),(9,0),(10,0),(11,0),(14,0),(12,2),(13,0),(15,0),(16,0)] mixed (by kernel_rfl) (by kernel_rfl) (by kernel_rfl) (by kernel_rfl) ?_;have b3:=Ext.drew lY;replace a7:=a7.lift (le_ b3);replace a9:=a9.lift (le_ b3);replace a2:=a2.lift (le_ b3);replace dM:=dM.lift (le_ b3);replace U:=U.ext b3;have cX:=iI.trans b3;refine sv (i64 O.2) V V lO<|sa V V (q_neI V V V)<|wsb V V V (za5 (v:=(.bool (!decide (O.2=0)))) V V) (fun d6=>?_) (fun d6=>?_)
  ·replace z:=(if_neg (zbf d6)).symm.trans z;refine wsk V V V<|wsk V V V<|wsk V V V<|wsk V V V<|wsk V V V<|wsk V V V<|sa V V (zaq (v:=(.bool true)) V V V)<|sv (.bool true) V V V<|wsk V V V<|wsk V V V<|wsk V V V<|wsk V V V<|wsk V V V<|sa V V (zaq (v:=(.bool true)) V V V)<|zaw<|W_th ?_;refine zak true V V (fun _=>?_) (fun J=>by cases J);refine W_sr<|av (.bool false) V V<|wnt<|W_ret<|?_;obtain rfl:=osi z;simp only [Sum.elim_inr] at c;refine th_r<|th_r<|?_;obtain rfl:=osi c;refine rt1 (.bool false) V V V cK ?_;exact ⟨rfl,cX⟩
  replace z:=(if_pos (zbd d6)).symm.trans z;refine sv aG V V lN<|sq V V (q_str V T22 V V V dM)<|sv F V V lQ<|?_;obtain ⟨cB,j3,z⟩:=bsi z;refine wss V V V (zab (vs:=[F]) Tryz.func10 V V V (ar1 V) (zc9 aR F cB _ (dG.lift (le_ cX)) j3) ?_);rintro _ lZ ⟨hE,rfl,b4,k1,kI⟩;refine ⟨_,rfl,b4,?_⟩;have jO:By lZ [bp b] hE cB:=OwK.slk (Sc.stab _) _ (OwK.scal kI (hE::[bp b])) (fun f s=>(Old.cons (Old.nil _) U.ltB) f (k1 f s)) (fun _ e=>e.2);replace a7:=a7.lift (le_ b4);replace a9:=a9.lift (le_ b4);replace a2:=a2.lift (le_ b4);replace U:=U.ext b4;have f0:=cX.trans b4;refine sq V V (q_str V T22 V V V jO)<|sa V V (q_neS V V V)<|sa V V (zap (v:=(.bool (!decide (O.1=cB)))) V V V)<|wsb V V V (za5 (v:=(.bool (!decide (O.1=cB)))) V V) (fun d7=>?_) (fun d7=>?_)
  ·replace z:=(if_neg (zbf d7)).symm.trans z;refine wsk V V V<|wsk V V V<|wsk V V V<|wsk V V V<|wsk V V V<|sa V V (zaq (v:=(.bool true)) V V V)<|zaw<|W_th<|zak true V V (fun _=>?_) (fun J=>by cases J);refine W_sr<|av (.bool false) V V<|wnt<|W_ret<|?_;obtain rfl:=osi z;simp only [Sum.elim_inr] at c;refine th_r<|th_r<|?_;obtain rfl:=osi c;refine rt1 (.bool false) V V V cK ?_;exact ⟨rfl,f0⟩
  replace z:=(if_pos (zbd d7)).symm.trans z;refine sv i V V h4<|sv (i64 (if o<(wI (((UInt64.ofInt g) % (UInt64.ofInt (wI (k+1)))).toNat:Int)) then o else (wI (((UInt64.ofInt g) % (UInt64.ofInt (wI (k+1)))).toNat:Int)))) V V lJ<|?_;obtain ⟨dY,j4,z⟩:=bsi z;refine wsc V (by kernel_rfl) V V (zab (vs:=[i]) Tryz.func15 V V V (ar1 V) (zhp w.1 i dY _ (a2.lift (Lift.sub (L':=[]) (fun _ _=>trivial))) j4) ?_);rintro _ m0 ⟨hF,rfl,bM,k2,kJ⟩;refine ⟨_,rfl,?_⟩;have jP:In m0 [bp b] hF dY:=OwK.slk (Sc.stab _) _ (OwK.scal kJ (hF::[bp b])) (fun f s=>(Old.cons (Old.nil _) U.ltB) f (k2 f s)) (fun _ e=>e.2);replace a7:=a7.lift (le_ bM);replace a9:=a9.lift (le_ bM);replace a2:=a2.lift (le_ bM);replace U:=U.ext bM;have f1:=f0.trans bM;refine sa V V (q_len V T35.sl V jP)<|sa V V (q_neI V V V)<|sa V V (zap (v:=(.bool (!decide ((dY.length:Int)=(if o<(wI (((UInt64.ofInt g) % (UInt64.ofInt (wI (k+1)))).toNat:Int)) then o else (wI (((UInt64.ofInt g) % (UInt64.ofInt (wI (k+1)))).toNat:Int))))))) V V V)<|zaw<|W_th<|zak _ V V (fun d8=>?_) (fun d8=>?_)
  ·replace z:=(if_neg (zbf d8)).symm.trans z;refine W_sr<|av (.bool false) V V<|wnt<|W_ret<|?_;obtain rfl:=osi z;simp only [Sum.elim_inr] at c;refine th_r<|th_r<|?_;obtain rfl:=osi c;refine rt1 (.bool false) V V V cK ?_;exact ⟨rfl,f1⟩
  replace z:=(if_pos (zbd d8)).symm.trans z;refine zad ?_;obtain rfl:=osi z;exact ⟨_,rfl,l4,l9,lC,h4,cK,f1,U,jW,a7,a9,a2⟩
 rintro _ nQ ⟨gD,rfl,l5,lA,lD,h5,lG,iJ,c8,jX,dH,dJ,c3⟩;simp only [Sum.elim_inl] at c;refine W_th<|W_seq<|W_sr<|mv i V h5<|?_;obtain ⟨cC,j5,c⟩:=bsi c;refine wls V V (zab (vs:=[i]) Tryz.func15 V V V (ar1 V) (zhp w.1 i cC _ (c3.lift (Lift.sub (L':=[]) (fun _ _=>trivial))) j5) ?_);rintro _ m1 ⟨cN,rfl,bN,k3,kK⟩;refine ⟨_,rfl,?_⟩;have fQ:In m1 [bp b] cN cC:=OwK.slk (Sc.stab _) _ (OwK.scal kK (cN::[bp b])) (fun f s=>(Old.cons (Old.nil _) c8.ltB) f (k3 f s)) (fun _ e=>e.2);replace dH:=dH.lift (le_ bN);replace dJ:=dJ.lift (le_ bN);replace c3:=c3.lift (le_ bN);replace c8:=c8.ext bN;have hV:=iJ.trans bN;refine wa V (q_len V T35.sl V fQ)<|mv (i64 0) V V<|wnt<|?_;obtain ⟨mH,hO,c⟩:=bsi c;refine W_mid (fun a d=>∃ hM,mH=.inl hM/\a 19=bp b/\a 21=p/\a 30=i/\a 260=undef/\Ext w0 d/\Blk d b 25 (ac i64 C)/\Nw w0 (bp b)/\Rw d [bp b] p G.1/\RcSt d [bp b] i w.1) ?_ ?_
 ·refine zac<|za4 (fun b2 a d=>a 19=bp b/\a 21=p/\a 23=r/\a 30=i/\a 221=cN/\a 222=i64 (cC.length:Int)/\a 223=i64 b2/\a 260=undef/\Ext w0 d/\Blk d b 25 (ac i64 C)/\Nw w0 (bp b)/\Rw d [bp b] p G.1/\In d [bp b] r y.1/\RcSt d [bp b] i w.1/\In d [bp b] cN cC) hO ?_ ?_
  ·exact ⟨l5,lA,lD,h5,rfl,rfl,rfl,lG,hV,c8,jX,dH,dJ,c3,fQ⟩
  rintro b2 _ _ nR ⟨gE,gM,gT,h6,gQ,gR,cG,eJ,d1,g1,fU,fO,dK,fR,dN⟩ I fM;refine W_sr<|wa V (q_ltI V cG gR)<|wnt<|W_seq<|wci I V V (fun I=>?_) (fun I=>?_)
  ·refine zad<|W_th<|W_seq<|zac<|W_sr<|mv (i64 b2) V cG<|bse I fun eX fE I=>wa V (q_adr V T35 gQ cG dN fE)<|wq V (zav V T35 V dN fE)<|av (i64 b2) V V<|av (i64 eX) V V<|wnt<|W_sr<|mv (i64 eX) V V<|?_;refine mv r V gT<|mv (i64 b2) V V<|bse I fun mU fF I=>wa V (q_adr V T35 V V dK fF)<|wq V (zav V T35 V dK fF)<|wa V (q_neI V V V)<|wnt<|zak _ V V (fun dA=>?_) (fun dA=>?_)
   ·replace I:=(if_neg (zbf dA)).symm.trans I;refine W_sr<|av (.bool false) V V<|wnt<|W_ret<|bk_r<|th_r<|?_;obtain rfl:=osi I;obtain rfl:=fM _ rfl;simp only [Sum.elim_inr] at c;refine th_r<|bk_r<|th_r<|th_r<|?_;obtain rfl:=osi c;refine rt1 (.bool false) V V V eJ ?_;exact ⟨rfl,d1⟩
   replace I:=(if_pos (zbd dA)).symm.trans I;refine zad<|bk_n<|W_th<|W_rg<|wa V (zam V cG V)<|mv (i64 (wI (b2+1))) V V<|zah<|?_;obtain rfl:=osi I;exact ⟨_,rfl,gE,gM,gT,h6,gQ,gR,rfl,eJ,d1,g1,fU,fO,dK,fR,dN⟩
  refine zaz<|th_x<|?_;obtain rfl:=osi I;obtain rfl:=fM _ rfl;refine th_x<|bk_x<|?_;exact ⟨_,rfl,gE,gM,h6,eJ,d1,g1,fU,fO,fR⟩
 rintro _ nS ⟨hM,rfl,l6,lB,lL,lH,iK,kG,jY,jN,jU⟩;simp only [Sum.elim_inl] at c;refine W_th<|W_seq<|W_sr<|av (i64 1) V V<|wnt<|?_;obtain ⟨mI,hP,c⟩:=bsi c;refine W_mid (fun a d=>∃ hN,mI=.inl hN/\a 30=i/\a 260=undef/\Ext w0 d/\RcSt d [] i w.1) ?_ ?_
 ·refine zac<|za4 (fun X a d=>a 19=bp b/\a 21=p/\a 30=i/\a 36=i64 X/\a 260=undef/\Ext w0 d/\Blk d b 25 (ac i64 C)/\Nw w0 (bp b)/\Rw d [bp b] p G.1/\RcSt d [bp b] i w.1) hP ?_ ?_
  ·exact ⟨l6,lB,lL,rfl,lH,iK,kG,jY,jN,jU⟩
  rintro X _ _ m2 ⟨gF,gN,eQ,cL,eK,fD,aB,jZ,a8,aA⟩ E fN;refine W_seq<|W_sr<|mv (i64 X) V cL<|bse E fun mV iR E=>wa V (zcu (j:=2) V fieldS2 (by exact gF))<|wq V (zbg (m:=0) V G25 V aB (zaj _ _) iR)<|wa V (q_leI V V V)<|wnt<|wci E V V (fun E=>?_) (fun E=>?_)
  ·refine zad<|W_th<|W_seq<|zac<|W_seq<|zbi [3,8,9] [(0,0),(1,0),(4,0),(5,0),(6,0),(7,0),(8,1),(9,1),(2,2),(3,1),(10,0)] mixed (by kernel_rfl) (by kernel_rfl) (by kernel_rfl) (by kernel_rfl) ?_;have cR:=Ext.drew m2;replace a8:=a8.lift (le_ cR);replace aA:=aA.lift (le_ cR);replace aB:=aB.ext cR;have hW:=fD.trans cR;refine sv i V V eQ<|sv (i64 X) V V cL<|sv p V V gN<|sv (i64 X) V V cL<|sa V V (zbn V V V)<|bse E fun mW fG E=>sa V V (q_adr V T29 V V a8 fG)<|wsq_load V V V V T29 V a8 fG (Ext.refl _) (fun nH jQ=>?_);refine sq V V (q_str V T22 V V V jQ) ?_;obtain ⟨g5,j7,E⟩:=bsi E;refine wss V V V (zab (vs:=[i,i64 X]) Tryz.func16 V V V (ar2 V V) (zf8 w.1 X i g5 _ (aA.lift (Lift.sub (L':=[]) (fun _ _=>trivial))) j7) ?_);rintro _ m3 ⟨hG,rfl,bO,k4,kL⟩;refine ⟨_,rfl,bO,?_⟩;have jR:By m3 [bp b] hG g5:=OwK.slk (Sc.stab _) _ (OwK.scal kL (hG::[bp b])) (fun f s=>(Old.cons (Old.nil _) aB.ltB) f (k4 f s)) (fun _ e=>e.2);replace a8:=a8.lift (le_ bO);replace aA:=aA.lift (le_ bO);replace aB:=aB.ext bO;have f2:=hW.trans bO;refine sq V V (q_str V T22 V V V jR)<|sa V V (q_neS V V V)<|zaw<|W_th<|zak _ V V (fun dB=>?_) (fun dB=>?_)
   ·replace E:=(if_neg (zbf dB)).symm.trans E;refine W_sr<|av (.bool false) V V<|wnt<|W_ret<|bk_r<|th_r<|?_;obtain rfl:=osi E;obtain rfl:=fN _ rfl;simp only [Sum.elim_inr] at c;refine th_r<|bk_r<|th_r<|th_r<|?_;obtain rfl:=osi c;refine rt1 (.bool false) V V V eK ?_;exact ⟨rfl,f2⟩
   replace E:=(if_pos (zbd dB)).symm.trans E;refine zad<|bk_n<|W_th<|W_rg<|mv (i64 X) V cL<|wa V (zam V V V)<|av (i64 (wI (X+1))) V V<|zah<|?_;obtain rfl:=osi E;exact ⟨_,rfl,gF,gN,eQ,rfl,eK,f2,aB,jZ,a8,aA⟩
  refine zaz<|th_x<|?_;obtain rfl:=osi E;obtain rfl:=fN _ rfl;refine th_x<|bk_x<|?_;exact ⟨_,rfl,eQ,eK,fD,aA.lift (Lift.sub (fun _ e=>trivial))⟩
 rintro _ nU ⟨hN,rfl,h7,lI,iL,c0⟩;simp only [Sum.elim_inl] at c;refine W_th<|W_sr<|mv i V h7<|?_;obtain ⟨cD,j8,c⟩:=bsi c;refine wls V V (zab (vs:=[i,i64 0]) Tryz.func16 V V V (ar2 V V) (zf8 w.1 0 i cD _ (c0.lift (Lift.sub (L':=[]) (fun _ _=>trivial))) j8) ?_);rintro _ m4 ⟨hH,rfl,hJ,k5,kM⟩;refine ⟨_,rfl,?_⟩;have jS:By m4 [] hH cD:=OwK.slk (Sc.stab _) _ (OwK.scal kM (hH::[])) (fun f s=>(Old.nil _) f (k5 f s)) (fun _ e=>e.2);replace c0:=c0.lift (le_ hJ);have hY:=iL.trans hJ;refine wa V (q_len V T22.sl V jS)<|mv i V h7<|?_;obtain ⟨cE,j9,c⟩:=bsi c;refine wls V V (zab (vs:=[i,i64 256]) Tryz.func16 V V V (ar2 V V) (zf8 w.1 256 i cE _ (c0.lift (Lift.sub (L':=[]) (fun _ _=>trivial))) j9) ?_);rintro _ m5 ⟨hI,rfl,mK,k6,kN⟩;refine ⟨_,rfl,?_⟩;have jT:By m5 [] hI cE:=OwK.slk (Sc.stab _) _ (OwK.scal kN (hI::[])) (fun f s=>(Old.nil _) f (k6 f s)) (fun _ e=>e.2);have hZ:=hY.trans mK;refine wa V (q_len V T22.sl V jT)<|wa V (zam V V V)<|wa V (q_eqI V V V)<|av (.bool (decide (wI ((cD.length:Int)+(cE.length:Int))=0))) V V<|wnt<|W_ret<|?_;obtain rfl:=osi c;refine rt1 (.bool (decide (wI ((cD.length:Int)+(cE.length:Int))=0))) V V V lI ?_;exact ⟨rfl,hZ⟩
end Gk

/- Chapter 17: rows that are picked, and spoilt; what is gathered of them. No condition but shapes that may be. -/
namespace Gk
open Gf
theorem Unlike_all (b:List UInt8) (hb:b.length<=9223372036854775807):∃ u,zev b 255=some u/\u.length=255/\u.Nodup/\(0:UInt8) ∉ u/\∀ a,a≠0->a∈u:=by
 obtain ⟨u,h1,h2,h3,h4⟩:=Unlike_eq b 255 (by omega) hb
 refine ⟨u,h1,h2,h3,h4,fun a ha=>Classical.byContradiction fun hn=>?_⟩
 have:=ze2 (a :: u) E (List.nodup_cons.2 ⟨hn,h3⟩) (fun x hx=>by
  rcases List.mem_cons.1 hx with rfl | hx
  ·exact E_all _ ha
  ·exact E_all _ (fun e=>h4 (e ▸ hx)))
 rw [E_len,List.length_cons] at this
 omega
def selS (n t o:Nat) (acc:List UInt8) (x:UInt8):List UInt8:=if x.toNat<=n/\(acc.length<t∨acc.length<o) then acc ++ [x] else acc
theorem selS_pre (n t o:Nat):∀ u acc:List UInt8,∃ s:List UInt8,u.foldl (selS n t o) acc=acc ++ s/\s.Sublist u/\∀ x∈s,x.toNat<=n
 | [],acc=>⟨[],by simp,List.Sublist.refl _,by simp⟩
 | x :: u,acc=>by
  rw [List.foldl_cons]
  by_cases h:x.toNat<=n/\(acc.length<t∨acc.length<o)
  ·have e:selS n t o acc x=acc ++ [x]:=if_pos h
   obtain ⟨s,h1,h2,h3⟩:=selS_pre n t o u (acc ++ [x])
   refine ⟨x :: s,by rw [e,h1,List.append_assoc];rfl,h2.cons_cons x,fun y hy=>?_⟩
   rcases List.mem_cons.1 hy with rfl | hy
   ·exact h.1
   ·exact h3 y hy
  ·have e:selS n t o acc x=acc:=if_neg h
   obtain ⟨s,h1,h2,h3⟩:=selS_pre n t o u acc
   exact ⟨s,by rw [e,h1],h2.cons x,h3⟩
theorem selS_all (n t o:Nat):∀ u acc:List UInt8,t<=(u.foldl (selS n t o) acc).length∨∀ x∈u,x.toNat<=n->x∈u.foldl (selS n t o) acc
 | [],acc=>.inr (by simp)
 | x :: u,acc=>by
  rw [List.foldl_cons]
  rcases selS_all n t o u (selS n t o acc x) with h | h
  ·exact .inl h
  ·by_cases ht:t<=acc.length
   ·left
    obtain ⟨s,h1,_⟩:=selS_pre n t o (x :: u) acc
    rw [List.foldl_cons] at h1
    rw [h1,List.length_append];omega
   ·right
    intro y hy hyn
    rcases List.mem_cons.1 hy with rfl | hy
    ·obtain ⟨s,h1,_⟩:=selS_pre n t o u (selS n t o acc y)
     rw [h1,show selS n t o acc y=acc ++ [y] from if_pos ⟨hyn,.inl (by omega)⟩]
     simp
    ·exact h y hy hyn
theorem sel_spec {u:List UInt8} (hu:u.Nodup) (h0:(0:UInt8) ∉ u) (hall:∀ a,a≠0->a∈u) (n t o:Nat) (ht:t<=n) (hn:n<=255) :
  (u.foldl (selS n t o) []).Nodup/\(∀ x∈u.foldl (selS n t o) [],1<=x.toNat/\x.toNat<=n)/\t<=(u.foldl (selS n t o) []).length/\(u.foldl (selS n t o) []).length<=n:=by
 obtain ⟨s,h1,h2,h3⟩:=selS_pre n t o u []
 rw [List.nil_append] at h1
 have hs:=selS_all n t o u []
 rw [h1] at hs ⊢
 have hnd:=hu.sublist h2
 have hin:∀ x∈s,1<=x.toNat/\x.toNat<=n:=fun x hx=>⟨by
  have h5:x≠0:=fun e=>h0 (e ▸ h2.subset hx)
  have:x.toNat≠0:=fun e=>h5 (UInt8.toNat_inj.1 e)
  omega,h3 x hx⟩
 refine ⟨hnd,hin,?_,?_⟩
 ·rcases hs with h | h
  ·exact h
  ·have:=ze2 (plc n) s (plc_nodup n hn) (fun a ha=>by
    obtain ⟨i,hi,rfl⟩:=List.mem_map.1 ha
    have:=List.mem_range.1 hi
    have e:(UInt8.ofNat (i+1)).toNat=i+1:=by rw [UInt8.toNat_ofNat'];omega
    exact h _ (hall _ (fun e0=>by rw [e0] at e;simp at e)) (by omega))
   rw [zdd] at this;omega
 ·have:=ze2 s (plc n) hnd (fun a ha=>by
   obtain ⟨h4,h5⟩:=hin a ha
   exact List.mem_map.2 ⟨a.toNat - 1,List.mem_range.2 (by omega),by rw [show a.toNat - 1+1=a.toNat by omega];simp⟩)
  rwa [zdd] at this
theorem co_plcP {n i:Nat} (h:i<n):co (plc n) i=UInt8.ofNat (i+1):=by unfold plc;rw [zde,if_pos h]
theorem picked_eq {n t:Nat} (F:UInt8->List UInt8) (L:Nat) (hF:∀ x,(F x).length=L) (hL:L<=1000) (ht:t<=n) (hn:n<=7) (order:List UInt8) (ho:order.length<=20) :
  ∃ pl:List UInt8,zfx ((plc n).map F) order (t:Int)=some (pl.map fun x=>(x.toNat:Int),pl.map F)/\pl.Nodup/\(∀ x∈pl,1<=x.toNat/\x.toNat<=n)/\t<=pl.length/\pl.length<=n:=by
 have hmo:(1000000:Nat)<=most:=by decide
 have hmo2:=za8
 obtain ⟨u,h1,h2,h3,h4,h5⟩:=Unlike_all order (by omega)
 refine ⟨u.foldl (selS n t order.length) [],?_,sel_spec h3 h4 h5 n t order.length ht (by omega)⟩
 unfold zfx
 rw [h1,obs]
 refine zbh (x:=((u.foldl (selS n t order.length) []).map fun x=>(x.toNat:Int),(u.foldl (selS n t order.length) []).map F)) (zas (fun i=>(((u.take i).foldl (selS n t order.length) []).map fun x=>(x.toNat:Int),((u.take i).foldl (selS n t order.length) []).map F,(i:Int))) u.length _ rfl (fun i hi=>?_) ?_) rfl
 ·have hacc:(u.take (i+1)).foldl (selS n t order.length) []=selS n t order.length ((u.take i).foldl (selS n t order.length) []) (co u i):=by rw [zg5 hi,List.foldl_append];rfl
  obtain ⟨s,g1,g2,g3⟩:=selS_pre n t order.length (u.take i) []
  rw [List.nil_append] at g1
  have hsl:s.length<=255:=by have:=g2.length_le;rw [List.length_take] at this;omega
  rw [g1] at hacc
  simp only
  rw [g1,hacc,if_pos (by omega),zba hi,obs]
  have hx0:co u i≠0:=fun e=>h4 (e ▸ (by unfold co;simp [List.getD_eq_getElem?_getD,hi]))
  have hx1:(co u i).toNat≠0:=fun e=>hx0 (UInt8.toNat_inj.1 e)
  by_cases hc:(co u i).toNat<=n/\(s.length<t∨s.length<order.length)
  ·have e7:(if ((co u i).toNat:Int)<=(((plc n).map F).length:Int) then (if ((s.map fun x=>(x.toNat:Int)).length:Int)<(t:Int) then some true else some (decide (((s.map fun x=>(x.toNat:Int)).length:Int)<(order.length:Int)))) else some false)=some true:=by
    rw [List.length_map,List.length_map,zdd,if_pos (by omega)]
    by_cases a:s.length<t
    ·rw [if_pos (by omega)]
    ·rw [if_neg (by omega),decide_eq_true (by omega)]
   have hsel:selS n t order.length s (co u i)=s ++ [co u i]:=if_pos hc
   have hrow:idx ((plc n).map F) (wI (((co u i).toNat:Int) - 1))=some (F (co u i)):=by
    rw [wI_of (by omega) (by omega),show (((co u i).toNat:Int) - 1)=(((co u i).toNat - 1:Nat):Int) by omega,zci (by rw [List.length_map,zdd];omega),zh2 _ _ _ (by rw [zdd];omega),co_plcP (by omega),show (co u i).toNat - 1+1=(co u i).toNat by omega]
    simp
   rw [e7,obs,if_pos rfl,hrow,obs,zen _ _ (by simp;omega) rfl,obs,zel _ (by rw [hF];omega),obs,zen _ _ (by simp;omega) rfl,obs,zau i (by omega),hsel,List.map_append,List.map_append]
   rfl
  ·have e7:(if ((co u i).toNat:Int)<=(((plc n).map F).length:Int) then (if ((s.map fun x=>(x.toNat:Int)).length:Int)<(t:Int) then some true else some (decide (((s.map fun x=>(x.toNat:Int)).length:Int)<(order.length:Int)))) else some false)=some false:=by
    rw [List.length_map,List.length_map,zdd]
    by_cases b:(co u i).toNat<=n
    ·rw [if_pos (by omega),if_neg (by omega),decide_eq_false (by omega)]
    ·rw [if_neg (by omega)]
   have hsel:selS n t order.length s (co u i)=s:=if_neg hc
   rw [e7,obs,if_neg (by decide),zau i (by omega),hsel]
 ·simp only
  rw [if_neg (by omega),List.take_of_length_le (Nat.le_refl _)]
theorem xor_sw (a w:UInt8):a^^^w^^^1^^^w=a^^^1:=by
 rw [UInt8.xor_assoc a w 1,UInt8.xor_comm w 1,← UInt8.xor_assoc,UInt8.xor_assoc,UInt8.xor_self,UInt8.xor_zero]
theorem xor_one_ne (a:UInt8):a^^^1≠a:=fun e=>by
 have:a^^^(a^^^1)=a^^^a:=by rw [e]
 rw [← UInt8.xor_assoc,UInt8.xor_self,UInt8.zero_xor] at this
 exact absurd this (by decide)
theorem spoil_row (wh:List UInt8) (T:List (List UInt8)) (i:Nat) (r:List UInt8) (L:Nat) (hi:i<T.length) (hr:r.length=L) (hL1:1<=L) (hL:L<=1000) (hw:wh.length<=600):∃ q:List UInt8,q.length=L/\co q 0=co r 0^^^1/\((iterC (fun s71:List (List UInt8)×Int =>
(if s71.2<(wh.length:Int) then
((idx wh s71.2).bind fun c74 =>
((idx s71.1 (i:Int)).bind fun c75 =>
(if s71.2<(c75.length:Int) then
((idx s71.1 (i:Int)).bind fun c78 =>
((idx c78 s71.2).bind fun c80 => some (.inl ((s71.1.set ((i:Int):Int).toNat (c78.set (s71.2:Int).toNat ((c80^^^c74)))),(wI (s71.2+1))))))
else some (.inl (s71.1,(wI (s71.2+1)))))))
else some (.inr s71.1))) ((T.set ((i:Int):Int).toNat r),0)).bind fun x71 =>
((idx x71 (i:Int)).bind fun c85 =>
((idx c85 0).bind fun c87 =>
(if 0<(wh.length:Int) then
((idx ((x71.set ((i:Int):Int).toNat (c85.set (0:Int).toNat ((c87^^^(1:UInt8)))))) (i:Int)).bind fun c93 =>
((idx c93 0).bind fun c95 =>
((idx wh 0).bind fun c96 => some (.inl ((((x71.set ((i:Int):Int).toNat (c85.set (0:Int).toNat ((c87^^^(1:UInt8)))))).set ((i:Int):Int).toNat (c93.set (0:Int).toNat ((c95^^^c96)))),(wI ((i:Int)+1)))))))
else some (.inl ((x71.set ((i:Int):Int).toNat (c85.set (0:Int).toNat ((c87^^^(1:UInt8))))),(wI ((i:Int)+1))))))))=some (Sum.inl (T.set i q,wI ((i:Int)+1)):(List (List UInt8)×Int)⊕List (List UInt8)):=by
 have hmo:=za8
 have hqi:∀ q:List UInt8,idx (T.set i q) (i:Int)=some q:=fun q=>by rw [zci (by rw [List.length_set];exact hi),getD_set hi,if_pos rfl]
 obtain ⟨_,e1,q,rfl,hq1,hq2⟩:=zd2 (body:=fun s71:List (List UInt8)×Int =>
(if s71.2<(wh.length:Int) then
((idx wh s71.2).bind fun c74 =>
((idx s71.1 (i:Int)).bind fun c75 =>
(if s71.2<(c75.length:Int) then
((idx s71.1 (i:Int)).bind fun c78 =>
((idx c78 s71.2).bind fun c80 => some (.inl ((s71.1.set ((i:Int):Int).toNat (c78.set (s71.2:Int).toNat ((c80^^^c74)))),(wI (s71.2+1))))))
else some (.inl (s71.1,(wI (s71.2+1)))))))
else some (.inr s71.1))) (fun s=>∃ (j:Nat) (q:List UInt8),j<=wh.length/\s=(T.set i q,(j:Int))/\q.length=L/\co q 0=co r 0^^^(if 0<j then co wh 0 else 0)) (fun s=>wh.length - s.2.toNat) (fun x=>∃ q:List UInt8,x=T.set i q/\q.length=L/\co q 0=co r 0^^^(if 0<wh.length then co wh 0 else 0)) (by
  rintro _ ⟨j,q,hj,rfl,h1,h2⟩
  simp only
  by_cases hlt:j<wh.length
  ·rw [if_pos (by omega),zba hlt,obs,hqi,obs]
   by_cases hjl:j<L
   ·rw [if_pos (by omega),obs,zba (by omega),obs,zau j (by omega)]
    refine .inl ⟨_,rfl,⟨j+1,q.set j (co q j^^^co wh j),hlt,by rw [Int.toNat_natCast,Int.toNat_natCast,List.set_set],by rw [List.length_set];exact h1,?_⟩,by simp only [Int.toNat_natCast];omega⟩
    rw [co_set (by omega),if_pos (show 0<j+1 by omega)]
    by_cases hj0:0=j
    ·rw [if_pos hj0,← hj0,h2,if_neg (by omega)];simp
    ·rw [if_neg hj0,h2,if_pos (by omega)]
   ·rw [if_neg (by omega),zau j (by omega)]
    exact .inl ⟨_,rfl,⟨j+1,q,hlt,rfl,h1,by rw [h2,if_pos (show 0<j by omega),if_pos (by omega)]⟩,by simp only [Int.toNat_natCast];omega⟩
  ·rw [if_neg (by omega)]
   obtain rfl:j=wh.length:=by omega
   exact .inr ⟨_,rfl,q,rfl,h1,h2⟩) (T.set ((i:Int):Int).toNat r,0) ⟨0,r,Nat.zero_le _,by rw [Int.toNat_natCast];rfl,hr,by simp⟩
 have h0:idx q 0=some (co q 0):=zba (i:=0) (by omega)
 rw [e1,obs,hqi,obs,h0,obs,Int.toNat_natCast,show (0:Int).toNat=0 from rfl]
 by_cases hw0:0<wh.length
 ·rw [if_pos (by omega),List.set_set,hqi,obs,show idx (q.set 0 (co q 0^^^1)) 0=some (co (q.set 0 (co q 0^^^1)) 0) from zba (i:=0) (by rw [List.length_set];omega),obs,show idx wh 0=some (co wh 0) from zba (i:=0) hw0,obs,List.set_set,List.set_set]
  refine ⟨_,?_,?_,rfl⟩
  ·rw [List.length_set];exact hq1
  ·rw [co_set (by omega),if_pos rfl,co_set (by omega),if_pos rfl,hq2,if_pos hw0,xor_sw]
 ·rw [if_neg (by omega),List.set_set]
  refine ⟨_,?_,?_,rfl⟩
  ·rw [List.length_set];exact hq1
  ·rw [co_set (by omega),if_pos rfl,hq2,if_neg hw0];simp
theorem spoil_spec (wh:List UInt8) (k:Nat) (R:List (List UInt8)) (m L:Nat) (hm:R.length=m) (hk:k<=m) (hr:∀ i,i<m->(R.getD i []).length=L) (hL1:1<=L) (hL:L<=1000) (hw:wh.length<=600) (hk2:k<=1000):∃ S,iterC (fun s50:List (List UInt8)×Int =>
(if s50.2<(k:Int) then
((idx s50.1 s50.2).bind fun c58 =>
((appL (([]:List UInt8)) c58).bind fun c60 =>
((iterC (fun s71:List (List UInt8)×Int =>
(if s71.2<(wh.length:Int) then
((idx wh s71.2).bind fun c74 =>
((idx s71.1 s50.2).bind fun c75 =>
(if s71.2<(c75.length:Int) then
((idx s71.1 s50.2).bind fun c78 =>
((idx c78 s71.2).bind fun c80 => some (.inl ((s71.1.set (s50.2:Int).toNat (c78.set (s71.2:Int).toNat ((c80^^^c74)))),(wI (s71.2+1))))))
else some (.inl (s71.1,(wI (s71.2+1)))))))
else some (.inr s71.1))) ((s50.1.set (s50.2:Int).toNat c60),0)).bind fun x71 =>
((idx x71 s50.2).bind fun c85 =>
((idx c85 0).bind fun c87 =>
(if 0<(wh.length:Int) then
((idx ((x71.set (s50.2:Int).toNat (c85.set (0:Int).toNat ((c87^^^(1:UInt8)))))) s50.2).bind fun c93 =>
((idx c93 0).bind fun c95 =>
((idx wh 0).bind fun c96 => some (.inl ((((x71.set (s50.2:Int).toNat (c85.set (0:Int).toNat ((c87^^^(1:UInt8)))))).set (s50.2:Int).toNat (c93.set (0:Int).toNat ((c95^^^c96)))),(wI (s50.2+1)))))))
else some (.inl ((x71.set (s50.2:Int).toNat (c85.set (0:Int).toNat ((c87^^^(1:UInt8))))),(wI (s50.2+1))))))))))
else some (.inr s50.1))) (R,0)=some S/\S.length=m/\(∀ i,i<m->(S.getD i []).length=L)/\(∀ i,k<=i->i<m->S.getD i []=R.getD i [])/\∀ i,i<k->co (S.getD i []) 0=co (R.getD i []) 0^^^1:=by
 have hmo:(1000000:Nat)<=most:=by decide
 have hmo2:=za8
 refine zd2 (fun s=>∃ i:Nat,s.2=(i:Int)/\i<=k/\s.1.length=m/\(∀ j,j<m->(s.1.getD j []).length=L)/\(∀ j,i<=j->j<m->s.1.getD j []=R.getD j [])/\∀ j,j<i->co (s.1.getD j []) 0=co (R.getD j []) 0^^^1) (fun s=>k - s.2.toNat) _ ?_ (R,0) ⟨0,rfl,Nat.zero_le _,hm,hr,fun _ _ _=>rfl,fun j hj=>absurd hj (by omega)⟩
 rintro ⟨S,_⟩ ⟨i,rfl,h1,h2,h3,h4,h5⟩
 simp only at h2 h3 h4 h5 ⊢
 by_cases hlt:i<k
 ·rw [if_pos (by omega),zci (by omega),obs,zel _ (by rw [h3 i (by omega)];omega),obs]
  obtain ⟨q,q1,q2,q3⟩:=spoil_row wh S i (S.getD i []) L (by omega) (h3 i (by omega)) hL1 hL hw
  refine .inl ⟨_,q3,⟨i+1,zau i (by omega),hlt,by rw [List.length_set];exact h2,fun j hj=>?_,fun j hj hjm=>?_,fun j hj=>?_⟩,?_⟩
  ·rw [getD_set (by omega)]
   by_cases e:j=i
   ·rw [if_pos e];exact q1
   ·rw [if_neg e];exact h3 j hj
  ·rw [getD_set (by omega),if_neg (by omega)];exact h4 j (by omega) hjm
  ·rw [getD_set (by omega)]
   by_cases e:j=i
   ·rw [if_pos e,q2,h4 i (Nat.le_refl _) (by omega),e]
   ·rw [if_neg e];exact h5 j (by omega)
  ·rw [zau i (by omega),Int.toNat_natCast,Int.toNat_natCast];omega
 ·obtain rfl:i=k:=by omega
  rw [if_neg (by omega)]
  exact .inr ⟨_,rfl,h2,h3,h4,h5⟩
theorem wrg_top {xs ys P:List UInt8} {k:Nat}:∀ n,(∀ i,k<=i->i<n->evp P (co xs i)=co ys i)->wrg xs ys P n<=k
 | 0,_=>Nat.zero_le _
 | n+1,h=>by
  by_cases hk:n<k
  ·have:=wr_le xs ys P (n+1);omega
  ·have:=wrg_top n (fun i a b=>h i a (by omega))
   unfold wrg
   rw [if_pos (h n (by omega) (by omega))];omega
theorem wrg_bot {xs ys P:List UInt8}:∀ n k,k<=n->(∀ i,i<k->evp P (co xs i)≠co ys i)->k<=wrg xs ys P n
 | 0,k,hk,_=>by omega
 | n+1,k,hk,h=>by
  by_cases e:k=n+1
  ·have:=wrg_bot n n (Nat.le_refl _) (fun i hi=>h i (by omega))
   unfold wrg
   rw [if_neg (h n (by omega))];omega
  ·have:=wrg_bot n k (by omega) h
   unfold wrg;omega
theorem filter_lt (k : Nat) : ∀ m, k <= m -> (List.range m).filter (fun i => decide (i < k)) = List.range k
  | 0, h => by obtain rfl : k = 0 := by omega
               rfl
  | m + 1, h => by
    by_cases e : k = m + 1
    · rw [e, List.filter_eq_self.2]
      intro a ha
      have := List.mem_range.1 ha
      exact decide_eq_true this
    · rw [List.range_succ, List.filter_append, filter_lt k m (by omega)]
      simp; omega
section
variable {m t n c : Nat} {F : UInt8 → List UInt8} {P : Nat → List UInt8} {pl : List UInt8} {S : List (List UInt8)} {k : Nat}
theorem ptsX_pl (pl:List UInt8):ptsX (pl.map fun x=>(x.toNat:Int))=pl:=by
 unfold ptsX
 rw [List.map_map]
 exact (List.map_congr_left fun x _=>by simp only [Function.comp];rw [zgj];simp).trans (List.map_id _)
structure Spoilt (m t n:Nat) (F:UInt8->List UInt8) (pl:List UInt8) (S:List (List UInt8)) (k:Nat):Prop where
 nd:pl.Nodup
 rg:∀ x∈pl,1<=x.toNat/\x.toNat<=n
 tl:t<=pl.length
 ln:pl.length<=n
 sl:S.length=pl.length
 sz:∀ i,i<pl.length->(S.getD i []).length=rowSz m t
 eq:∀ i,k<=i->i<pl.length->S.getD i []=F (co pl i)
 ne:∀ i,i<k->co (S.getD i []) 0=co (F (co pl i)) 0^^^1
 kl:k<=pl.length
theorem Spoilt.top (T:Told t (rowSz m t) F P) (H:Spoilt m t n F pl S k) (j:Nat) (hj:j<rowSz m t):wrg pl (clm S j pl.length) (P j) pl.length<=k:=wrg_top _ fun i h1 h2=>by
 rw [co_clm _ _ _ _ h2,H.eq i h1 h2,T.num _ _ hj]
theorem Spoilt.bot (T:Told t (rowSz m t) F P) (H:Spoilt m t n F pl S k) (hz:1<=rowSz m t):k<=wrg pl (clm S 0 pl.length) (P 0) pl.length:=wrg_bot _ _ H.kl fun i h1 e=>by
 have:=H.kl
 rw [co_clm _ _ _ _ (by omega),H.ne i h1,← T.num _ _ hz] at e
 exact xor_one_ne _ e.symm
theorem Spoilt.code (h:OkS m t n c) (H:Spoilt m t n F pl S k):mcode (t:Int) (ptsX (pl.map fun x=>(x.toNat:Int))) (S.length:Int) (c:Int)=0:=by
 have h1:=h.t1;have h2:=h.tn;have h3:=h.n255;have h4:=H.tl;have h5:=H.ln
 rw [ptsX_pl,H.sl]
 unfold mcode
 rw [if_pos rfl,if_neg (by omega),if_neg (by omega),if_neg (by omega),if_neg (by omega),if_pos H.nd]
theorem Spoilt.gather (h:OkS m t n c) (H:Spoilt m t n F pl S k):(∃ R,za6 (shp m t n c) true (pl.map fun x=>(x.toNat:Int)) S=some (some (shp m t n c,true,some (mended t c pl S (rowSz m t) R),partsX t c (pl.map fun x=>(x.toNat:Int)) S (rowSz m t),badP t c (pl.map fun x=>(x.toNat:Int)) S (rowSz m t)),0)/\Fixed t c pl S (rowSz m t) R)∨(za6 (shp m t n c) true (pl.map fun x=>(x.toNat:Int)) S=some (none,11)/\∃ k,k<rowSz m t/\∀ P,¬ Good t c pl (clm S k pl.length) P):=by
 have h2:=h.tn;have h3:=h.n255;have h4:=H.tl;have h5:=H.ln;have h6:=H.sl
 have:=Gather_spec h (pl.map fun x=>(x.toNat:Int)) S (by rw [List.length_map];omega) (by rw [List.length_map];omega) (fun x hx=>by
  obtain ⟨y,hy,rfl⟩:=List.mem_map.1 hx
  have:=H.rg y hy
  unfold goodP;omega) (fun q hq=>by
  obtain ⟨i,hi,e⟩:=List.getElem_of_mem hq
  have hs:=H.sz i (by omega)
  rw [List.getD_eq_getElem?_getD,List.getElem?_eq_getElem hi,Option.getD_some,e] at hs
  exact hs) (by omega) (H.code h)
 rw [ptsX_pl] at this
 exact this
theorem Spoilt.bad (h:OkS m t n c) (T:Told t (rowSz m t) F P) (H:Spoilt m t n F pl S k) (hk:2 * k=pl.length - t+1):za6 (shp m t n c) true (pl.map fun x=>(x.toNat:Int)) S=some (none,11):=by
 obtain ⟨z1,z2⟩:=rowSz_pos h
 have h4:=H.tl
 rcases H.gather h with ⟨R,e,hF⟩ | ⟨e,_⟩
 ·exfalso
  obtain ⟨Q,g1,g2,g3⟩:=hF.2.2.1 0 (by omega)
  have b:=H.bot T z1
  have tp:=H.top T 0 (by omega)
  have hs:=two_one (ys:=clm S 0 pl.length) H.nd g1 (T.deg 0 (by omega)) (by omega)
  have:=wr_sim (xs:=pl) (ys:=clm S 0 pl.length) hs pl.length
  omega
 ·exact e
theorem Spoilt.ok (h:OkS m t n c) (T:Told t (rowSz m t) F P) (H:Spoilt m t n F pl S k) (hk:2 * k<=pl.length - t) (hc:k<=c):∃ md,za6 (shp m t n c) true (pl.map fun x=>(x.toNat:Int)) S=some (some (shp m t n c,true,some md,(plc t).map F,(List.range k).map fun i=>(pl.map fun x=>(x.toNat:Int)).getD i 0),0)/\∀ x,zes (some md) x=some (F x):=by
 obtain ⟨z1,z2⟩:=rowSz_pos h
 have h1:=h.t1;have h2:=h.tn;have h3:=h.n255;have h4:=H.tl;have h5:=H.ln
 have hG:∀ j,j<rowSz m t->Good t c pl (clm S j pl.length) (P j):=fun j hj=>by
  have:=H.top T j hj
  exact ⟨T.deg j hj,by omega,by omega⟩
 have hrow:∀ x,rowP t c pl S (rowSz m t) x=F x:=fun x=>by
  refine zcc (by rw [rowP_len,T.len]) fun j=>?_
  by_cases hj:j<rowSz m t
  ·unfold rowP
   rw [zde,if_pos hj,T.num x j hj]
   exact ev_sim _ _ _ (Good.uniq H.nd h4 (PK_good ⟨_,hG j hj⟩) (hG j hj))
  ·rw [co_ge (by rw [rowP_len];omega),co_ge (by rw [T.len];omega)]
 rcases H.gather h with ⟨R,e,hF⟩ | ⟨_,j,hj,hjb⟩
 ·refine ⟨mended t c pl S (rowSz m t) R,?_,fun x=>?_⟩
  ·rw [e]
   have hp:partsX t c (pl.map fun x=>(x.toNat:Int)) S (rowSz m t)=(plc t).map F:=List.map_congr_left fun x _=>by rw [ptsX_pl];exact hrow x
   have hb:badP t c (pl.map fun x=>(x.toNat:Int)) S (rowSz m t)=(List.range k).map fun i=>(pl.map fun x=>(x.toNat:Int)).getD i 0:=by
    unfold badP
    rw [ptsX_pl,← filter_lt k pl.length H.kl]
    congr 1
    refine List.filter_congr fun i hi=>?_
    have hi:=List.mem_range.1 hi
    unfold badR
    rw [hrow]
    by_cases hik:i<k
    ·rw [decide_eq_true hik,decide_eq_false];rfl
     intro e2
     have:=H.ne i hik
     rw [← e2] at this
     exact xor_one_ne _ this.symm
    ·rw [decide_eq_false hik,H.eq i (by omega) hi,decide_eq_true rfl];rfl
   rw [hp,hb]
  ·have hp:=hF.at h1 h4 (by omega) H.nd z2 (((List.range pl.length).filter (badR t c pl S (rowSz m t))).map fun (k:Nat)=>(k:Int)) x
   rw [hrow x] at hp
   exact hp
 ·exact absurd (hG j hj) (hjb _)
end
end Gk

/- The law StripeTells. No condition. -/
namespace Gk
open Gf
theorem WrongS_eq (x:StV) (h:x.2.2.2.2.length<=most):zex (some x)=some x.2.2.2.2:=by
 unfold zex
 rw [if_neg (by simp),obs]
 unfold zby
 rw [zel _ h];rfl
theorem RowS_eq (s:List Int) (f:Bool) (md:Bool×List UInt8×List (List UInt8)×List Int) (pt:List (List UInt8)) (w:List Int) {F:UInt8->List UInt8} (h:∀ x,zes (some md) x=some (F x)) (i:Nat) (hi:i<255):zda (some ((s,f,some md,pt,w):StV)) ((i+1:Nat):Int)=some (F (UInt8.ofNat (i+1))):=by
 unfold zda
 rw [if_neg (by simp),if_neg (by omega),if_neg (by omega),obs]
 simp only
 rw [zgj,h,obs]
theorem law17_StripeTells_true (mode t n c:Int) (b random order wh:List UInt8) (wrong:Int) (lm:-9223372036854775808<=mode) (hm:mode<=9223372036854775807) (lt:-9223372036854775808<=t) (ht:t<=9223372036854775807) (ln:-9223372036854775808<=n) (hn:n<=9223372036854775807) (lc:-9223372036854775808<=c) (hc:c<=9223372036854775807) (lw:-9223372036854775808<=wrong) (hw:wrong<=9223372036854775807):zd9 mode t n c b random order wh wrong=some true:=by
 unfold zd9
 have hmo:(1000000:Nat)<=most:=by decide
 have hmo2:=za8
 rw [lives17,obs,if_neg (by decide)]
 by_cases h1:500<(b.length:Int)
 ·rw [if_pos h1];rfl
 rw [if_neg h1]
 by_cases h2:500<(random.length:Int)
 ·rw [if_pos h2];rfl
 rw [if_neg h2]
 by_cases h3:20<(order.length:Int)
 ·rw [if_pos h3];rfl
 rw [if_neg h3]
 by_cases h4:600<(wh.length:Int)
 ·rw [if_pos h4];rfl
 rw [if_neg h4,obs,Sum.elim_inl]
 obtain ⟨m',t',n',c',hOf,hok,hn7⟩:=Of_ok mode t n c
 obtain ⟨B,hB,hBl⟩:=Block_ok b (by omega)
 obtain ⟨r,hR,hRl⟩:=Random_ok hok hn7 random (by omega)
 have k1:=hok.t1;have k2:=hok.tn;have k3:=hok.n255;have k4:=hok.c127
 obtain ⟨z1,z2⟩:=rowSz_pos hok
 obtain ⟨F,P,T,hrows,hBlk⟩:∃ F P,Told t' (rowSz m' t') F P/\rowsS m' t' n' B r=(plc n').map F/\∀ (md:Bool×List UInt8×List (List UInt8)×List Int) (w:List Int),(∀ x,zes (some md) x=some (F x))->zdh (some ((shp m' t' n' c',true,some md,(plc t').map F,w):StV))=some (B,0):=by
  rcases hok.m2 with rfl | rfl
  ·exact ⟨_,_,Told.shr k1 B r hBl,rowsS_shr _ _ _ _,fun md w hat=>Block_at t' n' c' md _ w B (by rw [hat,shr_zero])⟩
  ·have hr32:r.length=32:=by rw [hRl];rfl
   refine ⟨_,_,Told.pc k1 (pkg B r),rowsS_pc k1 _ _ _,fun md w hat=>?_⟩
   have:=(Block_parts hok (some md) w B r hBl hr32).2
   rwa [← parts_pc k1 (by omega) (pkg B r)] at this
 have hsp:=Spread_ok hok B r hBl hRl
 rw [hrows] at hsp
 obtain ⟨pl,hP,p1,p2,p3,p4⟩:=picked_eq (t:=t') (n:=n') F _ T.len z2 k2 hn7 order (by omega)
 rw [hOf,obs,show lenA 4 (List.replicate 4 (0:Int))=some () by rfl,obs,lenS,obs,show field_New=some true by rfl,obs,obs,hB,obs,hR,obs,hsp,obs]
 simp only
 rw [if_pos trivial,ixS1,obs,hP,obs]
 simp only
 have hd1:wI (((pl.map fun x=>(x.toNat:Int)).length:Int) - (t':Int))=((pl.length - t':Nat):Int):=by
  rw [List.length_map,wI_of (by omega) (by omega)];omega
 have hdv:divI ((pl.length - t'+1:Nat):Int) 2=some (((pl.length - t'+1) / 2:Nat):Int):=by
  rw [show (2:Int)=((2:Nat):Int) by rfl,zix _ _ (by omega) (by omega)]
 have hmt:(UInt64.ofInt (((pl.length - t'+1) / 2+1:Nat):Int)).toNat=(pl.length - t'+1) / 2+1:=by
  rw [ofInt64q _ (by omega)];simp;omega
 obtain ⟨K,hK1,hK2⟩:=mod_natq wrong (UInt64.ofInt (((pl.length - t'+1) / 2+1:Nat):Int)) (by rw [hmt];omega) (by rw [hmt];omega)
 rw [hmt] at hK1
 rw [obs,hd1,zau _ (by omega),hdv,obs,zau _ (by omega),nz_of (by rw [hmt];omega),obs,ixS3,obs,hK2,minI]
 obtain ⟨k,hk⟩:∃ k,min K c'=k:=⟨_,rfl⟩
 rw [hk]
 have hkc:k<=c':=by omega
 have hkm:2 * k<=pl.length - t'+1:=by omega
 obtain ⟨S,e50,s1,s2,s3,s4⟩:=spoil_spec wh k (pl.map F) pl.length (rowSz m' t') (List.length_map _) (by omega) (fun i hi=>by rw [zh2 F pl i hi];exact T.len _) z1 z2 (by omega) (by omega)
 have H:Spoilt m' t' n' F pl S k:={ nd:=p1,rg:=p2,tl:=p3,ln:=p4,sl:=s1,sz:=s2,eq:=fun i a b=>by rw [s3 i a b,zh2 F pl i b],ne:=fun i a=>by rw [s4 i a,zh2 F pl i (by omega)],kl:=by omega }
 rw [e50,obs,obs]
 have h2k:wI (2 * (k:Int))=((2 * k:Nat):Int):=by rw [wI_of (by omega) (by omega)];omega
 by_cases hbad:2 * k<=pl.length - t'
 ·obtain ⟨md,eG,hat⟩:=H.ok hok T hbad hkc
  rw [eG,obs]
  simp only
  rw [obs,hd1,h2k,if_neg (by omega),obs,Sum.elim_inl,if_pos trivial,hBlk md _ hat,obs]
  simp only
  rw [if_neg (by omega),obs,Sum.elim_inl,if_pos trivial,obs,if_pos rfl,WrongS_eq _ (by simp;omega),obs]
  simp only
  have hwl:((List.range k).map fun i=>(pl.map fun x=>(x.toNat:Int)).getD i 0).length=k:=by simp
  rw [hwl,if_pos rfl,obs,Sum.elim_inl,obs]
  have hW:∀ i:Nat,i<k->idx ((List.range k).map fun i=>(pl.map fun x=>(x.toNat:Int)).getD i 0) (i:Int)=some ((pl.map fun x=>(x.toNat:Int)).getD i 0):=fun i hi=>by
   rw [zf5];simp [hi]
  refine zbh (x:=Sum.inl ()) (zas (fun i=>(i:Int)) k _ rfl (fun i hi=>?_) ?_) ?_
  ·rw [hwl,if_pos (by omega),hW i hi,obs,idx_gS (by rw [List.length_map];omega),obs,if_pos rfl,zau i (by omega)]
  ·rw [hwl,if_neg (by omega)]
  rw [Sum.elim_inl]
  refine zbh (x:=Sum.inl ()) (zas (fun i=>((i+1:Nat):Int)) n' _ rfl (fun i hi=>?_) ?_) ?_
  ·rw [ixS2,obs,if_pos (by omega),wI_of (by omega) (by omega),show (((i+1:Nat):Int) - 1)=(i:Int) by omega,zci (by rw [List.length_map,zdd];omega),zh2 _ _ _ (by rw [zdd];omega),co_plcP hi,obs,RowS_eq _ _ _ _ _ hat i (by omega),obs,if_pos rfl,zau (i+1) (by omega)]
  ·rw [ixS2,obs,if_neg (by omega)]
  rw [Sum.elim_inl]
  have r0:∀ x:StV,zda (some x) 0=some []:=fun x=>by unfold zda;rw [if_neg (by simp),if_pos (by omega)]
  have r256:∀ x:StV,zda (some x) 256=some []:=fun x=>by unfold zda;rw [if_neg (by simp),if_neg (by omega),if_pos (by omega)]
  rw [r0,r256,obs,obs]
  rfl
 ·rw [H.bad hok T (by omega),obs]
  simp only
  rw [obs,hd1,h2k,if_pos (by omega),if_pos trivial,obs,Sum.elim_inr]
  rfl
end Gk

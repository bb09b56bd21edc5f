/- Parts Fs, F17, L17, Qk, Fh, LAa, Fg, Rc, GmI, GmJ, F10r, Sx, F10p, F10q, LAr, LAf, Ms0, Pa, Pe, Nd0, Pg, LAg, Pq, Px, Py, Z17, one behind the other. What is proved: said at the head of each part. No condition beside those said there. -/
import Derived.Test.YtmbnjinlfeopaaaGreatRows
import Derived.Orders
import Derived.Deep.Draws
import Derived.Laws.World
import Derived.KernelRfl
import Derived.OrdersIn
import Derived.TacticsIn
import Derived.RangeFuncCalls
import Derived.Deep.LoopGhost
import Derived.Tactics
import Derived.Sort.LoopGhostIn
import Derived.RangeFuncLeaves
import Derived.RangeFuncNested
import Derived.RangeFuncRecord
import Derived.Laws.Sem
import Derived.OwnWalk
import Derived.RangeFuncWrites
import Derived.Laws.IdiomCopy
import Derived.WalkKit
import Derived.ProofKit
import Derived.OpenShut
import Derived.ChangeOld
import Derived.Below
import Derived.Test.YtmbnjinlfeopaaaGreatProg
import Derived.MapKept
import Derived.Lib.AppendZerosOnto
import Derived.Laws.CopyRow
import Derived.Laws.Cells
import Derived.Lib.SlBytesConst
import Derived.Test.YtmbnjinlfeopaaaGreatZPStripeTells1
import Derived.Test.YtmbnjinlfeopaaaGreatZPStripeTells2
import Derived.Test.YtmbnjinlfeopaaaGreatZPStripeTells3
import Derived.Test.YtmbnjinlfeopaaaGreatZPStripeTells4
set_option maxRecDepth 100000
set_option maxHeartbeats 8000000
set_option linter.unusedVariables false
set_option linter.unusedSimpArgs false
/- This seat's struct of whole numbers: Shape. No condition. -/
namespace Gk
open Go Go.Proofs Go.RowKit
theorem G25:TyG Tryz.prog 25 3 4:=⟨Tryz.isAgg25,Tryz.sizeOf25,Tryz.sizeOf3,Tryz.isAgg3⟩
theorem Z25:∀ w,(zeroValue 25).run Tryz.prog w=.ok (ag i64 (List.replicate 4 (0:Int))) w:=fun w=>by rw [Tryz.zeroValue25];rfl
theorem fieldS0 (a:Addr) (w:World):(Instr.fieldAt 25 (.pointer (some a)) 0).run Tryz.prog w=.ok (.pointer (some (a.add 0))) w:=by simp [Instr.fieldAt,Instr.sureAddr,fieldPlace]
theorem ze6 (a:Addr) (w:World):(Instr.fieldAt 25 (.pointer (some a)) 1).run Tryz.prog w=.ok (.pointer (some (a.add 1))) w:=by simp [Instr.fieldAt,Instr.sureAddr,fieldPlace]
theorem fieldS2 (a:Addr) (w:World):(Instr.fieldAt 25 (.pointer (some a)) 2).run Tryz.prog w=.ok (.pointer (some (a.add 2))) w:=by simp [Instr.fieldAt,Instr.sureAddr,fieldPlace]
theorem fieldS3 (a:Addr) (w:World):(Instr.fieldAt 25 (.pointer (some a)) 3).run Tryz.prog w=.ok (.pointer (some (a.add 3))) w:=by simp [Instr.fieldAt,Instr.sureAddr,fieldPlace]
theorem buildS_0_2_3 (a b c:Int):∀ w,(Instr.build 25 #[(0,i64 a),(2,i64 b),(3,i64 c)]).run Tryz.prog w=.ok (ag i64 [a,0,b,c]) w:=fun w=>by
 unfold Instr.build
 simp only [Sem.run_bind,Z25,Result.andThen_ok,run_underlying Tryz.underlying25]
 simp [Tryz.sizeOf3,Instr.fill,Value.cells,ag,ac,i64,List.replicate]
theorem buildS_1_2 (a b:Int):∀ w,(Instr.build 25 #[(1,i64 a),(2,i64 b)]).run Tryz.prog w=.ok (ag i64 [0,a,b,0]) w:=fun w=>by
 unfold Instr.build
 simp only [Sem.run_bind,Z25,Result.andThen_ok,run_underlying Tryz.underlying25]
 simp [Tryz.sizeOf3,Instr.fill,Value.cells,ag,ac,i64,List.replicate]
end Gk

/- Printed by gen.py: for each Go function a pure function, and that the Go code comes to it. No condition beside the equation that says what the pure function gives. -/
namespace Gk
open Go Go.Proofs
noncomputable def zbm (a:List Int):Option Bool :=
((idx a 0).bind fun c =>
(if 0<=c then
(if c<2 then
((idx a 1).bind fun d =>
(if 1<=d then
((idx a 2).bind fun e =>
(if d<=e then
(if e<=255 then
((idx a 3).bind fun b =>
(if 0<=b then some (decide (b<=127))
else some false))
else some false)
else some false))
else some false))
else some false)
else some false))
theorem zcb (e:List Int) (w:Bool) (w0:World) (a:zbm e=some w) :
  Calls Tryz.prog 20 [ag i64 e].toArray w0 (fun x A=>x=.returned (.bool w)/\Ext w0 A):=by
 have z:Ext w0 w0:=Ext.refl w0;unfold zbm at a;refine zai (n:=38) Tryz.func20 V V V<|W_sr<|wls V V (zb0 (v:=ag i64 e) (cs:=ac i64 e) [] V V V ?_);intro C F b E y D;have B:=zaa y;have c:=z.trans B;refine av (.bool false) V V<|wnt<|W_sr<|bse a fun h s a=>wa V (zcu (j:=0) V fieldS0 V)<|wq V (zbg (m:=0) V G25 V b (zaj _ _) s)<|wa V (q_geI V V V)<|wlb V V (za5 (v:=(.bool (decide (0<=h)))) V V) (fun o=>?_) (fun o=>?_)
 ·replace a:=ifp o a;refine wa V (zcu (j:=0) V fieldS0 V)<|wq V (zbg (m:=0) V G25 V b (zaj _ _) s)<|wa V (q_ltI V V V)<|wa V (zaq (v:=(.bool (decide (h<2)))) V V V)<|wlb V V (za5 (v:=(.bool (decide (h<2)))) V V) (fun p=>?_) (fun p=>?_)
  ·replace a:=ifp p a;obtain ⟨f,t,a⟩:=bsi a;refine wa V (zcu (j:=1) V ze6 V)<|wq V (zbg (m:=0) V G25 V b (zaj _ _) t)<|wa V (q_geI V V V)<|wa V (zaq (v:=(.bool (decide (1<=f)))) V V V)<|wlb V V (za5 (v:=(.bool (decide (1<=f)))) V V) (fun q=>?_) (fun q=>?_)
   ·replace a:=ifp q a;refine wa V (zcu (j:=1) V ze6 V)<|wq V (zbg (m:=0) V G25 V b (zaj _ _) t)<|bse a fun g u a=>wa V (zcu (j:=2) V fieldS2 V)<|wq V (zbg (m:=0) V G25 V b (zaj _ _) u)<|wa V (q_leI V V V)<|wa V (zaq (v:=(.bool (decide (f<=g)))) V V V)<|wlb V V (za5 (v:=(.bool (decide (f<=g)))) V V) (fun i=>?_) (fun i=>?_)
    ·replace a:=ifp i a;refine wa V (zcu (j:=2) V fieldS2 V)<|wq V (zbg (m:=0) V G25 V b (zaj _ _) u)<|wa V (q_leI V V V)<|wa V (zaq (v:=(.bool (decide (g<=255)))) V V V)<|wlb V V (za5 (v:=(.bool (decide (g<=255)))) V V) (fun k=>?_) (fun k=>?_)
     ·replace a:=ifp k a;obtain ⟨d,r,a⟩:=bsi a;refine wa V (zcu (j:=3) V fieldS3 V)<|wq V (zbg (m:=0) V G25 V b (zaj _ _) r)<|wa V (q_geI V V V)<|wa V (zaq (v:=(.bool (decide (0<=d)))) V V V)<|wlb V V (za5 (v:=(.bool (decide (0<=d)))) V V) (fun l=>?_) (fun l=>?_)
      ·replace a:=ifp l a;refine wa V (zcu (j:=3) V fieldS3 V)<|wq V (zbg (m:=0) V G25 V b (zaj _ _) r)<|wa V (q_leI V V V)<|wa V (zaq (v:=(.bool (decide (d<=127)))) V V V)<|av (.bool (decide (d<=127))) V V<|wnt<|W_ret<|?_;obtain rfl:=osi a;refine rt1 (.bool (decide (d<=127))) V V V V ?_;exact ⟨rfl,c⟩
      replace a:=ifn l a;refine wk V<|wk V<|wk V<|wa V (zap (v:=(.bool false)) V V V)<|av (.bool false) V V<|wnt<|W_ret<|?_;obtain rfl:=osi a;refine rt1 (.bool false) V V V V ?_;exact ⟨rfl,c⟩
     replace a:=ifn k a;refine wk V<|wk V<|wk V<|wa V (zap (v:=(.bool false)) V V V)<|mv (.bool false) V V<|wk V<|wk V<|wk V<|wa V (zap (v:=(.bool false)) V V V)<|av (.bool false) V V<|wnt<|W_ret<|?_;obtain rfl:=osi a;refine rt1 (.bool false) V V V V ?_;exact ⟨rfl,c⟩
    replace a:=ifn i a;refine wk V<|wk V<|wk V<|wa V (zap (v:=(.bool false)) V V V)<|mv (.bool false) V V<|wk V<|wk V<|wk V<|?_;refine wa V (zap (v:=(.bool false)) V V V)<|mv (.bool false) V V<|wk V<|wk V<|wk V<|wa V (zap (v:=(.bool false)) V V V)<|av (.bool false) V V<|wnt<|W_ret ?_;obtain rfl:=osi a;refine rt1 (.bool false) V V V V ?_;exact ⟨rfl,c⟩
   replace a:=ifn q a;refine wk V<|wk V<|wk V<|wk V<|wk V<|wa V (zap (v:=(.bool false)) V V V)<|mv (.bool false) V V<|wk V<|?_;refine wk V<|wk V<|wa V (zap (v:=(.bool false)) V V V)<|mv (.bool false) V V<|wk V<|wk V<|wk V<|wa V (zap (v:=(.bool false)) V V V)<|?_;refine mv (.bool false) V V<|wk V<|wk V<|wk V<|wa V (zap (v:=(.bool false)) V V V)<|av (.bool false) V V<|wnt<|W_ret<|?_;obtain rfl:=osi a;refine rt1 (.bool false) V V V V ?_;exact ⟨rfl,c⟩
  replace a:=ifn p a;refine wk V<|wk V<|wk V<|wa V (zap (v:=(.bool false)) V V V)<|mv (.bool false) V V<|wk V<|wk V<|wk V<|?_;refine wk V<|wk V<|wa V (zap (v:=(.bool false)) V V V)<|mv (.bool false) V V<|wk V<|wk V<|wk V<|wa V (zap (v:=(.bool false)) V V V)<|?_;refine mv (.bool false) V V<|wk V<|wk V<|wk V<|wa V (zap (v:=(.bool false)) V V V)<|mv (.bool false) V V<|wk V<|wk V<|wk V<|wa V (zap (v:=(.bool false)) V V V)<|av (.bool false) V V<|wnt<|W_ret<|?_;obtain rfl:=osi a;refine rt1 (.bool false) V V V V ?_;exact ⟨rfl,c⟩
 replace a:=ifn o a;refine wk V<|wk V<|wk V<|wa V (zap (v:=(.bool false)) V V V)<|mv (.bool false) V V<|wk V<|wk V<|wk V<|?_;refine wa V (zap (v:=(.bool false)) V V V)<|mv (.bool false) V V<|wk V<|wk V<|wk V<|wk V<|wk V<|wa V (zap (v:=(.bool false)) V V V)<|?_;refine mv (.bool false) V V<|wk V<|wk V<|wk V<|wa V (zap (v:=(.bool false)) V V V)<|mv (.bool false) V V<|wk V<|wk V<|?_;refine wk V<|wa V (zap (v:=(.bool false)) V V V)<|mv (.bool false) V V<|wk V<|wk V<|wk V<|wa V (zap (v:=(.bool false)) V V V)<|av (.bool false) V V<|wnt<|W_ret<|?_;obtain rfl:=osi a;refine rt1 (.bool false) V V V V ?_;exact ⟨rfl,c⟩
noncomputable def zcf (a:List Int):Option Int :=
((lenA 4 a).bind fun f =>
((zbm a).bind fun e =>
(if (!e)=true then some 0
else
((idx a 0).bind fun c =>
(if c=0 then some 440
else
((idx a 1).bind fun b =>
((zdo 473 b).bind fun d => some d)))))))
theorem zhh (b:List Int) (h:Int) (w0:World) (a:zcf b=some h) :
  Calls Tryz.prog 21 [ag i64 b].toArray w0 (fun o z=>o=.returned (i64 h)/\Ext w0 z):=by
 have s:Ext w0 w0:=Ext.refl w0;unfold zcf at a;refine zai (n:=14) Tryz.func21 V V V<|W_sr<|wls V V (zb0 (v:=ag i64 b) (cs:=ac i64 b) [] V V V ?_);intro D G c F r E;have A:=zaa r;have q:=s.trans A;refine av (i64 0) V V<|wnt<|W_seq<|zac<|W_sr<|bse a fun C u a=>wq V (zet (m:=0) V G25 V c (zaj _ _) (zag u)) ?_;obtain ⟨i,y,a⟩:=bsi a;refine wls V V (zab (vs:=[ag i64 b]) Tryz.func20 V V V (ar1 V) (zcb b  i _  y) ?_);rintro _ I ⟨rfl,k⟩;refine ⟨_,rfl,?_⟩;replace c:=c.ext k;have d:=q.trans k;refine wa V (q_not V V)<|av (.bool (!i)) V V<|wnt<|zak _ V V (fun e=>?_) (fun e=>?_)
 ·replace a:=(if_pos e).symm.trans a;refine W_sr<|av (i64 0) V V<|wnt<|W_ret<|bk_r<|th_r<|?_;obtain rfl:=osi a;refine rt1 (i64 0) V V V V ?_;exact ⟨rfl,d⟩
 replace a:=(if_neg (ne_true_of_eq_false e)).symm.trans a;refine W_sr<|bse a fun l w a=>wa V (zcu (j:=0) V fieldS0 V)<|wq V (zbg (m:=0) V G25 V c (zaj _ _) w)<|wa V (q_eqI V V V)<|av (.bool (decide (l=0))) V V<|wnt<|wci a V V (fun a=>?_) (fun a=>?_)
 ·refine W_sr<|av (i64 440) V V<|wnt<|W_ret<|bk_r<|th_r<|?_;obtain rfl:=osi a;refine rt1 (i64 440) V V V V ?_;exact ⟨rfl,d⟩
 refine zad<|bk_n<|W_th<|W_sr<|bse a fun g t a=>wa V (zcu (j:=1) V ze6 V)<|wq V (zbg (m:=0) V G25 V c (zaj _ _) t)<|?_;obtain ⟨f,x,a⟩:=bsi a;refine wls V V (zab (vs:=[i64 473,i64 g]) Tryz.func50 V V V (ar2 V V) (zgw 473 g  f _  x) ?_);rintro _ H ⟨rfl,B⟩;refine ⟨_,rfl,?_⟩;have p:=d.trans B;refine av (i64 f) V V<|wnt<|W_ret<|?_;obtain rfl:=osi a;refine rt1 (i64 f) V V V V ?_;exact ⟨rfl,p⟩
noncomputable def zcl (a:List Int):Option Int :=
((lenA 4 a).bind fun f =>
((zbm a).bind fun e =>
(if (!e)=true then some 0
else
((idx a 0).bind fun c =>
(if c=0 then
((idx a 1).bind fun b =>
((zcp b 440).bind fun d => some d))
else some 32)))))
theorem ze3 (b:List Int) (h:Int) (w0:World) (a:zcl b=some h) :
  Calls Tryz.prog 22 [ag i64 b].toArray w0 (fun o z=>o=.returned (i64 h)/\Ext w0 z):=by
 have s:Ext w0 w0:=Ext.refl w0;unfold zcl at a;refine zai (n:=14) Tryz.func22 V V V<|W_sr<|wls V V (zb0 (v:=ag i64 b) (cs:=ac i64 b) [] V V V ?_);intro D G c F r E;have A:=zaa r;have q:=s.trans A;refine av (i64 0) V V<|wnt<|W_seq<|zac<|W_sr<|bse a fun C u a=>wq V (zet (m:=0) V G25 V c (zaj _ _) (zag u)) ?_;obtain ⟨i,y,a⟩:=bsi a;refine wls V V (zab (vs:=[ag i64 b]) Tryz.func20 V V V (ar1 V) (zcb b  i _  y) ?_);rintro _ I ⟨rfl,k⟩;refine ⟨_,rfl,?_⟩;replace c:=c.ext k;have d:=q.trans k;refine wa V (q_not V V)<|av (.bool (!i)) V V<|wnt<|zak _ V V (fun e=>?_) (fun e=>?_)
 ·replace a:=(if_pos e).symm.trans a;refine W_sr<|av (i64 0) V V<|wnt<|W_ret<|bk_r<|th_r<|?_;obtain rfl:=osi a;refine rt1 (i64 0) V V V V ?_;exact ⟨rfl,d⟩
 replace a:=(if_neg (ne_true_of_eq_false e)).symm.trans a;refine W_sr<|bse a fun l w a=>wa V (zcu (j:=0) V fieldS0 V)<|wq V (zbg (m:=0) V G25 V c (zaj _ _) w)<|wa V (q_eqI V V V)<|av (.bool (decide (l=0))) V V<|wnt<|wci a V V (fun a=>?_) (fun a=>?_)
 ·refine W_sr<|bse a fun g t a=>wa V (zcu (j:=1) V ze6 V)<|wq V (zbg (m:=0) V G25 V c (zaj _ _) t)<|?_;obtain ⟨f,x,a⟩:=bsi a;refine wls V V (zab (vs:=[i64 g,i64 440]) Tryz.func51 V V V (ar2 V V) (zf4 g 440  f _  x) ?_);rintro _ H ⟨rfl,B⟩;refine ⟨_,rfl,?_⟩;have p:=d.trans B;refine av (i64 f) V V<|wnt<|W_ret<|bk_r<|th_r<|?_;obtain rfl:=osi a;refine rt1 (i64 f) V V V V ?_;exact ⟨rfl,p⟩
 refine zad<|bk_n<|W_th<|W_sr<|av (i64 32) V V<|wnt<|W_ret<|?_;obtain rfl:=osi a;refine rt1 (i64 32) V V V V ?_;exact ⟨rfl,d⟩
noncomputable def zco (b:List Int):Option (List UInt8) :=
((idx b 2).bind fun d =>
((iterC (fun a:List UInt8×Int =>
(if a.2<d then
((appL a.1 ([UInt8.ofInt (wI (a.2+1))]:List UInt8)).bind fun c => some (.inl (c,wI (a.2+1))))
else some (.inr a.1))) (([]:List UInt8),0)).bind fun e => some e))
theorem zhq (h:List Int) (z:List UInt8) (w0:World) (d:zco h=some z) :
  Calls Tryz.prog 26 [ag i64 h].toArray w0 (fun I F=>∃ s:Value,I=.returned s/\Ext w0 F/\Nw w0 s/\OwK (Sc u8) F [] 5 s z):=by
 have P:Ext w0 w0:=Ext.refl w0;unfold zco at d;refine zai (n:=18) Tryz.func26 V V V<|W_sr<|wls V V (zb0 (v:=ag i64 h) (cs:=ac i64 h) [] V V V ?_);intro aB aG a2 aF N aC;have a8:=zaa N;have K:=P.trans a8;refine av (.slice none 0 0) V V<|wnt<|W_sr<|av (.slice none 0 0) V V<|wnt<|W_seq<|W_seq<|W_rg<|bse d fun H T d=>wa V (zcu (j:=2) V fieldS2 V)<|wq V (zbg (m:=0) V G25 V a2 (zaj _ _) T)<|mv (i64 0) V V<|wnt<|?_;obtain ⟨a9,G,d⟩:=bsi d;refine W_mid (fun c g=>∃ o:Value,c 3=o/\c 18=undef/\Ext w0 g/\OwK (Sc u8) g [o] 5 o a9/\Nw w0 o) ?_ ?_
 ·refine zac<|za4 (fun a c g=>∃ i:Value,c 3=i/\c 6=i64 H/\c 7=i64 a.2/\c 18=undef/\Ext w0 g/\OwK (Sc u8) g [i] 5 i a.1/\Nw w0 i) G ?_ ?_
  ·exact ⟨.slice none 0 0,rfl,rfl,rfl,rfl,K,OwK.nil _ _ _ _,Nw.nil _⟩
  rintro a _ _ aJ ⟨f,B,C,r,A,x,e,q⟩ b W;refine W_sr<|wa V (q_ltI V r C)<|wnt<|W_seq<|wci b V V (fun b=>?_) (fun b=>?_)
  ·refine zad<|W_th<|W_seq<|zac<|W_sr<|mv (i64 a.2) V r<|av (i64 a.2) V V<|wnt<|W_rg<|mv f V B<|mv (i64 a.2) V V<|wa V (zam V V V)<|wa V (zg6 V V V V)<|wls V V (zax (L:=[f]) (R:=Sc u8) [u8 (UInt8.ofInt (wI (a.2+1)))] ([UInt8.ofInt (wI (a.2+1))]:List UInt8) V T22 V (by exact ⟨rfl,rfl,trivial⟩) V (litC u8 zbx (us:=[u8 (UInt8.ofInt (wI (a.2+1)))]) (l:=([UInt8.ofInt (wI (a.2+1))]:List UInt8)) V) V (litS u8 (us:=[u8 (UInt8.ofInt (wI (a.2+1)))]) (l:=([UInt8.ofInt (wI (a.2+1))]:List UInt8)) V) ?_);intro E a7 a4 Z O aE;have t:=zaa O;have i8:By a7 [f] E ([UInt8.ofInt (wI (a.2+1))]:List UInt8):=OwK.slk (Sc.stab _) _ a4 (fun y U=>(Old.cons (Old.nil _) e.lt) y (Z y U)) (fun _ p=>p.2);replace e:=e.extL (Sc.stab _) t (le_ t);have w:=x.trans t;obtain ⟨aA,S,b⟩:=bsi b;refine wls V V (zar (R:=Sc u8) (v:=f) (u:=E) (Sc.stab _) [] [] V T22 V V e i8 (fun _ _ p=>p) S oc_u8 ?_);intro D aH a3 M a0 aD;have J:=w.grown M q;have Y:=Nw.nxt w q a0;refine av D V V<|zah<|bk_n<|W_th<|W_rg<|wa V (zam V r V)<|mv (i64 (wI (a.2+1))) V V<|zah<|?_;obtain rfl:=osi b;exact ⟨_,rfl,D,rfl,C,rfl,A,J,a3,Y⟩
  refine zaz<|th_x<|?_;obtain rfl:=osi b;obtain rfl:=W _ rfl;refine th_x<|bk_x<|?_;exact ⟨f,B,A,x,e,q⟩
 rintro _ aI ⟨k,a6,a5,Q,a1,X⟩;refine W_th<|W_sr<|mv k V a6<|av k V V<|wnt<|W_ret<|?_;obtain rfl:=osi d;refine rt1 k V V V a5 ?_;exact ⟨k,rfl,Q,X,a1.weak (Sc.stab _) (fun _ _=>trivial)⟩
noncomputable def zc0 (a:List Int) (b:Bool) (c:List UInt8):Option Int :=
(if (!b)=true then some 1
else
((lenA 4 a).bind fun f =>
((zbm a).bind fun e =>
(if (!e)=true then some 2
else
((lenA 4 a).bind fun g =>
((zcl a).bind fun d =>
(if (c.length:Int)=d then some 0
else some 3)))))))
theorem zhy (b:List Int) (d:Bool) (e:List UInt8) (k:Value) (l:Value) (p:Int) (w0:World) (z:Fd w0 [] k d) (A:By w0 [] l e) (a:zc0 b d e=some p) :
  Calls Tryz.prog 24 [ag i64 b,k,l].toArray w0 (fun t D=>t=.returned (i64 p)/\Ext w0 D):=by
 have w:Ext w0 w0:=Ext.refl w0;unfold zc0 at a;refine zai (n:=20) Tryz.func24 V V V<|W_sr<|wls V V (zb0 (v:=ag i64 b) (cs:=ac i64 b) [] V V V ?_);intro I L c K u J;have E:=zaa u;have f:=w.trans E;refine av (i64 0) V V<|wnt<|W_seq<|zac<|W_sr<|mv k V V<|wa V (q_eqF V V V V (z.lift (le_ f)))<|av (.bool (!d)) V V<|wnt<|zak _ V V (fun i=>?_) (fun i=>?_)
 ·replace a:=(if_pos i).symm.trans a;refine W_sr<|av (i64 1) V V<|wnt<|W_ret<|bk_r<|th_r<|?_;obtain rfl:=osi a;refine rt1 (i64 1) V V V V ?_;exact ⟨rfl,f⟩
 replace a:=(if_neg (ne_true_of_eq_false i)).symm.trans a;refine W_sr<|bse a fun G x a=>wq V (zet (m:=0) V G25 V c (zaj _ _) (zag x)) ?_;obtain ⟨r,C,a⟩:=bsi a;refine wls V V (zab (vs:=[ag i64 b]) Tryz.func20 V V V (ar1 V) (zcb b  r _  C) ?_);rintro _ N ⟨rfl,s⟩;refine ⟨_,rfl,?_⟩;replace c:=c.ext s;have g:=f.trans s;refine wa V (q_not V V)<|av (.bool (!r)) V V<|wnt<|zak _ V V (fun j=>?_) (fun j=>?_)
 ·replace a:=(if_pos j).symm.trans a;refine W_sr<|av (i64 2) V V<|wnt<|W_ret<|bk_r<|th_r<|?_;obtain rfl:=osi a;refine rt1 (i64 2) V V V V ?_;exact ⟨rfl,g⟩
 replace a:=(if_neg (ne_true_of_eq_false j)).symm.trans a;refine W_sr<|mv l V V<|wa V (q_len V T22.sl V (A.lift (le_ g)))<|bse a fun H y a=>wq V (zet (m:=0) V G25 V c (zaj _ _) (zag y)) ?_;obtain ⟨q,B,a⟩:=bsi a;refine wls V V (zab (vs:=[ag i64 b]) Tryz.func22 V V V (ar1 V) (ze3 b  q _  B) ?_);rintro _ M ⟨rfl,F⟩;refine ⟨_,rfl,?_⟩;have o:=g.trans F;refine wa V (q_neI V V V)<|av (.bool (!decide ((e.length:Int)=q))) V V<|wnt<|zak _ V V (fun h=>?_) (fun h=>?_)
 ·replace a:=(if_neg (zbf h)).symm.trans a;refine W_sr<|av (i64 3) V V<|wnt<|W_ret<|bk_r<|th_r<|?_;obtain rfl:=osi a;refine rt1 (i64 3) V V V V ?_;exact ⟨rfl,o⟩
 replace a:=(if_pos (zbd h)).symm.trans a;refine zad<|bk_n<|W_th<|W_sr<|av (i64 0) V V<|wnt<|W_ret<|?_;obtain rfl:=osi a;refine rt1 (i64 0) V V V V ?_;exact ⟨rfl,o⟩
noncomputable def zb3 (a:List Int) (b:Bool) (c:List UInt8) (d:List UInt8):Option (List (List UInt8)×Int) :=
((lenA 4 a).bind fun q =>
((zc0 a b d).bind fun i =>
(if i=0 then
(if (c.length:Int)=440 then
((idx a 0).bind fun m =>
(if m=0 then
((idx a 1).bind fun j =>
((lenA 4 a).bind fun p =>
((zco a).bind fun n =>
((zf1 b j c d n).bind fun g => some (g.1,g.2)))))
else
((aont_Wrap b d c).bind fun e =>
(if e.2=0 then
((idx a 1).bind fun k =>
((zat ([([(1:UInt8)]:List UInt8),e.1]:List (List UInt8))).bind fun o =>
((code_Cut o k).bind fun f =>
(if f.2=0 then
((idx a 2).bind fun l =>
((zgs b l f.1).bind fun h => some (h.1,h.2)))
else some (([]:List (List UInt8)),f.2)))))
else some (([]:List (List UInt8)),e.2)))))
else some (([]:List (List UInt8)),3))
else some (([]:List (List UInt8)),i))))
theorem zc5 (s:List Int) (t:Bool) (E:List UInt8) (A:List UInt8) (g:Value) (q:Value) (k:Value) (X:List (List UInt8)×Int) (w0:World) (c:List Value) (p:Old w0 c) (F:Fd w0 [] g t) (U:By w0 [] q E) (W:By w0 [] k A) (a:zb3 s t E A=some X) :
  Calls Tryz.prog 9 [ag i64 s,g,q,k].toArray w0 (fun aP aI=>∃ J:Value,aP=.returned (.tuple #[J,i64 X.2])/\Ext w0 aI/\Nw w0 J/\OwK By aI (J::c) 22 J X.1):=by
 have aT:Ext w0 w0:=Ext.refl w0;unfold zb3 at a;refine zai (n:=67) Tryz.func9 V V V<|W_sr<|wls V V (zb0 (v:=ag i64 s) (cs:=ac i64 s) c V V V ?_);intro e cE b cD aS cA;have c4:=zaa aS;have N:=aT.trans c4;refine av (.slice none 0 0) V V<|av (i64 0) V V<|wnt<|W_seq<|W_sr<|bse a fun c8 aY a=>wq V (zet (m:=0) V G25 V b (zaj _ _) (zag aY))<|mv g V V<|mv k V V<|?_;obtain ⟨x,b6,a⟩:=bsi a;refine wls V V (zab (vs:=[ag i64 s,g,k]) Tryz.func24 V V V (ar3 V V V) (zhy s t A g k x _ (F.lift (le_ N)) (W.lift (le_ N)) b6) ?_);rintro _ c2 ⟨rfl,aO⟩;refine ⟨_,rfl,?_⟩;replace b:=b.ext aO;have o:=N.trans aO;refine av (i64 x) V V<|wnt<|W_sr<|mv (i64 x) V V<|wa V (q_neI V V V)<|wnt<|zak _ V V (fun S=>?_) (fun S=>?_)
 ·replace a:=(if_neg (zbf S)).symm.trans a;refine W_sr<|mv (i64 x) V V<|av (.slice none 0 0) V V<|av (i64 x) V V<|wnt<|W_ret<|th_r<|?_;obtain rfl:=osi a;refine rt2 (.slice none 0 0) (i64 x) V V V V V V ?_;exact ⟨.slice none 0 0,rfl,o,Nw.nil _,OwK.nil _ _ _ _⟩
 replace a:=(if_pos (zbd S)).symm.trans a;refine zad<|W_th<|W_seq<|W_sr<|mv q V V<|wa V (q_len V T22.sl V (U.lift (le_ o)))<|wa V (q_neI V V V)<|wnt<|zak _ V V (fun T=>?_) (fun T=>?_)
 ·replace a:=(if_neg (zbf T)).symm.trans a;refine W_sr<|av (.slice none 0 0) V V<|av (i64 3) V V<|wnt<|W_ret<|th_r<|?_;obtain rfl:=osi a;refine rt2 (.slice none 0 0) (i64 3) V V V V V V ?_;exact ⟨.slice none 0 0,rfl,o,Nw.nil _,OwK.nil _ _ _ _⟩
 replace a:=(if_pos (zbd T)).symm.trans a;refine zad<|W_th<|W_seq<|W_sr<|bse a fun c9 aZ a=>wa V (zcu (j:=0) V fieldS0 V)<|wq V (zbg (m:=0) V G25 V b (zaj _ _) aZ)<|wa V (q_eqI V V V)<|wnt<|wci a V V (fun a=>?_) (fun a=>?_)
 ·refine W_seq<|zbi [2,5] [(0,0),(1,0),(2,1),(3,0),(4,0),(5,1),(6,2),(7,2),(8,0),(9,0),(10,0),(11,0)] mixed (by kernel_rfl) (by kernel_rfl) (by kernel_rfl) (by kernel_rfl) ?_;have aK:=Ext.drew c2;replace b:=b.ext aK;have a9:=o.trans aK;refine sv g V V V ?_;obtain ⟨a6,aU,a⟩:=bsi a;refine sa V V (zcu (j:=1) V ze6 V)<|sq V V (zbg (m:=0) V G25 V b (zaj _ _) aU)<|sv q V V V<|sv k V V V<|bse a fun c7 aV a=>sq V V (zet (m:=0) V G25 V b (zaj _ _) (zag aV)) ?_;obtain ⟨Y,b0,a⟩:=bsi a;refine wss V V V (zab (vs:=[ag i64 s]) Tryz.func26 V V V (ar1 V) (zhq s  Y _  b0) ?_);rintro _ bW ⟨K,rfl,a2,bB,bL⟩;refine ⟨_,rfl,a2,?_⟩;have b7:By bW (bp e::c) K Y:=OwK.slk (Sc.stab _) _ (OwK.scal bL (K::(bp e::c))) (fun f i=>(Old.cons (p.ext a9) b.ltB) f (bB f i)) (fun _ d=>d.2);replace b:=b.ext a2;have u:=a9.trans a2;obtain ⟨H,b1,a⟩:=bsi a;refine wsc V (by kernel_rfl) V V (zab (vs:=[g,i64 a6,q,k,K]) Tryz.func25 V V V (ar5 V V V V V) (shamir_Split_calls t a6 E A Y g q k K H _ (bp e::c) (Old.cons (p.ext u) b.ltB) (F.lift (le_ u)) (U.lift (le_ u)) (W.lift (le_ u)) (b7.lift (Lift.sub (L':=[]) (fun _ _=>trivial))) b1) ?_);rintro _ bX ⟨C,rfl,c5,bC,bN⟩;refine ⟨_,rfl,?_⟩;have bM:OwK By bX (C::(bp e::c)) 22 C H.1:=bN;have bD:=Nw.ext u bC;have aQ:=u.trans c5;refine sa V V (zaf V V V)<|sa V V (zaf V V V)<|sa V V (zan (v:=C) V V)<|sa V V (zan (v:=i64 H.2) V V)<|zaw<|W_th<|W_ret<|th_r<|?_;obtain rfl:=osi a;refine rt2 C (i64 H.2) V V V V V V ?_;exact ⟨C,rfl,aQ,bD,bM.weak (SlK.stab (Sc.stab _)) (fun _ d=>⟨d.1,d.2.2⟩)⟩
 refine zad<|W_th<|W_sr<|mv g V V<|mv k V V<|mv q V V<|?_;obtain ⟨h,b2,a⟩:=bsi a;refine wls V V (zab (vs:=[g,k,q]) Tryz.func27 V V V (ar3 V V V) (aont_Wrap_calls t A E g k q h _ (F.lift (le_ o)) (W.lift (le_ o)) (U.lift (le_ o)) b2) ?_);rintro _ aJ ⟨y,rfl,aL,bE,bO⟩;refine ⟨_,rfl,?_⟩;have G:By aJ (bp e::c) y h.1:=OwK.slk (Sc.stab _) _ (OwK.scal bO (y::(bp e::c))) (fun f i=>(Old.cons (p.ext o) b.ltB) f (bE f i)) (fun _ d=>d.2);replace b:=b.ext aL;have aA:=o.trans aL;refine mv (.tuple #[y,i64 h.2]) V V<|wa V (zaf V V V)<|wa V (zaf V V V)<|av y V V<|av (i64 h.2) V V<|wnt<|W_seq<|W_seq<|W_rg<|mv (i64 h.2) V V<|wa V (q_neI V V V)<|wnt<|zak _ V V (fun P=>?_) (fun P=>?_)
 ·replace a:=(if_neg (zbf P)).symm.trans a;refine W_sr<|mv (i64 h.2) V V<|av (.slice none 0 0) V V<|av (i64 h.2) V V<|wnt<|W_ret<|th_r<|?_;obtain rfl:=osi a;refine rt2 (.slice none 0 0) (i64 h.2) V V V V V V ?_;exact ⟨.slice none 0 0,rfl,aA,Nw.nil _,OwK.nil _ _ _ _⟩
 replace a:=(if_pos (zbd P)).symm.trans a;refine zad<|W_th<|W_seq<|zbi [5] [(1,0),(4,0),(5,1),(0,2),(2,2),(3,2),(6,2),(7,0),(8,0),(9,0),(10,0),(11,0)] mixed (by kernel_rfl) (by kernel_rfl) (by kernel_rfl) (by kernel_rfl) ?_;have a3:=Ext.drew aJ;replace b:=b.ext a3;have aB:=aA.trans a3;refine sv y V V V ?_;obtain ⟨a7,aW,a⟩:=bsi a;refine sa V V (zcu (j:=1) V ze6 V)<|sq V V (zbg (m:=0) V G25 V b (zaj _ _) aW)<|wss V V V (zax (L:=(bp e::c)) (R:=Sc u8) [u8 1] ([(1:UInt8)]:List UInt8) V T22 V (by exact ⟨rfl,cst8 (1:UInt8) V,trivial⟩) V (litC u8 zbx (us:=[u8 1]) (l:=([(1:UInt8)]:List UInt8)) V) V (litS u8 (us:=[u8 1]) (l:=([(1:UInt8)]:List UInt8)) V) ?_);intro aH a1 bP bF aE cB;refine ⟨zaa aE,?_⟩;have a4:=zaa aE;have aG:By a1 (bp e::c) aH ([(1:UInt8)]:List UInt8):=OwK.slk (Sc.stab _) _ bP (fun f i=>(Old.cons (p.ext aB) b.ltB) f (bF f i)) (fun _ d=>d.2);replace G:=(G.lift (le_ a3)).lift (le_ a4);replace b:=b.ext a4;have aC:=aB.trans a4;refine wss V V V (zax (L:=(bp e::c)) (R:=By) [aH,y] ([([(1:UInt8)]:List UInt8),h.1]:List (List UInt8)) V T29 V (by exact ⟨rfl,rfl,rfl,rfl,trivial⟩) V (LitR.cells (R:=By) (w:=a1) (L:=(bp e::c)) (l:=([([(1:UInt8)]:List UInt8),h.1]:List (List UInt8))) (LitR.cons aG (LitR.cons G LitR.nil)) (fun bV c3 d=>zcj bV c3 d)) V (LitR.all (R:=By) (w:=a1) (L:=(bp e::c)) (l:=([([(1:UInt8)]:List UInt8),h.1]:List (List UInt8))) (SlK.stab (Sc.stab _)) (LitR.cons aG (LitR.cons G LitR.nil))) ?_);intro a0 bY bQ bG aF cC;refine ⟨zaa aF,?_⟩;have aM:=zaa aF;have b8:Rw bY (bp e::c) a0 ([([(1:UInt8)]:List UInt8),h.1]:List (List UInt8)):=OwK.slk (SlK.stab (Sc.stab _)) _ bQ (fun f i=>(Old.cons (p.ext aC) b.ltB) f (bG f i)) (fun _ d=>d.2);replace b:=b.ext aM;have aD:=aC.trans aM;obtain ⟨Z,b3,a⟩:=bsi a;refine wss V V V (zab (vs:=[a0]) Tryz.func29 V V V (ar1 V) (za2 ([([(1:UInt8)]:List UInt8),h.1]:List (List UInt8)) a0 Z _ (b8.lift (Lift.sub (L':=[]) (fun _ _=>trivial))) b3) ?_);rintro _ bZ ⟨M,rfl,a5,bH,bR⟩;refine ⟨_,rfl,a5,?_⟩;have b9:By bZ (bp e::c) M Z:=OwK.slk (Sc.stab _) _ (OwK.scal bR (M::(bp e::c))) (fun f i=>(Old.cons (p.ext aD) b.ltB) f (bH f i)) (fun _ d=>d.2)
 replace b:=b.ext a5;have O:=aD.trans a5;obtain ⟨r,b4,a⟩:=bsi a;refine wsc V (by kernel_rfl) V V (zab (vs:=[M,i64 a7]) Tryz.func28 V V V (ar2 V V) (code_Cut_calls Z a7 M r _ (bp e::c) (Old.cons (p.ext O) b.ltB) (b9.lift (Lift.sub (L':=[]) (fun _ _=>trivial))) b4) ?_);rintro _ c0 ⟨z,rfl,aN,bI,bS⟩;refine ⟨_,rfl,?_⟩;have bA:Rw c0 (bp e::c) z r.1:=OwK.slk (SlK.stab (Sc.stab _)) _ bS (fun f i=>(Old.cons (p.ext O) b.ltB) f (bI f i)) (fun _ d=>d.2);replace b:=b.ext aN;have B:=O.trans aN;refine sv (.tuple #[z,i64 r.2]) V V V<|sa V V (zaf V V V)<|sa V V (zaf V V V)<|sa V V (zan (v:=z) V V)<|sa V V (zan (v:=i64 r.2) V V)<|zaw<|W_th<|W_seq<|W_sr<|mv (i64 r.2) V V<|wa V (q_neI V V V)<|wnt<|zak _ V V (fun Q=>?_) (fun Q=>?_)
 ·replace a:=(if_neg (zbf Q)).symm.trans a;refine W_sr<|mv (i64 r.2) V V<|av (.slice none 0 0) V V<|av (i64 r.2) V V<|wnt<|W_ret<|th_r<|?_;obtain rfl:=osi a;refine rt2 (.slice none 0 0) (i64 r.2) V V V V V V ?_;exact ⟨.slice none 0 0,rfl,B,Nw.nil _,OwK.nil _ _ _ _⟩
 replace a:=(if_pos (zbd Q)).symm.trans a;refine zad<|W_th<|W_sr<|mv g V V<|bse a fun a8 aX a=>wa V (zcu (j:=2) V fieldS2 V)<|wq V (zbg (m:=0) V G25 V b (zaj _ _) aX)<|mv z V V<|?_;obtain ⟨I,b5,a⟩:=bsi a;refine wls V V (zab (vs:=[g,i64 a8,z]) Tryz.func30 V V V (ar3 V V V) (code_Encode_calls t a8 r.1 g z I _ (bp e::c) (Old.cons (p.ext B) b.ltB) (F.lift (le_ B)) (bA.lift (Lift.sub (L':=[]) (fun _ _=>trivial))) b5) ?_);rintro _ c1 ⟨D,rfl,c6,bJ,bU⟩;refine ⟨_,rfl,?_⟩;have bT:OwK By c1 (D::(bp e::c)) 22 D I.1:=bU;have bK:=Nw.ext B bJ;have aR:=B.trans c6;refine wa V (zaf V V V)<|wa V (zaf V V V)<|av D V V<|av (i64 I.2) V V<|wnt<|W_ret<|?_;obtain rfl:=osi a;refine rt2 D (i64 I.2) V V V V V V ?_;exact ⟨D,rfl,aR,bK,bT.weak (SlK.stab (Sc.stab _)) (fun _ d=>⟨d.1,d.2.2⟩)⟩
end Gk

/- Printed by gen.py: for each Go function a pure function, and that the Go code comes to it. No condition beside the equation that says what the pure function gives. -/
namespace Gk
open Go Go.Proofs
noncomputable def zd6 (b:List UInt8):Option (List UInt8) :=
((makeL 440 (0:UInt8)).bind fun c =>
((iterC (fun a:List UInt8×Int =>
(if a.2<(c.length:Int) then
(if 0<(b.length:Int) then
((remI a.2 (b.length:Int)).bind fun d =>
((idx b d).bind fun e =>
((divI a.2 (b.length:Int)).bind fun f =>
((idx a.1 a.2).bind fun h => some (.inl (a.1.set (a.2:Int).toNat (e+(UInt8.ofInt f)),wI (a.2+1)))))))
else some (.inl (a.1,wI (a.2+1))))
else some (.inr a.1))) (c,0)).bind fun g => some g))
theorem zc9 (v:List UInt8) (e:Value) (C:List UInt8) (w0:World) (j:By w0 [] e v) (f:zd6 v=some C) :
  Calls Tryz.prog 10 [e].toArray w0 (fun G D=>∃ s:Value,G=.returned s/\Ext w0 D/\Nw w0 s/\OwK (Sc u8) D [] 5 s C):=by
 have y:Ext w0 w0:=Ext.refl w0;unfold zd6 at f;refine zai (n:=32) Tryz.func10 V V V<|W_sr<|av (.slice none 0 0) V V<|wnt<|W_sr<|?_;obtain ⟨F,N,f⟩:=bsi f;refine wls V V (zc8 (L:=[]) (R:=Sc u8) V T22 V V N (fun _ _=>rfl) ?_);intro b a7 B T J a5;have a1:=zaa J;have U:=Nw.ext y T;have I:=y.trans a1;refine av b V V<|wnt<|W_seq<|W_sr<|mv b V V<|wa V (q_len V T22.sl V (B.rd (Sc.stab _)))<|mv (i64 0) V V<|wnt ?_;obtain ⟨a2,E,f⟩:=bsi f;refine W_mid (fun d k=>d 3=b/\d 32=undef/\Ext w0 k/\OwK (Sc u8) k [b] 5 b a2/\Nw w0 b) ?_ ?_
 ·refine zac<|za4 (fun c d k=>d 0=e/\d 3=b/\d 7=i64 (F.length:Int)/\d 8=i64 c.2/\d 32=undef/\Ext w0 k/\OwK (Sc u8) k [b] 5 b c.1/\Nw w0 b) E ?_ ?_
  ·exact ⟨rfl,rfl,rfl,rfl,rfl,I,B,U⟩
  rintro c _ _ a0 ⟨h,o,r,p,q,l,g,m⟩ a Q;refine W_sr<|wa V (q_ltI V p r)<|wnt<|W_seq<|wci a V V (fun a=>?_) (fun a=>?_)
  ·refine zad<|W_th<|W_seq<|zac<|W_sr<|mv (i64 c.2) V p<|av (i64 c.2) V V<|wnt<|W_sr<|mv e V h<|wa V (q_len V T22.sl V (j.lift (le_ l)))<|wa V (q_gtI V V V)<|wnt<|wci a V V (fun a=>?_) (fun a=>?_)
   ·refine zbi [8] [(0,0),(1,0),(2,0),(3,0),(4,0),(5,0),(6,0),(7,0),(8,1),(9,0),(10,0),(11,0),(12,0),(13,0),(14,0),(15,0),(16,2)] mixed (by kernel_rfl) (by kernel_rfl) (by kernel_rfl) (by kernel_rfl) ?_;have t:=Ext.drew a0;replace g:=g.extL (Sc.stab _) t (le_ t);have i:=l.trans t;refine sv b V V o<|sv (i64 c.2) V V V<|sv e V V h<|sv (i64 c.2) V V V<|sv e V V h<|sa V V (q_len V T22.sl V (j.lift (le_ i)))<|bse a fun a3 O a=>sa V V (zg2 V V V O) ?_;obtain ⟨w,z,a⟩:=bsi a;refine sa V V (q_adr V T22 V V (j.lift (le_ i)) z)<|sq V V (zav V T22 V (j.lift (le_ i)) z)<|sv (i64 c.2) V V V<|sv e V V h<|sa V V (q_len V T22.sl V (j.lift (le_ i)))<|bse a fun x P a=>sa V V (q_divI V V V P)<|sa V V (zg6 V V V V)<|sa V V (q_add8 V V V)<|bse a fun a4 A a=>sa V V (q_adr V T22 V V (g.rd (Sc.stab _)) A)<|wsn V (by kernel_rfl) V V (zcn (R:=Sc u8) (u:=u8 (w+(UInt8.ofInt x))) (Sc.stab _) [] [] V T22 V V g (zg8 (w+(UInt8.ofInt x)) A) V V ?_);intro a8 X K a6;have H:=i.grown K m;refine zaw<|bk_n<|W_th<|W_rg<|wa V (zam V p V)<|mv (i64 (wI (c.2+1))) V V<|zah<|?_;obtain rfl:=osi a;exact ⟨_,rfl,h,o,r,rfl,q,H,X,m⟩
   refine zad<|bk_n<|W_th<|W_rg<|wa V (zam V p V)<|mv (i64 (wI (c.2+1))) V V<|zah<|?_;obtain rfl:=osi a;exact ⟨_,rfl,h,o,r,rfl,q,l,g,m⟩
  refine zaz<|th_x<|?_;obtain rfl:=osi a;obtain rfl:=Q _ rfl;refine th_x<|bk_x<|?_;exact ⟨o,q,l,g,m⟩
 rintro _ a9 ⟨Z,Y,M,W,S⟩;refine W_th<|W_sr<|mv b V Z<|av b V V<|wnt<|W_ret<|?_;obtain rfl:=osi f;refine rt1 b V V V Y ?_;exact ⟨b,rfl,M,S,W.weak (Sc.stab _) (fun _ _=>trivial)⟩
noncomputable def zfw (c:List Int) (b:List UInt8):Option (List UInt8) :=
((lenA 4 c).bind fun k =>
((zcl c).bind fun h =>
((makeL h (0:UInt8)).bind fun d =>
((iterC (fun a:List UInt8×Int =>
(if a.2<(d.length:Int) then
(if 0<(b.length:Int) then
((remI a.2 (b.length:Int)).bind fun e =>
((idx b e).bind fun f =>
((divI (wI (a.2 * 31)) (b.length:Int)).bind fun g =>
((idx a.1 a.2).bind fun j => some (.inl (a.1.set (a.2:Int).toNat (f^^^(UInt8.ofInt g)),wI (a.2+1)))))))
else some (.inl (a.1,wI (a.2+1))))
else some (.inr a.1))) (d,0)).bind fun i => some i))))
theorem law17_Random_calls (g:List Int) (y:List UInt8) (f:Value) (F:List UInt8) (w0:World) (k:By w0 [] f y) (c:zfw g y=some F) :
  Calls Tryz.prog 11 [ag i64 g,f].toArray w0 (fun J G=>∃ w:Value,J=.returned w/\Ext w0 G/\Nw w0 w/\OwK (Sc u8) G [] 5 w F):=by
 have U:Ext w0 w0:=Ext.refl w0;unfold zfw at c;refine zai (n:=37) Tryz.func11 V V V<|W_sr<|wls V V (zb0 (v:=ag i64 g) (cs:=ac i64 g) [] V V V ?_);intro O aO a7 aN P aK;have aD:=zaa P;have K:=U.trans aD;refine av (.slice none 0 0) V V<|wnt<|W_sr<|bse c fun aJ Z c=>wq V (zet (m:=0) V G25 V a7 (zaj _ _) (zag Z)) ?_;obtain ⟨a9,a2,c⟩:=bsi c;refine wls V V (zab (vs:=[ag i64 g]) Tryz.func22 V V V (ar1 V) (ze3 g  a9 _  a2) ?_);rintro _ aR ⟨rfl,aF⟩;refine ⟨_,rfl,?_⟩;have B:=K.trans aF;obtain ⟨I,a0,c⟩:=bsi c;refine wls V V (zc8 (L:=[bp O]) (R:=Sc u8) V T22 V V a0 (fun _ _=>rfl) ?_);intro b aS E a5 S aM;have aG:=zaa S;have a4:=Nw.ext B a5;have N:=B.trans aG;refine av b V V<|wnt<|W_seq<|W_sr<|mv b V V<|wa V (q_len V T22.sl V (E.rd (Sc.stab _)))<|mv (i64 0) V V<|wnt ?_;obtain ⟨aE,H,c⟩:=bsi c;refine W_mid (fun e l=>e 5=b/\e 37=undef/\Ext w0 l/\OwK (Sc u8) l [b] 5 b aE/\Nw w0 b) ?_ ?_
 ·refine zac<|za4 (fun d e l=>e 1=f/\e 5=b/\e 11=i64 (I.length:Int)/\e 12=i64 d.2/\e 37=undef/\Ext w0 l/\OwK (Sc u8) l [b] 5 b d.1/\Nw w0 b) H ?_ ?_
  ·exact ⟨rfl,rfl,rfl,rfl,rfl,N,E.weak (Sc.stab _) (fun _ T=>⟨T.1,trivial⟩),a4⟩
  rintro d _ _ aC ⟨i,r,s,q,t,o,h,p⟩ a a1;refine W_sr<|wa V (q_ltI V q s)<|wnt<|W_seq<|wci a V V (fun a=>?_) (fun a=>?_)
  ·refine zad<|W_th<|W_seq<|zac<|W_sr<|mv (i64 d.2) V q<|av (i64 d.2) V V<|wnt<|W_sr<|mv f V i<|wa V (q_len V T22.sl V (k.lift (le_ o)))<|wa V (q_gtI V V V)<|wnt<|wci a V V (fun a=>?_) (fun a=>?_)
   ·refine zbi [8] [(0,0),(1,0),(2,0),(3,0),(4,0),(5,0),(6,0),(7,0),(8,1),(9,0),(10,0),(11,0),(12,0),(13,0),(14,0),(15,0),(16,0),(17,2)] mixed (by kernel_rfl) (by kernel_rfl) (by kernel_rfl) (by kernel_rfl) ?_;have x:=Ext.drew aC;replace h:=h.extL (Sc.stab _) x (le_ x);have j:=o.trans x;refine sv b V V r<|sv (i64 d.2) V V V<|sv f V V i<|sv (i64 d.2) V V V<|sv f V V i<|sa V V (q_len V T22.sl V (k.lift (le_ j)))<|bse a fun aH X a=>sa V V (zg2 V V V X) ?_;obtain ⟨z,C,a⟩:=bsi a;refine sa V V (q_adr V T22 V V (k.lift (le_ j)) C)<|sq V V (zav V T22 V (k.lift (le_ j)) C)<|sv (i64 d.2) V V V<|sa V V (zg1 V V V)<|sv f V V i<|sa V V (q_len V T22.sl V (k.lift (le_ j)))<|bse a fun A Y a=>sa V V (q_divI V V V Y)<|sa V V (zg6 V V V V)<|sa V V (zhl V V V)<|bse a fun aI D a=>sa V V (q_adr V T22 V V (h.rd (Sc.stab _)) D)<|wsn V (by kernel_rfl) V V (zcn (R:=Sc u8) (u:=u8 (z^^^(UInt8.ofInt A))) (Sc.stab _) [] [] V T22 V V h (zg8 (z^^^(UInt8.ofInt A)) D) V V ?_);intro aP a8 Q aL;have M:=j.grown Q p;refine zaw<|bk_n<|W_th<|W_rg<|wa V (zam V q V)<|mv (i64 (wI (d.2+1))) V V<|zah<|?_;obtain rfl:=osi a;exact ⟨_,rfl,i,r,s,rfl,t,M,a8,p⟩
   refine zad<|bk_n<|W_th<|W_rg<|wa V (zam V q V)<|mv (i64 (wI (d.2+1))) V V<|zah<|?_;obtain rfl:=osi a;exact ⟨_,rfl,i,r,s,rfl,t,o,h,p⟩
  refine zaz<|th_x<|?_;obtain rfl:=osi a;obtain rfl:=a1 _ rfl;refine th_x<|bk_x<|?_;exact ⟨r,t,o,h,p⟩
 rintro _ aQ ⟨aB,aA,W,a6,a3⟩;refine W_th<|W_sr<|mv b V aB<|av b V V<|wnt<|W_ret<|?_;obtain rfl:=osi c;refine rt1 b V V V aA ?_;exact ⟨b,rfl,W,a3,a6.weak (Sc.stab _) (fun _ _=>trivial)⟩
noncomputable def law17_Of (a:Int) (e:Int) (b:Int) (c:Int):Option (List Int) :=
((lenA 4 (List.replicate 4 (0:Int))).bind fun l =>
((lenA 4 ([wI (((UInt64.ofInt a) % (2:UInt64)).toNat:Int),0,wI (1+(wI (((UInt64.ofInt b) % (7:UInt64)).toNat:Int))),wI (((UInt64.ofInt c) % (4:UInt64)).toNat:Int)]:List Int)).bind fun f =>
((idx ([wI (((UInt64.ofInt a) % (2:UInt64)).toNat:Int),0,wI (1+(wI (((UInt64.ofInt b) % (7:UInt64)).toNat:Int))),wI (((UInt64.ofInt c) % (4:UInt64)).toNat:Int)]:List Int) 2).bind fun d =>
((nz (UInt64.ofInt d)).bind fun g =>
((idx ([wI (((UInt64.ofInt a) % (2:UInt64)).toNat:Int),0,wI (1+(wI (((UInt64.ofInt b) % (7:UInt64)).toNat:Int))),wI (((UInt64.ofInt c) % (4:UInt64)).toNat:Int)]:List Int) 1).bind fun h =>
((lenA 4 (([wI (((UInt64.ofInt a) % (2:UInt64)).toNat:Int),0,wI (1+(wI (((UInt64.ofInt b) % (7:UInt64)).toNat:Int))),wI (((UInt64.ofInt c) % (4:UInt64)).toNat:Int)]:List Int).set (1:Int).toNat (wI (1+(wI (((UInt64.ofInt e) % (UInt64.ofInt d)).toNat:Int)))))).bind fun i =>
((lenA 4 (List.replicate 4 (0:Int))).bind fun j =>
((lenA 4 (([wI (((UInt64.ofInt a) % (2:UInt64)).toNat:Int),0,wI (1+(wI (((UInt64.ofInt b) % (7:UInt64)).toNat:Int))),wI (((UInt64.ofInt c) % (4:UInt64)).toNat:Int)]:List Int).set (1:Int).toNat (wI (1+(wI (((UInt64.ofInt e) % (UInt64.ofInt d)).toNat:Int)))))).bind fun k => some (([wI (((UInt64.ofInt a) % (2:UInt64)).toNat:Int),0,wI (1+(wI (((UInt64.ofInt b) % (7:UInt64)).toNat:Int))),wI (((UInt64.ofInt c) % (4:UInt64)).toNat:Int)]:List Int).set (1:Int).toNat (wI (1+(wI (((UInt64.ofInt e) % (UInt64.ofInt d)).toNat:Int)))))))))))))
theorem law17_Of_calls (d:Int) (g:Int) (e:Int) (f:Int) (v:List Int) (w0:World) (a:law17_Of d g e f=some v) :
  Calls Tryz.prog 7 [i64 d,i64 g,i64 e,i64 f].toArray w0 (fun y S=>y=.returned (ag i64 v)/\Ext w0 S):=by
 have p:Ext w0 w0:=Ext.refl w0;unfold law17_Of at a;refine zai (n:=34) Tryz.func7 V V V<|W_sr<|wls V V (sal i64 (List.replicate 4 (0:Int)) [] V Z25 ?_);intro h a7 c N E a2;have T:=zaa E;have O:=Nw.ext p N;have i:=p.trans T;refine wnt<|W_sr<|mv (i64 d) V V<|wa V (zfl V V V V)<|wa V (q_rem64 V V (cst64 (2:UInt64) V) (by decide))<|wa V (q_cvtI64 V V V V)<|mv (i64 e) V V<|?_;refine wa V (zfl V V V V)<|wa V (q_rem64 V V (cst64 (7:UInt64) V) (by decide))<|wa V (q_cvtI64 V V V V)<|wa V (zam V V V)<|mv (i64 f) V V<|wa V (zfl V V V V)<|wa V (q_rem64 V V (cst64 (4:UInt64) V) (by decide))<|wa V (q_cvtI64 V V V V)<|?_;refine wa V (q_buildS (ps:=#[(0,i64 (wI (((UInt64.ofInt d) % (2:UInt64)).toNat:Int))),(2,i64 (wI (1+(wI (((UInt64.ofInt e) % (7:UInt64)).toNat:Int))))),(3,i64 (wI (((UInt64.ofInt f) % (4:UInt64)).toNat:Int)))]) V (by simp only [List.map_toArray,List.map_cons,List.map_nil];exact bs3 V V V) (buildS_0_2_3 (wI (((UInt64.ofInt d) % (2:UInt64)).toNat:Int)) (wI (1+(wI (((UInt64.ofInt e) % (7:UInt64)).toNat:Int)))) (wI (((UInt64.ofInt f) % (4:UInt64)).toNat:Int)))) ?_
 refine wls V V (sal i64 (List.replicate 4 (0:Int)) [bp h] V Z25 ?_);intro l aA R r F a5;have w:=zaa F;have u:Nq (bp h) (bp l):=c.nq r;have s:=Nw.ext i r;have C:=i.trans w;obtain ⟨a1,M,a⟩:=bsi a;obtain ⟨U,G,a⟩:=bsi a;refine wln V V (stp_storeG [] [bp h] V G25 V V (zag M) (zag G) R one_i64 ?_);intro aB t o a6;replace c:=(c.ext w).other o u;have z:=C.grown o s;refine wnt<|W_sr<|mv (i64 g) V V<|wa V (zfl V V V V)<|bse a fun x H a=>wa V (zcu (j:=2) V fieldS2 V)<|wq V (zbg (m:=0) V G25 V t (zaj _ _) H)<|wa V (zfl V V V V)<|bse a fun W I a=>wa V (q_rem64 V V V (nz_ne I))<|wa V (q_cvtI64 V V V V)<|wa V (zam V V V)<|bse a fun X J a=>wa V (zcu (j:=1) V ze6 V)<|wln V V (stp_storeXG (b:=wI (1+(wI (((UInt64.ofInt g) % (UInt64.ofInt x)).toNat:Int)))) [] [bp h] V G25 V V t J (one_i64 _) ?_);intro a8 P k a3;replace c:=c.other k u;have A:=z.grown k s;refine wnt<|W_sr<|bse a fun Y q a=>wq V (zet (m:=0) V G25 V P (zaj _ _) (zag q)) ?_;obtain ⟨Z,K,a⟩:=bsi a;refine wln V V (stp_storeG [bp l] [] V G25 V V (zag K) (zag q) c one_i64 ?_);intro a9 Q D a4;have B:=A.grown D O;refine wnt<|W_ret<|?_;obtain ⟨a0,L,a⟩:=bsi a;obtain rfl:=osi a;refine rtcG1 G25 V V V Q (zag L) V ?_;exact ⟨rfl,B⟩
noncomputable def zc6 :Option Bool :=
((lenA 4 (List.replicate 4 (0:Int))).bind fun h =>
((lenA 4 ([0,1,2,0]:List Int)).bind fun i =>
(((lenA 4 ([0,1,2,0]:List Int)).bind fun g =>
((field_New).bind fun d =>
((zd6 ([(1:UInt8),(2:UInt8)]:List UInt8)).bind fun e =>
((zb3 ([0,1,2,0]:List Int) d e ([]:List UInt8)).bind fun b => some (b.1,b.2))))).bind fun a =>
(if a.2=0 then
(if (a.1.length:Int)=2 then
((idx a.1 1).bind fun c =>
((zd6 ([(1:UInt8),(2:UInt8)]:List UInt8)).bind fun f => some (decide (c=f))))
else some false)
else some false))))
theorem zcm  (a5:Bool) (w0:World) (c:zc6=some a5) :
  Calls Tryz.prog 6 [].toArray w0 (fun aI bC=>aI=.returned (.bool a5)/\Ext w0 bC):=by
 have a3:Ext w0 w0:=Ext.refl w0;unfold zc6 at c;refine zai (n:=30) Tryz.func6 V V V<|W_sr<|av (.bool false) V V<|wnt<|W_sr<|wa V (q_buildS (ps:=#[(1,i64 1),(2,i64 2)]) V (by simp only [List.map_toArray,List.map_cons,List.map_nil];exact bs2 V V) (buildS_1_2 1 2))<|?_
 refine wls V V (sal i64 (List.replicate 4 (0:Int)) [] V Z25 ?_);intro g bS b6 b0 aN bM;have bH:=zaa aN;have b5:=Nw.ext a3 b0;have aJ:=a3.trans bH;obtain ⟨bK,aR,c⟩:=bsi c;obtain ⟨bL,aS,c⟩:=bsi c;refine wln V V (stp_storeG [] [] V G25 V V (zag aR) (zag aS) b6 one_i64 ?_);intro bG a aO bQ;have aM:=aJ.grown aO b5;refine wnt<|W_seq<|?_;obtain ⟨t,e,c⟩:=bsi c;refine W_mid (fun E aC=>∃ aB:Value,E 2=aB/\E 3=i64 t.2/\E 30=undef/\Ext w0 aC/\Rw aC [] aB t.1) ?_ ?_
 ·refine W_draw2 [0] [(0,1)] 1 2 [(2,2),(3,2),(4,2),(5,0),(6,0),(7,0),(8,0),(9,0)] [(1,2),(3,2),(4,2),(5,0),(6,0),(7,0),(8,0),(9,0)] mixed (by kernel_rfl) (by kernel_rfl) (by kernel_rfl) (by kernel_rfl) ?_;have aH:=Ext.drew bG;replace a:=a.ext aH;have Z:=aM.trans aH;obtain ⟨bJ,aQ,e⟩:=bsi e;refine sq V V (zet (m:=0) V G25 V a (zaj _ _) (zag aQ))<|zaw ⟨?_,?_⟩
  ·obtain ⟨a6,aT,e⟩:=bsi e;refine wss V V V (zab (vs:=[]) Tryz.func8 V V V (ar0) (zgr   a6 _ [bp g] (Old.cons (Old.nil _) a.ltB)  aT) ?_);rintro _ aD ⟨q,rfl,s,w⟩;refine ⟨_,rfl,s,?_⟩;replace a:=a.ext s;have z:=Z.trans s;refine wss V V V (zax (L:=[bp g]) (R:=Sc u8) [u8 1,u8 2] ([(1:UInt8),(2:UInt8)]:List UInt8) V T22 V (by exact ⟨rfl,cst8 (1:UInt8) V,rfl,cst8 (2:UInt8) V,trivial⟩) V (litC u8 zbx (us:=[u8 1,u8 2]) (l:=([(1:UInt8),(2:UInt8)]:List UInt8)) V) V (litS u8 (us:=[u8 1,u8 2]) (l:=([(1:UInt8),(2:UInt8)]:List UInt8)) V) ?_);intro r aE b8 b2 a1 bO;refine ⟨zaa a1,?_⟩;have o:=zaa a1;have aW:By aE [bp g] r ([(1:UInt8),(2:UInt8)]:List UInt8):=OwK.slk (Sc.stab _) _ b8 (fun b f=>(Old.cons (Old.nil _) a.ltB) b (b2 b f)) (fun _ d=>d.2);replace w:=w.lift (le_ o);replace a:=a.ext o;have A:=z.trans o;obtain ⟨p,H,e⟩:=bsi e;refine wss V V V (zab (vs:=[r]) Tryz.func10 V V V (ar1 V) (zc9 ([(1:UInt8),(2:UInt8)]:List UInt8) r p _ (aW.lift (Lift.sub (L':=[]) (fun _ _=>trivial))) H) ?_);rintro _ W ⟨i,rfl,k,O,Q⟩;refine ⟨_,rfl,k,?_⟩;have M:By W [bp g] i p:=OwK.slk (Sc.stab _) _ (OwK.scal Q (i::[bp g])) (fun b f=>(Old.cons (Old.nil _) a.ltB) b (O b f)) (fun _ d=>d.2);replace w:=w.lift (le_ k);replace a:=a.ext k;have B:=A.trans k;obtain ⟨h,I,e⟩:=bsi e;refine wsc V (by kernel_rfl) V V (zab (vs:=[ag i64 ([0,1,2,0]:List Int),q,i,.slice none 0 0]) Tryz.func9 V V V (ar4 V V V V) (zc5 ([0,1,2,0]:List Int) a6 p ([]:List UInt8) q i (.slice none 0 0) h _ [bp g] (Old.cons (Old.nil _) a.ltB) (w.lift (Lift.sub (L':=[]) (fun _ _=>trivial))) (M.lift (Lift.sub (L':=[]) (fun _ _=>trivial))) (SlK.nil _ _ _) I) ?_);rintro _ X ⟨j,rfl,Y,P,S⟩;refine ⟨_,rfl,?_⟩;have N:Rw X [bp g] j h.1:=OwK.slk (SlK.stab (Sc.stab _)) _ S (fun b f=>(Old.cons (Old.nil _) a.ltB) b (P b f)) (fun _ d=>d.2);have C:=B.trans Y;refine sv (.tuple #[j,i64 h.2]) V V V<|sa V V (zaf V V V)<|sa V V (zaf V V V)<|sa V V (zan (v:=j) V V)<|sa V V (zan (v:=i64 h.2) V V)<|?_
   refine zaw ?_;obtain rfl:=osi e;exact ⟨j,rfl,rfl,rfl,C,N.lift (Lift.sub (fun _ d=>trivial))⟩
  refine wss V V V (zax (L:=[bp g]) (R:=Sc u8) [u8 1,u8 2] ([(1:UInt8),(2:UInt8)]:List UInt8) V T22 V (by exact ⟨rfl,cst8 (1:UInt8) V,rfl,cst8 (2:UInt8) V,trivial⟩) V (litC u8 zbx (us:=[u8 1,u8 2]) (l:=([(1:UInt8),(2:UInt8)]:List UInt8)) V) V (litS u8 (us:=[u8 1,u8 2]) (l:=([(1:UInt8),(2:UInt8)]:List UInt8)) V) ?_);intro q aD b7 b1 a0 bN;refine ⟨zaa a0,?_⟩;have s:=zaa a0;have J:By aD [bp g] q ([(1:UInt8),(2:UInt8)]:List UInt8):=OwK.slk (Sc.stab _) _ b7 (fun b f=>(Old.cons (Old.nil _) a.ltB) b (b1 b f)) (fun _ d=>d.2);replace a:=a.ext s;have z:=Z.trans s;obtain ⟨a7,aU,e⟩:=bsi e;refine wss V V V (zab (vs:=[]) Tryz.func8 V V V (ar0) (zgr   a7 _ [bp g] (Old.cons (Old.nil _) a.ltB)  aU) ?_);rintro _ aE ⟨r,rfl,o,K⟩;refine ⟨_,rfl,o,?_⟩;replace J:=J.lift (le_ o);replace a:=a.ext o;have A:=z.trans o;obtain ⟨p,H,e⟩:=bsi e;refine wss V V V (zab (vs:=[q]) Tryz.func10 V V V (ar1 V) (zc9 ([(1:UInt8),(2:UInt8)]:List UInt8) q p _ (J.lift (Lift.sub (L':=[]) (fun _ _=>trivial))) H) ?_);rintro _ W ⟨i,rfl,k,O,Q⟩;refine ⟨_,rfl,k,?_⟩;have M:By W [bp g] i p:=OwK.slk (Sc.stab _) _ (OwK.scal Q (i::[bp g])) (fun b f=>(Old.cons (Old.nil _) a.ltB) b (O b f)) (fun _ d=>d.2);replace K:=K.lift (le_ k);replace a:=a.ext k;have B:=A.trans k;obtain ⟨h,I,e⟩:=bsi e;refine wsc V (by kernel_rfl) V V (zab (vs:=[ag i64 ([0,1,2,0]:List Int),r,i,.slice none 0 0]) Tryz.func9 V V V (ar4 V V V V) (zc5 ([0,1,2,0]:List Int) a7 p ([]:List UInt8) r i (.slice none 0 0) h _ [bp g] (Old.cons (Old.nil _) a.ltB) (K.lift (Lift.sub (L':=[]) (fun _ _=>trivial))) (M.lift (Lift.sub (L':=[]) (fun _ _=>trivial))) (SlK.nil _ _ _) I) ?_);rintro _ X ⟨j,rfl,Y,P,S⟩;refine ⟨_,rfl,?_⟩;have N:Rw X [bp g] j h.1:=OwK.slk (SlK.stab (Sc.stab _)) _ S (fun b f=>(Old.cons (Old.nil _) a.ltB) b (P b f)) (fun _ d=>d.2);have C:=B.trans Y;refine sv (.tuple #[j,i64 h.2]) V V V<|sa V V (zaf V V V)<|sa V V (zaf V V V)<|sa V V (zan (v:=j) V V)<|sa V V (zan (v:=i64 h.2) V V)<|zaw ?_
  obtain rfl:=osi e;exact ⟨j,rfl,rfl,rfl,C,N.lift (Lift.sub (fun _ d=>trivial))⟩
 rintro _ bD ⟨aA,a8,bB,T,aP,u⟩;refine W_th<|W_seq<|zbi [10,11,14] [(0,0),(1,0),(2,0),(3,0),(4,0),(5,0),(6,0),(7,0),(8,0),(9,0),(10,1),(11,1),(12,2),(13,2),(14,1),(15,0),(16,0),(17,0)] mixed (by kernel_rfl) (by kernel_rfl) (by kernel_rfl) (by kernel_rfl) ?_;have aF:=Ext.drew bD;replace u:=u.lift (le_ aF);have D:=aP.trans aF;refine sv (i64 t.2) V V bB<|sa V V (q_eqI V V V)<|wsb V V V (za5 (v:=(.bool (decide (t.2=0)))) V V) (fun F=>?_) (fun F=>?_)
 ·replace c:=ifp F c;refine sv aA V V a8<|sa V V (q_len V T29.sl V u)<|sa V V (q_eqI V V V)<|sa V V (zaq (v:=(.bool (decide ((t.1.length:Int)=2)))) V V V)<|wsb V V V (za5 (v:=(.bool (decide ((t.1.length:Int)=2)))) V V) (fun G=>?_) (fun G=>?_)
  ·replace c:=ifp G c;refine sv aA V V a8 ?_;obtain ⟨y,a4,c⟩:=bsi c;refine sa V V (q_adr V T29 V V u a4)<|wsq_load V V V V T29 V u a4 (Ext.refl _) (fun bR aX=>?_);refine sq V V (q_str V T22 V V V aX)<|wss V V V (zax (L:=[]) (R:=Sc u8) [u8 1,u8 2] ([(1:UInt8),(2:UInt8)]:List UInt8) V T22 V (by exact ⟨rfl,cst8 (1:UInt8) V,rfl,cst8 (2:UInt8) V,trivial⟩) V (litC u8 zbx (us:=[u8 1,u8 2]) (l:=([(1:UInt8),(2:UInt8)]:List UInt8)) V) V (litS u8 (us:=[u8 1,u8 2]) (l:=([(1:UInt8),(2:UInt8)]:List UInt8)) V) ?_);intro U bE b9 b3 a2 bP;refine ⟨zaa a2,?_⟩;have bI:=zaa a2;have aY:By bE [] U ([(1:UInt8),(2:UInt8)]:List UInt8):=OwK.slk (Sc.stab _) _ b9 (fun b f=>(Old.nil _) b (b3 b f)) (fun _ d=>d.2);have aK:=D.trans bI;obtain ⟨x,aV,c⟩:=bsi c;refine wss V V V (zab (vs:=[U]) Tryz.func10 V V V (ar1 V) (zc9 ([(1:UInt8),(2:UInt8)]:List UInt8) U x _ (aY.lift (Lift.sub (L':=[]) (fun _ _=>trivial))) aV) ?_);rintro _ bF ⟨a9,rfl,aG,b4,bA⟩;refine ⟨_,rfl,aG,?_⟩;have aZ:By bF [] a9 x:=OwK.slk (Sc.stab _) _ (OwK.scal bA (a9::[])) (fun b f=>(Old.nil _) b (b4 b f)) (fun _ d=>d.2);have aL:=aK.trans aG;refine sq V V (q_str V T22 V V V aZ)<|sa V V (q_eqS V V V)<|sa V V (zaq (v:=(.bool (decide (y=x)))) V V V)<|sa V V (zan (v:=(.bool (decide (y=x)))) V V)<|zaw<|W_th<|W_ret<|?_;obtain rfl:=osi c;refine rt1 (.bool (decide (y=x))) V V V T ?_;exact ⟨rfl,aL⟩
  replace c:=ifn G c;refine wsk V V V<|wsk V V V<|wsk V V V<|wsk V V V<|wsk V V V<|wsk V V V<|wsk V V V<|wsk V V V<|sa V V (zap (v:=(.bool false)) V V V)<|sa V V (zan (v:=(.bool false)) V V)<|zaw<|W_th<|W_ret<|?_;obtain rfl:=osi c;refine rt1 (.bool false) V V V T ?_;exact ⟨rfl,D⟩
 replace c:=ifn F c;refine wsk V V V<|wsk V V V<|wsk V V V<|sa V V (zap (v:=(.bool false)) V V V)<|sv (.bool false) V V V<|wsk V V V<|wsk V V V<|wsk V V V<|wsk V V V<|wsk V V V<|wsk V V V<|wsk V V V<|wsk V V V<|sa V V (zap (v:=(.bool false)) V V V)<|sa V V (zan (v:=(.bool false)) V V)<|?_;refine zaw<|W_th<|W_ret<|?_;obtain rfl:=osi c;refine rt1 (.bool false) V V V T ?_;exact ⟨rfl,D⟩
end Gk

/- Chapter 17: how a block is spread, in plain Lean. No condition. -/
namespace Gk
open Gf
theorem runsN {n:Nat} {body:List UInt8×Int->Option ((List UInt8×Int)⊕List UInt8)} (hs:∀ (s:List UInt8) (i:Nat),i<n->s.length=n->∃ s':List UInt8,s'.length=n/\body (s,(i:Int))=some (.inl (s',((i+1:Nat):Int))))
  (he:∀ s:List UInt8,s.length=n->body (s,(n:Int))=some (.inr s)) (z:List UInt8) (hz:z.length=n):∃ r,iterC body (z,0)=some r/\r.length=n:=by
 have key:∀ k,k<=n->∀ s:List UInt8,s.length=n->∃ r,iterC body (s,((n - k:Nat):Int))=some r/\r.length=n:=by
  intro k
  induction k with
  | zero =>
   intro _ s hl
   refine ⟨s,?_,hl⟩
   rw [zb4,Nat.sub_zero,he s hl];rfl
  | succ k ih =>
   intro hk s hl
   obtain ⟨s',hl',h⟩:=hs s (n - (k+1)) (by omega) hl
   obtain ⟨r,h1,h2⟩:=ih (by omega) s' hl'
   refine ⟨r,?_,h2⟩
   rw [zb4,h,show n - (k+1)+1=n - k by omega];exact h1
 have:=key n (Nat.le_refl n) z hz
 rw [Nat.sub_self] at this
 exact this
theorem Block_ok (b:List UInt8) (h:b.length<=500):∃ L,zd6 b=some L/\L.length=440:=by
 have hm:(1000:Nat)<=most:=by decide
 unfold zd6
 rw [show makeL 440 (0:UInt8)=some (List.replicate 440 0) from zcg 440 _ (by omega),obs,List.length_replicate]
 obtain ⟨r,h1,h2⟩:=runsN (n:=440) (body:=fun s4:List UInt8×Int =>
   (if s4.2<((440:Nat):Int) then
   (if 0<(b.length:Int) then
   ((remI s4.2 ((b.length:Int))).bind fun c10 =>
   ((idx b c10).bind fun c11 =>
   ((divI s4.2 ((b.length:Int))).bind fun c12 =>
   ((idx s4.1 s4.2).bind fun c13 =>
   some (.inl ((s4.1.set (s4.2:Int).toNat ((c11+(UInt8.ofInt c12)))),(wI (s4.2+1))))))))
   else
   some (.inl (s4.1,(wI (s4.2+1)))))
   else
   some (.inr s4.1))) (fun s i hi hl=>by
  dsimp only
  rw [if_pos (by omega)]
  by_cases h0:0<b.length
  ·have hlt:i % b.length<b.length:=Nat.mod_lt _ h0
   rw [if_pos (by omega),zfn _ _ h0,obs,zba hlt,obs,zix _ _ h0 (by omega),obs,zba (by omega),obs,zau _ (by omega),Int.toNat_natCast]
   exact ⟨_,by rw [List.length_set];exact hl,rfl⟩
  ·rw [if_neg (by omega),zau _ (by omega)]
   exact ⟨_,hl,rfl⟩) (fun s hl=>by
  dsimp only
  rw [if_neg (by omega)]) (List.replicate 440 0) List.length_replicate
 exact ⟨r,by rw [h1,obs],h2⟩
def shp (m t n c:Nat):List Int:=[(m:Int),(t:Int),(n:Int),(c:Int)]
structure OkS (m t n c:Nat):Prop where
 m2:m=0∨m=1
 t1:1<=t
 tn:t<=n
 n255:n<=255
 c127:c<=127
section
variable {m t n c : Nat}
theorem Right_ok (h:OkS m t n c):zbm (shp m t n c)=some true:=by
 obtain ⟨h1,h2,h3,h4,h5⟩:=h
 unfold zbm shp
 rw [show idx [(m:Int),(t:Int),(n:Int),(c:Int)] 0=some (m:Int) by rfl,show idx [(m:Int),(t:Int),(n:Int),(c:Int)] 1=some (t:Int) by rfl,show idx [(m:Int),(t:Int),(n:Int),(c:Int)] 2=some (n:Int) by rfl,show idx [(m:Int),(t:Int),(n:Int),(c:Int)] 3=some (c:Int) by rfl]
 simp only [obs]
 rw [if_pos (by omega),if_pos (by omega),if_pos (by omega),if_pos (by omega),if_pos (by omega),if_pos (by omega),decide_eq_true (by omega)]
theorem lenS:lenA 4 (shp m t n c)=some ():=rfl
theorem ixS0:idx (shp m t n c) 0=some (m:Int):=rfl
theorem ixS1:idx (shp m t n c) 1=some (t:Int):=rfl
theorem ixS2:idx (shp m t n c) 2=some (n:Int):=rfl
def rowSz (m t:Nat):Nat:=if m=0 then 440 else psz 473 t
def needS (m t:Nat):Nat:=if m=0 then (t - 1) * 440 else 32
theorem RowSize_ok (h:OkS m t n c):zcf (shp m t n c)=some (rowSz m t:Int):=by
 have hm:(1000:Nat)<=most:=by decide
 unfold zcf rowSz
 rw [lenS,obs,Right_ok h,obs,if_neg (by simp),ixS0,obs,ixS1,obs]
 rcases h.m2 with rfl | rfl
 ·rw [if_pos (by rfl),if_pos (by rfl)];rfl
 ·rw [if_neg (by omega),if_neg (by omega),show zdo 473 (t:Int)=some (psz 473 t:Int) from PartSize_eq 473 t h.t1 (by have:=h.tn;have:=h.n255;omega) (by omega),obs]
theorem Need_ok (h:OkS m t n c):zcl (shp m t n c)=some (needS m t:Int):=by
 have hm:(1000:Nat)<=most:=by decide
 unfold zcl needS
 have:=h.t1;have:=h.tn;have:=h.n255
 rw [lenS,obs,Right_ok h,obs,if_neg (by simp),ixS0,obs,ixS1,obs]
 rcases h.m2 with rfl | rfl
 ·obtain ⟨q,rfl⟩:∃ q,t=q+1:=⟨t - 1,by omega⟩
  rw [if_pos (by rfl),if_pos (by rfl),show zcp ((q+1:Nat):Int) 440=some ((q * 440:Nat):Int) from MaskSize_eq q 440 (by omega) (by omega),obs,Nat.add_sub_cancel]
 ·rw [if_neg (by omega),if_neg (by omega)];rfl
theorem placesS (h:OkS m t n c):zco (shp m t n c)=some (plc n):=by
 have hm:(1000:Nat)<=most:=by decide
 have:=h.n255
 unfold zco
 rw [ixS2,obs]
 refine zbh (x:=plc n) (zas (fun i=>(plc i,(i:Int))) n _ rfl ?_ ?_) rfl
 ·intro i hi
  dsimp only
  rw [if_pos (by omega),zau _ (by omega),zgj,zen _ _ (by rw [zdd,List.length_singleton];omega) rfl,obs]
  rw [show plc (i+1)=plc i ++ [UInt8.ofNat (i+1)] by unfold plc;rw [List.range_succ,List.map_append];rfl]
 ·dsimp only
  rw [if_neg (by omega)]
theorem checkS (h:OkS m t n c) (r:List UInt8) (hr:r.length=needS m t):zc0 (shp m t n c) true r=some 0:=by
 unfold zc0
 rw [if_neg (by simp),lenS,obs,Right_ok h,obs,if_neg (by simp),obs,Need_ok h,obs,if_pos (by omega)]
theorem zero_plc (n:Nat) (h:n<=255):(0:UInt8) ∉ plc n:=by
 intro hm
 unfold plc at hm
 obtain ⟨i,hi,e⟩:=List.mem_map.1 hm
 have hi':=List.mem_range.1 hi
 have:=congrArg UInt8.toNat e
 simp at this
 omega
def pkg (b r:List UInt8):List UInt8:=1 :: wrapF r b
def rowsS (m t n:Nat) (b r:List UInt8):List (List UInt8) :=
 if m=0 then (plc n).map (shr b r (t - 1)) else (List.range n).map fun i=>pc (cutR (pkg b r) t (psz 473 t)) (i+1)
theorem cutR_rows (b:List UInt8) (t N:Nat):(cutR b t N).any (fun r=>!decide (r.length=((cutR b t N).getD 0 []).length))=false:=by
 rw [List.any_eq_false]
 intro r hr
 unfold cutR at hr ⊢
 obtain ⟨i,hi,rfl⟩:=List.mem_map.1 hr
 have h0:0<t:=by have:=List.mem_range.1 hi;omega
 rw [getD_tab _ _ _ h0]
 simp
theorem cutR_0 (b:List UInt8) (t N:Nat) (h:0<t):((cutR b t N).getD 0 []).length=N:=by
 unfold cutR;rw [getD_tab _ _ _ h];simp
theorem pkg_len (b r:List UInt8) (hb:b.length=440) (hr:r.length=32):(pkg b r).length=473:=by
 rw [pkg,List.length_cons,wrapF_len _ _ hr,hb]
theorem psz_le (t:Nat) (h:1<=t):psz 473 t<=1000:=by
 unfold psz
 have:=Nat.div_le_self 473 t
 split <;> omega
theorem Spread_ok (h:OkS m t n c) (b r:List UInt8) (hb:b.length=440) (hr:r.length=needS m t):zb3 (shp m t n c) true b r=some (rowsS m t n b r,0):=by
 have hmo:(1000000:Nat)<=most:=by decide
 have:=h.t1;have:=h.tn;have hn:=h.n255
 unfold zb3
 rw [lenS,obs,checkS h r hr,obs,if_pos rfl,if_pos (by omega),ixS0,obs,ixS1,obs,obs,ixS2]
 unfold rowsS
 rcases h.m2 with rfl | rfl
 ·rw [if_pos (by rfl),if_pos (by rfl),placesS h,obs]
  obtain ⟨q,rfl⟩:∃ q,t=q+1:=⟨t - 1,by omega⟩
  have hq:r.length=q * b.length:=by rw [hr,hb];simp [needS]
  have hq2:q * 440<=200000:=by omega
  rw [Split_ok q b r (plc n) (by omega) hq (by omega) (by rw [hq,hb];omega) (zero_plc n hn) (by rw [zdd];omega),obs,Nat.add_sub_cancel]
 ·have hr32:r.length=32:=by rw [hr];rfl
  have hp:=pkg_len b r hb hr32
  have hc:=cutR_len (pkg b r) t (psz 473 t)
  rw [if_neg (by omega),if_neg (by omega),Wrap_eq r b hr32 (by omega),obs]
  dsimp only
  rw [if_pos rfl,obs,Concat2 _ _ (by rw [wrapF_len _ _ hr32];simp;omega),obs,show [(1:UInt8)] ++ wrapF r b=pkg b r by rfl,Cut_ok _ t h.t1 (by omega) (by omega),obs]
  dsimp only
  rw [if_pos rfl,obs,hp,Encode_ok _ n (by rw [hc];omega) (by rw [hc];omega) hn (cutR_rows _ _ _) (by rw [cutR_0 _ _ _ (by omega)];have:=psz_le t h.t1;omega),obs]
end
theorem evp_one (a x:UInt8):evp [a] x=a:=by
 show a^^^mul 0 x=a
 rw [zero_mul,xor_zero]
theorem shr_one (b:List UInt8) (x:UInt8):shr b [] 0 x=b:=by
 refine ext_co (shr_len _ _ _ _) fun i hi=>?_
 rw [shr_len] at hi
 rw [co_shr _ _ _ _ _ hi]
 exact evp_one _ _
theorem lives17:zc6=some true:=by
 obtain ⟨L,hB,hL⟩:=Block_ok [1,2] (by simp)
 have hok:OkS 0 1 2 0:=⟨.inl rfl,by omega,by omega,by omega,by omega⟩
 have hS:=Spread_ok hok L [] hL rfl
 have e:shp 0 1 2 0=([0,1,2,0]:List Int):=rfl
 rw [e] at hS
 unfold zc6
 rw [show lenA 4 (List.replicate 4 (0:Int))=some () by rfl,obs,show lenA 4 ([0,1,2,0]:List Int)=some () by rfl,obs]
 refine zbh (x:=(rowsS 0 1 2 L [],0)) (by rw [obs,show field_New=some true by rfl,obs,hB,obs,hS,obs]) ?_
 have hr:rowsS 0 1 2 L []=[L,L]:=by
  unfold rowsS
  rw [if_pos rfl]
  show [shr L [] 0 _,shr L [] 0 _]=_
  rw [shr_one,shr_one]
 dsimp only
 rw [hr,if_pos rfl,if_pos (by rfl),show idx ([L,L]:List (List UInt8)) 1=some L by rfl,obs,hB,obs,decide_eq_true rfl]
theorem Random_ok {m t n c:Nat} (h:OkS m t n c) (hn:n<=7) (b:List UInt8) (hb:b.length<=500):∃ L,zfw (shp m t n c) b=some L/\L.length=needS m t:=by
 have hm:(1000000:Nat)<=most:=by decide
 have hle:needS m t<=10000:=by
  have:=h.tn
  unfold needS;split <;> omega
 unfold zfw
 rw [lenS,obs,Need_ok h,obs,zcg _ _ (by omega),obs,List.length_replicate]
 obtain ⟨r,h1,h2⟩:=runsN (n:=needS m t) (body:=fun s11:List UInt8×Int =>
   (if s11.2<(needS m t:Int) then
   (if 0<(b.length:Int) then
   ((remI s11.2 ((b.length:Int))).bind fun c17 =>
   ((idx b c17).bind fun c18 =>
   ((divI ((wI (s11.2 * 31))) ((b.length:Int))).bind fun c19 =>
   ((idx s11.1 s11.2).bind fun c20 =>
   some (.inl ((s11.1.set (s11.2:Int).toNat ((c18^^^(UInt8.ofInt c19)))),(wI (s11.2+1))))))))
   else
   some (.inl (s11.1,(wI (s11.2+1)))))
   else
   some (.inr s11.1))) (fun s i hi hl=>by
  dsimp only
  rw [if_pos (by omega)]
  by_cases h0:0<b.length
  ·have hlt:i % b.length<b.length:=Nat.mod_lt _ h0
   rw [if_pos (by omega),zfn _ _ h0,obs,zba hlt,obs,show wI ((i:Int) * 31)=((i * 31:Nat):Int) by rw [wI_of (by omega) (by omega)];omega,zix _ _ h0 (by omega),obs,zba (by omega),obs,zau _ (by omega),Int.toNat_natCast]
   exact ⟨_,by rw [List.length_set];exact hl,rfl⟩
  ·rw [if_neg (by omega),zau _ (by omega)]
   exact ⟨_,hl,rfl⟩) (fun s hl=>by
  dsimp only
  rw [if_neg (by omega)]) (List.replicate (needS m t) 0) List.length_replicate
 exact ⟨r,by rw [h1,obs],h2⟩
theorem Of_ok (mode t n c:Int):∃ m' t' n' c',law17_Of mode t n c=some (shp m' t' n' c')/\OkS m' t' n' c'/\n'<=7:=by
 obtain ⟨m',h1,h2⟩:=mod_natq mode 2 (by decide) (by decide)
 obtain ⟨n1,h3,h4⟩:=mod_natq n 7 (by decide) (by decide)
 obtain ⟨c',h5,h6⟩:=mod_natq c 4 (by decide) (by decide)
 have h1':m'<2:=h1
 have h3':n1<7:=h3
 have h5':c'<4:=h5
 unfold law17_Of
 rw [h2,h4,h6]
 have e1:wI (1+(n1:Int))=((n1+1:Nat):Int):=by rw [wI_of (by omega) (by omega)];omega
 rw [e1]
 have hmt:(UInt64.ofInt ((n1+1:Nat):Int)).toNat=n1+1:=by rw [ofInt64q _ (by omega)];simp;omega
 rw [show lenA 4 (List.replicate 4 (0:Int))=some () by rfl,obs,show lenA 4 ([(m':Int),0,((n1+1:Nat):Int),(c':Int)]:List Int)=some () by rfl,obs,show idx ([(m':Int),0,((n1+1:Nat):Int),(c':Int)]:List Int) 2=some ((n1+1:Nat):Int) by rfl,obs,nz_of (by rw [hmt];omega),obs,show idx ([(m':Int),0,((n1+1:Nat):Int),(c':Int)]:List Int) 1=some 0 by rfl,obs]
 obtain ⟨t1,h7,h8⟩:=mod_natq t (UInt64.ofInt ((n1+1:Nat):Int)) (by rw [hmt];omega) (by rw [hmt];omega)
 rw [hmt] at h7
 rw [h8]
 have e2:wI (1+(t1:Int))=((t1+1:Nat):Int):=by rw [wI_of (by omega) (by omega)];omega
 rw [e2]
 have e3:([(m':Int),0,((n1+1:Nat):Int),(c':Int)]:List Int).set (1:Int).toNat ((t1+1:Nat):Int)=shp m' (t1+1) (n1+1) c':=rfl
 rw [e3,lenS,obs,obs,obs]
 exact ⟨m',t1+1,n1+1,c',rfl,⟨by omega,by omega,by omega,by omega,by omega⟩,by omega⟩
end Gk

/- Printed by gen.py: for each Go function a pure function, and that the Go code comes to it. No condition beside the equation that says what the pure function gives. -/
namespace Gk
open Go Go.Proofs
noncomputable def zgy (a:Int) (b:Int):Option Int :=
(if a<b then some 0
else
((divI (wI (a - b)) 2).bind fun c => some c))
theorem mend_Radius_calls (a0m:Int) (a1t:Int) (r:Int) (w0:World) (H:zgy a0m a1t=some r) :
  Calls Tryz.prog 95 [(i64 a0m),(i64 a1t)].toArray w0 (fun e w'=>e=.returned (i64 r)/\Ext w0 w'):=by
 have hE:Ext w0 w0:=Ext.refl w0;unfold zgy at H;refine zai (n:=12) Tryz.func95 rfl rfl rfl ?_;refine W_seq<|W_rg<|av (i64 0) rfl rfl<|wnt<|W_seq<|W_seq<|W_rg<|mv (i64 a0m) rfl rfl<|?_;refine mv (i64 a1t) rfl rfl<|wa rfl (q_ltI rfl rfl rfl)<|wnt<|?_;refine wci H rfl rfl (fun H=>?_) (fun H=>?_)
 ·refine W_seq<|W_rg<|av (i64 0) rfl rfl<|wnt<|W_ret<|th_r<|?_;obtain rfl:=osi H;refine rt1 (i64 0) rfl rfl rfl rfl ?_;exact ⟨rfl,hE⟩
 refine zad<|W_th<|W_seq<|W_rg<|mv (i64 a0m) rfl rfl<|mv (i64 a1t) rfl rfl<|wa rfl (zbn rfl rfl rfl)<|?_;obtain ⟨c2,hc2,H⟩:=bsi H;refine wa rfl (q_divI rfl rfl rfl hc2)<|av (i64 c2) rfl rfl<|wnt<|W_ret<|?_;obtain rfl:=osi H;refine rt1 (i64 c2) rfl rfl rfl rfl ?_;exact ⟨rfl,hE⟩
noncomputable def zh6 (c:Bool) (a:Int) (b:List UInt8) (d:Int) (e:Int):Option Int :=
(if (!c)=true then some 1
else
(if (b.length:Int)=d then
(if a<1 then some 2
else
(if 255<a then some 2
else
(if e<0 then some 2
else
(if (b.length:Int)<a then some 5
else
((zcy c b (0:UInt8)).bind fun f => some f.2)))))
else some 1))
theorem mend_check_calls (k:Bool) (c:Int) (e:List UInt8) (h:Int) (i:Int) (f:Value) (d:Value) (s:Int) (w0:World) (r:Fd w0 [] f k) (q:By w0 [] d e) (a:zh6 k c e h i=some s) :
  Calls Tryz.prog 65 [f,i64 c,d,i64 h,i64 i].toArray w0 (fun u y=>u=.returned (i64 s)/\Ext w0 y):=by
 have b:Ext w0 w0:=Ext.refl w0;unfold zh6 at a;refine zai (n:=45) Tryz.func65 V V V<|W_sr<|av (i64 0) V V<|wnt<|W_seq<|zac<|W_sr<|mv f V V<|wa V (q_eqF V V V V (r.lift (le_ b)))<|wlb V V (za5 (v:=(.bool (!k))) V V) (fun l=>?_) (fun l=>?_)
 ·replace a:=(if_pos l).symm.trans a;refine wk V<|wk V<|wk V<|wk V<|wa V (zaq (v:=(.bool true)) V V V)<|av (.bool true) V V<|wnt<|zak true V V (fun _=>?_) (fun j=>by cases j);refine W_sr<|av (i64 1) V V<|wnt<|W_ret<|bk_r<|th_r<|?_;obtain rfl:=osi a;refine rt1 (i64 1) V V V V ?_;exact ⟨rfl,b⟩
 replace a:=(if_neg (ne_true_of_eq_false l)).symm.trans a;refine mv d V V<|wa V (q_len V T22.sl V (q.lift (le_ b)))<|mv (i64 h) V V<|wa V (q_neI V V V)<|wa V (zap (v:=(.bool (!decide ((e.length:Int)=h)))) V V V)<|av (.bool (!decide ((e.length:Int)=h))) V V<|wnt<|zak _ V V (fun m=>?_) (fun m=>?_)
 ·replace a:=(if_neg (zbf m)).symm.trans a;refine W_sr<|av (i64 1) V V<|wnt<|W_ret<|bk_r<|th_r<|?_;obtain rfl:=osi a;refine rt1 (i64 1) V V V V ?_;exact ⟨rfl,b⟩
 replace a:=(if_pos (zbd m)).symm.trans a;refine W_sr<|mv (i64 c) V V<|wa V (q_ltI V V V)<|wlb V V (za5 (v:=(.bool (decide (c<1)))) V V) (fun o=>?_) (fun o=>?_)
 ·replace a:=ifp o a;refine wk V<|wk V<|wa V (zaq (v:=(.bool true)) V V V)<|mv (.bool true) V V<|wk V<|wk V<|wa V (zaq (v:=(.bool true)) V V V)<|av (.bool true) V V<|wnt<|zak true V V (fun _=>?_) (fun j=>by cases j);refine W_sr<|av (i64 2) V V<|wnt<|W_ret<|bk_r<|th_r<|?_;obtain rfl:=osi a;refine rt1 (i64 2) V V V V ?_;exact ⟨rfl,b⟩
 replace a:=ifn o a;refine mv (i64 c) V V<|wa V (q_gtI V V V)<|wa V (zap (v:=(.bool (decide (255<c)))) V V V)<|wlb V V (za5 (v:=(.bool (decide (255<c)))) V V) (fun p=>?_) (fun p=>?_)
 ·replace a:=ifp p a;refine wk V<|wk V<|wa V (zaq (v:=(.bool true)) V V V)<|av (.bool true) V V<|wnt<|zak true V V (fun _=>?_) (fun j=>by cases j);refine W_sr<|av (i64 2) V V<|wnt<|W_ret<|bk_r<|th_r<|?_;obtain rfl:=osi a;refine rt1 (i64 2) V V V V ?_;exact ⟨rfl,b⟩
 replace a:=ifn p a;refine mv (i64 i) V V<|wa V (q_ltI V V V)<|wa V (zap (v:=(.bool (decide (i<0)))) V V V)<|av (.bool (decide (i<0))) V V<|wnt<|wci a V V (fun a=>?_) (fun a=>?_)
 ·refine W_sr<|av (i64 2) V V<|wnt<|W_ret<|bk_r<|th_r<|?_;obtain rfl:=osi a;refine rt1 (i64 2) V V V V ?_;exact ⟨rfl,b⟩
 refine W_sr<|mv d V V<|wa V (q_len V T22.sl V (q.lift (le_ b)))<|mv (i64 c) V V<|wa V (q_ltI V V V)<|av (.bool (decide ((e.length:Int)<c))) V V<|wnt<|wci a V V (fun a=>?_) (fun a=>?_)
 ·refine W_sr<|av (i64 5) V V<|wnt<|W_ret<|bk_r<|th_r<|?_;obtain rfl:=osi a;refine rt1 (i64 5) V V V V ?_;exact ⟨rfl,b⟩
 refine zad<|bk_n<|W_th<|W_sr<|mv f V V<|mv d V V<|?_;obtain ⟨g,x,a⟩:=bsi a;refine wls V V (zab (vs:=[f,d,u8 0]) Tryz.func71 V V V (ar3 V V (by exact (cst8 (0:UInt8) V))) (ze8 k e (0:UInt8) f d g _ (r.lift (le_ b)) (q.lift (le_ b)) x) ?_);rintro _ C ⟨t,rfl,z,A,B⟩;refine ⟨_,rfl,?_⟩;have w:=b.trans z;refine mv (.tuple #[t,i64 g.2]) V V<|wa V (zaf V V V)<|wa V (zaf V V V)<|av t V V<|av (i64 g.2) V V<|wnt<|W_sr<|mv (i64 g.2) V V<|av (i64 g.2) V V<|wnt<|W_ret<|?_;obtain rfl:=osi a;refine rt1 (i64 g.2) V V V V ?_;exact ⟨rfl,w⟩
noncomputable def mend_gao (c:Bool) (f:Int) (d:List UInt8) (h:List UInt8):Option (List UInt8×Bool) :=
((zg0 c d).bind fun j =>
((zfs c d h).bind fun o =>
((iterC (fun a:List UInt8×List UInt8×List UInt8×List UInt8 =>
((zdw a.2.1).bind fun k =>
(if (wI ((d.length:Int)+f))<=(wI (2 * k)) then
((zep c a.1 a.2.1).bind fun e =>
(if e.2.2=0 then
((zgc c e.1 a.2.2.2).bind fun l =>
((zhj a.2.2.1 l.1).bind fun m => some (.inl (a.2.1,e.2.1,a.2.2.2,m))))
else some (.inr (.inr (([]:List UInt8),false)))))
else some (.inr (.inl (a.2.1,a.2.2.2)))))) (j.1,o.1,([]:List UInt8),([(1:UInt8)]:List UInt8))).bind (Sum.elim (fun g =>
((zep c g.1 g.2).bind fun b =>
(if b.2.2=0 then
(if (b.2.1.length:Int)=0 then
((zdw b.1).bind fun n => some (b.1,decide (n<f)))
else some (b.1,false))
else some (b.1,false)))) (fun i=>some i)))))
theorem mend_gao_calls (s:Bool) (q:Int) (M:List UInt8) (Z:List UInt8) (c:Value) (k:Value) (E:Value) (aC:List UInt8×Bool) (w0:World) (C:Fd w0 [] c s) (a7:By w0 [] k M) (bC:By w0 [] E Z) (b:mend_gao s q M Z=some aC) :
  Calls Tryz.prog 93 [c,i64 q,k,E].toArray w0 (fun b4 aY=>∃ aH:Value,b4=.returned (.tuple #[aH,.bool aC.2])/\Ext w0 aY/\Nw w0 aH/\By aY [] aH aC.1):=by
 have a2:Ext w0 w0:=Ext.refl w0;unfold mend_gao at b;refine zai (n:=91) Tryz.func93 V V V<|W_sr<|av (.slice none 0 0) V V<|av (.bool false) V V<|wnt<|W_sr<|mv c V V<|mv k V V ?_;obtain ⟨P,bD,b⟩:=bsi b;refine wls V V (zab (vs:=[c,k]) Tryz.func122 V V V (ar2 V V) (poly_Vanish_calls s M c k P _ (C.lift (le_ a2)) (a7.lift (le_ a2)) bD) ?_);rintro _ cG ⟨G,rfl,cL,bU,c2⟩;refine ⟨_,rfl,?_⟩;have a9:By cG [] G P.1:=OwK.slk (Sc.stab _) _ (OwK.scal c2 (G::[])) (fun a f=>(Old.nil _) a (bU a f)) (fun _ e=>e.2);have O:=a2.trans cL;refine mv (.tuple #[G,i64 P.2]) V V<|wa V (zaf V V V)<|wa V (zaf V V V)<|av G V V<|av (i64 P.2) V V<|wnt<|W_sr<|mv c V V<|mv k V V<|mv E V V<|?_;obtain ⟨S,bK,b⟩:=bsi b;refine wls V V (zab (vs:=[c,k,E]) Tryz.func123 V V V (ar3 V V V) (poly_Through_calls s M Z c k E S _ (C.lift (le_ O)) (a7.lift (le_ O)) (bC.lift (le_ O)) bK) ?_);rintro _ cJ ⟨I,rfl,b2,bY,c7⟩;refine ⟨_,rfl,?_⟩;have aA:By cJ [] I S.1:=OwK.slk (Sc.stab _) _ (OwK.scal c7 (I::[])) (fun a f=>(Old.nil _) a (bY a f)) (fun _ e=>e.2);have b8:=O.trans b2;refine mv (.tuple #[I,i64 S.2]) V V<|wa V (zaf V V V)<|wa V (zaf V V V)<|av I V V<|av (i64 S.2) V V<|wnt<|W_sr<|wls V V (zax (L:=[]) (R:=Sc u8) [u8 1] ([(1:UInt8)]:List UInt8) V T22 V (by exact ⟨rfl,cst8 (1:UInt8) V,trivial⟩) V (litC u8 zbx (us:=[u8 1]) (l:=([(1:UInt8)]:List UInt8)) V) V (litS u8 (us:=[u8 1]) (l:=([(1:UInt8)]:List UInt8)) V) ?_);intro aM cK c8 bZ bA cO;have aN:=zaa bA;have bR:By cK [] aM ([(1:UInt8)]:List UInt8):=OwK.slk (Sc.stab _) _ c8 (fun a f=>(Old.nil _) a (bZ a f)) (fun _ e=>e.2);replace a9:=(a9.lift (le_ b2)).lift (le_ aN)
 replace aA:=aA.lift (le_ aN);have b9:=b8.trans aN;refine av (.slice none 0 0) V V<|av aM V V<|wnt<|W_seq<|?_;obtain ⟨cM,b3,b⟩:=bsi b;refine W_mid (fun h r=>∃ B,cM=.inl B/\∃ aU:Value,∃ aX:Value,h 0=c/\h 1=i64 q/\h 12=aU/\h 15=aX/\h 91=undef/\Ext w0 r/\By r [] aU B.1/\By r [] aX B.2) ?_ ?_
 ·refine zac<|za4 (fun o h r=>∃ aS:Value,∃ aT:Value,∃ aV:Value,∃ aW:Value,h 0=c/\h 1=i64 q/\h 2=k/\h 10=aS/\h 12=aT/\h 14=aV/\h 15=aW/\h 91=undef/\Ext w0 r/\By r [] aS o.1/\By r [] aT o.2.1/\By r [] aV o.2.2.1/\By r [] aW o.2.2.2) b3 ?_ ?_
  ·exact ⟨G,I,.slice none 0 0,aM,rfl,rfl,rfl,rfl,rfl,rfl,rfl,rfl,b9,a9,aA,SlK.nil _ _ _,bR⟩
  rintro o _ _ cP ⟨aI,p,aK,y,T,aE,aR,cB,U,cD,aD,aF,bB,a8,i,t,j⟩ d aO;refine W_seq<|W_sr<|mv p V U<|?_;obtain ⟨c9,bE,d⟩:=bsi d;refine wls V V (zab (vs:=[p]) Tryz.func124 V V V (ar1 V) (zfc o.2.1 p c9 _ (i.lift (Lift.sub (L':=[]) (fun _ _=>trivial))) bE) ?_);rintro _ cQ ⟨rfl,J⟩;refine ⟨_,rfl,?_⟩;replace a8:=a8.lift (le_ J);replace i:=i.lift (le_ J);replace t:=t.lift (le_ J);replace j:=j.lift (le_ J);have N:=bB.trans J;refine wa V (zg1 V V V)<|mv k V aR<|wa V (q_len V T22.sl V (a7.lift (le_ N)))<|mv (i64 q) V aE<|wa V (zam V V V)<|wa V (q_geI V V V)<|wnt<|wci d V V (fun d=>?_) (fun d=>?_)
  ·refine zad<|W_th<|zac<|W_sr<|mv c V T<|mv aI V cB<|mv p V U<|?_;obtain ⟨u,bF,d⟩:=bsi d;refine wls V V (zab (vs:=[c,aI,p]) Tryz.func125 V V V (ar3 V V V) (zih s o.1 o.2.1 c aI p u _ (C.lift (le_ N)) (a8.lift (Lift.sub (L':=[]) (fun _ _=>trivial))) (i.lift (Lift.sub (L':=[]) (fun _ _=>trivial))) bF) ?_);rintro _ aZ ⟨w,x,rfl,X,bS,c0,bT,c1⟩;refine ⟨_,rfl,?_⟩;have bM:By aZ [] w u.1:=OwK.slk (Sc.stab _) _ (OwK.scal c0 (w::[])) (fun a f=>(Old.nil _) a (bS a f)) (fun _ e=>e.2);have D:By aZ [] x u.2.1:=OwK.slk (Sc.stab _) _ (OwK.scal c1 (x::[])) (fun a f=>(Old.nil _) a (bT a f)) (fun _ e=>e.2);replace i:=i.lift (le_ X);replace t:=t.lift (le_ X);replace j:=j.lift (le_ X);have a0:=N.trans X;refine mv (.tuple #[w,x,i64 u.2.2]) V V<|wa V (zaf V V V)<|wa V (zaf V V V)<|wa V (zaf V V V)<|av w V V<|av x V V<|av (i64 u.2.2) V V<|wnt<|W_seq<|W_sr<|mv (i64 u.2.2) V V<|wa V (q_neI V V V)<|wnt<|zak _ V V (fun a4=>?_) (fun a4=>?_)
   ·replace d:=(if_neg (zbf a4)).symm.trans d;refine W_sr<|av (.slice none 0 0) V V<|av (.bool false) V V<|wnt<|W_ret<|th_r<|bk_r<|?_;obtain rfl:=osi d;obtain rfl:=aO _ rfl;simp only [Sum.elim_inr] at b;refine th_r<|bk_r<|th_r<|th_r<|?_;obtain rfl:=osi b;refine rt2 (.slice none 0 0) (.bool false) V V V V V aF ?_;exact ⟨.slice none 0 0,rfl,a0,Nw.nil _,SlK.nil _ _ _⟩
   replace d:=(if_pos (zbd a4)).symm.trans d;refine zad<|W_th<|W_sr<|mv c V T<|mv w V V<|mv y V aD<|?_;obtain ⟨F,bG,d⟩:=bsi d;refine wls V V (zab (vs:=[c,w,y]) Tryz.func126 V V V (ar3 V V V) (zhs s u.1 o.2.2.2 c w y F _ (C.lift (le_ a0)) (bM.lift (Lift.sub (L':=[]) (fun _ _=>trivial))) (j.lift (Lift.sub (L':=[]) (fun _ _=>trivial))) bG) ?_);rintro _ cH ⟨z,rfl,K,bV,c3⟩;refine ⟨_,rfl,?_⟩;have bO:By cH [] z F.1:=OwK.slk (Sc.stab _) _ (OwK.scal c3 (z::[])) (fun a f=>(Old.nil _) a (bV a f)) (fun _ e=>e.2);replace i:=i.lift (le_ K);replace t:=t.lift (le_ K);replace j:=j.lift (le_ K);replace D:=D.lift (le_ K);have b5:=a0.trans K;refine mv (.tuple #[z,i64 F.2]) V V<|wa V (zaf V V V)<|wa V (zaf V V V)<|av z V V<|av (i64 F.2) V V<|wnt<|W_rg<|mv p V U<|mv x V V<|mv y V aD<|mv aK V cD<|mv z V V<|?_;obtain ⟨aQ,bH,d⟩:=bsi d;refine wls V V (zab (vs:=[aK,z]) Tryz.func127 V V V (ar2 V V) (poly_Add_calls o.2.2.1 F.1 aK z aQ _ (t.lift (Lift.sub (L':=[]) (fun _ _=>trivial))) (bO.lift (Lift.sub (L':=[]) (fun _ _=>trivial))) bH) ?_);rintro _ cI ⟨W,rfl,Y,bW,c4⟩;refine ⟨_,rfl,?_⟩;have bP:By cI [] W aQ:=OwK.slk (Sc.stab _) _ (OwK.scal c4 (W::[])) (fun a f=>(Old.nil _) a (bW a f)) (fun _ e=>e.2);replace i:=i.lift (le_ Y);replace j:=j.lift (le_ Y);replace D:=D.lift (le_ Y);have b6:=b5.trans Y;refine av p V V<|av x V V<|av y V V<|av W V V<|zah<|?_
   refine bk_n ?_;obtain rfl:=osi d;exact ⟨_,rfl,p,x,y,W,T,aE,aR,rfl,rfl,rfl,rfl,aF,b6,i,D,j,bP⟩
  refine zaz<|th_x<|?_;obtain rfl:=osi d;obtain rfl:=aO _ rfl;refine th_x<|bk_x<|?_;exact ⟨_,rfl,p,y,T,aE,U,aD,aF,N,i,j⟩
 rintro _ cR ⟨B,rfl,aJ,aL,cA,cF,cC,cE,aG,a3,bL,bN⟩;simp only [Sum.elim_inl] at b;refine W_th<|W_sr<|mv c V cA<|mv aJ V cC<|mv aL V cE<|?_;obtain ⟨m,bI,b⟩:=bsi b;refine wls V V (zab (vs:=[c,aJ,aL]) Tryz.func125 V V V (ar3 V V V) (zih s B.1 B.2 c aJ aL m _ (C.lift (le_ a3)) (bL.lift (Lift.sub (L':=[]) (fun _ _=>trivial))) (bN.lift (Lift.sub (L':=[]) (fun _ _=>trivial))) bI) ?_);rintro _ b0 ⟨g,H,rfl,cN,aP,c5,bX,c6⟩;refine ⟨_,rfl,?_⟩;have aB:=Nw.ext a3 aP;have A:By b0 [] g m.1:=OwK.slk (Sc.stab _) _ (OwK.scal c5 (g::[])) (fun a f=>(Old.nil _) a (aP a f)) (fun _ e=>e.2);have bQ:By b0 [] H m.2.1:=OwK.slk (Sc.stab _) _ (OwK.scal c6 (H::[])) (fun a f=>(Old.nil _) a (bX a f)) (fun _ e=>e.2);have a1:=a3.trans cN;refine mv (.tuple #[g,H,i64 m.2.2]) V V<|wa V (zaf V V V)<|wa V (zaf V V V)<|wa V (zaf V V V)<|av g V V<|av H V V<|av (i64 m.2.2) V V<|wnt<|W_sr<|mv g V V<|mv (i64 m.2.2) V V<|wa V (q_eqI V V V)<|wlb V V (za5 (v:=(.bool (decide (m.2.2=0)))) V V) (fun a5=>?_) (fun a5=>?_)
 ·replace b:=ifp a5 b;refine mv H V V<|wa V (q_len V T22.sl V bQ)<|wa V (q_eqI V V V)<|wa V (zaq (v:=(.bool (decide ((m.2.1.length:Int)=0)))) V V V)<|wlb V V (za5 (v:=(.bool (decide ((m.2.1.length:Int)=0)))) V V) (fun a6=>?_) (fun a6=>?_)
  ·replace b:=ifp a6 b;refine mv g V V ?_;obtain ⟨Q,bJ,b⟩:=bsi b;refine wls V V (zab (vs:=[g]) Tryz.func124 V V V (ar1 V) (zfc m.1 g Q _ (A.lift (Lift.sub (L':=[]) (fun _ _=>trivial))) bJ) ?_);rintro _ cS ⟨rfl,b1⟩;refine ⟨_,rfl,?_⟩;replace A:=A.lift (le_ b1);have b7:=a1.trans b1;refine mv (i64 q) V cF<|wa V (q_ltI V V V)<|wa V (zaq (v:=(.bool (decide (Q<q)))) V V V)<|av g V V<|av (.bool (decide (Q<q))) V V<|wnt<|W_ret<|?_;obtain rfl:=osi b;refine rt2 g (.bool (decide (Q<q))) V V V V V aG ?_;exact ⟨g,rfl,b7,aB,A.lift (Lift.sub (L':=[]) (fun _ _=>trivial))⟩
  replace b:=ifn a6 b;refine wk V<|wk V<|wk V<|wk V<|wa V (zap (v:=(.bool false)) V V V)<|av g V V<|av (.bool false) V V<|wnt<|W_ret ?_;obtain rfl:=osi b;refine rt2 g (.bool false) V V V V V aG ?_;exact ⟨g,rfl,a1,aB,A.lift (Lift.sub (L':=[]) (fun _ _=>trivial))⟩
 replace b:=ifn a5 b;refine wk V<|wk V<|wk V<|wa V (zap (v:=(.bool false)) V V V)<|mv (.bool false) V V<|wk V<|wk V<|wk V<|wk V<|wa V (zap (v:=(.bool false)) V V V)<|av g V V<|av (.bool false) V V<|wnt<|W_ret<|?_;obtain rfl:=osi b;refine rt2 g (.bool false) V V V V V aG ?_;exact ⟨g,rfl,a1,aB,A.lift (Lift.sub (L':=[]) (fun _ _=>trivial))⟩
noncomputable def zh5 (c:Bool) (d:List UInt8) (b:List UInt8) (e:List UInt8):Option Int :=
((iterC (fun a:Int×Int =>
(if a.2<(b.length:Int) then
((idx b a.2).bind fun f =>
((idx e a.2).bind fun g =>
((zgp c d f).bind fun h =>
(if h=g then some (.inl (a.1,wI (a.2+1)))
else some (.inl (wI (a.1+1),wI (a.2+1)))))))
else some (.inr a.1))) (0,0)).bind fun i => some i)
theorem mend_wrong_calls (o:Bool) (p:List UInt8) (q:List UInt8) (B:List UInt8) (d:Value) (e:Value) (k:Value) (l:Value) (H:Int) (w0:World) (M:Fd w0 [] d o) (N:By w0 [] e p) (s:By w0 [] k q) (G:By w0 [] l B) (h:zh5 o p q B=some H) :
  Calls Tryz.prog 94 [d,e,k,l].toArray w0 (fun K T=>K=.returned (i64 H)/\Ext w0 T):=by
 have D:Ext w0 w0:=Ext.refl w0;unfold zh5 at h;refine zai (n:=32) Tryz.func94 V V V<|W_sr<|av (i64 0) V V<|wnt<|W_sr<|av (i64 0) V V<|wnt<|W_seq<|W_sr<|mv k V V<|wa V (q_len V T22.sl V (s.lift (le_ D)))<|mv (i64 0) V V<|wnt<|?_;obtain ⟨m,J,h⟩:=bsi h;refine W_mid (fun b A=>b 9=i64 m/\b 32=undef/\Ext w0 A) ?_ ?_
 ·refine zac<|za4 (fun c b A=>b 0=d/\b 1=e/\b 3=l/\b 9=i64 c.1/\b 12=k/\b 13=i64 (q.length:Int)/\b 14=i64 c.2/\b 32=undef/\Ext w0 A) J ?_ ?_
  ·exact ⟨rfl,rfl,rfl,rfl,rfl,rfl,rfl,rfl,D⟩
  rintro c _ _ U ⟨t,w,y,z,u,v,g,x,j⟩ a O;refine W_sr<|wa V (q_ltI V g v)<|wnt<|W_seq<|wci a V V (fun a=>?_) (fun a=>?_)
  ·refine zad<|W_th<|W_seq<|zac<|W_sr<|mv (i64 c.2) V g<|bse a fun i E a=>wa V (q_adr V T22 u g (s.lift (le_ j)) E)<|wq V (zav V T22 V (s.lift (le_ j)) E)<|av (i64 c.2) V V<|av (u8 i) V V<|wnt<|W_seq<|zbi [7] [(0,0),(1,0),(2,0),(4,0),(5,0),(6,0),(7,1),(3,2),(8,0)] mixed (by kernel_rfl) (by kernel_rfl) (by kernel_rfl) (by kernel_rfl) ?_;have W:=Ext.drew U;have f:=j.trans W;refine sv d V V t<|sv e V V w<|sv (u8 i) V V V<|sv l V V y<|sv (i64 c.2) V V V<|bse a fun X F a=>sa V V (q_adr V T22 V V (G.lift (le_ f)) F)<|sq V V (zav V T22 V (G.lift (le_ f)) F)<|?_;obtain ⟨Q,P,a⟩:=bsi a;refine wss V V V (zab (vs:=[d,e,u8 i]) Tryz.func69 V V V (ar3 V V V) (poly_Eval_calls o p i d e Q _ (M.lift (le_ f)) (N.lift (le_ f)) P) ?_);rintro _ Z ⟨rfl,I⟩;refine ⟨_,rfl,I,?_⟩;have C:=f.trans I;refine sa V V (q_ne8 V V V)<|zaw<|W_th<|zak _ V V (fun r=>?_) (fun r=>?_)
   ·replace a:=(if_neg (zbf r)).symm.trans a;refine W_rg<|mv (i64 c.1) V z<|wa V (zam V V V)<|av (i64 (wI (c.1+1))) V V<|zah<|bk_n<|W_th<|W_rg<|wa V (zam V g V)<|mv (i64 (wI (c.2+1))) V V<|zah<|?_;obtain rfl:=osi a;exact ⟨_,rfl,t,w,y,rfl,u,v,rfl,x,C⟩
   replace a:=(if_pos (zbd r)).symm.trans a;refine zad<|bk_n<|W_th<|W_rg<|wa V (zam V g V)<|mv (i64 (wI (c.2+1))) V V<|zah<|?_;obtain rfl:=osi a;exact ⟨_,rfl,t,w,y,z,u,v,rfl,x,C⟩
  refine zaz<|th_x<|?_;obtain rfl:=osi a;obtain rfl:=O _ rfl;refine th_x<|bk_x<|?_;exact ⟨z,x,j⟩
 rintro _ Y ⟨S,R,L⟩;refine W_th<|W_sr<|mv (i64 m) V S<|av (i64 m) V V<|wnt<|W_ret<|?_;obtain rfl:=osi h;refine rt1 (i64 m) V V V R ?_;exact ⟨rfl,L⟩
noncomputable def zeq (c:Bool) (d:Int) (a:List UInt8) (e:List UInt8) (f:Int):Option (List UInt8×Int) :=
((mend_gao c d a e).bind fun b =>
(if (!b.2)=true then some (([]:List UInt8),11)
else
((zh5 c b.1 a e).bind fun h =>
((zgy (a.length:Int) d).bind fun g =>
(if (if g<f then g else f)<h then some (([]:List UInt8),11)
else some (b.1,0))))))
theorem mend_column_calls (m:Bool) (d:Int) (h:List UInt8) (o:List UInt8) (j:Int) (e:Value) (c:Value) (f:Value) (r:List UInt8×Int) (w0:World) (x:Fd w0 [] e m) (q:By w0 [] c h) (y:By w0 [] f o) (a:zeq m d h o j=some r) :
  Calls Tryz.prog 68 [e,i64 d,c,f,i64 j].toArray w0 (fun F C=>∃ t:Value,F=.returned (.tuple #[t,i64 r.2])/\Ext w0 C/\Nw w0 t/\By C [] t r.1):=by
 have l:Ext w0 w0:=Ext.refl w0;unfold zeq at a;refine zai (n:=39) Tryz.func68 V V V<|W_sr<|av (.slice none 0 0) V V<|av (i64 0) V V<|wnt<|W_sr<|mv e V V<|mv (i64 d) V V<|mv c V V<|mv f V V<|?_;obtain ⟨g,I,a⟩:=bsi a;refine wls V V (zab (vs:=[e,i64 d,c,f]) Tryz.func93 V V V (ar4 V V V V) (mend_gao_calls m d h o e c f g _ (x.lift (le_ l)) (q.lift (le_ l)) (y.lift (le_ l)) I) ?_);rintro _ N ⟨b,rfl,O,A,M⟩;refine ⟨_,rfl,?_⟩;have L:=Nw.ext l A;have i:By N [] b g.1:=SlK.avail M _ (fun z H=>(Old.nil _) z (A z H));have k:=l.trans O;refine mv (.tuple #[b,.bool g.2]) V V<|wa V (zaf V V V)<|wa V (zaf V V V)<|av b V V<|av (.bool g.2) V V<|wnt<|W_seq<|W_seq<|W_rg<|mv (.bool g.2) V V<|wa V (q_not V V)<|wlb V V (za5 (v:=(.bool (!g.2))) V V) (fun p=>?_) (fun p=>?_)
 ·replace a:=(if_pos p).symm.trans a;refine wk V<|wk V<|wk V<|wk V<|wk V<|wk V<|wk V<|wk V<|wk V<|wk V<|wk V<|wk V<|wa V (zaq (v:=(.bool true)) V V V)<|wnt<|zak true V V (fun _=>?_) (fun G=>by cases G);refine W_sr<|av (.slice none 0 0) V V<|av (i64 11) V V<|wnt<|W_ret<|th_r<|?_;obtain rfl:=osi a;refine rt2 (.slice none 0 0) (i64 11) V V V V V V ?_;exact ⟨.slice none 0 0,rfl,k,Nw.nil _,SlK.nil _ _ _⟩
 replace a:=(if_neg (ne_true_of_eq_false p)).symm.trans a;refine mv e V V<|mv b V V<|mv c V V<|mv f V V<|?_;obtain ⟨B,J,a⟩:=bsi a;refine wls V V (zab (vs:=[e,b,c,f]) Tryz.func94 V V V (ar4 V V V V) (mend_wrong_calls m g.1 h o e b c f B _ (x.lift (le_ k)) (i.lift (Lift.sub (L':=[]) (fun _ _=>trivial))) (q.lift (le_ k)) (y.lift (le_ k)) J) ?_);rintro _ P ⟨rfl,D⟩;refine ⟨_,rfl,?_⟩;replace i:=i.lift (le_ D);have u:=k.trans D;refine mv (i64 j) V V<|mv c V V<|wa V (q_len V T22.sl V (q.lift (le_ u)))<|mv (i64 d) V V<|?_;obtain ⟨s,K,a⟩:=bsi a;refine wls V V (zab (vs:=[i64 (h.length:Int),i64 d]) Tryz.func95 V V V (ar2 V V) (mend_Radius_calls (h.length:Int) d  s _  K) ?_);rintro _ Q ⟨rfl,E⟩;refine ⟨_,rfl,?_⟩;replace i:=i.lift (le_ E);have w:=u.trans E;refine wa V (q_minI V V V)<|wa V (q_gtI V V V)<|wa V (zap (v:=(.bool (decide ((if s<j then s else j)<B)))) V V V)<|wnt<|wci a V V (fun a=>?_) (fun a=>?_)
 ·refine W_sr<|av (.slice none 0 0) V V<|av (i64 11) V V<|wnt<|W_ret<|th_r<|?_;obtain rfl:=osi a;refine rt2 (.slice none 0 0) (i64 11) V V V V V V ?_;exact ⟨.slice none 0 0,rfl,w,Nw.nil _,SlK.nil _ _ _⟩
 refine zad<|W_th<|W_sr<|mv b V V<|av b V V<|av (i64 0) V V<|wnt<|W_ret ?_;obtain rfl:=osi a;refine rt2 b (i64 0) V V V V V V ?_;exact ⟨b,rfl,w,L,i.lift (Lift.sub (L':=[]) (fun _ _=>trivial))⟩
end Gk

/- Printed by gen.py: for each Go function a pure function, and that the Go code comes to it. No condition beside the equation that says what the pure function gives. -/
namespace Gk
open Go Go.Proofs
end Gk

/- Matrices of this seat's program: the struct, its field, its building. No condition. -/
namespace Gk
open Go Go.Proofs
end Gk

/- Records of this seat's program: structs behind their pointers. No condition. -/
namespace Gk
open Go Go.Proofs Go.RowKit
theorem cells_agg (cs:Array Value):(Value.agg cs).cells=cs:=rfl
theorem Lift.consN {w0 w:World} {L L':List Value} {v:Value} (g:Lift w0 w L L') (n:Nw w0 v):Lift w0 w L (v :: L'):=⟨g.blk,fun k hk ha=>⟨fun e=>Nat.not_lt_of_le (n k e) hk,g.av k hk ha⟩⟩
theorem cell_ar {l:List Int} {r:List Value} {i:Nat} {c:Int} (h:idx l (i:Int)=some c):((l.map i64 ++ r).toArray)[i]?=some (i64 c):=by
 obtain ⟨_,h1,h2⟩:=zbv.1 h
 have h1':i<l.length:=by simpa using h1
 have h2':l[i]=c:=by simpa using h2
 simp [List.getElem?_append_left,h1',h2']
theorem zfp {l:List Int} {r:List Value} {k m:Nat} {u:Value} (hl:l.length=k) (h:r[m]?=some u):((l.map i64 ++ r).toArray)[k+m]?=some u:=by
 subst hl
 rw [List.getElem?_toArray,List.getElem?_append_right (by rw [List.length_map];exact Nat.le_add_right _ _),List.length_map,Nat.add_sub_cancel_left];exact h
theorem lt_ar {l:List Int} {r:List Value} {k m:Nat} (hl:l.length=k) (h:m<r.length):k+m<((l.map i64 ++ r).toArray).size:=by
 subst hl
 simp;exact h
theorem set_ar {l:List Int} {r:List Value} {k m:Nat} {u:Value} (hl:l.length=k):((l.map i64 ++ r).toArray).setIfInBounds (k+m) u=(l.map i64 ++ r.set m u).toArray:=by
 subst hl
 apply Array.ext'
 rw [Array.toList_setIfInBounds,List.set_append_right _ _ (by rw [List.length_map];exact Nat.le_add_right _ _),List.length_map,Nat.add_sub_cancel_left]
theorem zdp {o:Oper} {f:Nat->Value} {T:TypeId} {x:Operand} {g m d j:Nat} (ho:o.op=.fieldAddr T x j) (hf:∀ (a:Addr) (w:World),(Instr.fieldAt T (.pointer (some a)) j).run Tryz.prog w=.ok (.pointer (some (a.add d))) w) (hx:ev f x=bpo g m):Qa Tryz.prog o f (bpo g (m+d)):=by
 intro w'
 simp [execOp,ho,hx,hf,zbz,Addr.add]
theorem stp_storeR {o:Oper} {f:Nat->Value} {w:World} {e T:TypeId} {x y:Operand} {g m:Nat} {u:Value} {cs cs':Array Value} (L1 L2:List Value) (ho:o.op=.store e x y) (hs:∀ w,(Go.sizeOf e).run Tryz.prog w=.ok 1 w) (hx:ev f x=bpo g m) (hy:ev f y=u) (h:Blk w g T cs) (hm:m<cs.size) (hc:u.oneCell'=true) (hset:cs.setIfInBounds m u=cs')
  {K:Value->World->Prop} (hk:∀ w',Blk w' g T cs'->Gr w w' (bp g)->Lift w w' (L1 ++ bp g :: L2) (L1 ++ bp g :: L2)->K undef w'):Stp Tryz.prog o f w K :=
 zcv ho hs hx hy h hm hc fun w' hB hg=>hk w' (by rw [hset] at hB;exact hB) (Gr.of hg) (Lift.own L1 L2 (Gr.of hg) (Nx.refl _ _))
def RcMd (w:World) (L:List Value) (v:Value) (c:Option (Bool×List UInt8×List (List UInt8)×List Int)):Prop :=
 (c=none/\v=.pointer none)∨∃ (x:Bool×List UInt8×List (List UInt8)×List Int) (g:Nat) (u0 u1 u2 u3:Value),c=some x/\v=bp g/\Av L g/\Blk w g 96 #[u0,u1,u2,u3]/\Fd w L u0 x.1/\By w L u1 x.2.1/\Rw w L u2 x.2.2.1/\In w L u3 x.2.2.2
theorem RcMd.lift {w w':World} {L L':List Value} {v:Value} {c:Option (Bool×List UInt8×List (List UInt8)×List Int)} (h:RcMd w L v c) (g:Lift w w' L L'):RcMd w' L' v c:=by
 rcases h with h | ⟨x,k,u0,u1,u2,u3,h1,h2,ha,hB,r0,r1,r2,r3⟩
 ·exact .inl h
 ·exact .inr ⟨x,k,u0,u1,u2,u3,h1,h2,g.av k hB.lt ha,g.blk k _ hB rfl ha,r0.lift g,r1.lift g,r2.lift g,r3.lift g⟩
theorem RcMd.nil (w:World) (L:List Value):RcMd w L (.pointer none) none:=.inl ⟨rfl,rfl⟩
theorem RcMd.mk {w:World} {L:List Value} {g:Nat} {u0 u1 u2 u3:Value} {x0:Bool} {x1:List UInt8} {x2:List (List UInt8)} {x3:List Int} (hB:Blk w g 96 #[u0,u1,u2,u3]) (ha:Av L g) (r0:Fd w L u0 x0) (r1:By w L u1 x1) (r2:Rw w L u2 x2) (r3:In w L u3 x3):RcMd w L (bp g) (some (x0,x1,x2,x3)) :=
 .inr ⟨(x0,x1,x2,x3),g,u0,u1,u2,u3,rfl,rfl,ha,hB,r0,r1,r2,r3⟩
theorem RcMd.some {w:World} {L:List Value} {v:Value} {x:Bool×List UInt8×List (List UInt8)×List Int} {c:Option (Bool×List UInt8×List (List UInt8)×List Int)} (h:RcMd w L v c) (hc:c=some x):∃ (g:Nat) (u0 u1 u2 u3:Value),v=bp g/\Blk w g 96 #[u0,u1,u2,u3]/\Fd w L u0 x.1/\By w L u1 x.2.1/\Rw w L u2 x.2.2.1/\In w L u3 x.2.2.2:=by
 rcases h with ⟨h1,_⟩ | ⟨x',g,u0,u1,u2,u3,h1,h2,ha,hB,h3⟩
 ·rw [h1] at hc;cases hc
 ·rw [h1] at hc;obtain rfl:=Option.some.inj hc
  exact ⟨g,u0,u1,u2,u3,h2,hB,h3⟩
theorem RcMd.cells {w:World} {L:List Value} {v:Value} {c:Option (Bool×List UInt8×List (List UInt8)×List Int)} (h:RcMd w L v c):v.cells=#[v]:=by
 rcases h with ⟨_,rfl⟩ | ⟨_,_,_,_,_,_,_,rfl,_⟩ <;> rfl
theorem q_eqRMd {o:Oper} {f:Nat->Value} {w:World} {L:List Value} {x y:Operand} {v:Value} {t t' e:TypeId} {c:Option (Bool×List UInt8×List (List UInt8)×List Int)} (ho:o.op=.binOp .eql t x y t') (ht:Tryz.prog.underlying t=some (.pointer e)) (hx:ev f x=v) (hy:ev f y=.pointer none) (h:RcMd w L v c):Qa Tryz.prog o f (.bool c.isNone):=by
 rcases h with ⟨rfl,rfl⟩ | ⟨_,_,_,_,_,_,rfl,rfl,_⟩
 ·exact q_eqP ho ht hx hy
 ·exact q_eqP ho ht hx hy
theorem fieldAtMd0 (a:Addr) (w:World):(Instr.fieldAt 96 (.pointer (some a)) 0).run Tryz.prog w=.ok (.pointer (some (a.add 0))) w:=by
 simp [Instr.fieldAt,Instr.sureAddr,fieldPlace]
theorem fieldAtMd1 (a:Addr) (w:World):(Instr.fieldAt 96 (.pointer (some a)) 1).run Tryz.prog w=.ok (.pointer (some (a.add 1))) w:=by
 simp [Instr.fieldAt,Instr.sureAddr,fieldPlace]
theorem zh3 (a:Addr) (w:World):(Instr.fieldAt 96 (.pointer (some a)) 2).run Tryz.prog w=.ok (.pointer (some (a.add 2))) w:=by
 simp [Instr.fieldAt,Instr.sureAddr,fieldPlace]
theorem fieldAtMd3 (a:Addr) (w:World):(Instr.fieldAt 96 (.pointer (some a)) 3).run Tryz.prog w=.ok (.pointer (some (a.add 3))) w:=by
 simp [Instr.fieldAt,Instr.sureAddr,fieldPlace]
theorem zeroMd:∀ w,(zeroValue 96).run Tryz.prog w=.ok (.agg #[(.pointer none),(.slice none 0 0),(.slice none 0 0),(.slice none 0 0)]) w:=fun w=>by rw [Tryz.zeroValue96] <;> rfl
theorem buildMd_0_1 (v0:Value) (hv0:v0.cells=#[v0]) (v1:Value) (hv1:v1.cells=#[v1]) (w:World):(Instr.build 96 #[(0,v0),(1,v1)]).run Tryz.prog w=.ok (.agg #[v0,v1,(.slice none 0 0),(.slice none 0 0)]) w:=by
 unfold Instr.build
 simp only [Sem.run_bind,zeroMd,Result.andThen_ok,run_underlying Tryz.underlying96]
 have hfill:Instr.fill (fun i=>([((0:Nat),(1:Nat)),((1:Nat),(1:Nat)),((2:Nat),(1:Nat)),((3:Nat),(1:Nat))]:List (Nat×Nat))[i]?) #[(.pointer none),(.slice none 0 0),(.slice none 0 0),(.slice none 0 0)] [(0,v0),(1,v1)]=some #[v0,v1,(.slice none 0 0),(.slice none 0 0)]:=by simp [Instr.fill,hv0,hv1]
 simp [Tryz.sizeOf22,Tryz.sizeOf27,Tryz.sizeOf29,Tryz.sizeOf35,cells_agg,hfill]
def RcSt (w:World) (L:List Value) (v:Value) (c:Option (List Int×Bool×(Option (Bool×List UInt8×List (List UInt8)×List Int))×List (List UInt8)×List Int)):Prop :=
 (c=none/\v=.pointer none)∨∃ (x:List Int×Bool×(Option (Bool×List UInt8×List (List UInt8)×List Int))×List (List UInt8)×List Int) (g:Nat) (u1 u2 u3 u4:Value),c=some x/\v=bp g/\Av L g/\Blk w g 74 ((x.1).map i64 ++ [u1,u2,u3,u4]).toArray/\Fd w L u1 x.2.1/\RcMd w L u2 x.2.2.1/\Rw w L u3 x.2.2.2.1/\In w L u4 x.2.2.2.2/\(x.1).length=4
theorem RcSt.lift {w w':World} {L L':List Value} {v:Value} {c:Option (List Int×Bool×(Option (Bool×List UInt8×List (List UInt8)×List Int))×List (List UInt8)×List Int)} (h:RcSt w L v c) (g:Lift w w' L L'):RcSt w' L' v c:=by
 rcases h with h | ⟨x,k,u1,u2,u3,u4,h1,h2,ha,hB,r1,r2,r3,r4,q0⟩
 ·exact .inl h
 ·exact .inr ⟨x,k,u1,u2,u3,u4,h1,h2,g.av k hB.lt ha,g.blk k _ hB rfl ha,r1.lift g,r2.lift g,r3.lift g,r4.lift g,q0⟩
theorem RcSt.nil (w:World) (L:List Value):RcSt w L (.pointer none) none:=.inl ⟨rfl,rfl⟩
theorem RcSt.mk {w:World} {L:List Value} {g:Nat} {u1 u2 u3 u4:Value} {x0:List Int} {x1:Bool} {x2:Option (Bool×List UInt8×List (List UInt8)×List Int)} {x3:List (List UInt8)} {x4:List Int} (hB:Blk w g 74 (x0.map i64 ++ [u1,u2,u3,u4]).toArray) (ha:Av L g) (r1:Fd w L u1 x1) (r2:RcMd w L u2 x2) (r3:Rw w L u3 x3) (r4:In w L u4 x4) (q0:x0.length=4):RcSt w L (bp g) (some (x0,x1,x2,x3,x4)) :=
 .inr ⟨(x0,x1,x2,x3,x4),g,u1,u2,u3,u4,rfl,rfl,ha,hB,r1,r2,r3,r4,q0⟩
theorem RcSt.some {w:World} {L:List Value} {v:Value} {x:List Int×Bool×(Option (Bool×List UInt8×List (List UInt8)×List Int))×List (List UInt8)×List Int} {c:Option (List Int×Bool×(Option (Bool×List UInt8×List (List UInt8)×List Int))×List (List UInt8)×List Int)} (h:RcSt w L v c) (hc:c=some x):∃ (g:Nat) (u1 u2 u3 u4:Value),v=bp g/\Blk w g 74 ((x.1).map i64 ++ [u1,u2,u3,u4]).toArray/\Fd w L u1 x.2.1/\RcMd w L u2 x.2.2.1/\Rw w L u3 x.2.2.2.1/\In w L u4 x.2.2.2.2/\(x.1).length=4:=by
 rcases h with ⟨h1,_⟩ | ⟨x',g,u1,u2,u3,u4,h1,h2,ha,hB,h3⟩
 ·rw [h1] at hc;cases hc
 ·rw [h1] at hc;obtain rfl:=Option.some.inj hc
  exact ⟨g,u1,u2,u3,u4,h2,hB,h3⟩
theorem q_eqRSt {o:Oper} {f:Nat->Value} {w:World} {L:List Value} {x y:Operand} {v:Value} {t t' e:TypeId} {c:Option (List Int×Bool×(Option (Bool×List UInt8×List (List UInt8)×List Int))×List (List UInt8)×List Int)} (ho:o.op=.binOp .eql t x y t') (ht:Tryz.prog.underlying t=some (.pointer e)) (hx:ev f x=v) (hy:ev f y=.pointer none) (h:RcSt w L v c):Qa Tryz.prog o f (.bool c.isNone):=by
 rcases h with ⟨rfl,rfl⟩ | ⟨_,_,_,_,_,_,rfl,rfl,_⟩
 ·exact q_eqP ho ht hx hy
 ·exact q_eqP ho ht hx hy
theorem fieldAtSt0 (a:Addr) (w:World):(Instr.fieldAt 74 (.pointer (some a)) 0).run Tryz.prog w=.ok (.pointer (some (a.add 0))) w:=by
 simp [Instr.fieldAt,Instr.sureAddr,fieldPlace]
theorem fieldAtSt0_0 (a:Addr) (w:World):(Instr.fieldAt 25 (.pointer (some a)) 0).run Tryz.prog w=.ok (.pointer (some (a.add 0))) w:=by
 simp [Instr.fieldAt,Instr.sureAddr,fieldPlace]
theorem fieldAtSt1 (a:Addr) (w:World):(Instr.fieldAt 74 (.pointer (some a)) 1).run Tryz.prog w=.ok (.pointer (some (a.add 4))) w:=by
 simp [Instr.fieldAt,Instr.sureAddr,fieldPlace]
theorem fieldAtSt2 (a:Addr) (w:World):(Instr.fieldAt 74 (.pointer (some a)) 2).run Tryz.prog w=.ok (.pointer (some (a.add 5))) w:=by
 simp [Instr.fieldAt,Instr.sureAddr,fieldPlace]
theorem fieldAtSt3 (a:Addr) (w:World):(Instr.fieldAt 74 (.pointer (some a)) 3).run Tryz.prog w=.ok (.pointer (some (a.add 6))) w:=by
 simp [Instr.fieldAt,Instr.sureAddr,fieldPlace]
theorem fieldAtSt4 (a:Addr) (w:World):(Instr.fieldAt 74 (.pointer (some a)) 4).run Tryz.prog w=.ok (.pointer (some (a.add 7))) w:=by
 simp [Instr.fieldAt,Instr.sureAddr,fieldPlace]
theorem zeroSt:∀ w,(zeroValue 74).run Tryz.prog w=.ok (.agg #[(i64 0),(i64 0),(i64 0),(i64 0),(.pointer none),(.pointer none),(.slice none 0 0),(.slice none 0 0)]) w:=fun w=>by rw [Tryz.zeroValue74] <;> rfl
theorem buildSt_0_1_2 (l:List Int) (hl:l.length=4) (v1:Value) (hv1:v1.cells=#[v1]) (v2:Value) (hv2:v2.cells=#[v2]) (w:World):(Instr.build 74 #[(0,ag i64 l),(1,v1),(2,v2)]).run Tryz.prog w=.ok (.agg ((l.map i64 ++ [v1,v2,(.slice none 0 0),(.slice none 0 0)]).toArray)) w:=by
 obtain ⟨z0,z1,z2,z3,rfl⟩:∃ z0 z1 z2 z3,l=[z0,z1,z2,z3]:=by
  match l,hl with
  | [z0,z1,z2,z3],_=>exact ⟨z0,z1,z2,z3,rfl⟩
 show (Instr.build 74 #[(0,.agg #[i64 z0,i64 z1,i64 z2,i64 z3]),(1,v1),(2,v2)]).run Tryz.prog w=.ok (.agg #[i64 z0,i64 z1,i64 z2,i64 z3,v1,v2,(.slice none 0 0),(.slice none 0 0)]) w
 unfold Instr.build
 simp only [Sem.run_bind,zeroSt,Result.andThen_ok,run_underlying Tryz.underlying74]
 have hfill:Instr.fill (fun i=>([((0:Nat),(4:Nat)),((4:Nat),(1:Nat)),((5:Nat),(1:Nat)),((6:Nat),(1:Nat)),((7:Nat),(1:Nat))]:List (Nat×Nat))[i]?) #[(i64 0),(i64 0),(i64 0),(i64 0),(.pointer none),(.pointer none),(.slice none 0 0),(.slice none 0 0)] [(0,.agg #[i64 z0,i64 z1,i64 z2,i64 z3]),(1,v1),(2,v2)]=some #[i64 z0,i64 z1,i64 z2,i64 z3,v1,v2,(.slice none 0 0),(.slice none 0 0)]:=by simp [Instr.fill,cells_agg,hv1,hv2]
 simp [Tryz.sizeOf25,Tryz.sizeOf27,Tryz.sizeOf29,Tryz.sizeOf35,Tryz.sizeOf70,cells_agg,hfill]
end Gk

/- Maps from numbers to bools: made, written, read, counted. No condition. -/
namespace Gk
open Go Go.RowKit
section
variable {P : Program} {f : Nat → Value} {w : World} {o : Oper} {x y z : Operand} {t kt et : TypeId} {g : Nat} {m : List (Int × Bool)} {k : Int} {b : Bool}
end
end Gk

/- Maps from numbers to bytes: made, written, read, counted. No condition. -/
namespace Gk
open Go Go.RowKit
section
variable {P : Program} {f : Nat → Value} {w : World} {o : Oper} {x y z : Operand} {t kt et : TypeId} {g : Nat} {m : List (Int × UInt8)} {k : Int} {b : UInt8}
end
end Gk

/- Printed by gen.py: for each Go function a pure function, and that the Go code comes to it. No condition beside the equation that says what the pure function gives. -/
namespace Gk
open Go Go.Proofs
noncomputable def zb1 (b:List UInt8) (c:List UInt8):Option Bool :=
(if (b.length:Int)=(c.length:Int) then
((iterC (fun a:Int =>
(if a<(b.length:Int) then
((idx b a).bind fun d =>
((idx c a).bind fun e =>
(if d=e then some (.inl (wI (a+1)))
else some (.inr (.inr false)))))
else some (.inr (.inl ())))) 0).bind (Sum.elim (fun g => some true) (fun f=>some f)))
else some false)
theorem zgg (j:List UInt8) (r:List UInt8) (f:Value) (h:Value) (w:Bool) (w0:World) (i:By w0 [] f j) (m:By w0 [] h r) (b:zb1 j r=some w) :
  Calls Tryz.prog 70 [f,h].toArray w0 (fun C F=>C=.returned (.bool w)/\Ext w0 F):=by
 have g:Ext w0 w0:=Ext.refl w0;unfold zb1 at b;refine zai (n:=26) Tryz.func70 V V V<|W_sr<|av (.bool false) V V<|wnt<|W_seq<|W_sr<|mv f V V<|wa V (q_len V T22.sl V (i.lift (le_ g)))<|mv h V V<|wa V (q_len V T22.sl V (m.lift (le_ g)))<|wa V (q_neI V V V)<|wnt<|zak _ V V (fun k=>?_) (fun k=>?_)
 ·replace b:=(if_neg (zbf k)).symm.trans b;refine W_sr<|av (.bool false) V V<|wnt<|W_ret<|th_r<|?_;obtain rfl:=osi b;refine rt1 (.bool false) V V V V ?_;exact ⟨rfl,g⟩
 replace b:=(if_pos (zbd k)).symm.trans b;refine zad<|W_th<|W_seq<|W_sr<|mv f V V<|wa V (q_len V T22.sl V (i.lift (le_ g)))<|mv (i64 0) V V<|wnt ?_;obtain ⟨H,B,b⟩:=bsi b;refine W_mid (fun c q=>∃ A,H=.inl A/\c 26=undef/\Ext w0 q) ?_ ?_
 ·refine zac<|za4 (fun d c q=>c 0=f/\c 1=h/\c 12=i64 (j.length:Int)/\c 13=i64 d/\c 26=undef/\Ext w0 q) B ?_ ?_
  ·exact ⟨rfl,rfl,rfl,rfl,rfl,g⟩
  rintro d _ _ G ⟨x,z,y,o,p,s⟩ a v;refine W_sr<|wa V (q_ltI V o y)<|wnt<|W_seq<|wci a V V (fun a=>?_) (fun a=>?_)
  ·refine zad<|W_th<|W_seq<|zac<|W_sr<|mv (i64 d) V o<|av (i64 d) V V<|wnt<|W_seq<|zbi [3,7] [(0,0),(1,0),(2,0),(3,1),(4,0),(5,0),(6,0),(7,1),(8,0)] mixed (by kernel_rfl) (by kernel_rfl) (by kernel_rfl) (by kernel_rfl) ?_;have I:=Ext.drew G;have e:=s.trans I;refine sv f V V x<|sv (i64 d) V V V<|bse a fun J t a=>sa V V (q_adr V T22 V V (i.lift (le_ e)) t)<|sq V V (zav V T22 V (i.lift (le_ e)) t)<|sv h V V z<|sv (i64 d) V V V<|bse a fun K u a=>sa V V (q_adr V T22 V V (m.lift (le_ e)) u)<|sq V V (zav V T22 V (m.lift (le_ e)) u)<|sa V V (q_ne8 V V V)<|zaw<|W_th<|zak _ V V (fun l=>?_) (fun l=>?_)
   ·replace a:=(if_neg (zbf l)).symm.trans a;refine W_sr<|av (.bool false) V V<|wnt<|W_ret<|bk_r<|th_r<|?_;obtain rfl:=osi a;obtain rfl:=v _ rfl;simp only [Sum.elim_inr] at b;refine th_r<|bk_r<|th_r<|th_r<|?_;obtain rfl:=osi b;refine rt1 (.bool false) V V V p ?_;exact ⟨rfl,e⟩
   replace a:=(if_pos (zbd l)).symm.trans a;refine zad<|bk_n<|W_th<|W_rg<|wa V (zam V o V)<|mv (i64 (wI (d+1))) V V<|zah<|?_;obtain rfl:=osi a;exact ⟨_,rfl,x,z,y,rfl,p,e⟩
  refine zaz<|th_x<|?_;obtain rfl:=osi a;obtain rfl:=v _ rfl;refine th_x<|bk_x<|?_;exact ⟨_,rfl,p,s⟩
 rintro _ L ⟨A,rfl,E,D⟩;simp only [Sum.elim_inl] at b;refine W_th<|W_sr<|av (.bool true) V V<|wnt<|W_ret<|?_;obtain rfl:=osi b;refine rt1 (.bool true) V V V E ?_;exact ⟨rfl,D⟩
noncomputable def zes (c:Option (Bool×List UInt8×List (List UInt8)×List Int)) (d:UInt8):Option (List UInt8) :=
(if c.isNone=true then some ([]:List UInt8)
else
((c).bind fun a =>
((zcy a.1 a.2.1 d).bind fun j =>
((idx a.2.2.1 0).bind fun g =>
((makeL (g.length:Int) (0:UInt8)).bind fun h =>
((iterC (fun b:List UInt8×Int =>
(if b.2<(a.2.2.1.length:Int) then
((idx a.2.2.1 b.2).bind fun e =>
((idx j.1 b.2).bind fun f =>
((zc2 a.1 b.1 f e).bind fun i => some (.inl (i,wI (b.2+1))))))
else some (.inr b.1))) (h,0)).bind fun k => some k))))))
theorem ze9 (T:Option (Bool×List UInt8×List (List UInt8)×List Int)) (p:UInt8) (f:Value) (a4:List UInt8) (w0:World) (Z:RcMd w0 [] f T) (a:zes T p=some a4) :
  Calls Tryz.prog 38 [f,u8 p].toArray w0 (fun aI aD=>∃ P:Value,aI=.returned P/\Ext w0 aD/\Nw w0 P/\OwK (Sc u8) aD [] 5 P a4):=by
 have M:Ext w0 w0:=Ext.refl w0;unfold zes at a;refine zai (n:=56) Tryz.func38 V V V<|W_sr<|av (.slice none 0 0) V V<|wnt<|W_seq<|W_sr<|mv f V V<|wa V (q_eqRMd V V V V (Z.lift (le_ M)))<|wnt<|zak _ V V (fun N=>?_) (fun N=>?_)
 ·replace a:=(if_pos N).symm.trans a;refine W_sr<|av (.slice none 0 0) V V<|wnt<|W_ret<|th_r<|?_;obtain rfl:=osi a;refine rt1 (.slice none 0 0) V V V V ?_;exact ⟨.slice none 0 0,rfl,M,Nw.nil _,OwK.nil _ _ _ _⟩
 replace a:=(if_neg (ne_true_of_eq_false N)).symm.trans a;refine zad<|W_th<|W_seq<|zbi [3,7] [(0,0),(1,0),(2,0),(3,1),(4,0),(5,0),(6,0),(7,1),(8,0),(9,2),(10,0),(11,0),(12,0),(13,0),(14,0)] mixed (by kernel_rfl) (by kernel_rfl) (by kernel_rfl) (by kernel_rfl) ?_;have bB:=Ext.drew w0;have r:=M.trans bB;refine sv f V V V ?_;obtain ⟨B,aO,a⟩:=bsi a;obtain ⟨e,l,Q,S,bH,x,t,a0,aU,w,bF⟩:=RcMd.some Z aO;refine sa V V (za9 (g:=e) (m:=0) V (Eq.trans V x))<|sa V V (zdp (g:=e) (m:=0) (d:=0) V fieldAtMd0 V)<|sq V V (zal (u:=l) V Tryz.isAgg27 V (t.ext r) V)<|sv f V V V<|sa V V (za9 (g:=e) (m:=0) V (Eq.trans V x))<|sa V V (zdp (g:=e) (m:=0) (d:=1) V fieldAtMd1 V)<|sq V V (zal (u:=Q) V Tryz.isAgg22 V (t.ext r) V)<|sv (u8 p) V V V<|?_;obtain ⟨y,aT,a⟩:=bsi a;refine wsc V (by kernel_rfl) V V (zab (vs:=[l,Q,u8 p]) Tryz.func71 V V V (ar3 V V V) (ze8 B.1 B.2.1 p l Q y _ (a0.lift (le_ r)) (aU.lift (le_ r)) aT) ?_);rintro _ b9 ⟨j,rfl,bC,aZ,b3⟩;refine ⟨_,rfl,?_⟩;have O:By b9 [] j y.1:=OwK.slk (Sc.stab _) _ (OwK.scal b3 (j::[])) (fun a1 aQ=>(Old.nil _) a1 (aZ a1 aQ)) (fun _ s=>s.2);have k:=r.trans bC;refine sv (.tuple #[j,i64 y.2]) V V V<|sa V V (zaf V V V)<|sa V V (zaf V V V)<|sa V V (zan (v:=j) V V)<|sa V V (zan (v:=i64 y.2) V V)<|zaw<|W_th<|W_sr<|mv f V V<|wa V (za9 (g:=e) (m:=0) V (Eq.trans V x))<|wa V (zdp (g:=e) (m:=0) (d:=2) V zh3 V)<|wq V (zal (u:=S) V Tryz.isAgg29 V (t.ext k) V)<|bse a fun bD Y a=>wa V (q_adr V T29 V V (w.lift (le_ k)) Y)<|zdl V V V T29 V w Y k (fun bI aN=>?_);refine wa V (q_len V T22.sl V (aN.lift (le_ k))) ?_;obtain ⟨bE,aP,a⟩:=bsi a;refine wls V V (zc8 (L:=[]) (R:=Sc u8) V T22 V V aP (fun _ _=>rfl) ?_);intro aC bK b4 a3 aK bG;have aF:=zaa aK;replace O:=O.lift (Lift.call _ aF a3);have aX:=Nw.ext k a3;have K:=k.trans aF;refine av aC V V ?_
 refine wnt<|W_seq<|W_sr<|mv f V V<|wa V (za9 (g:=e) (m:=0) V (Eq.trans V x))<|wa V (zdp (g:=e) (m:=0) (d:=2) V zh3 V)<|wq V (zal (u:=S) V Tryz.isAgg29 V (t.ext K) V)<|wa V (q_len V T29.sl V (w.lift (le_ K)))<|mv (i64 0) V V<|wnt<|?_;obtain ⟨bA,aG,a⟩:=bsi a;refine W_mid (fun c o=>∃ I:Value,c 7=I/\c 56=undef/\Ext w0 o/\OwK (Sc u8) o [I] 5 I bA/\Nw w0 I) ?_ ?_
 ·refine zac<|za4 (fun h c o=>∃ A:Value,c 0=f/\c 5=j/\c 7=A/\c 36=S/\c 37=i64 (B.2.2.1.length:Int)/\c 38=i64 h.2/\c 56=undef/\Ext w0 o/\OwK (Sc u8) o [A] 5 A h.1/\Nw w0 A/\By o [A] j y.1) aG ?_ ?_
  ·exact ⟨aC,rfl,rfl,rfl,rfl,rfl,rfl,rfl,K,b4,aX,O⟩
  rintro h _ _ b7 ⟨z,a6,aA,aB,a7,a8,E,a9,C,D,aV,i⟩ b aR;refine W_sr<|wa V (q_ltI V E a8)<|wnt<|W_seq<|wci b V V (fun b=>?_) (fun b=>?_)
  ·refine zad<|W_th<|W_seq<|zac<|W_sr<|mv (i64 h.2) V E<|bse b fun aH W b=>wa V (q_adr V T29 a7 E (w.lift (le_ C)) W)<|zdl V V V T29 V w W C (fun F aM=>?_);refine av (i64 h.2) V V<|av F V V<|wnt<|zbi [3,8] [(0,0),(1,0),(2,0),(3,1),(4,0),(5,0),(6,0),(7,0),(8,1),(9,0),(10,2),(11,0)] mixed (by kernel_rfl) (by kernel_rfl) (by kernel_rfl) (by kernel_rfl) ?_;have J:=Ext.drew b7;replace i:=i.lift (le_ J);replace D:=D.extL (Sc.stab _) J (le_ J);have q:=C.trans J;refine sv f V V a6<|sa V V (za9 (g:=e) (m:=0) V (Eq.trans V x))<|sa V V (zdp (g:=e) (m:=0) (d:=0) V fieldAtMd0 V)<|sq V V (zal (u:=l) V Tryz.isAgg27 V (t.ext q) V)<|sv z V V aB<|sv j V V aA<|sv (i64 h.2) V V V<|bse b fun U X b=>sa V V (q_adr V T22 V V i X)<|sq V V (zav V T22 V i X)<|sv F V V V<|?_;obtain ⟨a5,aS,b⟩:=bsi b;refine wsc V (by kernel_rfl) V V (zab (vs:=[l,z,u8 U,F]) Tryz.func72 V V V (ar4 V V V V) (zdf B.1 h.1 U aH l z F a5 _ (a0.lift (le_ q)) (D.rd (Sc.stab _)) (aM.lift (le_ q)) aS) ?_);rintro _ b8 ⟨G,rfl,aE,a2,b2⟩;refine ⟨_,rfl,?_⟩;have b1:OwK (Sc u8) b8 (G::[z]) 5 G a5:=OwK.scal b2 _;replace i:=i.lift (Lift.call _ aE a2);have aY:=Nw.ext q a2;have aJ:=q.trans aE;refine sa V V (zan (v:=G) V V)<|zaw<|bk_n<|W_th<|W_rg<|wa V (zam V E V)<|mv (i64 (wI (h.2+1))) V V<|zah<|?_;obtain rfl:=osi b;exact ⟨_,rfl,G,a6,aA,rfl,a7,a8,rfl,a9,aJ,b1.weak (Sc.stab _) (fun _ s=>⟨s.1,trivial⟩),aY,i.lift (Lift.sub (fun _ s=>⟨s.1,trivial⟩))⟩
  refine zaz<|th_x<|?_;obtain rfl:=osi b;obtain rfl:=aR _ rfl;refine th_x<|bk_x<|?_;exact ⟨z,aB,a9,C,D,aV⟩
 rintro _ bJ ⟨H,b6,b5,aL,b0,aW⟩;refine W_th<|W_sr<|mv H V b6<|av H V V<|wnt<|W_ret<|?_;obtain rfl:=osi a;refine rt1 H V V V b5 ?_;exact ⟨H,rfl,aL,aW,b0.weak (Sc.stab _) (fun _ _=>trivial)⟩
noncomputable def mend_odd (d:Option (Bool×List UInt8×List (List UInt8)×List Int)) (e:List UInt8) (f:List (List UInt8)):Option (List Int) :=
((idx f 0).bind fun i =>
((makeL (i.length:Int) false).bind fun o =>
((d).bind fun r =>
((iterC (fun c:List Bool×Int =>
(if c.2<(e.length:Int) then
((idx e c.2).bind fun j =>
((zes d j).bind fun g =>
((iterC (fun a:List Bool×Int =>
(if a.2<(g.length:Int) then
((idx g a.2).bind fun k =>
((idx a.1 a.2).bind fun l =>
(if l=true then some (.inl (a.1.set (a.2:Int).toNat true,wI (a.2+1)))
else
((idx f c.2).bind fun m =>
((idx m a.2).bind fun n => some (.inl (a.1.set (a.2:Int).toNat (!decide (k=n)),wI (a.2+1))))))))
else some (.inr a.1))) (c.1,0)).bind fun s => some (.inl (s,wI (c.2+1))))))
else some (.inr c.1))) (o,(r.2.1.length:Int))).bind fun h =>
((iterC (fun b:List Int×Int =>
(if b.2<(h.length:Int) then
((idx h b.2).bind fun p =>
(if p=true then
((appL b.1 ([b.2]:List Int)).bind fun q => some (.inl (q,wI (b.2+1))))
else some (.inl (b.1,wI (b.2+1)))))
else some (.inr b.1))) (([]:List Int),0)).bind fun t => some t)))))
theorem mend_odd_calls (Y:Option (Bool×List UInt8×List (List UInt8)×List Int)) (aN:List UInt8) (aO:List (List UInt8)) (r:Value) (x:Value) (y:Value) (b7:List Int) (w0:World) (b1:RcMd w0 [] r Y) (a5:By w0 [] x aN) (O:Rw w0 [] y aO) (i:mend_odd Y aN aO=some b7) :
  Calls Tryz.prog 67 [r,x,y].toArray w0 (fun bJ bD=>∃ aJ:Value,bJ=.returned aJ/\Ext w0 bD/\Nw w0 aJ/\OwK (Sc i64) bD [] 3 aJ b7):=by
 have F:Ext w0 w0:=Ext.refl w0;unfold mend_odd at i;refine zai (n:=75) Tryz.func67 V V V<|W_sr<|av (.slice none 0 0) V V<|wnt<|W_sr<|av (.slice none 0 0) V V<|wnt<|W_sr<|mv y V V<|bse i fun dA aV i=>wa V (q_adr V T29 V V (O.lift (le_ F)) aV)<|zdl V V V T29 V O aV F (fun dM bW=>?_);refine wa V (q_len V T22.sl V (bW.lift (le_ F))) ?_;obtain ⟨dC,bX,i⟩:=bsi i;refine wls V V (zc8 (L:=[]) (R:=Sc bl) V T124 V V bX (fun _ _=>rfl) ?_);intro b dS cN cE bQ dH;have d8:=zaa bQ;have cH:=Nw.ext F cE;have a0:=F.trans d8;refine av b V V<|wnt<|W_seq<|W_sr<|mv r V V<|?_;obtain ⟨bI,bZ,i⟩:=bsi i;obtain ⟨aT,dJ,d4,dK,dL,c5,bS,dE,c4,dF,dG⟩:=RcMd.some b1 bZ;refine wa V (za9 (g:=aT) (m:=0) V (Eq.trans V c5))<|wa V (zdp (g:=aT) (m:=0) (d:=1) V fieldAtMd1 V)<|wq V (zal (u:=d4) V Tryz.isAgg22 V (bS.ext a0) V)<|wa V (q_len V T22.sl V (c4.lift (le_ a0)))<|av (i64 (bI.2.1.length:Int)) V V<|wnt<|?_;obtain ⟨aM,bG,i⟩:=bsi i;refine W_mid (fun a c=>a 7=(.slice none 0 0)/\a 8=b/\a 75=undef/\Ext w0 c/\OwK (Sc bl) c [b] 4 b aM/\Nw w0 b) ?_ ?_
 ·refine zac<|za4 (fun p a c=>a 0=r/\a 1=x/\a 2=y/\a 7=(.slice none 0 0)/\a 8=b/\a 9=i64 p.2/\a 75=undef/\Ext w0 c/\OwK (Sc bl) c [b] 4 b p.1/\Nw w0 b) bG ?_ ?_
  ·exact ⟨rfl,rfl,rfl,rfl,rfl,rfl,rfl,a0,cN,cH⟩
  rintro p _ _ dX ⟨b8,a9,cU,bA,bB,aI,b9,z,I,b3⟩ j c3;refine W_seq<|W_sr<|mv (i64 p.2) V aI<|mv x V a9<|wa V (q_len V T22.sl V (a5.lift (le_ z)))<|wa V (q_ltI V V V)<|wnt<|wci j V V (fun j=>?_) (fun j=>?_)
  ·refine zad<|W_th<|W_seq<|zac<|W_sr<|mv r V b8<|mv x V a9<|mv (i64 p.2) V aI ?_;obtain ⟨aP,aW,j⟩:=bsi j;refine wa V (q_adr V T22 V V (a5.lift (le_ z)) aW)<|wq V (zav V T22 V (a5.lift (le_ z)) aW)<|?_;obtain ⟨Q,c0,j⟩:=bsi j;refine wls V V (zab (vs:=[r,u8 aP]) Tryz.func38 V V V (ar2 V V) (ze9 Y aP r Q _ (b1.lift (le_ z)) c0) ?_);rintro _ d5 ⟨U,rfl,aL,cD,cK⟩;refine ⟨_,rfl,?_⟩;have b2:By d5 [b] U Q:=OwK.slk (Sc.stab _) _ (OwK.scal cK (U::[b])) (fun G a4=>(Old.cons (Old.nil _) I.lt) G (cD G a4)) (fun _ q=>q.2);replace I:=I.extL (Sc.stab _) aL (le_ aL);have bK:=z.trans aL;refine wa V (q_len V T22.sl V b2)<|mv (i64 0) V V<|wnt<|?_;obtain ⟨d7,bE,j⟩:=bsi j;refine W_mid (fun a c=>a 0=r/\a 1=x/\a 2=y/\a 7=(.slice none 0 0)/\a 8=b/\a 9=i64 p.2/\a 75=undef/\Ext w0 c/\OwK (Sc bl) c [b] 4 b d7/\Nw w0 b) ?_ ?_
   ·refine zac<|za4 (fun o a c=>a 0=r/\a 1=x/\a 2=y/\a 7=(.slice none 0 0)/\a 8=b/\a 9=i64 p.2/\a 35=U/\a 36=i64 (Q.length:Int)/\a 37=i64 o.2/\a 75=undef/\Ext w0 c/\OwK (Sc bl) c [b] 4 b o.1/\Nw w0 b/\By c [b] U Q) bE ?_ ?_
    ·exact ⟨b8,a9,cU,bA,bB,aI,rfl,rfl,rfl,b9,bK,I,b3,b2⟩
    rintro o _ _ dO ⟨a7,a8,S,aG,M,T,aA,aB,J,aE,t,w,H,s⟩ e c1;refine W_sr<|wa V (q_ltI V J aB)<|wnt<|W_seq<|wci e V V (fun e=>?_) (fun e=>?_)
    ·refine zad<|W_th<|W_seq<|zac<|W_sr<|mv (i64 o.2) V J<|bse e fun E aX e=>wa V (q_adr V T22 aA J s aX)<|wq V (zav V T22 V s aX)<|av (i64 o.2) V V<|av (u8 E) V V<|wnt<|W_rg<|mv b V M<|mv (i64 o.2) V V<|?_;refine mv b V M<|mv (i64 o.2) V V<|bse e fun bH A e=>wa V (q_adr V T124 V V (w.rd (Sc.stab _)) A)<|wq V (zav V T124 V (w.rd (Sc.stab _)) A)<|wlb V V (za5 (v:=(.bool bH)) V V) (fun a2=>?_) (fun a2=>?_)
     ·replace e:=(if_pos a2).symm.trans e;refine wk V<|wk V<|wk V<|wk V<|wk V<|wk V<|wk V<|wk V<|wk V<|wa V (zaq (v:=(.bool true)) V V V)<|wa V (q_adr V T124 V V (w.rd (Sc.stab _)) A)<|wln V V (zcn (R:=Sc bl) (u:=(.bool true)) (Sc.stab _) [] [] V T124 V V w (zg8 true A) V V ?_);intro dP cL bO c7;replace s:=s.lift c7;have bL:=t.grown bO H;refine zah<|bk_n<|W_th<|W_rg<|wa V (zam V J V)<|mv (i64 (wI (o.2+1))) V V<|zah<|?_;obtain rfl:=osi e;exact ⟨_,rfl,a7,a8,S,aG,M,T,aA,aB,rfl,aE,bL,cL,H,s⟩
     replace e:=(if_neg (ne_true_of_eq_false a2)).symm.trans e;refine mv (u8 E) V V<|mv y V S<|mv (i64 p.2) V T<|bse e fun dB aY e=>wa V (q_adr V T29 V V (O.lift (le_ t)) aY)<|zdl V V V T29 V O aY t (fun dN aU=>?_);refine mv (i64 o.2) V V ?_;obtain ⟨Z,aZ,e⟩:=bsi e;refine wa V (q_adr V T22 V V (aU.lift (le_ t)) aZ)<|wq V (zav V T22 V (aU.lift (le_ t)) aZ)<|wa V (q_ne8 V V V)<|wa V (zap (v:=(.bool (!decide (E=Z)))) V V V)<|wa V (q_adr V T124 V V (w.rd (Sc.stab _)) A)<|wln V V (zcn (R:=Sc bl) (u:=(.bool (!decide (E=Z)))) (Sc.stab _) [] [] V T124 V V w (zg8 (!decide (E=Z)) A) V V ?_);intro dQ cM bP c8;replace s:=s.lift c8;have bM:=t.grown bP H;refine zah<|bk_n<|W_th<|W_rg<|wa V (zam V J V)<|mv (i64 (wI (o.2+1))) V V<|zah<|?_;obtain rfl:=osi e;exact ⟨_,rfl,a7,a8,S,aG,M,T,aA,aB,rfl,aE,bM,cM,H,s⟩
    refine zaz<|th_x<|?_;obtain rfl:=osi e;obtain rfl:=c1 _ rfl;refine th_x<|bk_x<|?_;exact ⟨a7,a8,S,aG,M,T,aE,t,w,H⟩
   rintro _ dR ⟨cR,cS,cT,cY,d1,d3,cV,bT,cI,cA⟩;refine bk_n<|W_th<|W_rg<|mv (i64 p.2) V d3<|wa V (zam V V V)<|av (i64 (wI (p.2+1))) V V<|zah<|?_;obtain rfl:=osi j;exact ⟨_,rfl,cR,cS,cT,cY,d1,rfl,cV,bT,cI,cA⟩
  refine zaz<|th_x<|?_;obtain rfl:=osi j;obtain rfl:=c3 _ rfl;refine th_x<|bk_x<|?_;exact ⟨bA,bB,b9,z,I,b3⟩
 rintro _ dT ⟨cZ,d2,cW,bU,b6,cB⟩;refine W_th<|W_seq<|W_sr<|mv b V d2<|wa V (q_len V T124.sl V (b6.rd (Sc.stab _)))<|mv (i64 0) V V<|wnt<|?_;obtain ⟨d9,bF,i⟩:=bsi i;refine W_mid (fun a c=>∃ X:Value,a 7=X/\a 75=undef/\Ext w0 c/\OwK (Sc i64) c [X] 3 X d9/\Nw w0 X) ?_ ?_
 ·refine zac<|za4 (fun f a c=>∃ D:Value,a 7=D/\a 61=b/\a 62=i64 (aM.length:Int)/\a 63=i64 f.2/\a 75=undef/\Ext w0 c/\OwK (Sc i64) c [D,b] 3 D f.1/\Nw w0 D/\OwK (Sc bl) c [D,b] 4 b aM/\Nw w0 b/\Nq D b) bF ?_ ?_
  ·exact ⟨.slice none 0 0,cZ,rfl,rfl,rfl,cW,bU,OwK.nil _ _ _ _,Nw.nil _,b6.weak (Sc.stab _) (fun _ q=>⟨zhm,q.1,trivial⟩),cB,Nq.nil _⟩
  rintro f _ _ dU ⟨C,aH,aC,aD,K,aF,a1,B,P,k,b4,a6⟩ h c2;refine W_sr<|wa V (q_ltI V K aD)<|wnt<|W_seq<|wci h V V (fun h=>?_) (fun h=>?_)
  ·refine zad<|W_th<|W_seq<|zac<|W_sr<|mv (i64 f.2) V K<|bse h fun aQ b0 h=>wa V (q_adr V T124 aC K (k.rd (Sc.stab _)) b0)<|wq V (zav V T124 V (k.rd (Sc.stab _)) b0)<|av (i64 f.2) V V<|av (.bool aQ) V V<|wnt<|W_sr<|mv (.bool aQ) V V<|wnt<|zak _ V V (fun a3=>?_) (fun a3=>?_)
   ·replace h:=(if_pos a3).symm.trans h;refine W_rg<|mv C V aH<|mv (i64 f.2) V V<|wls V V (zax (L:=[C,b]) (R:=Sc i64) [i64 f.2] ([f.2]:List Int) V T35 V (by exact ⟨rfl,rfl,trivial⟩) V (litC i64 zgf (us:=[i64 f.2]) (l:=([f.2]:List Int)) V) V (litS i64 (us:=[i64 f.2]) (l:=([f.2]:List Int)) V) ?_);intro bC d6 cO cF bR dI;have N:=zaa bR;have c6:In d6 [C,b] bC ([f.2]:List Int):=OwK.slk (Sc.stab _) _ cO (fun G a4=>(Old.cons (Old.cons (Old.nil _) k.lt) B.lt) G (cF G a4)) (fun _ q=>q.2);replace B:=B.extL (Sc.stab _) N (le_ N);replace k:=k.extL (Sc.stab _) N (le_ N);have aR:=a1.trans N;obtain ⟨dD,bY,h⟩:=bsi h;refine wls V V (zar (R:=Sc i64) (v:=C) (u:=bC) (Sc.stab _) [] [b] V T35 V V B c6 (fun _ _ q=>q) bY zg3 ?_);intro aK dV cP aS b5 c9;have cQ:Nq b aK:=k.nxt a6.symm b5;replace k:=k.other (Sc.stab _) aS a6.symm c9;have bN:=aR.grown aS P;have cG:=Nw.nxt aR P b5;refine av aK V V<|zah<|bk_n<|W_th<|W_rg<|wa V (zam V K V)<|mv (i64 (wI (f.2+1))) V V<|zah<|?_;obtain rfl:=osi h;exact ⟨_,rfl,aK,rfl,aC,aD,rfl,aF,bN,cP,cG,k,b4,cQ.symm⟩
   replace h:=(if_neg (ne_true_of_eq_false a3)).symm.trans h;refine zad<|bk_n<|W_th<|W_rg<|wa V (zam V K V)<|mv (i64 (wI (f.2+1))) V V<|zah<|?_;obtain rfl:=osi h;exact ⟨_,rfl,C,aH,aC,aD,rfl,aF,a1,B,P,k,b4,a6⟩
  refine zaz<|th_x<|?_;obtain rfl:=osi h;obtain rfl:=c2 _ rfl;refine th_x<|bk_x<|?_;exact ⟨C,aH,aF,a1,B.weak (Sc.stab _) (fun _ q=>⟨q.1,trivial⟩),P⟩
 rintro _ dW ⟨W,d0,cX,bV,cJ,cC⟩;refine W_th<|W_sr<|mv W V d0<|av W V V<|wnt<|W_ret<|?_;obtain rfl:=osi i;refine rt1 W V V V cX ?_;exact ⟨W,rfl,bV,cC,cJ.weak (Sc.stab _) (fun _ _=>trivial)⟩
noncomputable def zgh (a:Option (Bool×List UInt8×List (List UInt8)×List Int)):Option (List Int) :=
(if a.isNone=true then some ([]:List Int)
else
((a).bind fun b =>
((zby b.2.2.2).bind fun c => some c)))
theorem mend_Wrong_calls (j:Option (Bool×List UInt8×List (List UInt8)×List Int)) (e:Value) (o:List Int) (w0:World) (l:RcMd w0 [] e j) (a:zgh j=some o) :
  Calls Tryz.prog 37 [e].toArray w0 (fun s q=>∃ h:Value,s=.returned h/\Ext w0 q/\Nw w0 h/\OwK (Sc i64) q [] 3 h o):=by
 have b:Ext w0 w0:=Ext.refl w0;unfold zgh at a;refine zai (n:=10) Tryz.func37 V V V<|W_sr<|av (.slice none 0 0) V V<|wnt<|W_seq<|W_sr<|mv e V V<|wa V (q_eqRMd V V V V (l.lift (le_ b)))<|wnt<|zak _ V V (fun f=>?_) (fun f=>?_)
 ·replace a:=(if_pos f).symm.trans a;refine W_sr<|av (.slice none 0 0) V V<|wnt<|W_ret<|th_r<|?_;obtain rfl:=osi a;refine rt1 (.slice none 0 0) V V V V ?_;exact ⟨.slice none 0 0,rfl,b,Nw.nil _,OwK.nil _ _ _ _⟩
 replace a:=(if_neg (ne_true_of_eq_false f)).symm.trans a;refine zad<|W_th<|W_sr<|mv e V V<|?_;obtain ⟨r,w,a⟩:=bsi a;obtain ⟨k,J,K,L,i,z,v,G,H,I,y⟩:=RcMd.some l w;refine wa V (za9 (g:=k) (m:=0) V (Eq.trans V z))<|wa V (zdp (g:=k) (m:=0) (d:=3) V fieldAtMd3 V)<|wq V (zal (u:=i) V Tryz.isAgg35 V (v.ext b) V)<|?_;obtain ⟨p,x,a⟩:=bsi a;refine wls V V (zab (vs:=[i]) Tryz.func42 V V V (ar1 V) (zeb r.2.2.2 i p _ (y.lift (le_ b)) x) ?_);rintro _ E ⟨c,rfl,F,A,D⟩;refine ⟨_,rfl,?_⟩;have C:OwK (Sc i64) E (c::[]) 3 c p:=OwK.scal D _;have B:=Nw.ext b A;have t:=b.trans F;refine av c V V<|wnt<|W_ret<|?_;obtain rfl:=osi a;refine rt1 c V V V V ?_;exact ⟨c,rfl,t,B,C.weak (Sc.stab _) (fun _ _=>trivial)⟩
noncomputable def zfb (a:List UInt8) (b:List (List UInt8)):Option Bool :=
((idx b 0).bind fun c => some (!decide ((a.length:Int)=(c.length:Int))))
theorem mend_Rows_1_calls (a0r:List UInt8) (b0:List (List UInt8)) (p0:Value) (gc0:Nat) (cv0:Value) (r:Bool) (w0:World) (hp0:By w0 [] p0 a0r) (hcB0:Blk w0 gc0 29 #[cv0]) (hcv0:Rw w0 [] cv0 b0) (H:zfb a0r b0=some r) :
  Calls Tryz.prog 66 [p0,(bp gc0)].toArray w0 (fun e w'=>e=.returned (.bool r)/\Ext w0 w'):=by
 have hE:Ext w0 w0:=Ext.refl w0;unfold zfb at H;refine zai (n:=11) Tryz.func66 rfl rfl rfl ?_;refine W_seq<|W_rg<|av (.bool false) rfl rfl<|wnt<|W_seq<|W_rg<|mv p0 rfl rfl<|wa rfl (q_len rfl T22.sl rfl (hp0.lift (le_ hE)))<|?_;refine wq rfl (zal (u:=cv0) rfl Tryz.isAgg29 rfl (hcB0.ext hE) rfl) ?_;obtain ⟨c1,hc1,H⟩:=bsi H;refine wa rfl (q_adr rfl T29 rfl rfl (hcv0.lift (le_ hE)) hc1) ?_;refine zdl rfl rfl rfl T29 rfl hcv0 hc1 hE (fun v2 ha2=>?_);refine wa rfl (q_len rfl T22.sl rfl (ha2.lift (le_ hE)))<|wa rfl (q_neI rfl rfl rfl)<|av (.bool ((!decide ((a0r.length:Int)=(c1.length:Int))))) rfl rfl<|wnt<|W_ret<|?_;obtain rfl:=osi H;refine rt1 (.bool ((!decide ((a0r.length:Int)=(c1.length:Int))))) rfl rfl rfl rfl ?_;exact ⟨rfl,hE⟩
noncomputable def zgn (c:Bool) (g:Int) (d:List UInt8) (b:List (List UInt8)) (j:Int):Option (Option (Bool×List UInt8×List (List UInt8)×List Int)×Int) :=
((zh6 c g d (b.length:Int) j).bind fun m =>
(if m=0 then
((lim b.length).bind fun L =>
((anyO (fun J=>zfb J b) b).bind fun E =>
(if E=true then some ((none:Option (Bool×List UInt8×List (List UInt8)×List Int)),3)
else
((subL d 0 g).bind fun q =>
((zae q).bind fun e =>
((subL b 0 g).bind fun k =>
((iterC (fun s21:List (List UInt8)×Int =>
(if s21.2<(k.length:Int) then
((idx k s21.2).bind fun t =>
((zae t).bind fun D =>
((appL s21.1 [D]).bind fun u => some (.inl (u,wI (s21.2+1))))))
else some (.inr s21.1))) (([]:List (List UInt8)),0)).bind fun o =>
((mend_odd (some (c,e,o,([]:List Int))) d b).bind fun n =>
((iterC (fun s52:List (List UInt8)×Int =>
(if s52.2<(n.length:Int) then
((idx n s52.2).bind fun h =>
((iterC (fun f:List UInt8×Int =>
(if f.2<(b.length:Int) then
((idx b f.2).bind fun v =>
((idx v h).bind fun w =>
((appL f.1 ([w]:List UInt8)).bind fun x => some (.inl (x,wI (f.2+1))))))
else some (.inr f.1))) (([]:List UInt8),0)).bind fun G =>
((zeq c g d G j).bind fun i =>
(if i.2=0 then
((iterC (fun s76:List (List UInt8)×Int =>
(if s76.2<(e.length:Int) then
((idx e s76.2).bind fun y =>
((idx s76.1 s76.2).bind fun l =>
((zgp c i.1 y).bind fun F =>
((idx l h).bind fun K => some (.inl (s76.1.set (s76.2:Int).toNat (l.set (h:Int).toNat F),wI (s76.2+1)))))))
else some (.inr s76.1))) (s52.1,0)).bind fun H => some (.inl (H,wI (s52.2+1))))
else some (.inr (.inr ((none:Option (Bool×List UInt8×List (List UInt8)×List Int)),i.2)))))))
else some (.inr (.inl s52.1)))) (o,0)).bind (Sum.elim (fun p =>
((iterC (fun a:List Int×Int =>
(if a.2<(d.length:Int) then
((idx d a.2).bind fun z =>
((idx b a.2).bind fun r =>
((zes (some (c,e,p,a.1)) z).bind fun B =>
((zb1 B r).bind fun C =>
(if (!C)=true then
((appL a.1 ([a.2]:List Int)).bind fun s => some (.inl (s,wI (a.2+1))))
else some (.inl (a.1,wI (a.2+1))))))))
else some (.inr a.1))) (([]:List Int),0)).bind fun I => some (some (c,e,p,I),0))) (fun A=>some A)))))))))))
else some ((none:Option (Bool×List UInt8×List (List UInt8)×List Int)),m)))
theorem mend_Rows_calls (aK:Bool) (y:Int) (b0:List UInt8) (a4:List (List UInt8)) (I:Int) (o:Value) (t:Value) (s:Value) (dV:Option (Bool×List UInt8×List (List UInt8)×List Int)×Int) (w0:World) (j:List Value) (Z:Old w0 j) (aN:Fd w0 j o aK) (a8:By w0 [] t b0) (N:Rw w0 [] s a4) (k:zgn aK y b0 a4 I=some dV) :
  Calls Tryz.prog 36 [o,i64 y,t,s,i64 I].toArray w0 (fun cW cT=>∃ h3:Value,cW=.returned (.tuple #[h3,i64 dV.2])/\Ext w0 cT/\RcMd cT j h3 dV.1):=by
 have d4:Ext w0 w0:=Ext.refl w0;unfold zgn at k;refine zai (n:=155) Tryz.func36 V V V<|W_sr<|wls V V (zb0 (v:=s) (cs:=#[s]) j V V (zcj _ _ (N.lift (le_ d4))) ?_);intro e n6 J j5 i1 mR;have mH:=zaa i1;have jL:=Nw.ext d4 j5;have bV:=d4.trans mH;refine av (.pointer none) V V<|av (i64 0) V V<|wnt<|W_seq<|W_sr<|mv o V V<|mv (i64 y) V V<|mv t V V<|wq V (zal (u:=s) V Tryz.isAgg29 V J V)<|wa V (q_len V T29.sl V (N.lift (le_ bV)))<|mv (i64 I) V V<|?_;obtain ⟨b5,iG,k⟩:=bsi k;refine wls V V (zab (vs:=[o,i64 y,t,i64 (a4.length:Int),i64 I]) Tryz.func65 V V V (ar5 V V V V V) (mend_check_calls aK y b0 (a4.length:Int) I o t b5 _ ((aN.lift (Lift.sub (L':=[]) (fun _ _=>trivial))).lift (le_ bV)) (a8.lift (le_ bV)) iG) ?_);rintro _ nC ⟨rfl,hD⟩;refine ⟨_,rfl,?_⟩;replace J:=J.ext hD;have bW:=bV.trans hD;refine av (i64 b5) V V<|wnt<|W_sr<|mv (i64 b5) V V<|wa V (q_neI V V V)<|wnt<|zak _ V V (fun d7=>?_) (fun d7=>?_)
 ·replace k:=(if_neg (zbf d7)).symm.trans k;refine W_sr<|mv (i64 b5) V V<|av (.pointer none) V V<|av (i64 b5) V V<|wnt<|W_ret<|th_r<|?_;obtain rfl:=osi k;refine rt2 (.pointer none) (i64 b5) V V V V V V ?_;exact ⟨.pointer none,rfl,bW,RcMd.nil _ _⟩
 replace k:=(if_pos (zbd d7)).symm.trans k;refine zad<|W_th<|W_seq<|W_sr<|wq V (zal (u:=s) V Tryz.isAgg29 V J V)<|wa V (zhc (vs:=[bp e]) V (ar1 V))<|?_;obtain ⟨mW,iA,k⟩:=bsi k;obtain ⟨lA,iJ,k⟩:=bsi k;refine wls V V (zab (vs:=[s,(.func (.func 66) #[] [bp e].toArray)]) Tryz.func34 V V V (ar2 V V) (zch s a4 66 _ Tryz.func66 V V [bp e] (fun eB=>zfb eB a4) lA _ (N.lift (le_ bW)) (lim_lt iA) iJ (fun eB _ b cT hG i6 u iO=>mend_Rows_1_calls eB a4 u e s b cT iO (J.ext hG) ((N.lift (le_ bW)).lift (le_ hG)) i6)) ?_);rintro _ nI ⟨rfl,hF⟩;refine ⟨_,rfl,?_⟩;replace J:=J.ext hF;have bF:=bW.trans hF;refine wnt<|zak _ V V (fun d9=>?_) (fun d9=>?_)
 ·replace k:=(if_pos d9).symm.trans k;refine W_sr<|av (.pointer none) V V<|av (i64 3) V V<|wnt<|W_ret<|th_r<|?_;obtain rfl:=osi k;refine rt2 (.pointer none) (i64 3) V V V V V V ?_;exact ⟨.pointer none,rfl,bF,RcMd.nil _ _⟩
 replace k:=(if_neg (ne_true_of_eq_false d9)).symm.trans k;refine zad<|W_th<|W_sr<|mv o V V<|mv t V V<|mv (i64 y) V V<|bse k fun hN eQ k=>wa V (zdm (a:=0) (b:=y) V T22 V (a8.lift (le_ bF)) V V eQ) ?_;obtain ⟨M,iD,k⟩:=bsi k;refine wls V V (zab (vs:=[subV t (0:Int).toNat (y:Int).toNat]) Tryz.func59 V V V (ar1 V) (zao hN (subV t (0:Int).toNat (y:Int).toNat) M _ (SlK.cut (L:=[]) (a8.lift (le_ bF)) eQ) iD) ?_);rintro _ m7 ⟨r,rfl,hB,j9,k2⟩;refine ⟨_,rfl,?_⟩;have c9:By m7 (bp e::j) r M:=OwK.slk (Sc.stab _) _ (OwK.scal k2 (r::(bp e::j))) (fun p B=>(Old.cons (Z.ext bF) J.ltB) p (j9 p B)) (fun _ h=>h.2);replace J:=J.ext hB;have cY:=bF.trans hB;refine wa V (q_buildS (ps:=#[(0,o),(1,r)]) V (by simp only [List.map_toArray,List.map_cons,List.map_nil];exact bs2 V V) (buildMd_0_1 o (cells_fd ((aN.lift (Lift.sub (L':=[]) (fun _ _=>trivial))).lift (le_ cY))) r (zcj _ _ c9))) ?_
 refine wls V V (zb0 (v:=(.agg #[o,r,.slice none 0 0,.slice none 0 0])) (cs:=#[o,r,.slice none 0 0,.slice none 0 0]) (bp e::j) V V V ?_);intro c m8 k3 dG i0 mT;have eA:=zaa i0;have kR:Nq (bp e) (bp c):=J.nq dG;replace J:=J.ext eA;have jA:=Nw.ext cY dG;have cZ:=cY.trans eA;have kS:Nq (bp c) (.tuple #[.slice none 0 0]):=nq_nilG _;have kT:Nq (bp e) (.tuple #[.slice none 0 0]):=nq_nilG _;replace c9:=(c9.lift (Lift.call _ eA dG)).lift (Lift.sub (L':=((.tuple #[.slice none 0 0])::bp c::bp e::j)) (fun _ h=>⟨nh_nilG,h⟩));have kI:OwD m8 22 5 (.tuple #[.slice none 0 0]) (.slice none 0 0) []:=OwD.nil _ _ _;have jV:Nw w0 (.tuple #[.slice none 0 0]):=nw_nilG _;refine av (bp c) V V<|wnt<|W_seq<|W_sr<|wq V (zal (u:=s) V Tryz.isAgg29 V J V)<|mv (i64 y) V V<|bse k fun hP c4 k=>wa V (zdm (a:=0) (b:=y) V T29 V (N.lift (le_ cZ)) V V c4)<|wa V (q_len V T29.sl V (SlK.cut (N.lift (le_ cZ)) c4))<|mv (i64 0) V V<|wnt<|?_;obtain ⟨hC,hH,k⟩:=bsi k;refine W_mid (fun f i=>∃ h9:Value,∃ bB:Value,f 0=o/\f 1=i64 y/\f 2=t/\f 4=i64 I/\f 8=bp e/\f 13=bp c/\f 155=undef/\Ext w0 i/\OwD i 22 5 bB h9 hC/\Nw w0 bB/\Blk i e 29 #[s]/\Nw w0 (bp e)/\Blk i c 96 #[o,r,h9,.slice none 0 0]/\Nw w0 (bp c)/\Nq bB (bp e)/\Nq bB (bp c)/\Nq (bp e) (bp c)/\By i (bB::bp e::bp c::j) r M) ?_ ?_
 ·refine zac<|za4 (fun cO f i=>∃ hA:Value,∃ bD:Value,f 0=o/\f 1=i64 y/\f 2=t/\f 4=i64 I/\f 8=bp e/\f 13=bp c/\f 49=subV s (0:Int).toNat (y:Int).toNat/\f 50=i64 (hP.length:Int)/\f 51=i64 cO.2/\f 155=undef/\Ext w0 i/\OwD i 22 5 bD hA cO.1/\Nw w0 bD/\Blk i e 29 #[s]/\Nw w0 (bp e)/\Blk i c 96 #[o,r,hA,.slice none 0 0]/\Nw w0 (bp c)/\Nq bD (bp e)/\Nq bD (bp c)/\Nq (bp e) (bp c)/\By i (bD::bp e::bp c::j) r M) hH ?_ ?_
  ·exact ⟨.slice none 0 0,(.tuple #[.slice none 0 0]),rfl,rfl,rfl,rfl,rfl,rfl,rfl,rfl,rfl,rfl,cZ,kI,jV,J,jL,k3,jA,kT.symm,kS.symm,kR,c9.lift (Lift.sub (fun _ h=>⟨h.1,h.2.2.1,h.2.1,h.2.2.2⟩))⟩
  rintro cO _ _ m9 ⟨e9,bC,fS,g8,gD,gK,gZ,cN,gJ,gO,e3,g1,c0,a1,dD,K,f5,Q,dI,dL,dO,dT,a0⟩ X iE;refine W_sr<|wa V (q_ltI V e3 gO)<|wnt<|W_seq<|wci X V V (fun X=>?_) (fun X=>?_)
  ·refine zad<|W_th<|W_seq<|zac<|W_sr<|bse X fun hQ eS X=>wa V (q_adr V T29 gJ e3 (SlK.cut (N.lift (le_ c0)) c4) eS)<|zdl V V V T29 V (SlK.cut N c4) eS c0 (fun cS i5=>?_);refine av cS V V<|wnt<|zbi [4] [(0,0),(1,0),(2,0),(3,0),(4,1),(5,0),(6,2),(7,2),(8,2),(9,0),(10,0),(11,2)] mixed (by kernel_rfl) (by kernel_rfl) (by kernel_rfl) (by kernel_rfl) ?_;have bR:=Ext.drew m9;replace a0:=a0.lift (le_ bR);replace a1:=a1.ext bR;replace K:=K.ext bR;replace Q:=Q.ext bR;have d0:=c0.trans bR;refine sv (bp c) V V cN<|sv (bp c) V V cN<|sa V V (za9 V V)<|sa V V (zdp (g:=c) (m:=0) (d:=2) V zh3 V)<|sq V V (zal (u:=e9) V Tryz.isAgg29 V Q V)<|sv cS V V V<|?_;obtain ⟨fR,iF,X⟩:=bsi X;refine wss V V V (zab (vs:=[cS]) Tryz.func59 V V V (ar1 V) (zao hQ cS fR _ (i5.lift (le_ d0)) iF) ?_);rintro _ mA ⟨T,rfl,b7,bH,k7⟩;refine ⟨_,rfl,b7,?_⟩;have bL:OwK (Sc u8) mA (T::(bC::bp e::bp c::j)) 5 T fR:=OwK.scal k7 _;have kZ:Nq bC T:=a1.nq bH;have l1:Nq (bp e) T:=K.nq bH;have l2:Nq (bp c) T:=Q.nq bH;replace a1:=a1.ext b7;replace K:=K.ext b7;replace Q:=Q.ext b7;have jM:=Nw.ext d0 bH;have eF:=d0.trans b7;refine wss V V V (zax (L:=(T::bC::bp e::bp c::j)) (R:=Sc (fun x:Value=>x)) [T] [T] V T29 V (by exact ⟨rfl,rfl,trivial⟩) V (litV bL) V (fun _ _ _ _ _ _=>rfl) ?_);intro h6 mB kB jN eK mU;refine ⟨zaa eK,?_⟩;have aU:=zaa eK;have iV:SlK (Sc (fun x:Value=>x)) mB (T::bC::bp e::bp c::j) h6 [T]:=OwK.slk (Sc.stab _) _ kB (fun p B=>(Old.cons (Old.cons (Old.cons (Old.cons (Z.ext eF) Q.ltB) K.ltB) a1.ltB) bL.lt) p (jN p B)) (fun _ h=>h.2);replace a0:=(a0.lift (Lift.call _ b7 bH)).lift (le_ aU);replace bL:=bL.extL (Sc.stab _) aU (le_ aU);replace a1:=a1.ext aU;replace K:=K.ext aU;replace Q:=Q.ext aU;have eG:=eF.trans aU;obtain ⟨mM,i8,X⟩:=bsi X;refine wsc V (by kernel_rfl) V V (zb5 (x:=T) (u:=e9) (q:=h6) [T] (bp e::bp c::j) V T29 V V a1 iV bL kZ.symm i8 ?_)
   intro cV aX e8 nB cI d1 dJ c3 iZ;replace a0:=a0.lift iZ;have l3:Nq (bp e) cV:=K.nxt dL.symm dJ;have l4:Nq (bp c) cV:=Q.nxt dO.symm dJ;replace K:=K.other d1 dL.symm;replace Q:=Q.other d1 dO.symm;have hT:=eG.grown d1 dD;have jP:=Nw.nxt eG dD dJ;have l5:Nq (bp e) aX:=OwD.relist c3 l3 l1;have fQ:Nq (bp c) aX:=OwD.relist c3 l4 l2
   have jQ:Nw w0 aX:=fun p B=>(c3 p B).elim (jP p) (jM p)
   refine sa V V (za9 V V)<|sa V V (zdp (g:=c) (m:=0) (d:=2) V zh3 V)<|wsn V (by kernel_rfl) V V (stp_storeR (u:=e8) (cs':=#[o,r,e8,.slice none 0 0]) [aX,bp e] j V Tryz.sizeOf29 V V Q (Nat.le_of_ble_eq_true V) (oc_sl _ _ _ _ cI.rd) V ?_);intro nD kC d2 j0;replace a0:=(a0.lift (Lift.sub (show ∀ p,Av (T::cV::bp e::bp c::j) p->Av (aX::bp e::bp c::j) p from fun _ h=>⟨(fun cW=>(c3 _ cW).elim h.2.1 h.1),h.2.2.1,h.2.2.2.1,h.2.2.2.2⟩))).lift j0;replace cI:=cI.other d2 fQ.symm;replace K:=K.other d2 dT;have hU:=hT.grown d2 dI;refine zaw<|bk_n<|W_th<|W_rg<|wa V (zam V e3 V)<|mv (i64 (wI (cO.2+1))) V V<|zah<|?_;obtain rfl:=osi X;exact ⟨_,rfl,e8,aX,fS,g8,gD,gK,gZ,cN,gJ,gO,rfl,g1,hU,cI,jQ,K,f5,kC,dI,l5.symm,fQ.symm,dT,a0⟩
  refine zaz<|th_x<|?_;obtain rfl:=osi X;obtain rfl:=iE _ rfl;refine th_x<|bk_x<|?_;exact ⟨e9,bC,fS,g8,gD,gK,gZ,cN,g1,c0,a1,dD,K,f5,Q,dI,dL,dO,dT,a0⟩
 rintro _ nE ⟨E,cU,lC,lO,gE,lT,h0,fX,lJ,bG,bI,j2,bK,jC,bM,jH,kJ,kM,kU,c6⟩;refine W_th<|W_seq<|W_sr<|mv (bp c) V fX<|mv t V gE<|wq V (zal (u:=s) V Tryz.isAgg29 (by exact h0) bK V)<|?_;obtain ⟨U,iH,k⟩:=bsi k;refine wls V V (zab (vs:=[bp c,t,s]) Tryz.func67 V V V (ar3 V V V) (mend_odd_calls (some (aK,M,hC,([]:List Int))) b0 a4 (bp c) t s U _ (RcMd.mk bM trivial ((aN.lift (Lift.sub (L':=[]) (fun _ _=>trivial))).lift (le_ bG)) (c6.lift (Lift.sub (L':=[]) (fun _ _=>trivial))) bI.rd (SlK.nil _ _ _)) (a8.lift (le_ bG)) (N.lift (le_ bG)) iH) ?_);rintro _ mC ⟨W,rfl,bS,jR,kD⟩;refine ⟨_,rfl,?_⟩;have f1:In mC (cU::bp e::bp c::j) W U:=OwK.slk (Sc.stab _) _ (OwK.scal kD (W::(cU::bp e::bp c::j))) (fun p B=>(Old.cons (Old.cons (Old.cons (Z.ext bG) bM.ltB) bK.ltB) bI.ltB) p (jR p B)) (fun _ h=>h.2);replace c6:=c6.lift (le_ bS);replace bI:=bI.ext bS;replace bK:=bK.ext bS;replace bM:=bM.ext bS;have hV:=bG.trans bS;refine wa V (q_len V T35.sl V f1)<|mv (i64 0) V V<|wnt<|?_;obtain ⟨mI,hI,k⟩:=bsi k;refine W_mid (fun f i=>∃ b9,mI=.inl b9/\∃ bA:Value,f 2=t/\f 8=bp e/\f 13=bp c/\f 155=undef/\Ext w0 i/\OwD i 22 5 bA E b9/\Nw w0 bA/\Blk i e 29 #[s]/\Nw w0 (bp e)/\Blk i c 96 #[o,r,E,.slice none 0 0]/\Nw w0 (bp c)/\Nq bA (bp e)/\Nq bA (bp c)/\Nq (bp e) (bp c)/\By i (bA::bp e::bp c::j) r M) ?_ ?_
 ·refine zac<|za4 (fun a3 f i=>∃ aZ:Value,f 0=o/\f 1=i64 y/\f 2=t/\f 4=i64 I/\f 8=bp e/\f 13=bp c/\f 70=W/\f 71=i64 (U.length:Int)/\f 72=i64 a3.2/\f 155=undef/\Ext w0 i/\OwD i 22 5 aZ E a3.1/\Nw w0 aZ/\Blk i e 29 #[s]/\Nw w0 (bp e)/\Blk i c 96 #[o,r,E,.slice none 0 0]/\Nw w0 (bp c)/\Nq aZ (bp e)/\Nq aZ (bp c)/\Nq (bp e) (bp c)/\By i (aZ::bp e::bp c::j) r M/\In i (aZ::bp e::bp c::j) W U) hI ?_ ?_
  ·exact ⟨cU,lC,lO,gE,lT,h0,fX,rfl,rfl,rfl,lJ,hV,bI,j2,bK,jC,bM,jH,kJ,kM,kU,c6,f1⟩
  rintro a3 _ _ nF ⟨w,lD,lP,gF,lU,e6,fY,gP,gS,e4,g2,d5,fE,f4,dK,f6,fG,f9,fH,fI,fK,f0,dA⟩ C eZ;refine W_sr<|wa V (q_ltI V e4 gS)<|wnt<|W_seq<|wci C V V (fun C=>?_) (fun C=>?_)
  ·refine zad<|W_th<|W_seq<|zac<|W_sr<|bse C fun b1 eT C=>wa V (q_adr V T35 gP e4 dA eT)<|wq V (zav V T35 V dA eT)<|av (i64 b1) V V<|wnt<|W_sr<|av (.slice none 0 0) V V<|wnt<|?_;refine W_seq<|W_sr<|wq V (zal (u:=s) V Tryz.isAgg29 (by exact e6) dK V)<|wa V (q_len V T29.sl V (N.lift (le_ d5)))<|mv (i64 0) V V<|wnt<|?_;obtain ⟨hE,hJ,C⟩:=bsi C;refine W_mid (fun f i=>∃ a7:Value,f 0=o/\f 1=i64 y/\f 2=t/\f 4=i64 I/\f 8=bp e/\f 13=bp c/\f 17=i64 b1/\f 18=a7/\f 70=W/\f 71=i64 (U.length:Int)/\f 72=i64 a3.2/\f 155=undef/\Ext w0 i/\OwK (Sc u8) i (a7::w::bp e::bp c::j) 5 a7 hE/\Nw w0 a7/\OwD i 22 5 w E a3.1/\Nw w0 w/\Blk i e 29 #[s]/\Nw w0 (bp e)/\Blk i c 96 #[o,r,E,.slice none 0 0]/\Nw w0 (bp c)/\Nq a7 w/\Nq a7 (bp e)/\Nq a7 (bp c)/\Nq w (bp e)/\Nq w (bp c)/\Nq (bp e) (bp c)/\By i (a7::w::bp e::bp c::j) r M/\In i (a7::w::bp e::bp c::j) W U) ?_ ?_
   ·refine zac<|za4 (fun cP f i=>∃ a6:Value,f 0=o/\f 1=i64 y/\f 2=t/\f 4=i64 I/\f 8=bp e/\f 13=bp c/\f 17=i64 b1/\f 18=a6/\f 70=W/\f 71=i64 (U.length:Int)/\f 72=i64 a3.2/\f 76=s/\f 77=i64 (a4.length:Int)/\f 78=i64 cP.2/\f 155=undef/\Ext w0 i/\OwK (Sc u8) i (a6::w::bp e::bp c::j) 5 a6 cP.1/\Nw w0 a6/\OwD i 22 5 w E a3.1/\Nw w0 w/\Blk i e 29 #[s]/\Nw w0 (bp e)/\Blk i c 96 #[o,r,E,.slice none 0 0]/\Nw w0 (bp c)/\Nq a6 w/\Nq a6 (bp e)/\Nq a6 (bp c)/\Nq w (bp e)/\Nq w (bp c)/\Nq (bp e) (bp c)/\By i (a6::w::bp e::bp c::j) r M/\In i (a6::w::bp e::bp c::j) W U) hJ ?_ ?_
    ·exact ⟨.slice none 0 0,lD,lP,gF,lU,e6,fY,rfl,rfl,gP,gS,e4,rfl,rfl,rfl,g2,d5,OwK.nil _ _ _ _,Nw.nil _,fE,f4,dK,f6,fG,f9,Nq.nil _,Nq.nil _,Nq.nil _,fH,fI,fK,f0.lift (Lift.sub (fun _ h=>⟨zhm,h.1,h.2.1,h.2.2.1,h.2.2.2⟩)),dA.lift (Lift.sub (fun _ h=>⟨zhm,h.1,h.2.1,h.2.2.1,h.2.2.2⟩))⟩
    rintro cP _ _ nG ⟨bP,fT,g9,gG,gL,h1,fZ,e2,g7,gQ,gT,gV,gX,gY,e5,g3,aM,bJ,dE,aA,f7,aB,fA,aC,fD,dM,dP,dS,fL,fO,fP,c7,cA⟩ Y iI;refine W_sr<|wa V (q_ltI V e5 gY)<|wnt<|W_seq<|wci Y V V (fun Y=>?_) (fun Y=>?_)
    ·refine zad<|W_th<|W_seq<|zac<|W_sr<|bse Y fun mN eU Y=>wa V (q_adr V T29 gX e5 (N.lift (le_ aM)) eU)<|zdl V V V T29 V N eU aM (fun h7 eP=>?_);refine av h7 V V<|wnt<|W_rg<|mv bP V g7<|mv h7 V V<|mv (i64 b1) V e2<|bse Y fun aL eV Y=>wa V (q_adr V T22 V V (eP.lift (le_ aM)) eV)<|wq V (zav V T22 V (eP.lift (le_ aM)) eV)<|wls V V (zax (L:=(bP::w::bp e::bp c::j)) (R:=Sc u8) [u8 aL] ([aL]:List UInt8) V T22 V (by exact ⟨rfl,rfl,trivial⟩) V (litC u8 zbx (us:=[u8 aL]) (l:=([aL]:List UInt8)) V) V (litS u8 (us:=[u8 aL]) (l:=([aL]:List UInt8)) V) ?_);intro h8 mD kE jS i2 mV;have aH:=zaa i2;have iW:By mD (bP::w::bp e::bp c::j) h8 ([aL]:List UInt8):=OwK.slk (Sc.stab _) _ kE (fun p B=>(Old.cons (Old.cons (Old.cons (Old.cons (Z.ext aM) aC.ltB) aB.ltB) aA.ltB) bJ.lt) p (jS p B)) (fun _ h=>h.2);replace bJ:=bJ.extL (Sc.stab _) aH (le_ aH);replace aA:=aA.ext aH;replace aB:=aB.ext aH;replace aC:=aC.ext aH;have eH:=aM.trans aH;obtain ⟨mO,i9,Y⟩:=bsi Y;refine wls V V (zar (R:=Sc u8) (v:=bP) (u:=h8) (Sc.stab _) [] (w::bp e::bp c::j) V T22 V V bJ iW (fun _ _ h=>h) i9 oc_u8 ?_);intro bQ nH kF bZ cE f3;replace c7:=(c7.lift (le_ aH)).lift f3;replace cA:=(cA.lift (le_ aH)).lift f3;have l6:Nq w bQ:=aA.nxt dM.symm cE;have l7:Nq (bp e) bQ:=aB.nxt dP.symm cE;have l8:Nq (bp c) bQ:=aC.nxt dS.symm cE;replace aA:=aA.other bZ dM.symm;replace aB:=aB.other bZ dP.symm;replace aC:=aC.other bZ dS.symm;have hW:=eH.grown bZ dE;have jT:=Nw.nxt eH dE cE;refine av bQ V V<|zah<|bk_n<|W_th<|W_rg<|wa V (zam V e5 V)<|mv (i64 (wI (cP.2+1))) V V<|zah<|?_;obtain rfl:=osi Y;exact ⟨_,rfl,bQ,fT,g9,gG,gL,h1,fZ,e2,rfl,gQ,gT,gV,gX,gY,rfl,g3,hW,kF,jT,aA,f7,aB,fA,aC,fD,l6.symm,l7.symm,l8.symm,fL,fO,fP,c7,cA⟩
    refine zaz<|th_x<|?_;obtain rfl:=osi Y;obtain rfl:=iI _ rfl;refine th_x<|bk_x<|?_;exact ⟨bP,fT,g9,gG,gL,h1,fZ,e2,g7,gQ,gT,gV,g3,aM,bJ,dE,aA,f7,aB,fA,aC,fD,dM,dP,dS,fL,fO,fP,c7,cA⟩
   rintro _ nJ ⟨cR,fU,gA,gH,gM,m2,g0,lM,lN,lW,lY,m0,g4,c1,fF,mX,cG,jD,cH,jI,bN,jO,mZ,n1,n2,kV,kY,l0,c8,dB⟩;refine W_th<|W_sr<|mv o V fU<|mv (i64 y) V gA<|mv t V gH<|mv cR V lN<|mv (i64 I) V gM<|?_;obtain ⟨a2,iK,C⟩:=bsi C;refine wls V V (zab (vs:=[o,i64 y,t,cR,i64 I]) Tryz.func68 V V V (ar5 V V V V V) (mend_column_calls aK y b0 hE I o t cR a2 _ ((aN.lift (Lift.sub (L':=[]) (fun _ _=>trivial))).lift (le_ c1)) (a8.lift (le_ c1)) (fF.rd (Sc.stab _)) iK) ?_);rintro _ mE ⟨aD,rfl,b8,jU,kG⟩;refine ⟨_,rfl,?_⟩;have iX:By mE (cR::w::bp e::bp c::j) aD a2.1:=SlK.avail kG _ (fun p B=>(Old.cons (Old.cons (Old.cons (Old.cons (Z.ext c1) bN.ltB) cH.ltB) cG.ltB) fF.lt) p (jU p B));replace c8:=c8.lift (le_ b8);replace dB:=dB.lift (le_ b8);replace cG:=cG.ext b8;replace cH:=cH.ext b8;replace bN:=bN.ext b8;have eI:=c1.trans b8;refine mv (.tuple #[aD,i64 a2.2]) V V<|wa V (zaf V V V)<|wa V (zaf V V V)<|av aD V V<|av (i64 a2.2) V V<|wnt<|W_seq<|W_seq<|W_rg<|mv (i64 a2.2) V V<|wa V (q_neI V V V)<|wnt<|zak _ V V (fun d8=>?_) (fun d8=>?_)
   ·replace C:=(if_neg (zbf d8)).symm.trans C;refine W_sr<|mv (i64 a2.2) V V<|av (.pointer none) V V<|av (i64 a2.2) V V<|wnt<|W_ret<|th_r<|bk_r<|th_r<|?_;obtain rfl:=osi C;obtain rfl:=eZ _ rfl;simp only [Sum.elim_inr] at k;refine th_r<|bk_r<|th_r<|th_r<|?_;obtain rfl:=osi k;refine rt2 (.pointer none) (i64 a2.2) V V V V V g4 ?_;exact ⟨.pointer none,rfl,eI,RcMd.nil _ _⟩
   replace C:=(if_pos (zbd d8)).symm.trans C;refine zad<|W_th<|W_sr<|mv (bp c) V g0<|wa V (za9 V V)<|wa V (zdp (g:=c) (m:=0) (d:=1) V fieldAtMd1 V)<|wq V (zal (u:=r) V Tryz.isAgg22 V bN V)<|wa V (q_len V T22.sl V c8)<|mv (i64 0) V V<|wnt<|?_;obtain ⟨mJ,hK,C⟩:=bsi C;refine W_mid (fun f i=>∃ aY:Value,f 0=o/\f 1=i64 y/\f 2=t/\f 4=i64 I/\f 8=bp e/\f 13=bp c/\f 70=W/\f 71=i64 (U.length:Int)/\f 72=i64 a3.2/\f 155=undef/\Ext w0 i/\OwD i 22 5 aY E mJ/\Nw w0 aY/\Blk i e 29 #[s]/\Nw w0 (bp e)/\Blk i c 96 #[o,r,E,.slice none 0 0]/\Nw w0 (bp c)/\Nq aY (bp e)/\Nq aY (bp c)/\Nq (bp e) (bp c)/\By i (aY::bp e::bp c::j) r M/\In i (aY::bp e::bp c::j) W U) ?_ ?_
   ·refine zac<|za4 (fun aP f i=>∃ aJ:Value,f 0=o/\f 1=i64 y/\f 2=t/\f 4=i64 I/\f 8=bp e/\f 13=bp c/\f 17=i64 b1/\f 21=aD/\f 70=W/\f 71=i64 (U.length:Int)/\f 72=i64 a3.2/\f 105=r/\f 106=i64 (M.length:Int)/\f 107=i64 aP.2/\f 155=undef/\Ext w0 i/\OwD i 22 5 aJ E aP.1/\Nw w0 aJ/\Blk i e 29 #[s]/\Nw w0 (bp e)/\Blk i c 96 #[o,r,E,.slice none 0 0]/\Nw w0 (bp c)/\Nq aJ (bp e)/\Nq aJ (bp c)/\Nq (bp e) (bp c)/\By i (aJ::bp e::bp c::j) r M/\By i (aJ::bp e::bp c::j) aD a2.1/\In i (aJ::bp e::bp c::j) W U) hK ?_ ?_
    ·exact ⟨w,fU,gA,gH,gM,m2,g0,lM,rfl,lW,lY,m0,rfl,rfl,rfl,g4,eI,cG,jD,cH,jI,bN,jO,kV,kY,l0,c8.lift (Lift.sub (fun _ h=>⟨h.2.1,h.2.2.1,h.2.2.2.1,h.2.2.2.2⟩)),iX.lift (Lift.sub (fun _ h=>⟨h.2.1,h.2.2.1,h.2.2.2.1,h.2.2.2.2⟩)),dB.lift (Lift.sub (fun _ h=>⟨h.2.1,h.2.2.1,h.2.2.2.1,h.2.2.2.2⟩))⟩
    rintro aP _ _ mF ⟨eC,dX,gB,gI,gN,h2,e0,g6,gC,gR,gU,gW,fV,fW,cM,g5,eN,a5,dF,b4,f8,aO,fB,dN,dQ,fM,a9,b2,b3⟩ S iL;refine W_sr<|wa V (q_ltI V cM fW)<|wnt<|W_seq<|wci S V V (fun S=>?_) (fun S=>?_)
    ·refine zad<|W_th<|W_seq<|zac<|W_sr<|mv (i64 aP.2) V cM<|bse S fun bT eW S=>wa V (q_adr V T22 fV cM a9 eW)<|wq V (zav V T22 V a9 eW)<|av (i64 aP.2) V V<|av (u8 bT) V V<|wnt<|zbi [3,6] [(0,0),(1,0),(2,0),(3,1),(4,0),(5,0),(6,1),(7,0),(8,0),(9,0),(10,0),(11,2),(12,0),(13,2)] mixed (by kernel_rfl) (by kernel_rfl) (by kernel_rfl) (by kernel_rfl) ?_;have aV:=Ext.drew mF;replace a9:=a9.lift (le_ aV);replace b2:=b2.lift (le_ aV);replace b3:=b3.lift (le_ aV);replace a5:=a5.ext aV;replace aO:=aO.ext aV;have eJ:=eN.trans aV;refine sv (bp c) V V e0<|sa V V (za9 V V)<|sa V V (zdp (g:=c) (m:=0) (d:=2) V zh3 V)<|sq V V (zal (u:=E) V Tryz.isAgg29 V aO V)<|sv (i64 aP.2) V V V<|bse S fun mP c5 S=>sa V V (q_adr V T29 V V a5.rd c5)<|wsq_loadD V V V V T29 V a5 c5 (fun n4 eL=>?_);refine sv (i64 b1) V V g6<|sv o V V dX<|sv aD V V gC<|sv (u8 bT) V V V<|?_;obtain ⟨lB,iM,S⟩:=bsi S;refine wss V V V (zab (vs:=[o,aD,u8 bT]) Tryz.func69 V V V (ar3 V V V) (poly_Eval_calls aK a2.1 bT o aD lB _ ((aN.lift (Lift.sub (L':=[]) (fun _ _=>trivial))).lift (le_ eJ)) (b2.lift (Lift.sub (L':=[]) (fun _ _=>trivial))) iM) ?_);rintro _ nK ⟨rfl,aI⟩;refine ⟨_,rfl,aI,?_⟩;replace a5:=a5.ext aI;replace b4:=(b4.ext aV).ext aI;have hX:=eJ.trans aI;obtain ⟨mQ,eX,S⟩:=bsi S;refine sa V V (q_adr V T22 V V (OwD.rowrd a5 eL c5) eX)<|wsn V (by kernel_rfl) V V (stp_storeD [] (bp e::bp c::j) V T22 V V a5 eL c5 eX ?_);intro nL kH d3 dC;replace a9:=(a9.lift (le_ aI)).lift dC;replace b2:=(b2.lift (le_ aI)).lift dC;replace b3:=(b3.lift (le_ aI)).lift dC;replace b4:=b4.other d3 dN.symm;replace aO:=(aO.ext aI).other d3 dQ.symm
     have hY:=hX.grown d3 dF;refine zaw<|bk_n<|W_th<|W_rg<|wa V (zam V cM V)<|mv (i64 (wI (aP.2+1))) V V<|zah<|?_;obtain rfl:=osi S;exact ⟨_,rfl,eC,dX,gB,gI,gN,h2,e0,g6,gC,gR,gU,gW,fV,fW,rfl,g5,hY,kH,dF,b4,f8,aO,fB,dN,dQ,fM,a9,b2,b3⟩
    refine zaz<|th_x<|?_;obtain rfl:=osi S;obtain rfl:=iL _ rfl;refine th_x<|bk_x<|?_;exact ⟨eC,dX,gB,gI,gN,h2,e0,gR,gU,gW,g5,eN,a5,dF,b4,f8,aO,fB,dN,dQ,fM,a9,b3⟩
   rintro _ nM ⟨hM,lE,lQ,lR,lV,m3,lG,lX,lZ,m1,lK,i3,jX,j3,k5,jE,k9,jJ,kK,kN,kW,iQ,iU⟩;refine bk_n<|W_th<|W_rg<|wa V (zam V m1 V)<|mv (i64 (wI (a3.2+1))) V V<|zah<|?_;obtain rfl:=osi C;exact ⟨_,rfl,hM,lE,lQ,lR,lV,m3,lG,lX,lZ,rfl,lK,i3,jX,j3,k5,jE,k9,jJ,kK,kN,kW,iQ,iU⟩
  refine zaz<|th_x<|?_;obtain rfl:=osi C;obtain rfl:=eZ _ rfl;refine th_x<|bk_x<|?_;exact ⟨_,rfl,w,gF,e6,fY,g2,d5,fE,f4,dK,f6,fG,f9,fH,fI,fK,f0⟩
 rintro _ nN ⟨b9,rfl,z,lS,m4,lH,lL,eO,jY,j4,k6,jF,kA,jK,kL,kO,kX,iR⟩;simp only [Sum.elim_inl] at k;refine W_th<|W_seq<|W_sr<|mv t V lS<|wa V (q_len V T22.sl V (a8.lift (le_ eO)))<|mv (i64 0) V V<|wnt<|?_;obtain ⟨mK,hL,k⟩:=bsi k;refine W_mid (fun f i=>∃ aR:Value,f 13=bp c/\f 155=undef/\Ext w0 i/\OwK (Sc i64) i (aR::z::bp c::j) 3 aR mK/\Nw w0 aR/\OwD i 22 5 z E b9/\Nw w0 z/\Blk i c 96 #[o,r,E,aR]/\Nw w0 (bp c)/\Nq aR z/\Nq aR (bp c)/\Nq z (bp c)/\By i (aR::z::bp c::j) r M) ?_ ?_
 ·refine zac<|za4 (fun G f i=>∃ aE:Value,f 8=bp e/\f 13=bp c/\f 127=t/\f 128=i64 (b0.length:Int)/\f 129=i64 G.2/\f 155=undef/\Ext w0 i/\OwK (Sc i64) i (aE::z::bp e::bp c::j) 3 aE G.1/\Nw w0 aE/\OwD i 22 5 z E b9/\Nw w0 z/\Blk i e 29 #[s]/\Nw w0 (bp e)/\Blk i c 96 #[o,r,E,aE]/\Nw w0 (bp c)/\Nq aE z/\Nq aE (bp e)/\Nq aE (bp c)/\Nq z (bp e)/\Nq z (bp c)/\Nq (bp e) (bp c)/\By i (aE::z::bp e::bp c::j) r M) hL ?_ ?_
  ·exact ⟨.slice none 0 0,m4,lH,rfl,rfl,rfl,lL,eO,OwK.nil _ _ _ _,Nw.nil _,jY,j4,k6,jF,kA,jK,Nq.nil _,Nq.nil _,Nq.nil _,kL,kO,kX,iR.lift (Lift.sub (fun _ h=>⟨zhm,h.1,h.2.1,h.2.2.1,h.2.2.2⟩))⟩
  rintro G _ _ mG ⟨aF,e7,b6,dY,dZ,bO,e1,c2,P,cB,F,dH,H,fC,D,cC,cJ,dR,cK,fN,cL,dU,O⟩ A iN;refine W_sr<|wa V (q_ltI V bO dZ)<|wnt<|W_seq<|wci A V V (fun A=>?_) (fun A=>?_)
  ·refine zad<|W_th<|W_seq<|zac<|W_sr<|mv (i64 G.2) V bO<|bse A fun bU eY A=>wa V (q_adr V T22 dY bO (a8.lift (le_ c2)) eY)<|wq V (zav V T22 V (a8.lift (le_ c2)) eY)<|av (i64 G.2) V V<|av (u8 bU) V V<|wnt<|W_seq<|zbi [3,6] [(0,0),(1,0),(3,1),(4,0),(5,0),(6,1),(2,2),(7,2),(8,0)] mixed (by kernel_rfl) (by kernel_rfl) (by kernel_rfl) (by kernel_rfl) ?_;have aW:=Ext.drew mG;replace O:=O.lift (le_ aW);replace P:=P.extL (Sc.stab _) aW (le_ aW);replace F:=F.ext aW;replace H:=H.ext aW;replace D:=D.ext aW;have bE:=c2.trans aW;refine sv (bp c) V V b6<|sv (u8 bU) V V V<|sq V V (zal (u:=s) V Tryz.isAgg29 (by exact e7) H V)<|sv (i64 G.2) V V V<|bse A fun hO eR A=>sa V V (q_adr V T29 V V (N.lift (le_ bE)) eR)<|wsq_load V V V V T29 V N eR bE (fun h4 i4=>?_);obtain ⟨dW,iB,A⟩:=bsi A;refine wss V V V (zab (vs:=[bp c,u8 bU]) Tryz.func38 V V V (ar2 V V) (ze9 (some (aK,M,b9,G.1)) bU (bp c) dW _ (RcMd.mk D trivial ((aN.lift (Lift.sub (L':=[]) (fun _ _=>trivial))).lift (le_ bE)) (O.lift (Lift.sub (L':=[]) (fun _ _=>trivial))) F.rd (P.rd (Sc.stab _))) iB) ?_);rintro _ m5 ⟨cQ,rfl,aG,j6,jZ⟩;refine ⟨_,rfl,aG,?_⟩;have iS:By m5 (aF::z::bp e::bp c::j) cQ dW:=OwK.slk (Sc.stab _) _ (OwK.scal jZ (cQ::(aF::z::bp e::bp c::j))) (fun p B=>(Old.cons (Old.cons (Old.cons (Old.cons (Z.ext bE) D.ltB) H.ltB) F.ltB) P.lt) p (j6 p B)) (fun _ h=>h.2);replace O:=O.lift (le_ aG);replace P:=P.extL (Sc.stab _) aG (le_ aG);replace F:=F.ext aG;replace H:=H.ext aG;replace D:=D.ext aG;have eD:=bE.trans aG;obtain ⟨l9,iC,A⟩:=bsi A;refine wsc V (by kernel_rfl) V V (zab (vs:=[cQ,h4]) Tryz.func70 V V V (ar2 V V) (zgg dW hO cQ h4 l9 _ (iS.lift (Lift.sub (L':=[]) (fun _ _=>trivial))) (i4.lift (le_ eD)) iC) ?_);rintro _ n7 ⟨rfl,aS⟩
   refine ⟨_,rfl,?_⟩;replace O:=O.lift (le_ aS);replace P:=P.extL (Sc.stab _) aS (le_ aS);replace F:=F.ext aS;replace H:=H.ext aS;replace D:=D.ext aS;have cX:=eD.trans aS;refine sa V V (q_not V V)<|zaw<|W_th<|zak _ V V (fun d6=>?_) (fun d6=>?_)
   ·replace A:=(if_pos d6).symm.trans A;refine W_rg<|mv (bp c) V b6<|mv (bp c) V b6<|wa V (za9 V V)<|wa V (zdp (g:=c) (m:=0) (d:=3) V fieldAtMd3 V)<|wq V (zal (u:=aF) V Tryz.isAgg35 V D V)<|mv (i64 G.2) V V<|wls V V (zax (L:=(aF::z::bp e::bp c::j)) (R:=Sc i64) [i64 G.2] ([G.2]:List Int) V T35 V (by exact ⟨rfl,rfl,trivial⟩) V (litC i64 zgf (us:=[i64 G.2]) (l:=([G.2]:List Int)) V) V (litS i64 (us:=[i64 G.2]) (l:=([G.2]:List Int)) V) ?_);intro h5 m6 k0 j7 hZ mS;have aT:=zaa hZ;have iT:In m6 (aF::z::bp e::bp c::j) h5 ([G.2]:List Int):=OwK.slk (Sc.stab _) _ k0 (fun p B=>(Old.cons (Old.cons (Old.cons (Old.cons (Z.ext cX) D.ltB) H.ltB) F.ltB) P.lt) p (j7 p B)) (fun _ h=>h.2);replace P:=P.extL (Sc.stab _) aT (le_ aT);replace F:=F.ext aT;replace H:=H.ext aT;replace D:=D.ext aT;have eE:=cX.trans aT;obtain ⟨mL,i7,A⟩:=bsi A;refine wls V V (zar (R:=Sc i64) (v:=aF) (u:=h5) (Sc.stab _) [] (z::bp e::bp c::j) V T35 V V P iT (fun _ _ h=>h) i7 zg3 ?_);intro aQ n8 cF bX cD iY;replace O:=(O.lift (le_ aT)).lift iY;have kP:Nq z aQ:=F.nxt cJ.symm cD;have kQ:Nq (bp e) aQ:=H.nxt dR.symm cD;have fJ:Nq (bp c) aQ:=D.nxt cK.symm cD;replace D:=D.other bX cK.symm;have hR:=eE.grown bX cB;have j8:=Nw.nxt eE cB cD;refine wa V (za9 V V)<|wa V (zdp (g:=c) (m:=0) (d:=3) V fieldAtMd3 V)<|wln V V (stp_storeR (u:=aQ) (cs':=#[o,r,E,aQ]) [aQ,z,bp e] j V Tryz.sizeOf35 V V D (Nat.le_of_ble_eq_true V) (oc_own cF) V ?_);intro n9 k1 bY f2;replace O:=O.lift f2;replace cF:=cF.other (Sc.stab _) bY fJ.symm f2;replace F:=(F.other bX cJ.symm).other bY cL;replace H:=(H.other bX dR.symm).other bY dU;have hS:=hR.grown bY cC;refine zah<|bk_n<|W_th<|W_rg<|wa V (zam V bO V)<|?_
    refine mv (i64 (wI (G.2+1))) V V<|zah<|?_;obtain rfl:=osi A;exact ⟨_,rfl,aQ,e7,b6,dY,dZ,rfl,e1,hS,cF,j8,F,dH,H,fC,k1,cC,kP.symm,kQ.symm,fJ.symm,fN,cL,dU,O⟩
   replace A:=(if_neg (ne_true_of_eq_false d6)).symm.trans A;refine zad<|bk_n<|W_th<|W_rg<|wa V (zam V bO V)<|mv (i64 (wI (G.2+1))) V V<|zah<|?_;obtain rfl:=osi A;exact ⟨_,rfl,aF,e7,b6,dY,dZ,rfl,e1,cX,P,cB,F,dH,H,fC,D,cC,cJ,dR,cK,fN,cL,dU,O⟩
  refine zaz<|th_x<|?_;obtain rfl:=osi A;obtain rfl:=iN _ rfl;refine th_x<|bk_x<|?_;exact ⟨aF,b6,e1,c2,P.weak (Sc.stab _) (fun _ h=>⟨h.1,h.2.1,h.2.2.2.1,h.2.2.2.2⟩),cB,F,dH,D,cC,cJ,cK,cL,O.lift (Lift.sub (fun _ h=>⟨h.1,h.2.1,h.2.2.2.1,h.2.2.2.2⟩))⟩
 rintro _ nA ⟨n5,lF,lI,eM,jW,j1,k4,jB,k8,jG,mY,n0,n3,iP⟩;refine W_th<|W_sr<|mv (bp c) V lF<|av (bp c) V V<|av (i64 0) V V<|wnt<|W_ret<|?_;obtain rfl:=osi k;refine rt2 (bp c) (i64 0) V V V V V lI ?_;exact ⟨bp c,rfl,eM,RcMd.mk k8 (Z _ (jG _ (hs_bp' _))) (aN.lift (le_ eM)) (iP.lift (Lift.sub (fun _ h=>h.2.2.2))) (k4.rw j (fun p B=>Z p (jB p B))) (OwK.slk (Sc.stab _) j jW (fun p B=>Z p (j1 p B)) (fun _ h=>h.2.2.2))⟩
end Gk

/- A fact of this seat's program: its type of rows of numbers (where S was built without it). No condition. -/
namespace Gk
open Go Go.Proofs
end Gk

/- Printed by gen.py: for each Go function a pure function, and that the Go code comes to it. No condition beside the equation that says what the pure function gives. -/
namespace Gk
open Go Go.Proofs
end Gk

/- Printed by gen.py: for each Go function a pure function, and that the Go code comes to it. No condition beside the equation that says what the pure function gives. -/
namespace Gk
open Go Go.Proofs
end Gk

/- Printed by gen.py: for each Go function a pure function, and that the Go code comes to it. No condition beside the equation that says what the pure function gives. -/
namespace Gk
open Go Go.Proofs
end Gk

/- Printed by gen.py: for each Go function a pure function, and that the Go code comes to it. No condition beside the equation that says what the pure function gives. -/
namespace Gk
open Go Go.Proofs
end Gk

/- Chapter 3: quotient and rest. No condition but lengths. -/
namespace Gk
open Gf
theorem revN_succ (n:Nat):revN (n+1)=(n:Int) :: revN n:=by
 simp [revN,List.range_succ]
theorem foldl_revN {σ:Type} (g:σ->Int->σ) (P:Nat->σ->Prop) (hs:∀ j s,P (j+1) s->P j (g s (j:Int))):∀ (n:Nat) (s:σ),P n s->P 0 ((revN n).foldl g s)
 | 0,s,h=>h
 | n+1,s,h=>by
  rw [revN_succ,List.foldl_cons]
  exact foldl_revN g P hs n _ (hs n s h)
def divStep (d:Nat) (top:UInt8) (Q:List UInt8) (s:List UInt8×List UInt8) (y:Int):List UInt8×List UInt8 :=
 let c:=mul (co s.1 (y.toNat+d - 1)) top
 (copyL s.1 y (sumL ((s.1.take (y.toNat+d)).drop y.toNat) c Q),s.2.set y.toNat c)
theorem poly_DivMod_eq (p q:List UInt8) (hp:p.length<=1000) (hq:q.length<=1000) (h0:trim q≠[]):∃ a b,zep true p q=some (a,b,0)/\trim a=a/\trim b=b/\b.length<(trim q).length/\(∀ i,co p i=co b i^^^co (pmul a q) i)/\a.length<=p.length+1:=by
 have hm:=za8
 have h1000:2000<=most:=by decide
 have ld:=List.length_pos_iff.2 h0
 have tq:=trim_le q
 have hlead:=zgu q h0
 unfold zep
 rw [zey q (by omega),obs,if_neg (by simp),if_neg (by omega),wI_pred _ (by omega) (by omega),zba (by omega),zis]
 generalize hd:(trim q).length=d at *
 generalize hc:co q (d - 1)=lead at *
 simp only [Inv_eq,obs,if_neg hlead]
 unfold zae
 rw [zel p (by omega),obs]
 have en:(if 0<wI (wI ((p.length:Int) - (d:Int))+1) then wI (wI ((p.length:Int) - (d:Int))+1) else 0)=((p.length+1 - d:Nat):Int):=by
  have i1:wI ((p.length:Int) - (d:Int))=(p.length:Int) - (d:Int):=wI_of (by omega) (by omega)
  rw [i1,wI_of (by omega) (by omega)]
  split <;> omega
 rw [en,zcg _ _ (by omega),obs,List.length_replicate,lim_of (by omega),obs]
 generalize hn:p.length+1 - d=n at *
 have key:=zgl (f:=fun (s72:List UInt8×List UInt8) (y72:Int)=>((idx s72.1 ((wI ((wI (y72+(d:Int))) - 1)))).bind fun c78=>((zb2 true c78 (inv lead)).bind fun r79=>((idx s72.2 y72).bind fun c82=>((subL s72.1 y72 ((s72.1.length:Int))).bind fun c89 =>
   ((subL s72.1 y72 ((wI (y72+(d:Int))))).bind fun c90=>((zc2 true c90 r79 (trim q)).bind fun r91=>some ((copyL s72.1 y72 r91),(s72.2.set (y72:Int).toNat r79))))))))) (divStep d (inv lead) (trim q)) (xs:=revN n) (s0:=(p,List.replicate n 0))
  (fun _ s=>s.1.length=p.length/\s.2.length=n) ⟨rfl,by simp⟩ (by
   rintro k ⟨r,t⟩ x _ hx ⟨hr,ht⟩
   simp only at hr ht
   obtain ⟨i,hi,rfl⟩:=mem_revN.1 hx
   have e1:wI ((i:Int)+(d:Int))=((i+d:Nat):Int):=wI_add _ _ (by omega)
   simp only [e1]
   rw [wI_pred _ (by omega) (by omega),zba (by omega),obs,Mul_eq,obs,zba (by omega),obs,zdj _ _ _ (by omega) (Nat.le_refl _),obs,zdj _ _ _ (by omega) (by omega),obs,
    Sum_eq _ _ _ (by simp;omega),obs]
   refine ⟨by simp only [divStep,Int.toNat_natCast],?_,?_⟩
   ·simp only [divStep];rw [zgq _ _ _ (by omega)];exact hr
   ·simp only [divStep,List.length_set];exact ht)
 rw [key.1,obs]
 have fin:=foldl_revN (divStep d (inv lead) (trim q)) (fun j s=>s.1.length=p.length/\s.2.length=n/\j<=n/\(∀ i,co p i=co s.1 i^^^co (pmul s.2 (trim q)) i)/\(∀ i,j+d<=i+1->co s.1 i=0)/\(∀ i,i<j->co s.2 i=0))
  (by
   rintro j ⟨r,t⟩ ⟨hr,ht,hj,hs,hz,hz2⟩
   simp only at hr ht hs hz hz2
   simp only [divStep,Int.toNat_natCast]
   generalize hc2:mul (co r (j+d - 1)) (inv lead)=c
   have hl2:((r.take (j+d)).drop j).length=d:=by simp;omega
   have hl3:(sumL ((r.take (j+d)).drop j) c (trim q)).length=d:=by rw [sumL_len,hl2]
   have hco:∀ i,co (copyL r (j:Int) (sumL ((r.take (j+d)).drop j) c (trim q))) i=co r i^^^(if i<j then 0 else mul c (co (trim q) (i - j))):=by
    intro i
    rw [co_copyL _ _ _ (by rw [hl3];omega),hl3,co_sumL,hl2]
    by_cases h1:j<=i/\i<j+d
    ·rw [if_pos h1,if_pos (show i - j<d by omega),if_neg (show ¬ i<j by omega),co_drop,co_take,show j+(i - j)=i by omega,if_pos (show i<j+d by omega)]
    ·rw [if_neg h1]
     by_cases h2:i<j
     ·rw [if_pos h2,xor_zero]
     ·rw [if_neg h2,co_ge (show (trim q).length<=i - j by omega),mul_zero,xor_zero]
   refine ⟨by rw [zgq _ _ _ (by omega)];exact hr,by simpa using ht,by omega,fun i=>?_,fun i hi=>?_,fun i hi=>?_⟩
   ·rw [hco i,co_pmul_set t j c _ i (by omega) (hz2 j (by omega)),hs i,zhn,xor_self,xor_zero]
   ·rw [hco i]
    by_cases h1:i=j+d - 1
    ·subst h1
     rw [if_neg (by omega),show j+d - 1 - j=d - 1 by omega,zis,hc,← hc2,zcz,inv_mul hlead,mul_one,xor_self]
    ·rw [hz i (by omega),if_neg (by omega),co_ge (show (trim q).length<=i - j by omega),mul_zero,xor_zero]
   ·rw [co_set (by omega),if_neg (by omega)];exact hz2 i (by omega)) n (p,List.replicate n 0)
  ⟨rfl,by simp,Nat.le_refl _,fun i=>by
   have:co (pmul (List.replicate n 0) (trim q)) i=0:=by rw [zhz _ [] _ (fun i=>by rw [co_rep,zct]) i];rfl
   rw [this,xor_zero],fun i hi=>co_ge (by simp only;omega),fun i _=>co_rep _ _⟩
 generalize (revN n).foldl (divStep d (inv lead) (trim q)) (p,List.replicate n 0)=s at fin
 obtain ⟨r,t⟩:=s
 obtain ⟨hr,ht,_,hs,hz,_⟩:=fin
 simp only at hr ht hs hz
 simp only
 rw [zey t (by omega),obs,zey r (by omega),obs]
 refine ⟨trim t,trim r,rfl,zef t,zef r,?_,fun i=>?_,?_⟩
 ·have:=(zgm r (d - 1)).2 (fun i hi=>hz i (by omega))
  omega
 ·rw [hs i,zis]
  congr 1
  exact pmul_sim (zdu t).symm (zdu q) i
 ·have:=trim_le t;omega
end Gk

/- Wrong values among right ones: what is true of a remainder in Gao's way. Plain. No condition. -/
namespace Gf
theorem dg_zero {p:List UInt8} (h:dg p=0) (i:Nat):co p i=0:=dg_le.1 (Nat.le_of_eq h) i (Nat.zero_le i)
theorem dg_top {p:List UInt8} (h:dg p≠0):co p (dg p - 1)≠0:=zgu p (fun e=>h (by unfold dg;rw [e];rfl))
theorem dg_pmul_eq {p q:List UInt8} (hp:dg p≠0) (hq:dg q≠0):dg (pmul p q)=dg p+dg q - 1:=by
 rw [dg_sim (pmul_sim (zdu p).symm (zdu q).symm)]
 exact zgd (zef p) (zef q) (fun e=>hp (by unfold dg;rw [e];rfl)) (fun e=>hq (by unfold dg;rw [e];rfl))
theorem pmul_cancel {p q:List UInt8} (hq:dg q≠0) (h:∀ i,co (pmul p q) i=0):∀ i,co p i=0:=by
 by_cases hp:dg p=0
 ·exact dg_zero hp
 ·have h1:=dg_pmul_eq hp hq
  have h2:dg (pmul p q)<=0:=dg_le.2 fun i _=>h i
  omega
theorem pmul_zeroL {p q:List UInt8} (h:∀ i,co p i=0) (i:Nat):co (pmul p q) i=0:=by
 rw [zhz p [] q (fun i=>by rw [h i,zct]) i];rfl
def wrg (xs ys p:List UInt8):Nat->Nat
 | 0=>0
 | n+1=>wrg xs ys p n+if evp p (co xs n)=co ys n then 0 else 1
theorem wr_le (xs ys p:List UInt8):∀ n,wrg xs ys p n<=n
 | 0=>Nat.le_refl _
 | n+1=>by have:=wr_le xs ys p n;unfold wrg;split <;> omega
theorem wr_sim {xs ys p q:List UInt8} (h:Sim p q):∀ n,wrg xs ys p n=wrg xs ys q n
 | 0=>rfl
 | n+1=>by unfold wrg;rw [wr_sim h n,ev_sim p q _ h]
def el (xs ys p:List UInt8):Nat->List UInt8
 | 0=>[1]
 | n+1=>if evp p (co xs n)=co ys n then el xs ys p n else pmul (el xs ys p n) [co xs n,1]
theorem dg_el (xs ys p:List UInt8):∀ n,dg (el xs ys p n)<=wrg xs ys p n+1
 | 0=>dg_len _
 | n+1=>by
  have h:=dg_el xs ys p n
  unfold el wrg
  split
  ·omega
  ·have:=zhv h (dg_lin (co xs n));omega
theorem el_top (xs ys p:List UInt8):∀ n,co (el xs ys p n) (wrg xs ys p n)=1
 | 0=>rfl
 | n+1=>by
  have h:=el_top xs ys p n
  unfold el wrg
  split
  ·exact h
  ·rw [zhg,h,dg_le.1 (dg_el xs ys p n) _ (Nat.le_refl _),zero_mul,zero_xor]
theorem el_ne (xs ys p:List UInt8) (n:Nat):dg (el xs ys p n)≠0:=fun h=>by
 have h1:=dg_zero h (wrg xs ys p n)
 rw [el_top] at h1
 exact absurd h1 (by decide)
theorem ev_el (xs ys p:List UInt8) (x:UInt8):∀ n,evp (el xs ys p n) x=0 ↔ ∃j,j<n/\evp p (co xs j)≠co ys j/\x=co xs j
 | 0=>⟨fun h=>by rw [show el xs ys p 0=[1] from rfl,ev_const] at h;exact absurd h (by decide),fun ⟨j,h,_⟩=>absurd h (Nat.not_lt_zero _)⟩
 | n+1=>by
  have ih:=ev_el xs ys p x n
  unfold el
  by_cases h:evp p (co xs n)=co ys n
  ·rw [if_pos h,ih]
   constructor
   ·rintro ⟨j,h1,h2,h3⟩;exact ⟨j,by omega,h2,h3⟩
   ·rintro ⟨j,h1,h2,h3⟩
    refine ⟨j,?_,h2,h3⟩
    by_cases hj:j=n
    ·exact absurd (hj ▸ h) h2
    ·omega
  ·rw [if_neg h,zff,ev_lin]
   constructor
   ·intro h1
    rcases zij h1 with h1 | h1
    ·obtain ⟨j,h2,h3,h4⟩:=ih.1 h1;exact ⟨j,by omega,h3,h4⟩
    ·exact ⟨n,by omega,h,zdn h1⟩
   ·rintro ⟨j,h1,h2,h3⟩
    by_cases hj:j=n
    ·rw [h3,hj,xor_self,mul_zero]
    ·rw [ih.2 ⟨j,by omega,h2,h3⟩,zero_mul]
theorem gao_key {xs ys b v P:List UInt8} (hn:xs.Nodup) {t:Nat} (hb:∀ i,i<xs.length->evp b (co xs i)=mul (evp v (co xs i)) (co ys i)) (hP:dg P<=t)
  (h1:dg b+wrg xs ys P xs.length<=xs.length) (h2:dg v+t+wrg xs ys P xs.length<=xs.length+1):Sim b (pmul P v):=by
 have hE:=dg_el xs ys P xs.length
 have hs:Sim (pmul b (el xs ys P xs.length)) (pmul (pmul P v) (el xs ys P xs.length)):=by
  refine agree hn ?_ ?_ ?_
  ·have:=zhv (Nat.le_refl (dg b)) hE;omega
  ·have h3:=zhv hP (Nat.le_refl (dg v))
   have:=zhv h3 hE;omega
  ·intro a ha
   obtain ⟨j,hj,rfl⟩:=mem_co ha
   rw [zff,zff,zff]
   by_cases hw:evp P (co xs j)=co ys j
   ·rw [hb j hj,hw,mul_comm (co ys j)]
   ·rw [(ev_el xs ys P (co xs j) xs.length).2 ⟨j,hj,hw,rfl⟩,mul_zero,mul_zero]
 have h0:=pmul_cancel (p:=pplus b (pmul P v)) (el_ne xs ys P xs.length) (fun i=>by rw [pmul_addL _ _ _ i,zb6,hs i,xor_self])
 intro i
 have:=h0 i
 rw [zb6] at this
 exact zdn this
theorem div_uniq {b v q r P:List UInt8} (h:∀ i,co b i=co r i^^^co (pmul q v) i) (hr:dg r<dg v) (hb:Sim b (pmul P v)):Sim q P/\∀ i,co r i=0:=by
 have hv:dg v≠0:=by omega
 have h1:Sim (pmul (pplus q P) v) r:=fun i=>by
  rw [pmul_addL _ _ _ i,zb6,← hb i,h i,xor_comm,xor_assoc,xor_self,xor_zero]
 by_cases hq:dg (pplus q P)=0
 ·have h2:Sim q P:=fun i=>by
   have:=dg_zero hq i
   rw [zb6] at this
   exact zdn this
  refine ⟨h2,fun i=>?_⟩
  rw [← h1 i]
  exact pmul_zeroL (dg_zero hq) i
 ·have h2:=dg_pmul_eq hq hv
  rw [dg_sim h1] at h2
  omega
def gl (xs ys p q:List UInt8):Nat->List UInt8
 | 0=>[]
 | n+1=>if evp p (co xs n)=co ys n/\evp q (co xs n)=co ys n then gl xs ys p q n ++ [co xs n] else gl xs ys p q n
theorem take_co {xs:List UInt8} {n:Nat} (h:n<xs.length):xs.take (n+1)=xs.take n ++ [co xs n]:=by
 rw [List.take_succ_eq_append_getElem h,co_lt h]
theorem gl_sub (xs ys p q:List UInt8):∀ n,n<=xs.length->(gl xs ys p q n).Sublist (xs.take n)
 | 0,_=>List.nil_sublist _
 | n+1,h=>by
  have ih:=gl_sub xs ys p q n (by omega)
  rw [take_co (by omega)]
  unfold gl
  split
  ·exact ih.append (List.Sublist.refl _)
  ·exact ih.trans (List.sublist_append_left _ _)
theorem gl_len (xs ys p q:List UInt8):∀ n,n<=(gl xs ys p q n).length+wrg xs ys p n+wrg xs ys q n
 | 0=>Nat.zero_le _
 | n+1=>by
  have ih:=gl_len xs ys p q n
  unfold gl wrg
  by_cases h1:evp p (co xs n)=co ys n
  ·by_cases h2:evp q (co xs n)=co ys n
   ·rw [if_pos ⟨h1,h2⟩,if_pos h1,if_pos h2,List.length_append];simp only [List.length_cons,List.length_nil];omega
   ·rw [if_neg (fun h=>h2 h.2),if_pos h1,if_neg h2];omega
  ·rw [if_neg (fun h=>h1 h.1),if_neg h1]
   split <;> omega
theorem gl_mem (xs ys p q:List UInt8):∀ n,∀ a∈gl xs ys p q n,evp p a=evp q a
 | 0,a,h=>by simp [gl] at h
 | n+1,a,h=>by
  unfold gl at h
  split at h
  ·rename_i h1
   rcases List.mem_append.1 h with h | h
   ·exact gl_mem xs ys p q n a h
   ·rw [List.mem_singleton] at h;subst h;rw [h1.1,h1.2]
  ·exact gl_mem xs ys p q n a h
theorem two_one {xs ys p q:List UInt8} (hn:xs.Nodup) {t:Nat} (hp:dg p<=t) (hq:dg q<=t) (h:wrg xs ys p xs.length+wrg xs ys q xs.length+t<=xs.length):Sim p q:=by
 have hs:=gl_sub xs ys p q xs.length (Nat.le_refl _)
 rw [List.take_of_length_le (Nat.le_refl _)] at hs
 have hl:=gl_len xs ys p q xs.length
 exact agree (hs.nodup hn) (by omega) (by omega) (gl_mem xs ys p q xs.length)
end Gf

/- What chapter 10's functions come to, in plain Lean. No condition but lengths. -/
namespace Gk
open Gf
theorem dg_lt_plus {p r:List UInt8} (h:dg r<dg p):dg (pplus r p)=dg p:=by
 refine Nat.le_antisymm (dg_pplus (Nat.le_of_lt h) (Nat.le_refl _)) (Nat.le_of_not_lt fun h2=>?_)
 have h3:=dg_le.1 (Nat.le_refl (dg (pplus r p))) (dg p - 1) (by omega)
 rw [zb6,dg_le.1 (Nat.le_refl (dg r)) _ (by omega),zero_xor] at h3
 exact dg_top (by omega) h3
theorem tlen {p:List UInt8} (h:trim p=p):dg p=p.length:=by unfold dg;rw [h]
structure Ga (xs ys:List UInt8) (t:Nat) (a b u v:List UInt8):Prop where
 ta:trim a=a
 tb:trim b=b
 tu:trim u=u
 tv:trim v=v
 sum:a.length+v.length=xs.length+2
 ba:b.length<a.length
 uv:u.length<v.length
 big:xs.length+t+2<=2 * a.length
 ha:∀ i,i<xs.length->evp a (co xs i)=mul (evp u (co xs i)) (co ys i)
 hb:∀ i,i<xs.length->evp b (co xs i)=mul (evp v (co xs i)) (co ys i)
theorem Ga.next {xs ys a b u v q r:List UInt8} {t:Nat} (h:Ga xs ys t a b u v) (hc:xs.length+t+2<=2 * b.length) (hq:trim q=q) (hr:trim r=r) (hlt:r.length<b.length) (hs:∀ i,co a i=co r i^^^co (pmul q b) i) :
  q.length+b.length=a.length+1/\Ga xs ys t b r v (trim (pplus u (trim (pmul q v)))):=by
 have ta:=tlen h.ta
 have tb:=tlen h.tb
 have tu:=tlen h.tu
 have tv:=tlen h.tv
 have tq:=tlen hq
 have tr:=tlen hr
 have hba:=h.ba
 have huv:=h.uv
 have hsum:=h.sum
 have hq0:dg q≠0:=fun h0=>by
  have:dg a=dg r:=dg_sim fun i=>by rw [hs i,pmul_zeroL (dg_zero h0) i,xor_zero]
  omega
 have h1:=dg_pmul_eq hq0 (show dg b≠0 by omega)
 have h2:dg a=dg (pmul q b):=by
  rw [← dg_lt_plus (r:=r) (p:=pmul q b) (by omega)]
  exact dg_sim fun i=>by rw [hs i,zb6]
 have h3:=dg_pmul_eq hq0 (show dg v≠0 by omega)
 have h4:dg (trim (pplus u (trim (pmul q v))))=dg (pmul q v):=by
  rw [dg_sim (zdu _),dg_sim (pplus_sim (Sim.refl u) (zdu (pmul q v))),dg_lt_plus (by omega)]
 have h5:=tlen (zef (pplus u (trim (pmul q v))))
 refine ⟨by omega,h.tb,hr,h.tv,zef _,by omega,hlt,by omega,hc,h.hb,fun i hi=>?_⟩
 rw [ev_trim,zfj,ev_trim,zff,add_mul,← h.ha i hi,zcz,← h.hb i hi,← zff]
 have h6:=ev_sim a (pplus r (pmul q b)) (co xs i) (fun j=>by rw [hs j,zb6])
 rw [h6,zfj,xor_assoc,xor_self,xor_zero]
theorem gao_spec (xs ys:List UInt8) (t:Nat) (hl:xs.length=ys.length) (h1:1<=t) (ht:t<=xs.length) (h255:xs.length<=255) (hn:xs.Nodup) :
  ∃ q ok,mend_gao true (t:Int) xs ys=some (q,ok)/\q.length<=1000/\(ok=true->dg q<=t/\trim q=q)/\∀ P,dg P<=t->2 * wrg xs ys P xs.length<=xs.length - t->q=trim P/\ok=true:=by
 obtain ⟨N,e1,t1,d1,v1⟩:=poly_Through_ok xs ys hl (by omega) h255 hn
 have hm:=za8
 have hh:=h257
 have h1000:10000<=most:=by decide
 have lv:=van_length xs
 have tN:=tlen t1
 unfold mend_gao
 rw [poly_Vanish_eq xs h255,obs,e1,obs]
 obtain ⟨y,e2,b,v,rfl,a,u,hG,hc⟩:=zd2 (body:=fun s10:List UInt8×List UInt8×List UInt8×List UInt8=>((zdw s10.2.1).bind fun r12=>(if (wI ((xs.length:Int)+(t:Int)))<=(wI (2 * r12)) then ((zep true s10.1 s10.2.1).bind fun r15=>(if r15.2.2=0 then
   ((zgc true r15.1 s10.2.2.2).bind fun r20=>((zhj s10.2.2.1 r20.1).bind fun r23=>some (.inl (s10.2.1,r15.2.1,s10.2.2.2,r23)))) else some (.inr (.inr (([]:List UInt8),false))))) else some (.inr (.inl (s10.2.1,s10.2.2.2))))))
  (fun s=>Ga xs ys t s.1 s.2.1 s.2.2.1 s.2.2.2) (fun s=>s.1.length) (fun y:(List UInt8×List UInt8)⊕(List UInt8×Bool)=>∃ b v,y=.inl (b,v)/\∃ a u,Ga xs ys t a b u v/\2 * b.length<=xs.length+t+1)
  (by
   rintro ⟨a,b,u,v⟩ hG
   simp only at hG ⊢
   have hba:=hG.ba
   have hsum:=hG.sum
   have huv:=hG.uv
   have e3:wI (2 * ((b.length:Int) - 1))=2 * ((b.length:Int) - 1):=wI_of (by omega) (by omega)
   rw [zht b (by omega),hG.tb,obs,e3,wI_add _ _ (by omega)]
   by_cases hc:xs.length+t+2<=2 * b.length
   ·have hb0:trim b≠[]:=fun e=>by rw [hG.tb] at e;rw [e] at hc;simp at hc
    obtain ⟨q,r,e4,tq,tr,hlt,hs,hql⟩:=poly_DivMod_eq a b (by omega) (by omega) hb0
    rw [hG.tb] at hlt
    obtain ⟨h5,h6⟩:=hG.next hc tq tr hlt hs
    rw [if_pos (by omega),e4,obs,if_pos rfl,poly_Mul_eq q v (by omega) (by omega) (.inr (.inr (by rw [tq,hG.tv];omega))),obs]
    have h7:=pmul_len q v
    have h8:=trim_le (pmul q v)
    rw [poly_Add_eq u _ (by omega) (by simp only;omega),obs]
    exact .inl ⟨_,rfl,h6,hba⟩
   ·rw [if_neg (by omega)]
    exact .inr ⟨_,rfl,b,v,rfl,a,u,hG,by omega⟩)
  (van xs,N,[],[1]) ⟨van_trim xs,t1,rfl,trim_one,by simp only [List.length_cons,List.length_nil];omega,by simp only;omega,by simp,by simp only;omega,fun i hi=>by
   rw [(van_root xs (co xs i)).2 (co_mem hi)];exact (zero_mul _).symm,fun i hi=>by rw [v1 i hi,ev_const,one_mul]⟩
 have hba:=hG.ba
 have hsum:=hG.sum
 have huv:=hG.uv
 have hbig:=hG.big
 have tv:=tlen hG.tv
 have tb:=tlen hG.tb
 have hv0:trim v≠[]:=fun e=>by rw [hG.tv] at e;rw [e] at huv;simp at huv
 obtain ⟨q,r,e4,tq,tr,hlt,hs,hql⟩:=poly_DivMod_eq b v (by omega) (by omega) hv0
 rw [hG.tv] at hlt
 have tq':=tlen tq
 have tr':=tlen tr
 have hgood:∀ P,dg P<=t->2 * wrg xs ys P xs.length<=xs.length - t->q=trim P/\r=[]:=fun P hP hw=>by
  have k1:=gao_key (b:=b) (v:=v) hn (t:=t) hG.hb hP (by omega) (by omega)
  obtain ⟨k2,k3⟩:=div_uniq (r:=r) (q:=q) hs (by omega) k1
  exact ⟨by rw [← tq];exact zim _ _ k2,by rw [← tr];exact trim_zero r k3⟩
 rw [e2,obs]
 simp only [Sum.elim_inl]
 rw [e4,obs]
 simp only
 rw [if_pos trivial]
 by_cases hr0:r=[]
 ·rw [if_pos (by rw [hr0];rfl),zht q (by omega),tq,obs]
  refine ⟨q,_,rfl,by omega,fun h=>⟨?_,tq⟩,fun P hP hw=>?_⟩
  ·have:=of_decide_eq_true h;omega
  ·have:=(hgood P hP hw).1
   refine ⟨this,decide_eq_true ?_⟩
   have h9:dg q=dg P:=by rw [this];exact dg_sim (zdu P)
   omega
 ·have hp:=List.length_pos_iff.2 hr0
  rw [if_neg (by omega)]
  exact ⟨q,false,rfl,by omega,fun h=>Bool.noConfusion h,fun P hP hw=>absurd (hgood P hP hw).2 hr0⟩
theorem wrong_eq (p xs ys:List UInt8) (hl:xs.length=ys.length) (h:xs.length<=most) (hp:p.length<=most):zh5 true p xs ys=some ((wrg xs ys p xs.length:Nat):Int):=by
 unfold zh5
 have hm:=za8
 refine zbh ?_ rfl
 refine zas (fun i=>(((wrg xs ys p i:Nat):Int),(i:Int))) xs.length _ rfl ?_ ?_
 ·intro i hi
  have hle:=wr_le xs ys p i
  simp only
  rw [if_pos (by omega),zba hi,obs,zba (by omega),obs,poly_Eval_eq _ _ hp,obs,zau i (by omega)]
  by_cases he:evp p (co xs i)=co ys i
  ·rw [if_pos he,wrg,if_pos he];rfl
  ·rw [if_neg he,zau _ (by omega)]
   conv=>rhs;rw [wrg,if_neg he]
 ·simp
theorem Radius_eq (n t:Nat) (h:t<=n) (hn:n<=1000):zgy (n:Int) (t:Int)=some (((n - t) / 2:Nat):Int):=by
 unfold zgy
 rw [if_neg (by omega),wI_sub _ _ h (by omega)]
 have:=zix (n - t) 2 (by decide) (by omega)
 rw [show ((2:Nat):Int)=2 from rfl] at this
 rw [this,obs]
def Good (t e:Nat) (xs ys P:List UInt8):Prop:=dg P<=t/\wrg xs ys P xs.length<=e/\2 * wrg xs ys P xs.length<=xs.length - t
theorem Good.uniq {t e:Nat} {xs ys P Q:List UInt8} (hn:xs.Nodup) (ht:t<=xs.length) (h:Good t e xs ys P) (k:Good t e xs ys Q):Sim P Q :=
 two_one (ys:=ys) hn h.1 k.1 (by have:=h.2.2;have:=k.2.2;omega)
theorem column_spec (xs ys:List UInt8) (t:Nat) (e:Nat) (hl:xs.length=ys.length) (h1:1<=t) (ht:t<=xs.length) (h255:xs.length<=255) (hn:xs.Nodup) :
  (∀ P,Good t e xs ys P->zeq true (t:Int) xs ys (e:Int)=some (trim P,0))/\((∀ P,¬ Good t e xs ys P)->zeq true (t:Int) xs ys (e:Int)=some ([],11)):=by
 obtain ⟨q,ok,e1,hql,hok,hP⟩:=gao_spec xs ys t hl h1 ht h255 hn
 have hm:=za8
 have h1000:10000<=most:=by decide
 unfold zeq
 rw [e1,obs]
 simp only
 have hmin:(if (((xs.length - t) / 2:Nat):Int)<(e:Int) then (((xs.length - t) / 2:Nat):Int) else (e:Int))=((min e ((xs.length - t) / 2):Nat):Int):=minI _ _
 constructor
 ·rintro P ⟨p1,p2,p3⟩
  obtain ⟨rfl,rfl⟩:=hP P p1 p3
  rw [if_neg (by decide),wrong_eq _ _ _ hl (by omega) (by omega),obs,Radius_eq _ _ ht (by omega),obs,hmin,wr_sim (zdu P),if_neg (by omega)]
 ·intro hno
  cases ok with
  | false=>rw [if_pos (by decide)]
  | true =>
   obtain ⟨k1,k2⟩:=hok rfl
   have:=hno q
   rw [if_neg (by decide),wrong_eq _ _ _ hl (by omega) (by omega),obs,Radius_eq _ _ ht (by omega),obs,hmin,if_pos ?_]
   have h3:¬ (wrg xs ys q xs.length<=e/\2 * wrg xs ys q xs.length<=xs.length - t):=fun h=>this ⟨k1,h.1,h.2⟩
   omega
def mcode (t:Int) (xs:List UInt8) (n e:Int):Int:=if (xs.length:Int)=n then (if t<1∨255<t∨e<0 then 2 else if (xs.length:Int)<t then 5 else if xs.length=0 then 5 else if 255<xs.length then 4 else if xs.Nodup then 0 else 6) else 1
theorem mend_check_eq (t:Int) (xs:List UInt8) (n e:Int) (h:xs.length<=most):zh6 true t xs n e=some (mcode t xs n e):=by
 unfold zh6 mcode
 rw [if_neg (by simp)]
 by_cases h1:(xs.length:Int)=n
 ·rw [if_pos h1,if_pos h1]
  by_cases h2:t<1
  ·rw [if_pos h2,if_pos (.inl h2)]
  ·rw [if_neg h2]
   by_cases h3:255<t
   ·rw [if_pos h3,if_pos (.inr (.inl h3))]
   ·rw [if_neg h3]
    by_cases h4:e<0
    ·rw [if_pos h4,if_pos (.inr (.inr h4))]
    ·rw [if_neg h4,if_neg (show ¬ (t<1∨255<t∨e<0) from not_or.2 ⟨h2,not_or.2 ⟨h3,h4⟩⟩)]
     by_cases h5:(xs.length:Int)<t
     ·rw [if_pos h5,if_pos h5]
     ·rw [if_neg h5,if_neg h5]
      have hck:=zin xs h
      by_cases hok:xs.length≠0/\xs.length<=255/\xs.Nodup
      ·obtain ⟨k0,k1,k2⟩:=hok
       rw [zgt xs 0 k0 k1 k2,obs,if_neg k0,if_neg (by omega),if_pos k2]
      ·rw [poly_Weights_bad xs 0 _ hck ?_,obs]
       by_cases k0:xs.length=0
       ·rw [if_pos k0];decide
       ·rw [if_neg k0]
        by_cases k1:255<xs.length
        ·rw [if_pos k1];decide
        ·rw [if_neg k1,if_neg (fun k2=>hok ⟨k0,by omega,k2⟩)];decide
 ·rw [if_neg h1,if_neg h1]
theorem mcode_ok {t:Int} {xs:List UInt8} {n e:Int} (hc:mcode t xs n e=0):(xs.length:Int)=n/\1<=t/\t<=(xs.length:Int)/\0<=e/\xs.length<=255/\xs.Nodup:=by
 unfold mcode at hc
 split at hc
 ·split at hc
  ·cases hc
  ·rename_i h1 h2
   split at hc
   ·cases hc
   ·split at hc
    ·cases hc
    ·split at hc
     ·cases hc
     ·split at hc
      ·rename_i h3 h4 h5 h6
       refine ⟨h1,Int.not_lt.1 fun h=>h2 (.inl h),by omega,Int.not_lt.1 fun h=>h2 (.inr (.inr h)),by omega,h6⟩
      ·cases hc
 ·cases hc
end Gk

/- Chapter 8: unlike places, sums of shares, what shares of a dealing tell. No condition but lengths. -/
namespace Gk
open Gf
theorem ze2 {α:Type} [DecidableEq α]:∀ l m:List α,l.Nodup->(∀ a∈l,a∈m)->l.length<=m.length
 | [],m,_,_=>Nat.zero_le _
 | a :: l,m,hn,hs=>by
  rw [List.nodup_cons] at hn
  have ha:a∈m:=hs a (by simp)
  have:=ze2 l (m.erase a) hn.2 (fun b hb=>by
   have hne:b≠a:=fun e=>hn.1 (e ▸ hb)
   exact (List.mem_erase_of_ne hne).2 (hs b (by simp [hb])))
  rw [List.length_erase_of_mem ha] at this
  have hpos:=List.length_pos_of_mem ha
  simp only [List.length_cons];omega
theorem mget_mput (m:List (UInt8×Bool)) (k a:UInt8):mget (mput m k true) a=(decide (a=k)||mget m a):=by
 unfold mput
 split
 ·rename_i hk
  unfold mget
  rw [List.find?_map]
  have hf:((fun p:UInt8×Bool=>p.1 == a) ∘ fun p=>if p.1=k then (p.1,true) else p)=(fun p=>p.1 == a):=by
   funext p;simp only [Function.comp];split <;> rfl
  rw [hf]
  cases hm:m.find? (fun p=>p.1 == a) with
  | none =>
   by_cases hak:a=k
   ·subst hak
    obtain ⟨p,hp,e⟩:=List.mem_map.1 hk
    have:=List.find?_eq_none.1 hm p hp
    simp [e] at this
   ·simp [hak]
  | some p =>
   have hp:p.1=a:=by simpa using List.find?_some hm
   by_cases hak:a=k
   ·subst hak;simp [hp]
   ·have:p.1≠k:=fun e=>hak (hp.symm.trans e)
    simp [hak,this]
 ·rename_i hk
  unfold mget
  rw [List.find?_append]
  cases hm:m.find? (fun p=>p.1 == a) with
  | none =>
   by_cases hak:a=k
   ·subst hak;simp
   ·simp [hak,Ne.symm hak]
  | some p =>
   have hp:p.1=a:=by simpa using List.find?_some hm
   have:a≠k:=fun e=>hk (List.mem_map.2 ⟨p,List.mem_of_find?_eq_some hm,hp.trans e⟩)
   simp [this]
theorem in_eq (out:List UInt8) (x:UInt8) (h:out.length<=most):iterC (fun s30:Bool×Int=>(if s30.2<(out.length:Int) then ((idx out s30.2).bind fun c33=>(if s30.1=true then some (.inl (true,(wI (s30.2+1)))) else some (.inl ((decide (x=c33)),(wI (s30.2+1)))))) else some (.inr s30.1))) (false,0)=some (decide (x∈out)):=by
 have hm:=za8
 refine zas (fun i=>(decide (x∈out.take i),(i:Int))) out.length _ (by simp) ?_ ?_
 ·intro i hi
  simp only
  rw [if_pos (by omega),zba hi,obs,zau i (by omega),zg5 hi]
  by_cases hin:x∈out.take i
  ·rw [if_pos (by simpa using hin)];simp [hin]
  ·rw [if_neg (by simpa using hin)];simp [hin]
 ·simp
theorem Unlike_eq (b:List UInt8) (n:Nat) (hn:n<=255) (hb:b.length<=9223372036854775807):∃ r,zev b (n:Int)=some r/\r.length=n/\r.Nodup/\(0:UInt8) ∉ r:=by
 unfold zev
 have hmo:=za8
 have h1000:1000<=most:=by decide
 obtain ⟨out,e1,o1,o2,o3⟩:=zd2 (body:=fun s6:(List (UInt8×Bool))×List UInt8×Int=>(if s6.2.2<(b.length:Int) then ((idx b s6.2.2).bind fun c9=>(if (!((mget s6.1 c9)))=true then (if (s6.2.1.length:Int)<(n:Int) then ((appL s6.2.1 (([c9]:List UInt8))).bind fun c14 =>
   some (.inl ((mput s6.1 c9 true),c14,(wI (s6.2.2+1))))) else some (.inl ((mput s6.1 c9 true),s6.2.1,(wI (s6.2.2+1))))) else some (.inl ((mput s6.1 c9 true),s6.2.1,(wI (s6.2.2+1)))))) else some (.inr s6.2.1)))
  (fun s=>∃ i:Nat,i<=b.length/\s.2.2=(i:Int)/\(∀ a,a=0∨a∈s.2.1->mget s.1 a=true)/\s.2.1.Nodup/\(0:UInt8) ∉ s.2.1/\s.2.1.length<=n) (fun s=>b.length - s.2.2.toNat)
  (fun out:List UInt8=>out.Nodup/\(0:UInt8) ∉ out/\out.length<=n)
  (by
   rintro ⟨m,out,_⟩ ⟨i,hi,rfl,h1,h2,h3,h4⟩
   simp only at h1 h2 h3 h4 ⊢
   by_cases hlt:i<b.length
   ·have keep:∀ a,a=0∨a∈out->mget (mput m (co b i) true) a=true:=fun a ha=>by rw [mget_mput,h1 a ha,Bool.or_true]
    rw [if_pos (by omega),zba hlt,obs,zau i (by omega)]
    by_cases hg:mget m (co b i)=true
    ·rw [if_neg (by simp [hg])]
     exact .inl ⟨_,rfl,⟨i+1,hlt,rfl,keep,h2,h3,h4⟩,by simp only [Int.toNat_natCast];omega⟩
    ·rw [if_pos (by simp [hg])]
     by_cases hln:(out.length:Int)<(n:Int)
     ·have hni:co b i ∉ out:=fun h=>hg (h1 _ (.inr h))
      have hn0:co b i≠0:=fun e=>hg (h1 _ (.inl e))
      unfold appL
      rw [if_pos hln,if_pos (by simp;omega),obs]
      refine .inl ⟨_,rfl,⟨i+1,hlt,rfl,fun a ha=>?_,?_,?_,?_⟩,by simp only [Int.toNat_natCast];omega⟩
      ·rw [mget_mput]
       rcases ha with ha | ha
       ·rw [h1 a (.inl ha),Bool.or_true]
       ·rcases List.mem_append.1 ha with ha | ha
        ·rw [h1 a (.inr ha),Bool.or_true]
        ·rw [List.mem_singleton.1 ha];simp
      ·rw [List.nodup_append]
       refine ⟨h2,by simp,?_⟩
       intro a ha c hc e
       rw [List.mem_singleton] at hc
       subst hc;subst e;exact hni ha
      ·simp only [List.mem_append,List.mem_singleton,not_or]
       exact ⟨h3,Ne.symm hn0⟩
      ·simp;omega
     ·rw [if_neg hln]
      exact .inl ⟨_,rfl,⟨i+1,hlt,rfl,keep,h2,h3,h4⟩,by simp only [Int.toNat_natCast];omega⟩
   ·obtain rfl:i=b.length:=by omega
    rw [if_neg (by omega)]
    exact .inr ⟨_,rfl,h2,h3,h4⟩) (mput [] 0 true,[],0) ⟨0,Nat.zero_le _,rfl,fun a ha=>by
   rcases ha with rfl | ha
   ·rfl
   ·simp at ha,by simp,by simp,by simp⟩
 rw [e1,obs]
 obtain ⟨r,e2,r1,r2,r3⟩:=zd2 (body:=fun s26:List UInt8×UInt8=>(if (s26.1.length:Int)<(n:Int) then (if (0:UInt8)<s26.2 then ((iterC (fun s30:Bool×Int=>(if s30.2<(s26.1.length:Int) then ((idx s26.1 s30.2).bind fun c33=>(if s30.1=true then some (.inl (true,(wI (s30.2+1)))) else some (.inl ((decide (s26.2=c33)),(wI (s30.2+1)))))) else some (.inr s30.1))) (false,0)).bind fun x30 =>
   (if (!x30)=true then ((appL s26.1 (([s26.2]:List UInt8))).bind fun c40=>some (.inl (c40,(s26.2+(1:UInt8))))) else some (.inl (s26.1,(s26.2+(1:UInt8)))))) else some (.inr s26.1)) else some (.inr s26.1)))
  (fun s=>s.1.Nodup/\(0:UInt8) ∉ s.1/\s.1.length<=n/\∃ k:Nat,1<=k/\k<=256/\s.2=UInt8.ofNat k/\∀ y:UInt8,1<=y.toNat->y.toNat<k->y∈s.1) (fun s=>if s.2=0 then 0 else 256 - s.2.toNat)
  (fun r:List UInt8=>r.length=n/\r.Nodup/\(0:UInt8) ∉ r)
  (by
   rintro ⟨out,x⟩ ⟨h1,h2,h3,k,k1,k2,hk,hall⟩
   simp only at h1 h2 h3 hk hall ⊢
   by_cases hln:(out.length:Int)<(n:Int)
   ·rw [if_pos hln]
    by_cases hx:(0:UInt8)<x
    ·have hk256:k<256:=by
      rcases Nat.lt_or_ge k 256 with h | h
      ·exact h
      ·obtain rfl:k=256:=by omega
       rw [hk] at hx;exact absurd hx (by decide)
     have hxk:x.toNat=k:=by rw [hk,UInt8.toNat_ofNat'];omega
     have hx0:x≠0:=fun e=>by rw [e] at hxk;simp at hxk;omega
     have hx1:x+1=UInt8.ofNat (k+1):=by rw [hk];apply UInt8.toNat_inj.1;simp
     have hmeas:(if x+1=0 then 0 else 256 - (x+1).toNat)<(if x=0 then 0 else 256 - x.toNat):=by
      rw [if_neg hx0,hxk]
      split
      ·omega
      ·rename_i h9
       have:(x+1).toNat=k+1:=by
        rw [hx1,UInt8.toNat_ofNat']
        have:k+1≠256:=fun e=>h9 (by rw [hx1,e];rfl)
        omega
       omega
     rw [if_pos hx,in_eq out x (by omega),obs]
     by_cases hin:x∈out
     ·rw [if_neg (by simp [hin])]
      refine .inl ⟨_,rfl,⟨h1,h2,h3,k+1,by omega,by omega,hx1,fun y hy1 hy2=>?_⟩,hmeas⟩
      by_cases hyk:y.toNat=k
      ·rw [UInt8.toNat_inj.1 (hyk.trans hxk.symm)];exact hin
      ·exact hall y hy1 (by omega)
     ·unfold appL
      rw [if_pos (by simp [hin]),if_pos (by simp;omega),obs]
      refine .inl ⟨_,rfl,⟨?_,?_,by simp;omega,k+1,by omega,by omega,hx1,fun y hy1 hy2=>?_⟩,hmeas⟩
      ·rw [List.nodup_append]
       refine ⟨h1,by simp,?_⟩
       intro a ha c hc e
       rw [List.mem_singleton] at hc
       subst hc;subst e;exact hin ha
      ·simp only [List.mem_append,List.mem_singleton,not_or]
       exact ⟨h2,Ne.symm hx0⟩
      ·by_cases hyk:y.toNat=k
       ·rw [UInt8.toNat_inj.1 (hyk.trans hxk.symm)];simp
       ·exact List.mem_append_left _ (hall y hy1 (by omega))
    ·rw [if_neg hx]
     exfalso
     have hx0:x=0:=by
      apply UInt8.toNat_inj.1
      have:¬ (0:UInt8).toNat<x.toNat:=fun h=>hx (UInt8.lt_iff_toNat_lt.2 h)
      simp at this ⊢;exact this
     have hk256:k=256:=by
      have:(UInt8.ofNat k).toNat=0:=by rw [← hk,hx0];rfl
      rw [UInt8.toNat_ofNat'] at this
      omega
     have:=ze2 E out E_nodup (fun a ha=>hall a (by
      have:a≠0:=fun e=>E_ne (e ▸ ha)
      have h0:a.toNat≠0:=fun e=>this (UInt8.toNat_inj.1 e)
      omega) (by rw [hk256];exact a.toNat_lt))
     rw [E_len] at this
     omega
   ·rw [if_neg hln]
    exact .inr ⟨_,rfl,by omega,h1,h2⟩) (out,1) ⟨o1,o2,o3,1,Nat.le_refl _,by decide,rfl,fun y h1 h2=>by omega⟩
 rw [e2,obs]
 exact ⟨r,rfl,r1,r2,r3⟩
theorem shr_zero (s m:List UInt8) (q:Nat):shr s m q 0=s:=by
 refine zcc (shr_len _ _ _ _) fun i=>?_
 by_cases hi:i<s.length
 ·rw [co_shr _ _ _ _ _ hi]
  show co s i^^^mul _ 0=co s i
  rw [mul_zero,xor_zero]
 ·rw [co_ge (by rw [shr_len];omega),co_ge (by omega)]
end Gk

/- Chapter 10: the law MendCorrects. No condition. -/
namespace Gk
open Gf
end Gk

/- Printed by gen.py: for each Go function a pure function, and that the Go code comes to it. No condition beside the equation that says what the pure function gives. -/
namespace Gk
open Go Go.Proofs
end Gk

/- Chapter 10: the law MendColumns. No condition. -/
namespace Gk
open Gf
end Gk

/- Chapter 10: the law MendRows. No condition. -/
namespace Gk
open Gf
def clm (rows:List (List UInt8)) (k n:Nat):List UInt8:=(List.range n).map fun i=>co (rows.getD i []) k
theorem clm_len (rows:List (List UInt8)) (k n:Nat):(clm rows k n).length=n:=by simp [clm]
theorem co_clm (rows:List (List UInt8)) (k n i:Nat) (h:i<n):co (clm rows k n) i=co (rows.getD i []) k:=by unfold clm;rw [zde,if_pos h]
def atR (ps:List UInt8) (rs:List (List UInt8)) (L:Nat) (x:UInt8):List UInt8:=(List.range L).map fun k=>sm (fun i=>mul (wt ps i x) (co (rs.getD i []) k)) ps.length
theorem atR_len (ps:List UInt8) (rs:List (List UInt8)) (L:Nat) (x:UInt8):(atR ps rs L x).length=L:=by simp [atR]
theorem At_eq (ps:List UInt8) (rs:List (List UInt8)) (L:Nat) (w:List Int) (x:UInt8) (h0:ps.length≠0) (h1:ps.length<=255) (hn:ps.Nodup) (hl:rs.length=ps.length) (hr:∀ i,i<ps.length->(rs.getD i []).length=L) (hL:L<=1000) :
  zes (some (true,ps,rs,w)) x=some (atR ps rs L x):=by
 have hm:1000<=most:=by decide
 unfold zes
 rw [if_neg (by simp),obs]
 simp only
 rw [zgt ps x h0 h1 hn,obs,idx_0 (by omega),obs,hr 0 (by omega),zcg _ _ (by omega),obs]
 refine zbh (x:=atR ps rs L x) ?_ rfl
 refine zas (fun j=>((List.range L).map fun k=>sm (fun i=>mul (wt ps i x) (co (rs.getD i []) k)) j,(j:Int))) ps.length _ ?_ (fun j hj=>?_) ?_
 ·congr 1
  refine zcc (by simp) fun k=>?_
  rw [co_rep,zde]
  split <;> rfl
 ·simp only
  rw [if_pos (by omega),zci (by omega),obs,zba (by rw [wts_len];exact hj),obs,co_wts ps x j hj,Sum_eq _ _ _ (by simp;omega),obs,zau j (by omega)]
  congr 3
  refine zcc (by rw [sumL_len];simp) fun k=>?_
  rw [co_sumL,List.length_map,List.length_range,zde,zde]
  by_cases hk:k<L
  ·rw [if_pos hk,if_pos hk,if_pos hk];rfl
  ·rw [if_neg hk,if_neg hk]
 ·simp only
  rw [if_neg (by omega)];rfl
def bt (n:Nat) (g:Nat->Bool):List Bool:=(List.range n).map g
theorem bt_len (n:Nat) (g:Nat->Bool):(bt n g).length=n:=by simp [bt]
theorem idx_bt {n k:Nat} (g:Nat->Bool) (h:k<n):idx (bt n g) (k:Int)=some (g k):=by
 rw [zf5];simp [bt,h]
theorem bt_set (n k:Nat) (g:Nat->Bool) (b:Bool):(bt n g).set k b=bt n (fun j=>if j=k then b else g j):=by
 refine List.ext_getElem? fun j=>?_
 rw [List.getElem?_set]
 unfold bt
 by_cases h:k=j
 ·subst h
  rw [if_pos rfl]
  by_cases hk:k<n
  ·simp [hk]
  ·simp [hk]
 ·rw [if_neg h]
  by_cases hj:j<n
  ·simp [hj,Ne.symm h]
  ·simp [hj]
theorem bt_congr {n:Nat} {g h:Nat->Bool} (e:∀ j,j<n->g j=h j):bt n g=bt n h:=List.map_congr_left fun j hj=>e j (List.mem_range.1 hj)
theorem bt_rep (n:Nat):List.replicate n false=bt n (fun _=>false):=by
 refine List.ext_getElem? fun j=>?_
 unfold bt
 by_cases hj:j<n
 ·simp [hj]
 ·simp [hj]
theorem or_loop {body:List Bool×Int->Option ((List Bool×Int)⊕List Bool)} (n L:Nat) (hL:L<=n) (g h:Nat->Bool)
  (hs:∀ (k:Nat) (s:List Bool),k<L->idx s (k:Int)=some (g k)->body (s,(k:Int))=some (.inl (s.set k (g k||h k),((k+1:Nat):Int))))
  (he:∀ s,body (s,(L:Int))=some (.inr s)):iterC body (bt n g,0)=some (bt n (fun k=>if k<L then g k||h k else g k)):=by
 refine zas (fun k=>(bt n (fun j=>if j<k then g j||h j else g j),(k:Int))) L _ (by simp) (fun k hk=>?_) (he _)
 rw [hs k _ hk (by rw [idx_bt _ (by omega)];simp),bt_set]
 congr 3
 refine bt_congr fun j hj=>?_
 by_cases e:j=k
 ·rw [if_pos e,if_pos (by omega),e]
 ·rw [if_neg e]
  by_cases h1:j<k
  ·rw [if_pos h1,if_pos (by omega)]
  ·rw [if_neg h1,if_neg (by omega)]
theorem filt_loop {body:List Int×Int->Option ((List Int×Int)⊕List Int)} (L:Nat) (g:Nat->Bool)
  (hs:∀ (k:Nat) (s:List Int),k<L->s.length<=k->body (s,(k:Int))=some (.inl (if g k=true then s ++ [(k:Int)] else s,((k+1:Nat):Int))))
  (he:∀ s,body (s,(L:Int))=some (.inr s)):iterC body ([],0)=some (((List.range L).filter g).map fun (k:Nat)=>(k:Int)):=by
 refine zas (fun k=>(((List.range k).filter g).map fun (k:Nat)=>(k:Int),(k:Int))) L _ rfl (fun k hk=>?_) (he _)
 have hl:((List.range k).filter g).length<=k:=by
  have:=List.length_filter_le g (List.range k);simpa using this
 rw [hs k _ hk (by rw [List.length_map];exact hl),List.range_succ,List.filter_append]
 by_cases e:g k=true
 ·rw [if_pos e];simp [e]
 ·rw [if_neg e];simp [e]
theorem iterEqF {S X:Type} {body:S->Option (S⊕X)} {s0:S} {y:X} (h:∃ x,iterC body s0=some x/\x=y):iterC body s0=some y:=by
 obtain ⟨x,e,rfl⟩:=h
 exact e
def dif (ps xs:List UInt8) (rows:List (List UInt8)) (L i k:Nat):Bool:=decide (co (atR ps (rows.take ps.length) L (co xs i)) k≠co (rows.getD i []) k)
def oddB (ps xs:List UInt8) (rows:List (List UInt8)) (L j k:Nat):Bool:=(List.range j).any fun i=>decide (ps.length<=i)&&dif ps xs rows L i k
theorem oddB_succ (ps xs:List UInt8) (rows:List (List UInt8)) (L j k:Nat) (h:ps.length<=j):oddB ps xs rows L (j+1) k=(oddB ps xs rows L j k||dif ps xs rows L j k):=by
 unfold oddB
 rw [List.range_succ,List.any_append]
 simp [h]
theorem oddB_start (ps xs:List UInt8) (rows:List (List UInt8)) (L k:Nat):oddB ps xs rows L ps.length k=false:=by
 unfold oddB
 rw [List.any_eq_false]
 intro i hi
 have:=List.mem_range.1 hi
 simp;omega
theorem odd_eq (ps xs:List UInt8) (rows:List (List UInt8)) (L:Nat) (h0:ps.length≠0) (h1:ps.length<=255) (hn:ps.Nodup) (hx:ps.length<=xs.length) (hx2:xs.length<=255) (hl:rows.length=xs.length) (hr:∀ i,i<xs.length->(rows.getD i []).length=L) (hL:L<=1000) :
  mend_odd (some (true,ps,rows.take ps.length,[])) xs rows=some (((List.range L).filter (oddB ps xs rows L xs.length)).map fun (k:Nat)=>(k:Int)):=by
 have hm:1000<=most:=by decide
 have hm2:=za8
 have htk:∀ i,i<ps.length->(rows.take ps.length).getD i []=rows.getD i []:=fun i hi=>by simp [List.getD_eq_getElem?_getD,List.getElem?_take,hi]
 unfold mend_odd
 rw [idx_0 (by omega),obs,hr 0 (by omega),zcg _ _ (by omega),obs,obs]
 simp only
 refine zbh (x:=bt L (oddB ps xs rows L xs.length)) (iterEqF (iterC_from (s0:=List.replicate L false) (fun (i:Nat) (s:List Bool)=>s=bt L (oddB ps xs rows L i)) ps.length xs.length hx (fun x=>x=bt L (oddB ps xs rows L xs.length)) ?_ ?_ ?_)) ?_
 ·rw [bt_rep];exact bt_congr fun j _=>(oddB_start _ _ _ _ _).symm
 ·rintro i s hi1 hi2 rfl
  simp only
  have hAt:=At_eq ps (rows.take ps.length) L [] (co xs i) h0 h1 hn (by simp;omega) (fun i hi=>by rw [htk i hi];exact hr i (by omega)) hL
  rw [if_pos (by omega),zba hi2,obs,hAt,obs,atR_len]
  refine ⟨_,zbh (or_loop L L (Nat.le_refl _) _ (fun k=>dif ps xs rows L i k) (fun k s hk hks=>?_) (fun s=>by simp)) (by rw [zau i (by omega)]),?_⟩
  ·simp only
   rw [if_pos (by omega),zba (by rw [atR_len];exact hk),obs,hks,obs]
   by_cases hb:oddB ps xs rows L i k=true
   ·rw [if_pos hb,hb,Bool.true_or,zau k (by omega),Int.toNat_natCast]
   ·rw [if_neg hb,zci (by omega),obs,zba (by rw [hr i hi2];exact hk),obs,zau k (by omega),Int.toNat_natCast]
    rw [Bool.not_eq_true] at hb
    rw [hb,Bool.false_or]
    unfold dif
    by_cases hc:co (atR ps (rows.take ps.length) L (co xs i)) k=co (rows.getD i []) k <;> simp [hc]
  ·refine bt_congr fun k hk=>?_
   rw [if_pos hk,oddB_succ _ _ _ _ _ _ hi1]
 ·rintro s rfl
  exact ⟨_,by simp only;rw [if_neg (by omega)],rfl⟩
 ·rw [bt_len]
  refine zbh (filt_loop L (oddB ps xs rows L xs.length) (fun k s hk hks=>?_) (fun s=>by simp)) rfl
  simp only
  rw [if_pos (by omega),idx_bt _ hk,obs]
  by_cases hb:oddB ps xs rows L xs.length k=true
  ·rw [if_pos hb,if_pos hb,zen _ _ (by simp;omega) rfl,obs,zau k (by omega)]
  ·rw [if_neg hb,if_neg hb,zau k (by omega)]
open Classical in
noncomputable def PK (t e:Nat) (xs ys:List UInt8):List UInt8:=if h:∃ a,Good t e xs ys a then Classical.choose h else []
theorem PK_good {t e:Nat} {xs ys:List UInt8} (h:∃ P,Good t e xs ys P):Good t e xs ys (PK t e xs ys):=by
 unfold PK;rw [dif_pos h];exact Classical.choose_spec h
theorem wrg_zero {xs ys P:List UInt8}:∀ n,(∀ i,i<n->evp P (co xs i)=co ys i)->wrg xs ys P n=0
 | 0,_=>rfl
 | n+1,h=>by unfold wrg;rw [wrg_zero n (fun i hi=>h i (by omega)),h n (by omega),if_pos rfl]
theorem co_takeU (xs:List UInt8) {t i:Nat} (h:i<t):co (xs.take t) i=co xs i:=by rw [co_take,if_pos h]
theorem atR_poly {ps:List UInt8} {rs:List (List UInt8)} {L k:Nat} (hn:ps.Nodup) {P:List UInt8} (hP:dg P<=ps.length) (hk:k<L) (h:∀ i,i<ps.length->co (rs.getD i []) k=evp P (co ps i)) (x:UInt8):co (atR ps rs L x) k=evp P x:=by
 unfold atR
 rw [zde,if_pos hk,lagrange hn hP x]
 exact sm_congr _ fun i hi=>by rw [h i hi]
theorem even_good {xs:List UInt8} {rows:List (List UInt8)} {t L k:Nat} (hn:xs.Nodup) (ht:t<=xs.length) (hk:k<L) (ho:oddB (xs.take t) xs rows L xs.length k=false):∃ P,dg P<=t/\∀ i,i<xs.length->evp P (co xs i)=co (rows.getD i []) k:=by
 have hpl:(xs.take t).length=t:=by simp;omega
 have hpn:(xs.take t).Nodup:=hn.sublist (List.take_sublist _ _)
 obtain ⟨P,hPe⟩:∃ P,P=lag (xs.take t) (fun i=>mul (co (rows.getD i []) k) (inv (pe (xs.take t) i (co (xs.take t) i) (xs.take t).length))) (xs.take t).length:=⟨_,rfl⟩
 have hP:dg P<=t:=by
  have:=dg_lag (xs.take t) (fun i=>mul (co (rows.getD i []) k) (inv (pe (xs.take t) i (co (xs.take t) i) (xs.take t).length))) (xs.take t).length (Nat.le_refl _)
  rw [hPe];omega
 have hat:∀ i,i<t->evp P (co xs i)=co (rows.getD i []) k:=fun i hi=>by
  have:=lag_at hpn (fun i=>co (rows.getD i []) k) (j:=i) (by omega)
  rw [co_takeU xs hi] at this
  rw [hPe];exact this
 refine ⟨P,hP,fun i hi=>?_⟩
 by_cases h:i<t
 ·exact hat i h
 ·unfold oddB at ho
  rw [List.any_eq_false] at ho
  have h2:=ho i (List.mem_range.2 hi)
  rw [hpl] at h2
  simp only [show t<=i by omega,decide_true,Bool.true_and] at h2
  unfold dif at h2
  simp only [ne_eq,decide_eq_true_eq,Classical.not_not] at h2
  rw [← h2,atR_poly hpn (P:=P) (by omega) hk (fun j hj=>?_)]
  rw [hpl] at hj
  rw [co_takeU xs hj,hat j hj]
  simp [List.getD_eq_getElem?_getD,List.getElem?_take,hpl,hj]
theorem good_even {xs:List UInt8} {rows:List (List UInt8)} {t e k:Nat} {P:List UInt8} (hP:dg P<=t) (h:∀ i,i<xs.length->evp P (co xs i)=co (rows.getD i []) k):Good t e xs (clm rows k xs.length) P:=by
 have:wrg xs (clm rows k xs.length) P xs.length=0:=wrg_zero _ fun i hi=>by rw [co_clm _ _ _ _ hi];exact h i hi
 exact ⟨hP,by omega,by omega⟩
theorem clm_loop (rows:List (List UInt8)) (k L n:Nat) (hl:rows.length=n) (hr:∀ i,i<n->(rows.getD i []).length=L) (hk:k<L) (hn:n<=1000):iterC (fun s56:List UInt8×Int =>
(if s56.2<(rows.length:Int) then
((idx rows s56.2).bind fun c59 =>
((idx c59 (k:Int)).bind fun c61 =>
((appL s56.1 (([c61]:List UInt8))).bind fun c65 => some (.inl (c65,(wI (s56.2+1)))))))
else some (.inr s56.1))) (([]:List UInt8),0)=some (clm rows k n):=by
 have hm:1000<most:=by decide
 refine zas (fun i=>(clm rows k i,(i:Int))) n _ rfl (fun i hi=>?_) (by simp only;rw [if_neg (by omega)])
 simp only
 rw [if_pos (by omega),zci (by omega),obs,zba (by rw [hr i hi];exact hk),obs,zen _ _ (by rw [clm_len];simp;omega) rfl,obs,zau i (by omega)]
 unfold clm
 rw [List.range_succ,List.map_append];rfl
end Gk

/- Chapter 10: rows, mended. No condition. -/
namespace Gk
open Gf
theorem subL_0m {α:Type} (l:List α) (b:Nat) (h:b<=l.length):subL l 0 (b:Int)=some (l.take b):=by
 have:=zdj l 0 b (Nat.zero_le _) h
 rwa [show ((0:Nat):Int)=0 from rfl,List.drop_zero] at this
theorem getD_takeR (rows:List (List UInt8)) {t i:Nat} (h:i<t):(rows.take t).getD i []=rows.getD i []:=by simp [List.getD_eq_getElem?_getD,List.getElem?_take,h]
theorem CloneB_eq (b:List UInt8) (h:b.length<=most):zae b=some b:=by
 unfold zae;exact zel b h
def Fixed (t e:Nat) (xs:List UInt8) (rows:List (List UInt8)) (L:Nat) (R:List (List UInt8)):Prop :=
 R.length=t/\(∀ i,i<t->(R.getD i []).length=L)/\(∀ k,k<L->∃ P,Good t e xs (clm rows k xs.length) P)/\∀ i,i<t->∀ k,k<L->co (R.getD i []) k=evp (PK t e xs (clm rows k xs.length)) (co xs i)
theorem fix_rows (t e:Nat) (xs:List UInt8) (rows:List (List UInt8)) (L:Nat) (h1:1<=t) (ht:t<=xs.length) (h255:xs.length<=255) (hn:xs.Nodup) (hl:rows.length=xs.length) (hr:∀ i,i<xs.length->(rows.getD i []).length=L) (hL:L<=1000) (od:List Nat) (hod:od=(List.range L).filter (oddB (xs.take t) xs rows L xs.length)) :
  ∃ x:(List (List UInt8))⊕(Option (Bool×List UInt8×List (List UInt8)×List Int)×Int),iterC (fun s52:List (List UInt8)×Int =>
(if s52.2<((od.map fun (k:Nat)=>(k:Int)).length:Int) then
((idx (od.map fun (k:Nat)=>(k:Int)) s52.2).bind fun c55 =>
((iterC (fun s56:List UInt8×Int =>
(if s56.2<(rows.length:Int) then
((idx rows s56.2).bind fun c59 =>
((idx c59 c55).bind fun c61 =>
((appL s56.1 (([c61]:List UInt8))).bind fun c65 => some (.inl (c65,(wI (s56.2+1)))))))
else some (.inr s56.1))) (([]:List UInt8),0)).bind fun x56 =>
((zeq true (t:Int) xs x56 (e:Int)).bind fun r73 =>
(if r73.2=0 then
((iterC (fun s76:List (List UInt8)×Int =>
(if s76.2<((xs.take t).length:Int) then
((idx (xs.take t) s76.2).bind fun c79 =>
((idx s76.1 s76.2).bind fun c82 =>
((zgp true r73.1 c79).bind fun r84 =>
((idx c82 c55).bind fun c86 => some (.inl ((s76.1.set (s76.2:Int).toNat (c82.set (c55:Int).toNat r84)),(wI (s76.2+1))))))))
else some (.inr s76.1))) (s52.1,0)).bind fun x76 => some (.inl (x76,(wI (s52.2+1)))))
else some (.inr (.inr ((none:Option (Bool×List UInt8×List (List UInt8)×List Int)),r73.2)))))))
else some (.inr (.inl s52.1)))) (rows.take t,0)=some x/\((∃ R,x=.inl R/\Fixed t e xs rows L R)∨(x=.inr (none,11)/\∃ k,k<L/\∀ P,¬ Good t e xs (clm rows k xs.length) P)):=by
 have hm:1000<=most:=by decide
 have hm2:=za8
 have hodq:∀ q,q∈od->q<L:=fun q hq=>by
  rw [hod] at hq
  exact List.mem_range.1 (List.mem_filter.1 hq).1
 have hodl:∀ m,m<od.length->od.getD m 0<L:=fun m hm3=>hodq _ (by simp [List.getD_eq_getElem?_getD,hm3])
 have hodn:od.length<=L:=by
  rw [hod]
  have:=List.length_filter_le (oddB (xs.take t) xs rows L xs.length) (List.range L)
  simpa using this
 have hidx:∀ m,m<od.length->idx (od.map fun (k:Nat)=>(k:Int)) (m:Int)=some ((od.getD m 0:Nat):Int):=fun m hm3=>by
  rw [zf5];simp [List.getD_eq_getElem?_getD,hm3]
 refine zd2 (fun s=>∃ j:Nat,s.2=(j:Int)/\j<=od.length/\s.1.length=t/\(∀ i,i<t->(s.1.getD i []).length=L)/\(∀ k,k∈od.take j->∃ P,Good t e xs (clm rows k xs.length) P)/\∀ i,i<t->∀ k,k<L->co (s.1.getD i []) k=if k∈od.take j then evp (PK t e xs (clm rows k xs.length)) (co xs i) else co (rows.getD i []) k) (fun s=>od.length - s.2.toNat) _ ?_ _ ⟨0,rfl,Nat.zero_le _,by simp;omega,fun i hi=>by rw [getD_takeR rows hi];exact hr i (by omega),by simp,fun i hi k hk=>by simp only;rw [if_neg (by simp),getD_takeR rows hi]⟩
 rintro ⟨R,_⟩ ⟨j,rfl,hj,hRl,hRr,hg,hco⟩
 simp only at hRl hRr hco ⊢
 by_cases hjl:j<od.length
 ·have hkL:=hodl j hjl
  have htk:od.take (j+1)=od.take j ++ [od.getD j 0]:=by
   rw [List.take_add_one]
   simp [List.getD_eq_getElem?_getD,hjl]
  rw [List.length_map,if_pos (by omega),hidx j hjl,obs,clm_loop rows (od.getD j 0) L xs.length hl hr hkL (by omega),obs]
  generalize od.getD j 0=k at hkL htk ⊢
  have hcs:=column_spec xs (clm rows k xs.length) t e (by rw [clm_len]) h1 ht h255 hn
  by_cases hgd:∃ P,Good t e xs (clm rows k xs.length) P
  ·left
   have hP:=PK_good hgd
   generalize hPe:PK t e xs (clm rows k xs.length)=P at hP
   have hPl:(trim P).length<=255:=by have:=hP.1;unfold dg at this;omega
   rw [hcs.1 P hP,obs,if_pos rfl]
   simp only
   refine ⟨_,zbh (rows_loop R t hRl (fun i=>(R.getD i []).set k (evp P (co xs i))) (fun i hi=>?_) (fun s=>by simp;omega)) (by rw [zau j (by omega)]),⟨j+1,rfl,hjl,by simp,fun i hi=>?_,fun q hq=>?_,fun i hi q hq=>?_⟩,by simp only [Int.toNat_natCast];omega⟩
   ·simp only
    have hU:=updR_len R (fun i=>(R.getD i []).set k (evp P (co xs i))) i
    have hG:=getD_updR R (fun i=>(R.getD i []).set k (evp P (co xs i))) i i (by omega)
    rw [if_neg (by omega)] at hG
    generalize updR R (fun i=>(R.getD i []).set k (evp P (co xs i))) i=s at hU hG ⊢
    rw [if_pos (by rw [List.length_take];omega),zba (by rw [List.length_take];omega),obs,zci (by omega),obs,hG,poly_Eval_eq _ _ (by omega),obs,zba (by rw [hRr i hi];exact hkL),obs,zau i (by omega),Int.toNat_natCast,Int.toNat_natCast,ev_trim,co_takeU xs hi]
   ·rw [getD_tab _ _ _ hi,List.length_set];exact hRr i hi
   ·rw [htk,List.mem_append] at hq
    rcases hq with hq | hq
    ·exact hg q hq
    ·rw [List.mem_singleton] at hq;rw [hq];exact hgd
   ·rw [getD_tab _ _ _ hi,co_set (by rw [hRr i hi];exact hkL),htk]
    by_cases e1:q=k
    ·rw [if_pos e1,if_pos (by simp [e1]),e1,hPe]
    ·rw [if_neg e1,hco i hi q hq]
     by_cases e2:q∈od.take j
     ·rw [if_pos e2,if_pos (by simp [e2])]
     ·rw [if_neg e2,if_neg (by simp [e2,e1])]
  ·right
   rw [hcs.2 (fun P hP=>hgd ⟨P,hP⟩),obs]
   exact ⟨_,rfl,.inr ⟨rfl,k,hkL,fun P hP=>hgd ⟨P,hP⟩⟩⟩
 ·right
  rw [List.length_map,if_neg (by omega)]
  have hjo:od.take j=od:=List.take_of_length_le (by omega)
  rw [hjo] at hg hco
  have hpn:∀ k,k<L->k ∉ od->oddB (xs.take t) xs rows L xs.length k=false:=fun k hk hno=>by
   cases hb:oddB (xs.take t) xs rows L xs.length k with
   | false=>rfl
   | true=>exact absurd (by rw [hod];exact List.mem_filter.2 ⟨List.mem_range.2 hk,hb⟩) hno
  have hgood:∀ k,k<L->∃ P,Good t e xs (clm rows k xs.length) P:=fun k hk=>by
   by_cases hko:k∈od
   ·exact hg k hko
   ·obtain ⟨P,hP,hPe⟩:=even_good hn ht hk (hpn k hk hko)
    exact ⟨P,good_even hP hPe⟩
  refine ⟨_,rfl,.inl ⟨R,rfl,hRl,hRr,hgood,fun i hi k hk=>?_⟩⟩
  rw [hco i hi k hk]
  by_cases hko:k∈od
  ·rw [if_pos hko]
  ·rw [if_neg hko]
   obtain ⟨P,hP,hPe⟩:=even_good hn ht hk (hpn k hk hko)
   rw [← hPe i (by omega)]
   exact ev_sim _ _ _ (Good.uniq hn ht (good_even hP hPe) (PK_good (hgood k hk)))
noncomputable def rowP (t e:Nat) (a:List UInt8) (d:List (List UInt8)) (b:Nat) (f:UInt8):List UInt8:=(List.range b).map fun c=>evp (PK t e a (clm d c a.length)) f
theorem rowP_len (t e:Nat) (xs:List UInt8) (rows:List (List UInt8)) (L:Nat) (x:UInt8):(rowP t e xs rows L x).length=L:=by simp [rowP]
theorem Fixed.at {t e:Nat} {xs:List UInt8} {rows R:List (List UInt8)} {L:Nat} (h:Fixed t e xs rows L R) (h1:1<=t) (ht:t<=xs.length) (h255:xs.length<=255) (hn:xs.Nodup) (hL:L<=1000) (w:List Int) (x:UInt8):zes (some (true,xs.take t,R,w)) x=some (rowP t e xs rows L x):=by
 obtain ⟨hl,hr,hg,hco⟩:=h
 have hpl:(xs.take t).length=t:=by simp;omega
 have hpn:(xs.take t).Nodup:=hn.sublist (List.take_sublist _ _)
 rw [At_eq (xs.take t) R L w x (by omega) (by omega) hpn (by omega) (fun i hi=>hr i (by omega)) hL]
 congr 1
 refine zcc (by rw [atR_len,rowP_len]) fun k=>?_
 by_cases hk:k<L
 ·rw [atR_poly hpn (P:=PK t e xs (clm rows k xs.length)) (by rw [hpl];exact (PK_good (hg k hk)).1) hk (fun i hi=>by rw [hpl] at hi;rw [hco i hi k hk,co_takeU xs hi])]
  unfold rowP;rw [zde,if_pos hk]
 ·rw [co_ge (by rw [atR_len];omega),co_ge (by rw [rowP_len];omega)]
theorem Equal_eq (a b:List UInt8) (h:a.length<=most):zb1 a b=some (decide (a=b)):=by
 have hm2:=za8
 unfold zb1
 by_cases hl:a.length=b.length
 ·rw [if_pos (by omega)]
  obtain ⟨x,e,h1,h2⟩:=iterC_find (body:=fun s2:Int=>(if s2<(a.length:Int) then ((idx a s2).bind fun c7=>((idx b s2).bind fun c8=>(if c7=c8 then some (.inl (wI (s2+1))) else some (.inr (.inr false))))) else some (.inr (.inl ())))) a.length (fun i=>co a i≠co b i) (Sum.inr false:Unit⊕Bool) (Sum.inl ())
   (fun i hi hc=>by
    rw [if_pos (by omega),zba hi,obs,zba (by omega),obs,if_pos (Classical.not_not.1 hc),zau i (by omega)])
   (fun i hi hc=>by
    rw [if_pos (by omega),zba hi,obs,zba (by omega),obs,if_neg hc]) (by simp)
  rw [e,obs]
  by_cases hab:∃ i,i<a.length/\co a i≠co b i
  ·rw [h1 hab,Sum.elim_inr,decide_eq_false]
   rintro rfl
   obtain ⟨i,_,hi⟩:=hab
   exact hi rfl
  ·have hall:∀ i,i<a.length->co a i=co b i:=fun i hi=>Classical.byContradiction fun hc=>hab ⟨i,hi,hc⟩
   rw [h2 (fun i hi hc=>hc (hall i hi)),Sum.elim_inl,decide_eq_true]
   refine zcc hl fun i=>?_
   by_cases hi:i<a.length
   ·exact hall i hi
   ·rw [co_ge (by omega),co_ge (by omega)]
 ·rw [if_neg (by omega),decide_eq_false]
  rintro rfl;exact hl rfl
noncomputable def badR (t e:Nat) (b:List UInt8) (a:List (List UInt8)) (L i:Nat):Bool:=!decide (rowP t e b a L (co b i)=a.getD i [])
noncomputable def mended (t e:Nat) (a:List UInt8) (f:List (List UInt8)) (b:Nat) (c:List (List UInt8)):Bool×List UInt8×List (List UInt8)×List Int:=(true,a.take t,c,((List.range a.length).filter (badR t e a f b)).map fun (d:Nat)=>(d:Int))
theorem Rows_spec (t e:Nat) (xs:List UInt8) (rows:List (List UInt8)) (L:Nat) (hc:mcode (t:Int) xs (rows.length:Int) (e:Int)=0) (hr:∀ i,i<rows.length->(rows.getD i []).length=L) (hL:L<=1000) :
  (∃ R,zgn true (t:Int) xs rows (e:Int)=some (some (mended t e xs rows L R),0)/\Fixed t e xs rows L R)∨(zgn true (t:Int) xs rows (e:Int)=some (none,11)/\∃ k,k<L/\∀ P,¬ Good t e xs (clm rows k xs.length) P):=by
 obtain ⟨q1,q2,q3,q4,q5,q6⟩:=mcode_ok hc
 have hm:1000<=most:=by decide
 have hm2:=za8
 have hpl:(xs.take t).length=t:=by simp;omega
 unfold zgn
 rw [mend_check_eq _ _ _ _ (by omega),hc,obs,if_pos rfl,lim_of (by omega),obs]
 have hany:anyO (fun y7=>zfb y7 rows) rows=some (rows.any fun r=>decide (r.length≠L)):=anyO_all _ _ _ fun r _=>by
  unfold zfb
  rw [idx_0 (by omega),obs,hr 0 (by omega)]
  by_cases h:r.length=L <;> simp [h]
  omega
 have hno:(rows.any fun r=>decide (r.length≠L))=false:=by
  rw [List.any_eq_false]
  intro r hr3
  obtain ⟨i,hi,rfl⟩:=mem_getD hr3
  rw [hr i hi];simp
 rw [hany,hno,obs,if_neg (by decide),subL_0m xs t (by omega),obs,CloneB_eq _ (by omega),obs,subL_0m rows t (by omega),obs]
 have hcl:iterC (fun s21:List (List UInt8)×Int=>(if s21.2<((rows.take t).length:Int) then ((idx (rows.take t) s21.2).bind fun c24=>((zae c24).bind fun r28=>((appL s21.1 [r28]).bind fun c37=>some (.inl (c37,(wI (s21.2+1))))))) else some (.inr s21.1))) (([]:List (List UInt8)),0)=some (rows.take t):=by
  have htl:(rows.take t).length=t:=by simp;omega
  refine zas (fun i=>((rows.take t).take i,(i:Int))) t _ (by simp) (fun i hi=>?_) ?_
  ·simp only
   rw [if_pos (by omega),zci (by omega),obs,CloneB_eq _ (by rw [getD_takeR rows hi,hr i (by omega)];omega),obs,zen _ _ (by simp;omega) rfl,obs,zau i (by omega),rows_snoc (by omega)]
  ·simp only
   rw [if_neg (by omega),List.take_of_length_le (by omega)]
 have hodd:=odd_eq (xs.take t) xs rows L (by omega) (by omega) (q6.sublist (List.take_sublist _ _)) (by omega) q5 (by omega) (fun i hi=>hr i (by omega)) hL
 rw [hpl] at hodd
 rw [hcl,obs,hodd,obs]
 obtain ⟨x,ex,hx⟩:=fix_rows t e xs rows L (by omega) (by omega) q5 q6 (by omega) (fun i hi=>hr i (by omega)) hL _ rfl
 rw [ex,obs]
 rcases hx with ⟨R,rfl,hF⟩ | ⟨rfl,hb⟩
 ·left
  refine ⟨R,?_,hF⟩
  rw [Sum.elim_inl]
  refine zbh (filt_loop xs.length (badR t e xs rows L) (fun i s hi hs=>?_) (fun s=>by simp)) rfl
  simp only
  rw [if_pos (by omega),zba hi,obs,zci (by omega),obs,hF.at (by omega) (by omega) q5 q6 hL,obs,Equal_eq _ _ (by rw [rowP_len];omega),obs]
  unfold badR
  by_cases hb:rowP t e xs rows L (co xs i)=rows.getD i []
  ·rw [decide_eq_true hb,if_neg (by decide),if_neg (by decide),zau i (by omega)]
  ·rw [decide_eq_false hb,if_pos (by decide),if_pos (by decide),zen _ _ (by simp;omega) rfl,obs,zau i (by omega)]
 ·right
  exact ⟨by rw [Sum.elim_inr],hb⟩
end Gk

/- Printed by gen.py: for each Go function a pure function, and that the Go code comes to it. No condition beside the equation that says what the pure function gives. -/
namespace Gk
open Go Go.Proofs
noncomputable def zgv (a:UInt8):Option Bool := some (!decide (a=(0:UInt8)))
theorem word_Zero_1_calls (a0x:UInt8) (r:Bool) (w0:World) (H:zgv a0x=some r) :
  Calls Tryz.prog 102 [(u8 a0x)].toArray w0 (fun e w'=>e=.returned (.bool r)/\Ext w0 w'):=by
 have hE:Ext w0 w0:=Ext.refl w0;unfold zgv at H;refine zai (n:=5) Tryz.func102 rfl rfl rfl ?_;refine W_seq<|W_rg<|av (.bool false) rfl rfl<|wnt<|W_seq<|W_rg<|mv (u8 a0x) rfl rfl<|wa rfl (q_ne8 rfl rfl (cst8 (0:UInt8) rfl))<|?_;refine av (.bool ((!decide (a0x=(0:UInt8))))) rfl rfl<|wnt<|W_ret<|?_;obtain rfl:=osi H;refine rt1 (.bool ((!decide (a0x=(0:UInt8))))) rfl rfl rfl rfl ?_;exact ⟨rfl,hE⟩
noncomputable def word_Zero (a:List UInt8):Option Bool :=
((lim a.length).bind fun d =>
((anyO (fun c=>zgv c) a).bind fun b => some (!b)))
theorem word_Zero_calls (a0b:List UInt8) (p0:Value) (r:Bool) (w0:World) (hp0:By w0 [] p0 a0b) (H:word_Zero a0b=some r) :
  Calls Tryz.prog 73 [p0].toArray w0 (fun e w'=>e=.returned (.bool r)/\Ext w0 w'):=by
 have hE:Ext w0 w0:=Ext.refl w0;unfold word_Zero at H;refine zai (n:=6) Tryz.func73 rfl rfl rfl ?_;refine W_seq<|W_rg<|av (.bool false) rfl rfl<|wnt<|W_seq<|W_rg<|mv p0 rfl rfl<|?_;obtain ⟨lim1,hl1,H⟩:=bsi H;obtain ⟨r1,hr1,H⟩:=bsi H;refine wls rfl rfl (zab (vs:=[p0,(.func (.func 102) #[] #[])]) Tryz.func101 rfl rfl rfl (ar2 rfl rfl) (zh7 p0 a0b 102 _ Tryz.func102 rfl rfl [] (fun y1=>zgv y1) r1 _ (hp0.lift (le_ hE)) (lim_lt hl1) hr1 (fun y1 _ b w' xE hb=>word_Zero_1_calls y1  b w'  hb)) ?_);rintro _ w1 ⟨rfl,x1⟩;refine ⟨_,rfl,?_⟩;have e2:=hE.trans x1;refine wa rfl (q_not rfl rfl)<|av (.bool ((!r1))) rfl rfl<|wnt<|W_ret<|?_;obtain rfl:=osi H;refine rt1 (.bool ((!r1))) rfl rfl rfl rfl ?_;exact ⟨rfl,e2⟩
end Gk

/- Parts L17f, Qm, one behind the other. What is proved: said at the head of each part. No condition beside those said there. -/
import Derived.Test.YtmbnjinlfeopaaaGreatRows
import Derived.Orders
import Derived.Deep.Draws
import Derived.Laws.World
import Derived.KernelRfl
import Derived.OrdersIn
import Derived.TacticsIn
import Derived.RangeFuncCalls
import Derived.Deep.LoopGhost
import Derived.Tactics
import Derived.Sort.LoopGhostIn
import Derived.RangeFuncLeaves
import Derived.RangeFuncNested
import Derived.RangeFuncRecord
import Derived.Laws.Sem
import Derived.OwnWalk
import Derived.RangeFuncWrites
import Derived.Laws.IdiomCopy
import Derived.WalkKit
import Derived.ProofKit
import Derived.OpenShut
import Derived.ChangeOld
import Derived.Below
import Derived.Test.YtmbnjinlfeopaaaGreatProg
import Derived.MapKept
import Derived.Lib.AppendZerosOnto
import Derived.Laws.CopyRow
import Derived.Laws.Cells
import Derived.Lib.SlBytesConst
import Derived.Test.YtmbnjinlfeopaaaGreatZPStripeForms1
import Derived.Test.YtmbnjinlfeopaaaGreatZPStripeForms2
import Derived.Test.YtmbnjinlfeopaaaGreatZPStripeForms3
import Derived.Test.YtmbnjinlfeopaaaGreatZPStripeForms4
import Derived.Test.YtmbnjinlfeopaaaGreatZPStripeForms5
set_option maxRecDepth 100000
set_option maxHeartbeats 8000000
set_option linter.unusedVariables false
set_option linter.unusedSimpArgs false
/- Printed by gen.py: for each Go function a pure function, and that the Go code comes to it. No condition beside the equation that says what the pure function gives. -/
namespace Gk
open Go Go.Proofs
noncomputable def zd3 (d:Int) (b:Int) (a:Int) (c:Int) (k:Int) (l:Int) (f:Int) (p:Bool):Option Bool :=
((zge).bind fun D =>
(if (!D)=true then some false
else
((field_New).bind fun g =>
((lenA 4 (List.replicate 4 (0:Int))).bind fun a0 =>
((lenA 4 ([d,b,a,c]:List Int)).bind fun a1 =>
((if d=0 then
(if 1<=b then
(if b<=a then
(if a<=255 then
(if 0<=c then some (decide (c<=127))
else some false)
else some false)
else some false)
else some false)
else
(if d=1 then
(if 1<=b then
(if b<=a then
(if a<=255 then
(if 0<=c then some (decide (c<=127))
else some false)
else some false)
else some false)
else some false)
else some false)).bind fun j =>
(((lenA 4 ([d,b,a,c]:List Int)).bind fun aA =>
((zbb ([d,b,a,c]:List Int)).bind fun Q =>
(if (!(Q == j))=true then some (.inr false)
else
(if (!j)=true then
((za6 ([d,b,a,c]:List Int)).bind fun R =>
((zba ([d,b,a,c]:List Int)).bind fun S =>
(if (wI (R+S))=0 then some (.inl ())
else some (.inr false))))
else some (.inl ()))))).bind (Sum.elim (fun aG =>
(((if (!j)=true then some true
else some (decide (7<a))).bind fun Z =>
(if Z=true then
((lenA 4 ([d,b,a,c]:List Int)).bind fun aB =>
((zak ([d,b,a,c]:List Int) g ([]:List Int) ([]:List (List UInt8))).bind fun T =>
(if j=true then some (.inr true)
else some (.inr (decide (T.2=2))))))
else some (.inl ()))).bind (Sum.elim (fun aH =>
(((lenA 4 ([d,b,a,c]:List Int)).bind fun aC =>
((makeL (wI (((UInt64.ofInt k) % (900:UInt64)).toNat:Int)) (0:UInt8)).bind fun w =>
((makeL (wI (((UInt64.ofInt l) % (4000:UInt64)).toNat:Int)) (0:UInt8)).bind fun x =>
((zav ([d,b,a,c]:List Int) g w x).bind fun U => some U.2)))).bind fun h =>
((if (wI (((UInt64.ofInt k) % (900:UInt64)).toNat:Int))=440 then
((lenA 4 ([d,b,a,c]:List Int)).bind fun aD =>
((zba ([d,b,a,c]:List Int)).bind fun W =>
(if (!((decide (h=0)) == (decide (wI (((UInt64.ofInt l) % (4000:UInt64)).toNat:Int)=W))))=true then some (.inr false)
else
(if h=0 then some (.inl ())
else
(if h=3 then some (.inl ())
else some (.inr false))))))
else
(if (!((decide (h=0)) == false))=true then some (.inr false)
else
(if h=0 then some (.inl ())
else
(if h=3 then some (.inl ())
else some (.inr false))))).bind (Sum.elim (fun aI =>
((makeL a ([]:List UInt8)).bind fun n =>
((iterC (fun s80:List (List UInt8)×List Int×Int =>
(if s80.2.2<(n.length:Int) then
((lenA 4 ([d,b,a,c]:List Int)).bind fun aE =>
((za6 ([d,b,a,c]:List Int)).bind fun X =>
((makeL X (0:UInt8)).bind fun y =>
((idx s80.1 s80.2.2).bind fun aF =>
((appL s80.2.1 ([wI (s80.2.2+1)]:List Int)).bind fun z => some (.inl (s80.1.set (s80.2.2:Int).toNat y,z,wI (s80.2.2+1))))))))
else some (.inr (s80.1,s80.2.1)))) (n,([]:List Int),0)).bind fun e =>
(if p=true then
((subL e.1 0 (wI (b - 1))).bind fun q =>
((subL e.2 0 (wI (b - 1))).bind fun r =>
((lenA 4 ([d,b,a,c]:List Int)).bind fun a2 =>
((zak ([d,b,a,c]:List Int) g r q).bind fun E => some (decide (E.2=12))))))
else
((idx e.2 0).bind fun a3 =>
((lenA 4 ([d,b,a,c]:List Int)).bind fun a4 =>
((zak ([d,b,a,c]:List Int) g (e.2.set (0:Int).toNat f) e.1).bind fun F =>
((if f<1 then some 2
else
(if a<f then some 2
else
(if 1<f then some 6
else some 0))).bind fun o =>
((idx e.1 0).bind fun m =>
((subL m 1 (m.length:Int)).bind fun i =>
((lenA 4 ([d,b,a,c]:List Int)).bind fun a5 =>
((zak ([d,b,a,c]:List Int) g (e.2.set (0:Int).toNat f) (e.1.set (0:Int).toNat i)).bind fun G =>
((lenA 4 ([d,b,a,c]:List Int)).bind fun a6 =>
((subL (e.1.set (0:Int).toNat i) 1 ((e.1.set (0:Int).toNat i).length:Int)).bind fun s =>
((zak ([d,b,a,c]:List Int) g (e.2.set (0:Int).toNat f) s).bind fun H =>
((lenA 4 ([d,b,a,c]:List Int)).bind fun a7 =>
((zak ([d,b,a,c]:List Int) false (e.2.set (0:Int).toNat f) (e.1.set (0:Int).toNat i)).bind fun I =>
((lenA 4 ([d,b,a,c]:List Int)).bind fun a8 =>
((zba ([d,b,a,c]:List Int)).bind fun J =>
((makeL J (0:UInt8)).bind fun t =>
((zc4 ([d,b,a,c]:List Int) g (e.1.set (0:Int).toNat i) t).bind fun K =>
(((lenA 4 ([d,b,a,c]:List Int)).bind fun a9 =>
((makeL 440 (0:UInt8)).bind fun u =>
((zba ([d,b,a,c]:List Int)).bind fun L =>
((makeL L (0:UInt8)).bind fun v =>
((zav ([d,b,a,c]:List Int) false u v).bind fun M => some M.2))))).bind fun Y =>
((zeq (none:Option (List Int×Bool×(Option (Bool×List UInt8×List (List UInt8)×List Int))×List (List UInt8)×List Int))).bind fun N =>
(if F.2=o then
(if ((decide (G.2=3)) == (!decide (o=2)))=true then
(if H.2=1 then
(if I.2=1 then
(if K.2=3 then
(if Y=1 then
(if N.2=1 then
((zhw (none:Option (List Int×Bool×(Option (Bool×List UInt8×List (List UInt8)×List Int))×List (List UInt8)×List Int)) 1).bind fun O =>
((zfu (none:Option (List Int×Bool×(Option (Bool×List UInt8×List (List UInt8)×List Int))×List (List UInt8)×List Int))).bind fun P => some (decide (wI ((O.length:Int)+(P.length:Int))=0))))
else some false)
else some false)
else some false)
else some false)
else some false)
else some false)
else some false)))))))))))))))))))))))) (fun C=>some C))))) (fun B=>some B)))) (fun A=>some A)))))))))
theorem law17_StripeForms_calls (j:Int) (f:Int) (g:Int) (i:Int) (Z:Int) (U:Int) (B:Int) (a1:Bool) (gY:Bool) (w0:World) (c:zd3 j f g i Z U B a1=some gY) :
  Calls Tryz.prog 5 [i64 j,i64 f,i64 g,i64 i,i64 Z,i64 U,i64 B,.bool a1].toArray w0 (fun j0 nO=>j0=.returned (.bool gY)/\Ext w0 nO):=by
 have k5:Ext w0 w0:=Ext.refl w0;unfold zd3 at c;refine zaj (n:=304) Tryz.func5 V V V<|W_sr<|av (.bool false) V V<|wnt<|W_seq<|W_sr<|?_;obtain ⟨mU,kT,c⟩:=bsi c;refine wls V V (zab (vs:=[]) Tryz.func6 V V V (ar0) (law17_lives_calls   mU _  kT) ?_);rintro _ q1 ⟨rfl,o8⟩;refine ⟨_,rfl,?_⟩;have fP:=k5.trans o8;refine wa V (q_not V V)<|wnt<|zal _ V V (fun dP=>?_) (fun dP=>?_)
 ·replace c:=(if_pos dP).symm.trans c;refine W_sr<|av (.bool false) V V<|wnt<|W_ret<|th_r<|?_;obtain rfl:=osi c;refine rt1 (.bool false) V V V V ?_;exact ⟨rfl,fP⟩
 replace c:=(if_neg (ne_true_of_eq_false dP)).symm.trans c;refine zag<|W_th<|W_sr<|?_;obtain ⟨E,lC,c⟩:=bsi c;refine wls V V (zab (vs:=[]) Tryz.func8 V V V (ar0) (zg1   E _ [] (Old.nil _)  lC) ?_);rintro _ qK ⟨r,rfl,oI,X⟩;refine ⟨_,rfl,?_⟩;have fS:=fP.trans oI;refine av r V V<|wnt<|W_sr<|mv (i64 j) V V<|mv (i64 f) V V<|mv (i64 g) V V<|mv (i64 i) V V<|wa V (q_buildS (ps:=#[(0,i64 j),(1,i64 f),(2,i64 g),(3,i64 i)]) V (by simp only [List.map_toArray,List.map_cons,List.map_nil];exact bs4 V V V V) (buildS_0_1_2_3 j f g i)) ?_
 refine wls V V (sal i64 (List.replicate 4 (0:Int)) [] V Z25 ?_);intro e qN mJ gU k0 pH;have iT:=zaa k0;have a0:=Nw.ext fS gU;have jU:=fS.trans iT;obtain ⟨oN,kB,c⟩:=bsi c;obtain ⟨oO,kC,c⟩:=bsi c;refine wln V V (stp_storeG [] [] V G25 V V (zaf kB) (zaf kC) mJ one_i64 ?_);intro qV a4 k3 lQ;replace X:=(X.lift (Lift.call _ iT gU)).lift lQ;have a2:=jU.grown k3 a0;refine wnt<|W_seq<|?_;obtain ⟨a5,k,c⟩:=bsi c;refine W_mid (fun d o=>d 1=i64 f/\d 2=i64 g/\d 4=i64 Z/\d 5=i64 U/\d 6=i64 B/\d 7=(.bool a1)/\d 17=r/\d 18=bp e/\d 19=(.bool a5)/\d 304=undef/\Ext w0 o/\Blk o e 25 (ac i64 ([j,f,g,i]:List Int))/\Nw w0 (bp e)/\Fd o [bp e] r E) ?_ ?_
 ·refine W_rg<|mv (i64 j) V V<|wa V (q_eqI V V V)<|wlb V V (zau (v:=(.bool (decide (j=0)))) V V) (fun d8=>?_) (fun d8=>?_)
  ·replace k:=ifp d8 k;refine wk V<|wk V<|wa V (zao (v:=(.bool true)) V V V)<|mv (.bool true) V V<|mv (i64 f) V V<|wa V (q_geI V V V)<|wa V (zao (v:=(.bool (decide (1<=f)))) V V V)<|wlb V V (zau (v:=(.bool (decide (1<=f)))) V V) (fun d9=>?_) (fun d9=>?_)
   ·replace k:=ifp d9 k;refine mv (i64 f) V V<|mv (i64 g) V V<|wa V (q_leI V V V)<|wa V (zao (v:=(.bool (decide (f<=g)))) V V V)<|wlb V V (zau (v:=(.bool (decide (f<=g)))) V V) (fun dA=>?_) (fun dA=>?_)
    ·replace k:=ifp dA k;refine mv (i64 g) V V<|wa V (q_leI V V V)<|wa V (zao (v:=(.bool (decide (g<=255)))) V V V)<|wlb V V (zau (v:=(.bool (decide (g<=255)))) V V) (fun dB=>?_) (fun dB=>?_)
     ·replace k:=ifp dB k;refine mv (i64 i) V V<|wa V (q_geI V V V)<|wa V (zao (v:=(.bool (decide (0<=i)))) V V V)<|wlb V V (zau (v:=(.bool (decide (0<=i)))) V V) (fun dC=>?_) (fun dC=>?_)
      ·replace k:=ifp dC k;refine mv (i64 i) V V<|wa V (q_leI V V V)<|wa V (zao (v:=(.bool (decide (i<=127)))) V V V)<|av (.bool (decide (i<=127))) V V<|zam<|?_;obtain rfl:=osi k;exact ⟨rfl,rfl,rfl,rfl,rfl,rfl,rfl,rfl,rfl,rfl,a2,a4,a0,X⟩
      replace k:=ifn dC k;refine wk V<|wk V<|wa V (zae (v:=(.bool false)) V V V)<|av (.bool false) V V<|zam<|?_;obtain rfl:=osi k;exact ⟨rfl,rfl,rfl,rfl,rfl,rfl,rfl,rfl,rfl,rfl,a2,a4,a0,X⟩
     replace k:=ifn dB k;refine wk V<|wk V<|wa V (zae (v:=(.bool false)) V V V)<|mv (.bool false) V V<|wk V<|wk V<|wa V (zae (v:=(.bool false)) V V V)<|av (.bool false) V V<|zam ?_;obtain rfl:=osi k;exact ⟨rfl,rfl,rfl,rfl,rfl,rfl,rfl,rfl,rfl,rfl,a2,a4,a0,X⟩
    replace k:=ifn dA k;refine wk V<|wk V<|wa V (zae (v:=(.bool false)) V V V)<|mv (.bool false) V V<|wk V<|wk V<|wa V (zae (v:=(.bool false)) V V V)<|mv (.bool false) V V<|wk V<|wk V<|wa V (zae (v:=(.bool false)) V V V)<|av (.bool false) V V<|zam<|?_;obtain rfl:=osi k;exact ⟨rfl,rfl,rfl,rfl,rfl,rfl,rfl,rfl,rfl,rfl,a2,a4,a0,X⟩
   replace k:=ifn d9 k;refine wk V<|wk V<|wk V<|wa V (zae (v:=(.bool false)) V V V)<|mv (.bool false) V V<|wk V<|wk V<|wa V (zae (v:=(.bool false)) V V V)<|?_;refine mv (.bool false) V V<|wk V<|wk V<|wa V (zae (v:=(.bool false)) V V V)<|mv (.bool false) V V<|wk V<|wk V<|wa V (zae (v:=(.bool false)) V V V)<|av (.bool false) V V<|zam<|?_;obtain rfl:=osi k;exact ⟨rfl,rfl,rfl,rfl,rfl,rfl,rfl,rfl,rfl,rfl,a2,a4,a0,X⟩
  replace k:=ifn d8 k;refine mv (i64 j) V V<|wa V (q_eqI V V V)<|wa V (zae (v:=(.bool (decide (j=1)))) V V V)<|wlb V V (zau (v:=(.bool (decide (j=1)))) V V) (fun dH=>?_) (fun dH=>?_)
  ·replace k:=ifp dH k;refine mv (i64 f) V V<|wa V (q_geI V V V)<|wa V (zao (v:=(.bool (decide (1<=f)))) V V V)<|wlb V V (zau (v:=(.bool (decide (1<=f)))) V V) (fun dL=>?_) (fun dL=>?_)
   ·replace k:=ifp dL k;refine mv (i64 f) V V<|mv (i64 g) V V<|wa V (q_leI V V V)<|wa V (zao (v:=(.bool (decide (f<=g)))) V V V)<|wlb V V (zau (v:=(.bool (decide (f<=g)))) V V) (fun dM=>?_) (fun dM=>?_)
    ·replace k:=ifp dM k;refine mv (i64 g) V V<|wa V (q_leI V V V)<|wa V (zao (v:=(.bool (decide (g<=255)))) V V V)<|wlb V V (zau (v:=(.bool (decide (g<=255)))) V V) (fun dN=>?_) (fun dN=>?_)
     ·replace k:=ifp dN k;refine mv (i64 i) V V<|wa V (q_geI V V V)<|wa V (zao (v:=(.bool (decide (0<=i)))) V V V)<|wlb V V (zau (v:=(.bool (decide (0<=i)))) V V) (fun dO=>?_) (fun dO=>?_)
      ·replace k:=ifp dO k;refine mv (i64 i) V V<|wa V (q_leI V V V)<|wa V (zao (v:=(.bool (decide (i<=127)))) V V V)<|av (.bool (decide (i<=127))) V V<|zam<|?_;obtain rfl:=osi k;exact ⟨rfl,rfl,rfl,rfl,rfl,rfl,rfl,rfl,rfl,rfl,a2,a4,a0,X⟩
      replace k:=ifn dO k;refine wk V<|wk V<|wa V (zae (v:=(.bool false)) V V V)<|av (.bool false) V V<|zam<|?_;obtain rfl:=osi k;exact ⟨rfl,rfl,rfl,rfl,rfl,rfl,rfl,rfl,rfl,rfl,a2,a4,a0,X⟩
     replace k:=ifn dN k;refine wk V<|wk V<|wa V (zae (v:=(.bool false)) V V V)<|mv (.bool false) V V<|wk V<|wk V<|wa V (zae (v:=(.bool false)) V V V)<|av (.bool false) V V<|zam ?_;obtain rfl:=osi k;exact ⟨rfl,rfl,rfl,rfl,rfl,rfl,rfl,rfl,rfl,rfl,a2,a4,a0,X⟩
    replace k:=ifn dM k;refine wk V<|wk V<|wa V (zae (v:=(.bool false)) V V V)<|mv (.bool false) V V<|wk V<|wk V<|wa V (zae (v:=(.bool false)) V V V)<|mv (.bool false) V V<|wk V<|wk V<|wa V (zae (v:=(.bool false)) V V V)<|av (.bool false) V V<|zam<|?_;obtain rfl:=osi k;exact ⟨rfl,rfl,rfl,rfl,rfl,rfl,rfl,rfl,rfl,rfl,a2,a4,a0,X⟩
   replace k:=ifn dL k;refine wk V<|wk V<|wk V<|wa V (zae (v:=(.bool false)) V V V)<|mv (.bool false) V V<|wk V<|wk V<|wa V (zae (v:=(.bool false)) V V V)<|?_;refine mv (.bool false) V V<|wk V<|wk V<|wa V (zae (v:=(.bool false)) V V V)<|mv (.bool false) V V<|wk V<|wk V<|wa V (zae (v:=(.bool false)) V V V)<|av (.bool false) V V<|zam<|?_;obtain rfl:=osi k;exact ⟨rfl,rfl,rfl,rfl,rfl,rfl,rfl,rfl,rfl,rfl,a2,a4,a0,X⟩
  replace k:=ifn dH k;refine wk V<|wk V<|wa V (zae (v:=(.bool false)) V V V)<|mv (.bool false) V V<|wk V<|wk V<|wk V<|wa V (zae (v:=(.bool false)) V V V)<|?_;refine mv (.bool false) V V<|wk V<|wk V<|wa V (zae (v:=(.bool false)) V V V)<|mv (.bool false) V V<|wk V<|wk V<|wa V (zae (v:=(.bool false)) V V V)<|mv (.bool false) V V<|wk V<|wk V<|wa V (zae (v:=(.bool false)) V V V)<|av (.bool false) V V<|zam<|?_;obtain rfl:=osi k;exact ⟨rfl,rfl,rfl,rfl,rfl,rfl,rfl,rfl,rfl,rfl,a2,a4,a0,X⟩
 rintro _ o2 ⟨h7,hF,hY,i0,i3,i7,h1,c4,cN,cR,k8,a3,gQ,a6⟩;refine W_th<|W_seq<|?_;obtain ⟨oG,C,c⟩:=bsi c;refine W_mid (fun d o=>∃ hC,oG=.inl hC/\d 1=i64 f/\d 2=i64 g/\d 4=i64 Z/\d 5=i64 U/\d 6=i64 B/\d 7=(.bool a1)/\d 17=r/\d 18=bp e/\d 19=(.bool a5)/\d 304=undef/\Ext w0 o/\Blk o e 25 (ac i64 ([j,f,g,i]:List Int))/\Nw w0 (bp e)/\Fd o [bp e] r E) ?_ ?_
 ·refine W_seq<|zbi [0,8,10] [(0,1),(2,0),(1,2),(3,0),(4,0),(5,0),(6,0),(7,0),(8,1),(10,1),(9,2),(11,2),(12,0),(13,0),(14,0),(15,0)] mixed (by kernel_rfl) (by kernel_rfl) (by kernel_rfl) (by kernel_rfl) ?_;have fE:=Ext.drew o2;replace a6:=a6.lift (le_ fE);replace a3:=a3.ext fE;have jS:=k8.trans fE;obtain ⟨oX,e5,C⟩:=bsi C;refine sq V V (zb2 (m:=0) V G25 (by exact c4) a3 (zai _ _) (zaf e5))<|sv (.bool a5) V V cN<|?_;obtain ⟨gZ,l9,C⟩:=bsi C;refine wsc V (by kernel_rfl) V V (zab (vs:=[ag i64 ([j,f,g,i]:List Int)]) Tryz.func20 V V V (ar1 V) (zb4 ([j,f,g,i]:List Int)  gZ _  l9) ?_);rintro _ qG ⟨rfl,fF⟩;refine ⟨_,rfl,?_⟩;replace a6:=a6.lift (le_ fF);replace a3:=a3.ext fF;have cY:=jS.trans fF;refine sa V V (q_neB V (by kernel_rfl) V V)<|wsb V V V (zau (v:=(.bool (!(gZ == a5)))) V V) (fun dQ=>?_) (fun dQ=>?_)
  ·replace C:=(if_pos dQ).symm.trans C;refine wsk V V V<|wsk V V V<|wsk V V V<|wsk V V V<|wsk V V V<|wsk V V V<|wsk V V V<|wsk V V V<|wsk V V V<|wsk V V V<|sa V V (zao (v:=(.bool true)) V V V)<|zax<|W_th<|zal true V V (fun _=>?_) (fun W=>by cases W);refine W_sr<|av (.bool false) V V<|wnt<|W_ret<|?_;obtain rfl:=osi C;simp only [Sum.elim_inr] at c;refine th_r<|th_r<|?_;obtain rfl:=osi c;refine rt1 (.bool false) V V V cR ?_;exact ⟨rfl,cY⟩
  replace C:=(if_neg (ne_true_of_eq_false dQ)).symm.trans C;refine sv (.bool a5) V V cN<|sa V V (q_not V V)<|wsb V V V (zau (v:=(.bool (!a5))) V V) (fun dR=>?_) (fun dR=>?_)
  ·replace C:=(if_pos dR).symm.trans C;refine sq V V (zb2 (m:=0) V G25 (by exact c4) a3 (zai _ _) (zaf e5))<|sq V V (zb2 (m:=0) V G25 (by exact c4) a3 (zai _ _) (zaf e5))<|?_;obtain ⟨eP,lA,C⟩:=bsi C;refine wss V V V (zab (vs:=[ag i64 ([j,f,g,i]:List Int)]) Tryz.func21 V V V (ar1 V) (zca ([j,f,g,i]:List Int)  eP _  lA) ?_);rintro _ qH ⟨rfl,cW⟩;refine ⟨_,rfl,cW,?_⟩;replace a6:=a6.lift (le_ cW);have jT:=cY.trans cW;obtain ⟨eQ,lB,C⟩:=bsi C;refine wsc V (by kernel_rfl) V V (zab (vs:=[ag i64 ([j,f,g,i]:List Int)]) Tryz.func22 V V V (ar1 V) (zbs ([j,f,g,i]:List Int)  eQ _  lB) ?_);rintro _ qI ⟨rfl,fG⟩;refine ⟨_,rfl,?_⟩;replace a6:=a6.lift (le_ fG);replace a3:=(a3.ext cW).ext fG;have fQ:=jT.trans fG;refine sa V V (zar V V V)<|sa V V (q_neI V V V)<|sa V V (zao (v:=(.bool (!decide (wI (eP+eQ)=0)))) V V V)<|sa V V (zae (v:=(.bool (!decide (wI (eP+eQ)=0)))) V V V)<|zax<|W_th<|zal _ V V (fun dS=>?_) (fun dS=>?_)
   ·replace C:=(if_neg (zbd dS)).symm.trans C;refine W_sr<|av (.bool false) V V<|wnt<|W_ret<|?_;obtain rfl:=osi C;simp only [Sum.elim_inr] at c;refine th_r<|th_r<|?_;obtain rfl:=osi c;refine rt1 (.bool false) V V V cR ?_;exact ⟨rfl,fQ⟩
   replace C:=(if_pos (zbc dS)).symm.trans C;refine zag ?_;obtain rfl:=osi C;exact ⟨_,rfl,h7,hF,hY,i0,i3,i7,h1,c4,cN,cR,fQ,a3,gQ,a6⟩
  replace C:=(if_neg (ne_true_of_eq_false dR)).symm.trans C;refine wsk V V V<|wsk V V V<|wsk V V V<|wsk V V V<|wsk V V V<|wsk V V V<|sa V V (zae (v:=(.bool false)) V V V)<|sa V V (zae (v:=(.bool false)) V V V)<|zax<|W_th<|zal false V V (fun W=>by cases W) (fun _=>?_);refine zag ?_;obtain rfl:=osi C;exact ⟨_,rfl,h7,hF,hY,i0,i3,i7,h1,c4,cN,cR,cY,a3,gQ,a6⟩
 rintro _ qJ ⟨hC,rfl,h8,f0,hZ,i1,i4,i8,h2,h5,eX,hL,g3,gV,gR,gH⟩;simp only [Sum.elim_inl] at c;refine W_th<|W_seq<|?_;obtain ⟨oH,F,c⟩:=bsi c;refine W_mid (fun d o=>∃ hW,oH=.inl hW/\d 1=i64 f/\d 2=i64 g/\d 4=i64 Z/\d 5=i64 U/\d 6=i64 B/\d 7=(.bool a1)/\d 17=r/\d 18=bp e/\d 304=undef/\Ext w0 o/\Blk o e 25 (ac i64 ([j,f,g,i]:List Int))/\Nw w0 (bp e)/\Fd o [bp e] r E) ?_ ?_
 ·refine W_seq ?_;obtain ⟨oJ,bH,F⟩:=bsi F;refine W_mid (fun d o=>d 1=i64 f/\d 2=i64 g/\d 4=i64 Z/\d 5=i64 U/\d 6=i64 B/\d 7=(.bool a1)/\d 17=r/\d 18=bp e/\d 19=(.bool a5)/\d 101=(.bool oJ)/\d 304=undef/\Ext w0 o/\Blk o e 25 (ac i64 ([j,f,g,i]:List Int))/\Nw w0 (bp e)/\Fd o [bp e] r E) ?_ ?_
  ·refine W_rg<|mv (.bool a5) V eX<|wa V (q_not V V)<|wlb V V (zau (v:=(.bool (!a5))) V V) (fun dT=>?_) (fun dT=>?_)
   ·replace bH:=(if_pos dT).symm.trans bH;refine wk V<|wk V<|wa V (zao (v:=(.bool true)) V V V)<|zam<|?_;obtain rfl:=osi bH;exact ⟨h8,f0,hZ,i1,i4,i8,h2,h5,eX,rfl,hL,g3,gV,gR,gH⟩
   replace bH:=(if_neg (ne_true_of_eq_false dT)).symm.trans bH;refine mv (i64 g) V f0<|wa V (q_gtI V V V)<|wa V (zae (v:=(.bool (decide (7<g)))) V V V)<|zam<|?_;obtain rfl:=osi bH;exact ⟨h8,f0,hZ,i1,i4,i8,h2,h5,eX,rfl,hL,g3,gV,gR,gH⟩
  rintro _ qL ⟨n2,n4,nD,nG,nJ,nL,h3,h6,n1,mY,f1,g4,eI,lS,gI⟩;refine W_th<|zal _ V mY (fun dU=>?_) (fun dU=>?_)
  ·replace F:=(if_pos dU).symm.trans F;refine W_sr<|bse F fun oY kM F=>wq V (zb2 (m:=0) V G25 (by exact h6) eI (zai _ _) (zaf kM))<|mv r V h3<|?_;obtain ⟨aY,lD,F⟩:=bsi F;refine wls V V (zab (vs:=[ag i64 ([j,f,g,i]:List Int),r,.slice none 0 0,.slice none 0 0]) Tryz.func13 V V V (ar4 V V V V) (zbh ([j,f,g,i]:List Int) E ([]:List Int) ([]:List (List UInt8)) r (.slice none 0 0) (.slice none 0 0) aY _ [bp e] (Old.cons (Old.nil _) eI.ltB) gI (SlK.nil _ _ _) (SlK.nil _ _ _) lD) ?_);rintro _ qM ⟨iO,rfl,oK,p9⟩;refine ⟨_,rfl,?_⟩;have fR:=g4.trans oK;refine mv (.tuple #[iO,i64 aY.2]) V V<|wa V (zac V V V)<|wa V (zac V V V)<|av iO V V<|av (i64 aY.2) V V<|wnt<|W_sr<|mv (.bool a5) V n1<|wlb V V (zau (v:=(.bool a5)) V V) (fun dV=>?_) (fun dV=>?_)
   ·replace F:=(if_pos dV).symm.trans F;refine wk V<|wk V<|wa V (zao (v:=(.bool true)) V V V)<|av (.bool true) V V<|wnt<|W_ret<|?_;obtain rfl:=osi F;simp only [Sum.elim_inr] at c;refine th_r<|th_r<|?_;obtain rfl:=osi c;refine rt1 (.bool true) V V V f1 ?_;exact ⟨rfl,fR⟩
   replace F:=(if_neg (ne_true_of_eq_false dV)).symm.trans F;refine mv (i64 aY.2) V V<|wa V (q_eqI V V V)<|wa V (zae (v:=(.bool (decide (aY.2=2)))) V V V)<|av (.bool (decide (aY.2=2))) V V<|wnt<|W_ret<|?_;obtain rfl:=osi F;simp only [Sum.elim_inr] at c;refine th_r<|th_r<|?_;obtain rfl:=osi c;refine rt1 (.bool (decide (aY.2=2))) V V V f1 ?_;exact ⟨rfl,fR⟩
  replace F:=(if_neg (ne_true_of_eq_false dU)).symm.trans F;refine zag ?_;obtain rfl:=osi F;exact ⟨_,rfl,n2,n4,nD,nG,nJ,nL,h3,h6,f1,g4,eI,lS,gI⟩
 rintro _ o3 ⟨hW,rfl,h9,hG,nE,nH,i5,i9,eU,eV,hM,k9,D,gS,N⟩;simp only [Sum.elim_inl] at c;refine W_th<|W_sr<|mv (i64 Z) V nE<|wa V (q_cvt64I V V V V)<|wa V (q_rem64 V V (cst64 (900:UInt64) V) (by decide))<|wa V (q_cvtI64 V V V V)<|mv (i64 U) V nH<|?_;refine wa V (q_cvt64I V V V V)<|wa V (q_rem64 V V (cst64 (4000:UInt64) V) (by decide))<|wa V (q_cvtI64 V V V V)<|av (i64 (wI (((UInt64.ofInt Z) % (900:UInt64)).toNat:Int))) V V<|av (i64 (wI (((UInt64.ofInt U) % (4000:UInt64)).toNat:Int))) V V<|wnt<|W_seq<|?_;obtain ⟨T,Y,c⟩:=bsi c;refine W_mid (fun d o=>d 1=i64 f/\d 2=i64 g/\d 4=i64 (wI (((UInt64.ofInt Z) % (900:UInt64)).toNat:Int))/\d 5=i64 (wI (((UInt64.ofInt U) % (4000:UInt64)).toNat:Int))/\d 6=i64 B/\d 7=(.bool a1)/\d 17=r/\d 18=bp e/\d 23=i64 T/\d 304=undef/\Ext w0 o/\Blk o e 25 (ac i64 ([j,f,g,i]:List Int))/\Nw w0 (bp e)/\Fd o [bp e] r E) ?_ ?_
 ·refine W_draw2 [0] [(0,1),(1,0),(2,0),(4,0)] 3 5 [(5,2),(6,2),(7,0),(8,0),(9,0),(10,0),(11,0)] [(3,2),(6,2),(7,0),(8,0),(9,0),(10,0),(11,0)] mixed (by kernel_rfl) (by kernel_rfl) (by kernel_rfl) (by kernel_rfl) ?_;have fH:=Ext.drew o3;replace N:=N.lift (le_ fH);replace D:=D.ext fH;have fT:=k9.trans fH;obtain ⟨oZ,kN,Y⟩:=bsi Y;refine sq V V (zb2 (m:=0) V G25 (by exact eV) D (zai _ _) (zaf kN))<|sv r V V eU<|sv (i64 (wI (((UInt64.ofInt Z) % (900:UInt64)).toNat:Int))) V V V<|sv (i64 (wI (((UInt64.ofInt U) % (4000:UInt64)).toNat:Int))) V V V<|?_;obtain ⟨cB,gE,Y⟩:=bsi Y;obtain ⟨cC,gF,Y⟩:=bsi Y;refine zax ⟨?_,?_⟩
  ·refine wss V V V (zbm (L:=[bp e]) (R:=Sc u8) V T22 V V gE (fun _ _=>rfl) ?_);intro b1 f9 eJ eE bV lO;refine ⟨zaa bV,?_⟩;have bC:=zaa bV;have aU:By f9 [bp e] b1 cB:=OwK.slk (Sc.stab _) _ eJ (fun p z=>(Old.cons (Old.nil _) D.ltB) p (eE p z)) (fun _ w=>w.2);replace D:=D.ext bC;have cZ:=fT.trans bC;refine wss V V V (zbm (L:=[bp e]) (R:=Sc u8) V T22 V V gF (fun _ _=>rfl) ?_);intro b2 fA eK eF bW lP;refine ⟨zaa bW,?_⟩;have a9:=zaa bW;have eB:By fA [bp e] b2 cC:=OwK.slk (Sc.stab _) _ eK (fun p z=>(Old.cons (Old.nil _) D.ltB) p (eF p z)) (fun _ w=>w.2);replace N:=(N.lift (le_ bC)).lift (le_ a9);replace aU:=aU.lift (le_ a9);replace D:=D.ext a9;have d0:=cZ.trans a9;obtain ⟨aZ,e6,Y⟩:=bsi Y;refine wsc V (by kernel_rfl) V V (zab (vs:=[ag i64 ([j,f,g,i]:List Int),r,b1,b2]) Tryz.func9 V V V (ar4 V V V V) (za7 ([j,f,g,i]:List Int) E cB cC r b1 b2 aZ _ [bp e] (Old.cons (Old.nil _) D.ltB) (N.lift (Lift.sub (L':=[]) (fun _ _=>trivial))) (aU.lift (Lift.sub (L':=[]) (fun _ _=>trivial))) (eB.lift (Lift.sub (L':=[]) (fun _ _=>trivial))) e6) ?_);rintro _ o4 ⟨c8,rfl,bD,m4,mK⟩;refine ⟨_,rfl,?_⟩;replace N:=N.lift (le_ bD);replace D:=D.ext bD;have d1:=d0.trans bD;refine sv (.tuple #[c8,i64 aZ.2]) V V V<|sa V V (zac V V V)<|sa V V (zac V V V)<|sa V V (zaq (v:=c8) V V)<|sa V V (zaq (v:=i64 aZ.2) V V)<|zax ?_;obtain rfl:=osi Y;exact ⟨h9,hG,rfl,rfl,i5,i9,eU,eV,rfl,hM,d1,D,gS,N⟩
  refine wss V V V (zbm (L:=[bp e]) (R:=Sc u8) V T22 V V gF (fun _ _=>rfl) ?_);intro b1 f9 eJ eE bV lO;refine ⟨zaa bV,?_⟩;have bC:=zaa bV;have aU:By f9 [bp e] b1 cC:=OwK.slk (Sc.stab _) _ eJ (fun p z=>(Old.cons (Old.nil _) D.ltB) p (eE p z)) (fun _ w=>w.2);replace D:=D.ext bC;have cZ:=fT.trans bC;refine wss V V V (zbm (L:=[bp e]) (R:=Sc u8) V T22 V V gE (fun _ _=>rfl) ?_);intro b2 fA eK eF bW lP;refine ⟨zaa bW,?_⟩;have a9:=zaa bW;have eB:By fA [bp e] b2 cB:=OwK.slk (Sc.stab _) _ eK (fun p z=>(Old.cons (Old.nil _) D.ltB) p (eF p z)) (fun _ w=>w.2);replace N:=(N.lift (le_ bC)).lift (le_ a9);replace aU:=aU.lift (le_ a9);replace D:=D.ext a9;have d0:=cZ.trans a9;obtain ⟨aZ,e6,Y⟩:=bsi Y;refine wsc V (by kernel_rfl) V V (zab (vs:=[ag i64 ([j,f,g,i]:List Int),r,b2,b1]) Tryz.func9 V V V (ar4 V V V V) (za7 ([j,f,g,i]:List Int) E cB cC r b2 b1 aZ _ [bp e] (Old.cons (Old.nil _) D.ltB) (N.lift (Lift.sub (L':=[]) (fun _ _=>trivial))) (eB.lift (Lift.sub (L':=[]) (fun _ _=>trivial))) (aU.lift (Lift.sub (L':=[]) (fun _ _=>trivial))) e6) ?_);rintro _ o4 ⟨c8,rfl,bD,m4,mK⟩;refine ⟨_,rfl,?_⟩;replace N:=N.lift (le_ bD);replace D:=D.ext bD;have d1:=d0.trans bD;refine sv (.tuple #[c8,i64 aZ.2]) V V V<|sa V V (zac V V V)<|sa V V (zac V V V)<|sa V V (zaq (v:=c8) V V)<|sa V V (zaq (v:=i64 aZ.2) V V)<|zax ?_;obtain rfl:=osi Y;exact ⟨h9,hG,rfl,rfl,i5,i9,eU,eV,rfl,hM,d1,D,gS,N⟩
 rintro _ qO ⟨cO,cQ,nF,nI,cS,cU,cM,c5,c6,aL,bX,aV,cG,bI⟩;refine W_th<|W_seq<|?_;obtain ⟨oL,s,c⟩:=bsi c;refine W_mid (fun d o=>∃ i2,oL=.inl i2/\d 1=i64 f/\d 2=i64 g/\d 6=i64 B/\d 7=(.bool a1)/\d 17=r/\d 18=bp e/\d 304=undef/\Ext w0 o/\Blk o e 25 (ac i64 ([j,f,g,i]:List Int))/\Nw w0 (bp e)/\Fd o [bp e] r E) ?_ ?_
 ·refine W_sr<|mv (i64 T) V c6<|wa V (q_eqI V V V)<|mv (i64 (wI (((UInt64.ofInt Z) % (900:UInt64)).toNat:Int))) V nF<|wa V (q_eqI V V V)<|wlb V V (zau (v:=(.bool (decide (wI (((UInt64.ofInt Z) % (900:UInt64)).toNat:Int)=440)))) V V) (fun dW=>?_) (fun dW=>?_)
  ·replace s:=ifp dW s;refine mv (i64 (wI (((UInt64.ofInt U) % (4000:UInt64)).toNat:Int))) V nI ?_;obtain ⟨p0,kO,s⟩:=bsi s;refine wq V (zb2 (m:=0) V G25 (by exact c5) aV (zai _ _) (zaf kO)) ?_;obtain ⟨eR,lE,s⟩:=bsi s;refine wls V V (zab (vs:=[ag i64 ([j,f,g,i]:List Int)]) Tryz.func22 V V V (ar1 V) (zbs ([j,f,g,i]:List Int)  eR _  lE) ?_);rintro _ qP ⟨rfl,fI⟩;refine ⟨_,rfl,?_⟩;replace bI:=bI.lift (le_ fI);replace aV:=aV.ext fI;have cE:=bX.trans fI;refine wa V (q_eqI V V V)<|wa V (zao (v:=(.bool (decide (wI (((UInt64.ofInt U) % (4000:UInt64)).toNat:Int)=eR)))) V V V)<|wa V (q_neB V (by kernel_rfl) V V)<|wlb V V (zau (v:=(.bool (!((decide (T=0)) == (decide (wI (((UInt64.ofInt U) % (4000:UInt64)).toNat:Int)=eR)))))) V V) (fun dX=>?_) (fun dX=>?_)
   ·replace s:=(if_pos dX).symm.trans s;refine wk V<|wk V<|wk V<|wk V<|wk V<|wk V<|wa V (zao (v:=(.bool true)) V V V)<|wnt<|zal true V V (fun _=>?_) (fun W=>by cases W);refine W_sr<|av (.bool false) V V<|wnt<|W_ret<|?_;obtain rfl:=osi s;simp only [Sum.elim_inr] at c;refine th_r<|th_r<|?_;obtain rfl:=osi c;refine rt1 (.bool false) V V V aL ?_;exact ⟨rfl,cE⟩
   replace s:=(if_neg (ne_true_of_eq_false dX)).symm.trans s;refine mv (i64 T) V c6<|wa V (q_neI V V V)<|wlb V V (zau (v:=(.bool (!decide (T=0)))) V V) (fun dY=>?_) (fun dY=>?_)
   ·replace s:=(if_neg (zbd dY)).symm.trans s;refine mv (i64 T) V c6<|wa V (q_neI V V V)<|wa V (zao (v:=(.bool (!decide (T=3)))) V V V)<|wa V (zae (v:=(.bool (!decide (T=3)))) V V V)<|wnt<|zal _ V V (fun dZ=>?_) (fun dZ=>?_)
    ·replace s:=(if_neg (zbd dZ)).symm.trans s;refine W_sr<|av (.bool false) V V<|wnt<|W_ret<|?_;obtain rfl:=osi s;simp only [Sum.elim_inr] at c;refine th_r<|th_r<|?_;obtain rfl:=osi c;refine rt1 (.bool false) V V V aL ?_;exact ⟨rfl,cE⟩
    replace s:=(if_pos (zbc dZ)).symm.trans s;refine zag ?_;obtain rfl:=osi s;exact ⟨_,rfl,cO,cQ,cS,cU,cM,c5,aL,cE,aV,cG,bI⟩
   replace s:=(if_pos (zbc dY)).symm.trans s;refine wk V<|wk V<|wa V (zae (v:=(.bool false)) V V V)<|wa V (zae (v:=(.bool false)) V V V)<|wnt<|zal false V V (fun W=>by cases W) (fun _=>?_);refine zag ?_;obtain rfl:=osi s;exact ⟨_,rfl,cO,cQ,cS,cU,cM,c5,aL,cE,aV,cG,bI⟩
  replace s:=ifn dW s;refine wk V<|wk V<|wk V<|wk V<|wa V (zae (v:=(.bool false)) V V V)<|wa V (q_neB V (by kernel_rfl) V V)<|wlb V V (zau (v:=(.bool (!((decide (T=0)) == false)))) V V) (fun e0=>?_) (fun e0=>?_)
  ·replace s:=(if_pos e0).symm.trans s;refine wk V<|wk V<|wk V<|wk V<|wk V<|wk V<|wa V (zao (v:=(.bool true)) V V V)<|wnt<|zal true V V (fun _=>?_) (fun W=>by cases W);refine W_sr<|av (.bool false) V V<|wnt<|W_ret<|?_;obtain rfl:=osi s;simp only [Sum.elim_inr] at c;refine th_r<|th_r<|?_;obtain rfl:=osi c;refine rt1 (.bool false) V V V aL ?_;exact ⟨rfl,bX⟩
  replace s:=(if_neg (ne_true_of_eq_false e0)).symm.trans s;refine mv (i64 T) V c6<|wa V (q_neI V V V)<|wlb V V (zau (v:=(.bool (!decide (T=0)))) V V) (fun e1=>?_) (fun e1=>?_)
  ·replace s:=(if_neg (zbd e1)).symm.trans s;refine mv (i64 T) V c6<|wa V (q_neI V V V)<|wa V (zao (v:=(.bool (!decide (T=3)))) V V V)<|wa V (zae (v:=(.bool (!decide (T=3)))) V V V)<|wnt<|zal _ V V (fun e2=>?_) (fun e2=>?_)
   ·replace s:=(if_neg (zbd e2)).symm.trans s;refine W_sr<|av (.bool false) V V<|wnt<|W_ret<|?_;obtain rfl:=osi s;simp only [Sum.elim_inr] at c;refine th_r<|th_r<|?_;obtain rfl:=osi c;refine rt1 (.bool false) V V V aL ?_;exact ⟨rfl,bX⟩
   replace s:=(if_pos (zbc e2)).symm.trans s;refine zag ?_;obtain rfl:=osi s;exact ⟨_,rfl,cO,cQ,cS,cU,cM,c5,aL,bX,aV,cG,bI⟩
  replace s:=(if_pos (zbc e1)).symm.trans s;refine wk V<|wk V<|wa V (zae (v:=(.bool false)) V V V)<|wa V (zae (v:=(.bool false)) V V V)<|wnt<|zal false V V (fun W=>by cases W) (fun _=>?_);refine zag ?_;obtain rfl:=osi s;exact ⟨_,rfl,cO,cQ,cS,cU,cM,c5,aL,bX,aV,cG,bI⟩
 rintro _ qQ ⟨i2,rfl,n3,hH,nK,nM,mZ,n0,n6,g5,cJ,lT,e7⟩;simp only [Sum.elim_inl] at c;refine W_th<|W_sr<|mv (i64 g) V hH<|?_;obtain ⟨iZ,kP,c⟩:=bsi c;refine wls V V (zbm (L:=[bp e]) (R:=By) V T29 V V kP (fun _ _=>SlK.nil _ _ _) ?_);intro h qR gX eG k1 pI;have fJ:=zaa k1;have mR:Nq (bp e) h:=cJ.nq eG;replace e7:=e7.lift (Lift.call _ fJ eG);replace cJ:=cJ.ext fJ;have m5:=Nw.ext g5 eG;have jV:=g5.trans fJ;refine av h V V<|wnt<|W_sr<|av (.slice none 0 0) V V<|wnt<|W_seq<|W_seq<|W_rg<|mv h V V<|wa V (q_len V T29.sl V (gX.rd (SlK.stab (Sc.stab _))))<|mv (i64 0) V V<|wnt<|?_;obtain ⟨K,iU,c⟩:=bsi c;refine W_mid (fun d o=>∃ aM:Value,d 1=i64 f/\d 2=i64 g/\d 6=i64 B/\d 7=(.bool a1)/\d 17=r/\d 18=bp e/\d 24=h/\d 25=aM/\d 304=undef/\Ext w0 o/\OwK By o [h,aM,bp e] 22 h K.1/\Nw w0 h/\OwK (Sc i64) o [h,aM,bp e] 3 aM K.2/\Nw w0 aM/\Blk o e 25 (ac i64 ([j,f,g,i]:List Int))/\Nw w0 (bp e)/\Nq h aM/\Nq h (bp e)/\Nq aM (bp e)/\Fd o [h,aM,bp e] r E) ?_ ?_
 ·refine zad<|za9 (fun I d o=>∃ aO:Value,d 1=i64 f/\d 2=i64 g/\d 6=i64 B/\d 7=(.bool a1)/\d 17=r/\d 18=bp e/\d 24=h/\d 25=aO/\d 153=i64 (iZ.length:Int)/\d 154=i64 I.2.2/\d 304=undef/\Ext w0 o/\OwK By o [h,aO,bp e] 22 h I.1/\Nw w0 h/\OwK (Sc i64) o [h,aO,bp e] 3 aO I.2.1/\Nw w0 aO/\Blk o e 25 (ac i64 ([j,f,g,i]:List Int))/\Nw w0 (bp e)/\Nq h aO/\Nq h (bp e)/\Nq aO (bp e)/\Fd o [h,aO,bp e] r E) iU ?_ ?_
  ·exact ⟨.slice none 0 0,n3,hH,nK,nM,mZ,n0,rfl,rfl,rfl,rfl,n6,jV,gX.weak (SlK.stab (Sc.stab _)) (fun _ w=>⟨w.1,zgq,w.2.1,trivial⟩),m5,OwK.nil _ _ _ _,Nw.nil _,cJ,lT,(Nq.nil _).symm,mR.symm,Nq.nil _,e7.lift (Lift.sub (fun _ w=>⟨w.1,zgq,w.2.1,trivial⟩))⟩
  rintro I _ _ qS ⟨aN,hA,hI,i6,iA,h4,eW,eY,hE,h0,eS,hN,g6,aC,eC,a7,eD,S,gT,cL,eL,eM,aB⟩ J lF;refine W_sr<|wa V (q_ltI V eS h0)<|wnt<|W_seq<|wci J V V (fun J=>?_) (fun J=>?_)
  ·refine zag<|W_th<|W_seq<|zad<|W_sr<|mv (i64 I.2.2) V eS<|av (i64 I.2.2) V V<|wnt<|W_sr<|mv h V eY<|mv (i64 I.2.2) V V<|bse J fun p1 kQ J=>wq V (zb2 (m:=0) V G25 (by exact eW) S (zai _ _) (zaf kQ)) ?_;obtain ⟨mX,lG,J⟩:=bsi J;refine wls V V (zab (vs:=[ag i64 ([j,f,g,i]:List Int)]) Tryz.func21 V V V (ar1 V) (zca ([j,f,g,i]:List Int)  mX _  lG) ?_);rintro _ qT ⟨rfl,bE⟩;refine ⟨_,rfl,?_⟩;replace aC:=aC.extL (SlK.stab (Sc.stab _)) bE (le_ bE);replace a7:=a7.extL (Sc.stab _) bE (le_ bE);replace S:=S.ext bE;have jW:=g6.trans bE;obtain ⟨fN,kR,J⟩:=bsi J;refine wls V V (zbm (L:=[h,aN,bp e]) (R:=Sc u8) V T22 V V kR (fun _ _=>rfl) ?_);intro iP o5 mL m6 k2 pJ;have bF:=zaa k2;have gJ:By o5 [h,aN,bp e] iP fN:=OwK.slk (Sc.stab _) _ mL (fun p z=>(Old.cons (Old.cons (Old.cons (Old.nil _) S.ltB) a7.lt) aC.lt) p (m6 p z)) (fun _ w=>w.2);replace aB:=(aB.lift (le_ bE)).lift (le_ bF);replace aC:=aC.extL (SlK.stab (Sc.stab _)) bF (le_ bF);have jX:=jW.trans bF;obtain ⟨p2,gG,J⟩:=bsi J;refine wa V (q_adr V T29 V V (aC.rd (SlK.stab (Sc.stab _))) gG)<|wln V V (zcp (R:=By) (u:=iP) (SlK.stab (Sc.stab _)) [] [aN,bp e] V T29 V V aC (zfx fN gG) gJ (oc_sl _ _ _ _ gJ) ?_);intro qU aW d4 gO;replace aB:=aB.lift gO;replace a7:=(a7.extL (Sc.stab _) bF (le_ bF)).other (Sc.stab _) d4 cL.symm gO;replace S:=(S.ext bF).other d4 eL.symm;have jY:=jX.grown d4 eC;refine wnt<|W_rg<|mv aN V hE<|mv (i64 I.2.2) V V<|wa V (zar V V V)<|wls V V (zbt (L:=[h,aN,bp e]) (R:=Sc i64) [i64 (wI (I.2.2+1))] ([wI (I.2.2+1)]:List Int) V T35 V (by exact ⟨rfl,rfl,trivial⟩) V (litC i64 oneC_i64 (us:=[i64 (wI (I.2.2+1))]) (l:=([wI (I.2.2+1)]:List Int)) V) V (litS i64 (us:=[i64 (wI (I.2.2+1))]) (l:=([wI (I.2.2+1)]:List Int)) V) ?_)
   intro iQ o6 mM m7 k4 pK;have bG:=zaa k4;have lN:In o6 [h,aN,bp e] iQ ([wI (I.2.2+1)]:List Int):=OwK.slk (Sc.stab _) _ mM (fun p z=>(Old.cons (Old.cons (Old.cons (Old.nil _) S.ltB) a7.lt) aW.lt) p (m7 p z)) (fun _ w=>w.2);replace aW:=aW.extL (SlK.stab (Sc.stab _)) bG (le_ bG);replace a7:=a7.extL (Sc.stab _) bG (le_ bG);replace S:=S.ext bG;have fU:=jY.trans bG;obtain ⟨p3,kS,J⟩:=bsi J;refine wls V V (zbf (R:=Sc i64) (v:=aN) (u:=iQ) (Sc.stab _) [h] [bp e] V T35 V V a7 lN (fun _ _ w=>w) kS oc_i64 ?_);intro cV qW mN d5 eH gP;replace aB:=(aB.lift (le_ bG)).lift gP;have mS:Nq h cV:=aW.nxt cL eH;have mT:Nq (bp e) cV:=S.nxt eM.symm eH;replace aW:=aW.other (SlK.stab (Sc.stab _)) d5 cL gP;replace S:=S.other d5 eM.symm;have jZ:=fU.grown d5 eD;have m8:=Nw.nxt fU eD eH;refine av cV V V<|zam<|bk_n<|W_th<|W_rg<|wa V (zar V eS V)<|mv (i64 (wI (I.2.2+1))) V V<|zam<|?_;obtain rfl:=osi J;exact ⟨_,rfl,cV,hA,hI,i6,iA,h4,eW,eY,rfl,h0,rfl,hN,jZ,aW,eC,mN,m8,S,gT,mS,eL,mT.symm,aB⟩
  refine za1<|th_x<|?_;obtain rfl:=osi J;obtain rfl:=lF _ rfl;refine th_x<|bk_x<|?_;exact ⟨aN,hA,hI,i6,iA,h4,eW,eY,hE,hN,g6,aC,eC,a7,eD,S,gT,cL,eL,eM,aB⟩
 rintro _ o7 ⟨q,hB,n5,cT,nN,bO,bP,bR,b0,c7,g7,Q,bZ,a8,bJ,H,cH,aX,c0,bK,O⟩;refine W_th<|W_seq<|W_sr<|mv (.bool a1) V nN<|wnt<|zal _ V V (fun d6=>?_) (fun d6=>?_)
 ·replace c:=(if_pos d6).symm.trans c;refine W_seq<|zbi [] [(0,0),(1,0),(2,0),(3,0),(4,0),(5,0),(6,0),(7,0),(8,0),(9,0)] mixed (by kernel_rfl) (by kernel_rfl) (by kernel_rfl) (by kernel_rfl) ?_;have b3:=Ext.drew o7;replace O:=O.lift (le_ b3);replace Q:=Q.extL (SlK.stab (Sc.stab _)) b3 (le_ b3);replace a8:=a8.extL (Sc.stab _) b3 (le_ b3);have j1:=g7.trans b3;refine sv h V V bR<|sv (i64 f) V V hB<|sa V V (zb5 V V V)<|bse c fun iW g8 c=>sa V V (zcr (a:=0) (b:=wI (f - 1)) V T29 V (Q.rd (SlK.stab (Sc.stab _))) V V g8) ?_;obtain ⟨cK,m9,gK⟩:=own_cut (lo:=0) (hi:=wI (f - 1)) (SlK.stab (Sc.stab _)) [] [q,bp e] Q rfl g8;have mQ:Nq q (subV h (0:Int).toNat ((wI (f - 1)):Int).toNat):=a8.nxt aX.symm m9;replace a8:=a8.other (Sc.stab _) (Gr.refl _ _) aX.symm gK;replace H:=(H.ext b3).other (Gr.refl _ _) c0.symm;have j2:=j1.grown (Gr.refl _ _) bZ;refine sv q V V b0<|sv (i64 f) V V hB<|sa V V (zb5 V V V)<|bse c fun iX g9 c=>sa V V (zcr (a:=0) (b:=wI (f - 1)) V T35 V (a8.rd (Sc.stab _)) V V g9) ?_;obtain ⟨gW,pS,gL⟩:=own_cut (lo:=0) (hi:=wI (f - 1)) (Sc.stab _) [subV h (0:Int).toNat ((wI (f - 1)):Int).toNat] [bp e] a8 rfl g9;replace O:=(O.lift gK).lift gL;replace cK:=cK.other (SlK.stab (Sc.stab _)) (Gr.refl _ _) mQ.symm gL;replace H:=H.other (Gr.refl _ _) bK.symm;have j3:=j2.grown (Gr.refl _ _) bJ;refine sa V V (zaq (v:=subV h (0:Int).toNat ((wI (f - 1)):Int).toNat) V V)<|sa V V (zaq (v:=subV q (0:Int).toNat ((wI (f - 1)):Int).toNat) V V)<|zax<|W_th<|W_sr<|bse c fun oP kD c=>wq V (zb2 (m:=0) V G25 (by exact bP) H (zai _ _) (zaf kD))<|mv r V bO<|?_
  refine mv (subV q (0:Int).toNat ((wI (f - 1)):Int).toNat) V V<|mv (subV h (0:Int).toNat ((wI (f - 1)):Int).toNat) V V<|?_;obtain ⟨bL,kU,c⟩:=bsi c;refine wls V V (zab (vs:=[ag i64 ([j,f,g,i]:List Int),r,subV q (0:Int).toNat ((wI (f - 1)):Int).toNat,subV h (0:Int).toNat ((wI (f - 1)):Int).toNat]) Tryz.func13 V V V (ar4 V V V V) (zbh ([j,f,g,i]:List Int) E iX iW r (subV q (0:Int).toNat ((wI (f - 1)):Int).toNat) (subV h (0:Int).toNat ((wI (f - 1)):Int).toNat) bL _ [subV h (0:Int).toNat ((wI (f - 1)):Int).toNat,subV q (0:Int).toNat ((wI (f - 1)):Int).toNat,bp e] (Old.cons (Old.cons (Old.cons (Old.nil _) H.ltB) gW.lt) cK.lt) O (gW.rd (Sc.stab _)) (cK.rd (SlK.stab (Sc.stab _))) kU) ?_);rintro _ q2 ⟨iB,rfl,o9,p4⟩;refine ⟨_,rfl,?_⟩;have j4:=j3.trans o9;refine mv (.tuple #[iB,i64 bL.2]) V V<|wa V (zac V V V)<|wa V (zac V V V)<|av iB V V<|av (i64 bL.2) V V<|wnt<|W_sr<|mv (i64 bL.2) V V<|wa V (q_eqI V V V)<|av (.bool (decide (bL.2=12))) V V<|wnt<|W_ret<|th_r<|?_;obtain rfl:=osi c;refine rt1 (.bool (decide (bL.2=12))) V V V c7 ?_;exact ⟨rfl,j4⟩
 replace c:=(if_neg (ne_true_of_eq_false d6)).symm.trans c;refine zag<|W_th<|W_sr<|mv q V b0<|mv (i64 B) V cT<|bse c fun oQ gA c=>wa V (q_adr V T35 V V (a8.rd (Sc.stab _)) gA)<|wln V V (zcp (R:=Sc i64) (u:=i64 B) (Sc.stab _) [h] [bp e] V T35 V V a8 (zfx B gA) V V ?_);intro q3 aD d2 gM;replace O:=O.lift gM;replace Q:=Q.other (SlK.stab (Sc.stab _)) d2 aX gM;replace H:=H.other d2 bK.symm;have j5:=g7.grown d2 bJ;refine wnt<|W_sr<|bse c fun oR kE c=>wq V (zb2 (m:=0) V G25 (by exact bP) H (zai _ _) (zaf kE))<|mv r V bO<|mv q V b0<|mv h V bR<|?_;obtain ⟨aE,kV,c⟩:=bsi c;refine wls V V (zab (vs:=[ag i64 ([j,f,g,i]:List Int),r,q,h]) Tryz.func13 V V V (ar4 V V V V) (zbh ([j,f,g,i]:List Int) E (K.2.set (0:Int).toNat B) K.1 r q h aE _ [h,q,bp e] (Old.cons (Old.cons (Old.cons (Old.nil _) H.ltB) aD.lt) Q.lt) O (aD.rd (Sc.stab _)) (Q.rd (SlK.stab (Sc.stab _))) kV) ?_);rintro _ q4 ⟨iC,rfl,b4,p5⟩;refine ⟨_,rfl,?_⟩;replace O:=O.lift (le_ b4);replace Q:=Q.extL (SlK.stab (Sc.stab _)) b4 (le_ b4);replace aD:=aD.extL (Sc.stab _) b4 (le_ b4);replace H:=H.ext b4;have cD:=j5.trans b4;refine mv (.tuple #[iC,i64 aE.2]) V V<|wa V (zac V V V)<|wa V (zac V V V)<|av iC V V<|av (i64 aE.2) V V<|wnt<|W_sr<|av (i64 0) V V<|wnt<|W_seq<|?_;obtain ⟨aP,M,c⟩:=bsi c;refine W_mid (fun d o=>d 17=r/\d 18=bp e/\d 24=h/\d 25=q/\d 30=i64 aE.2/\d 31=i64 aP/\d 304=undef/\Ext w0 o/\OwK By o [h,q,bp e] 22 h K.1/\Nw w0 h/\OwK (Sc i64) o [h,q,bp e] 3 q (K.2.set (0:Int).toNat B)/\Nw w0 q/\Blk o e 25 (ac i64 ([j,f,g,i]:List Int))/\Nw w0 (bp e)/\Nq h q/\Nq h (bp e)/\Nq q (bp e)/\Fd o [h,q,bp e] r E) ?_ ?_
 ·refine zad<|W_sr<|mv (i64 B) V cT<|wa V (q_ltI V V V)<|wlb V V (zau (v:=(.bool (decide (B<1)))) V V) (fun d7=>?_) (fun d7=>?_)
  ·replace M:=ifp d7 M;refine wk V<|wk V<|wk V<|wa V (zao (v:=(.bool true)) V V V)<|av (.bool true) V V<|wnt<|zal true V V (fun _=>?_) (fun W=>by cases W);refine W_rg<|av (i64 2) V V<|zam<|bk_n<|?_;obtain rfl:=osi M;exact ⟨bO,bP,bR,b0,rfl,rfl,c7,cD,Q,bZ,aD,bJ,H,cH,aX,c0,bK,O⟩
  replace M:=ifn d7 M;refine mv (i64 B) V cT<|mv (i64 g) V n5<|wa V (q_gtI V V V)<|wa V (zae (v:=(.bool (decide (g<B)))) V V V)<|av (.bool (decide (g<B))) V V<|wnt<|wci M V V (fun M=>?_) (fun M=>?_)
  ·refine W_rg<|av (i64 2) V V<|zam<|bk_n<|?_;obtain rfl:=osi M;exact ⟨bO,bP,bR,b0,rfl,rfl,c7,cD,Q,bZ,aD,bJ,H,cH,aX,c0,bK,O⟩
  refine W_sr<|mv (i64 B) V cT<|wa V (q_gtI V V V)<|av (.bool (decide (1<B))) V V<|wnt<|wci M V V (fun M=>?_) (fun M=>?_)
  ·refine W_rg<|av (i64 6) V V<|zam<|bk_n<|?_;obtain rfl:=osi M;exact ⟨bO,bP,bR,b0,rfl,rfl,c7,cD,Q,bZ,aD,bJ,H,cH,aX,c0,bK,O⟩
  refine zag<|bk_n<|?_;obtain rfl:=osi M;exact ⟨bO,bP,bR,b0,rfl,rfl,c7,cD,Q,bZ,aD,bJ,H,cH,aX,c0,bK,O⟩
 rintro _ nP ⟨eT,aJ,bQ,eZ,hO,hQ,hJ,k6,cI,lR,y,pR,t,m3,mO,mP,pY,G⟩;refine W_th<|W_sr<|mv h V bQ<|mv h V bQ<|bse c fun cX cF c=>wa V (q_adr V T29 V V (cI.rd (SlK.stab (Sc.stab _))) cF)<|wlq_loadO (SlK.stab (Sc.stab _)) V V V T29 V cI cF (fun iD bY=>?_);replace bY:By nP [h,q,bp e] iD cX:=bY;obtain ⟨aS,e3,c⟩:=bsi c;refine wa V (zcr (a:=1) (b:=(cX.length:Int)) V T22 V bY V V e3)<|wa V (q_adr V T29 V V (cI.rd (SlK.stab (Sc.stab _))) cF)<|wln V V (zcp (R:=By) (u:=subV iD (1:Int).toNat ((cX.length:Int):Int).toNat) (SlK.stab (Sc.stab _)) [] [q,bp e] V T29 V V cI (zfx aS cF) (SlK.cut bY e3) (oc_sl _ _ _ _ (SlK.cut bY e3)) ?_);intro q5 x d3 gN;replace G:=G.lift gN;replace y:=y.other (Sc.stab _) d3 mO.symm gN;replace t:=t.other d3 mP.symm;have j6:=k6.grown d3 lR;refine wnt<|W_sr<|bse c fun oS kF c=>wq V (zb2 (m:=0) V G25 (by exact aJ) t (zai _ _) (zaf kF))<|mv r V eT<|mv q V eZ<|mv h V bQ<|?_;obtain ⟨aF,kW,c⟩:=bsi c;refine wls V V (zab (vs:=[ag i64 ([j,f,g,i]:List Int),r,q,h]) Tryz.func13 V V V (ar4 V V V V) (zbh ([j,f,g,i]:List Int) E (K.2.set (0:Int).toNat B) (K.1.set (0:Int).toNat aS) r q h aF _ [h,q,bp e] (Old.cons (Old.cons (Old.cons (Old.nil _) t.ltB) y.lt) x.lt) G (y.rd (Sc.stab _)) (x.rd (SlK.stab (Sc.stab _))) kW) ?_);rintro _ nQ ⟨iE,rfl,b5,p6⟩;refine ⟨_,rfl,?_⟩;replace G:=G.lift (le_ b5);replace x:=x.extL (SlK.stab (Sc.stab _)) b5 (le_ b5);replace y:=y.extL (Sc.stab _) b5 (le_ b5);replace t:=t.ext b5;have j7:=j6.trans b5;refine mv (.tuple #[iE,i64 aF.2]) V V<|wa V (zac V V V)<|wa V (zac V V V)<|av iE V V<|av (i64 aF.2) V V<|?_
 refine wnt<|W_seq<|zbi [0] [(0,1),(1,0),(2,0),(3,0),(4,0),(5,2),(6,0),(7,0),(8,0),(9,0),(10,0)] mixed (by kernel_rfl) (by kernel_rfl) (by kernel_rfl) (by kernel_rfl) ?_;have b6:=Ext.drew nQ;replace G:=G.lift (le_ b6);replace x:=x.extL (SlK.stab (Sc.stab _)) b6 (le_ b6);replace y:=y.extL (Sc.stab _) b6 (le_ b6);replace t:=t.ext b6;have j8:=j7.trans b6;obtain ⟨oT,kG,c⟩:=bsi c;refine sq V V (zb2 (m:=0) V G25 (by exact aJ) t (zai _ _) (zaf kG))<|sv r V V eT<|sv q V V eZ<|sv h V V bQ<|bse c fun iY gB c=>sa V V (zcr (a:=1) (b:=((K.1.set (0:Int).toNat aS).length:Int)) V T29 V (x.rd (SlK.stab (Sc.stab _))) V V gB) ?_;obtain ⟨aG,kX,c⟩:=bsi c;refine wsc V (by kernel_rfl) V V (zab (vs:=[ag i64 ([j,f,g,i]:List Int),r,q,subV h (1:Int).toNat (((K.1.set (0:Int).toNat aS).length:Int):Int).toNat]) Tryz.func13 V V V (ar4 V V V V) (zbh ([j,f,g,i]:List Int) E (K.2.set (0:Int).toNat B) iY r q (subV h (1:Int).toNat (((K.1.set (0:Int).toNat aS).length:Int):Int).toNat) aG _ [h,q,bp e] (Old.cons (Old.cons (Old.cons (Old.nil _) t.ltB) y.lt) x.lt) G (y.rd (Sc.stab _)) (SlK.cut (L:=[]) (x.rd (SlK.stab (Sc.stab _))) gB) kX) ?_);rintro _ q6 ⟨iF,rfl,b7,p7⟩;refine ⟨_,rfl,?_⟩;replace G:=G.lift (le_ b7);replace x:=x.extL (SlK.stab (Sc.stab _)) b7 (le_ b7);replace y:=y.extL (Sc.stab _) b7 (le_ b7);replace t:=t.ext b7;have j9:=j8.trans b7;refine sv (.tuple #[iF,i64 aG.2]) V V V<|sa V V (zac V V V)<|sa V V (zac V V V)<|sa V V (zaq (v:=iF) V V)<|sa V V (zaq (v:=i64 aG.2) V V)<|zax<|W_th<|W_sr<|bse c fun oU kH c=>wq V (zb2 (m:=0) V G25 (by exact aJ) t (zai _ _) (zaf kH))<|mv q V eZ<|mv h V bQ<|?_;obtain ⟨aH,kY,c⟩:=bsi c
 refine wls V V (zab (vs:=[ag i64 ([j,f,g,i]:List Int),.pointer none,q,h]) Tryz.func13 V V V (ar4 V V V V) (zbh ([j,f,g,i]:List Int) false (K.2.set (0:Int).toNat B) (K.1.set (0:Int).toNat aS) (.pointer none) q h aH _ [h,q,bp e] (Old.cons (Old.cons (Old.cons (Old.nil _) t.ltB) y.lt) x.lt) (Fd.nil _ _) (y.rd (Sc.stab _)) (x.rd (SlK.stab (Sc.stab _))) kY) ?_);rintro _ nR ⟨iG,rfl,b8,p8⟩;refine ⟨_,rfl,?_⟩;have jA:=j9.trans b8;refine mv (.tuple #[iG,i64 aH.2]) V V<|wa V (zac V V V)<|wa V (zac V V V)<|av iG V V<|av (i64 aH.2) V V<|wnt<|W_seq<|zbi [0,3] [(0,1),(1,0),(2,0),(3,1),(4,2),(5,2),(6,2),(7,0),(8,0),(9,0),(10,0),(11,0)] mixed (by kernel_rfl) (by kernel_rfl) (by kernel_rfl) (by kernel_rfl) ?_;have b9:=Ext.drew nR;replace G:=(G.lift (le_ b8)).lift (le_ b9);replace x:=(x.extL (SlK.stab (Sc.stab _)) b8 (le_ b8)).extL (SlK.stab (Sc.stab _)) b9 (le_ b9);replace y:=(y.extL (Sc.stab _) b8 (le_ b8)).extL (Sc.stab _) b9 (le_ b9);replace t:=(t.ext b8).ext b9;have jB:=jA.trans b9;obtain ⟨oV,gC,c⟩:=bsi c;refine sq V V (zb2 (m:=0) V G25 (by exact aJ) t (zai _ _) (zaf gC))<|sv r V V eT<|sv h V V bQ<|sq V V (zb2 (m:=0) V G25 (by exact aJ) t (zai _ _) (zaf gC))<|?_;obtain ⟨mV,kZ,c⟩:=bsi c;refine wss V V V (zab (vs:=[ag i64 ([j,f,g,i]:List Int)]) Tryz.func22 V V V (ar1 V) (zbs ([j,f,g,i]:List Int)  mV _  kZ) ?_);rintro _ q7 ⟨rfl,aQ⟩;refine ⟨_,rfl,aQ,?_⟩;replace G:=G.lift (le_ aQ);replace x:=x.extL (SlK.stab (Sc.stab _)) aQ (le_ aQ)
 replace y:=y.extL (Sc.stab _) aQ (le_ aQ);replace t:=t.ext aQ;have jC:=jB.trans aQ;obtain ⟨fK,kI,c⟩:=bsi c;refine wss V V V (zbm (L:=[h,q,bp e]) (R:=Sc u8) V T22 V V kI (fun _ _=>rfl) ?_);intro f2 nS mA lU fV pA;refine ⟨zaa fV,?_⟩;have bA:=zaa fV;have lH:By nS [h,q,bp e] f2 fK:=OwK.slk (Sc.stab _) _ mA (fun p z=>(Old.cons (Old.cons (Old.cons (Old.nil _) t.ltB) y.lt) x.lt) p (lU p z)) (fun _ w=>w.2);replace G:=G.lift (le_ bA);replace x:=x.extL (SlK.stab (Sc.stab _)) bA (le_ bA);replace y:=y.extL (Sc.stab _) bA (le_ bA);replace t:=t.ext bA;have jD:=jC.trans bA;obtain ⟨aI,l0,c⟩:=bsi c;refine wsc V (by kernel_rfl) V V (zab (vs:=[ag i64 ([j,f,g,i]:List Int),r,h,f2]) Tryz.func17 V V V (ar4 V V V V) (zh2 ([j,f,g,i]:List Int) E (K.1.set (0:Int).toNat aS) fK r h f2 aI _ [h,q,bp e] (Old.cons (Old.cons (Old.cons (Old.nil _) t.ltB) y.lt) x.lt) (G.lift (Lift.sub (L':=[]) (fun _ _=>trivial))) (x.rd (SlK.stab (Sc.stab _))) (lH.lift (Lift.sub (L':=[]) (fun _ _=>trivial))) l0) ?_);rintro _ nT ⟨iH,rfl,bS,pM,pT⟩;refine ⟨_,rfl,?_⟩;replace x:=x.extL (SlK.stab (Sc.stab _)) bS (le_ bS);replace y:=y.extL (Sc.stab _) bS (le_ bS);replace t:=t.ext bS;have jE:=jD.trans bS;refine sv (.tuple #[iH,i64 aI.2]) V V V<|sa V V (zac V V V)<|sa V V (zac V V V)<|sa V V (zaq (v:=iH) V V)<|sa V V (zaq (v:=i64 aI.2) V V)<|zax<|W_th<|W_seq<|?_;obtain ⟨c9,A,c⟩:=bsi c;refine W_mid (fun d o=>d 30=i64 aE.2/\d 31=i64 aP/\d 33=i64 aF.2/\d 35=i64 aG.2/\d 37=i64 aH.2/\d 39=i64 aI.2/\d 41=i64 c9/\d 304=undef/\Ext w0 o) ?_ ?_
 ·refine W_drawT [0,2] [(0,1),(2,1)] (.br 1 [(3,2),(4,2),(5,2),(6,0),(7,0),(8,0),(9,0),(10,0)] .fin (.br 3 [] (.br 1 [(4,2),(5,2),(6,0),(7,0),(8,0),(9,0),(10,0)] .fin (.br 4 [(1,2),(5,2),(6,0),(7,0),(8,0),(9,0),(10,0)] .fin .fin)) .fin)) mixed (by kernel_rfl) (by kernel_rfl) (by kernel_rfl) (by kernel_rfl) ?_;have bT:=Ext.drew nT;replace x:=x.extL (SlK.stab (Sc.stab _)) bT (le_ bT);replace y:=y.extL (Sc.stab _) bT (le_ bT);replace t:=t.ext bT;have fO:=jE.trans bT;obtain ⟨oW,gD,A⟩:=bsi A;refine sq V V (zb2 (m:=0) V G25 (by exact aJ) t (zai _ _) (zaf gD))<|sq V V (zb2 (m:=0) V G25 (by exact aJ) t (zai _ _) (zaf gD))<|bse A fun aT e4 A=>zax<|wrT_have (fun iV oM=>∀ (bM:Int) (d:Nat->Value) (o:World),((makeL bM (0:UInt8)).bind fun cA=>((zav ([j,f,g,i]:List Int) false aT cA).bind fun c1=>some c1.2))=some c9->(d 18=bp e/\d 30=i64 aE.2/\d 31=i64 aP/\d 33=i64 aF.2/\d 35=i64 aG.2/\d 37=i64 aH.2/\d 39=i64 aI.2/\d 251=ag i64 ([j,f,g,i]:List Int)/\d 253=ag i64 ([j,f,g,i]:List Int)/\d 254=i64 bM/\d 304=undef/\Ext w0 o/\Blk o e 25 (ac i64 ([j,f,g,i]:List Int))/\Nw w0 (bp e))->iV (.br 1 [(4,2),(5,2),(6,0),(7,0),(8,0),(9,0),(10,0)] .fin (.br 4 [(1,2),(5,2),(6,0),(7,0),(8,0),(9,0),(10,0)] .fin .fin)) d o) ?_ (fun kA=>?_)
  ·rintro bM d qB A ⟨pZ,hP,hR,hT,hU,hV,hX,hD,q0,cP,hK,g2,P,pL⟩;refine wr_br ?_ ?_
   ·refine wss V V V (zbm (L:=[bp e]) (R:=Sc u8) V T22 V V e4 (fun _ _=>rfl) ?_);intro f5 nW mD lX fY pD;refine ⟨zaa fY,?_⟩;have iR:=zaa fY;have e9:By nW [bp e] f5 aT:=OwK.slk (Sc.stab _) _ mD (fun p z=>(Old.cons (Old.nil _) P.ltB) p (lX p z)) (fun _ w=>w.2);replace P:=P.ext iR;have jK:=g2.trans iR;obtain ⟨cA,kK,A⟩:=bsi A;refine wss V V V (zbm (L:=[bp e]) (R:=Sc u8) V T22 (by exact cP) (by exact cP) kK (fun _ _=>rfl) ?_);intro f6 nX mE lY fZ pE;refine ⟨zaa fZ,?_⟩;have fC:=zaa fZ;have lJ:By nX [bp e] f6 cA:=OwK.slk (Sc.stab _) _ mE (fun p z=>(Old.cons (Old.nil _) P.ltB) p (lY p z)) (fun _ w=>w.2);replace e9:=e9.lift (le_ fC);replace P:=P.ext fC;have jL:=jK.trans fC;obtain ⟨c1,l4,A⟩:=bsi A;refine wsc V (by kernel_rfl) V V (zab (vs:=[ag i64 ([j,f,g,i]:List Int),.pointer none,f5,f6]) Tryz.func9 V V V (ar4 (by exact hD) V V V) (za7 ([j,f,g,i]:List Int) false aT cA (.pointer none) f5 f6 c1 _ [bp e] (Old.cons (Old.nil _) P.ltB) (Fd.nil _ _) (e9.lift (Lift.sub (L':=[]) (fun _ _=>trivial))) (lJ.lift (Lift.sub (L':=[]) (fun _ _=>trivial))) l4) ?_);rintro _ qC ⟨iJ,rfl,oB,pO,pV⟩;refine ⟨_,rfl,?_⟩;have jM:=jL.trans oB;refine sv (.tuple #[iJ,i64 c1.2]) V V V<|sa V V (zac V V V)<|sa V V (zac V V V)<|sa V V (zaq (v:=iJ) V V)<|sa V V (zaq (v:=i64 c1.2) V V)<|zax<|wt_fin ?_;obtain rfl:=osi A;exact ⟨hP,hR,hT,hU,hV,hX,rfl,hK,jM⟩
   refine wr_br ?_ ?_
   ·obtain ⟨fM,kL,A⟩:=bsi A;refine wss V V V (zbm (L:=[bp e]) (R:=Sc u8) V T22 (by exact cP) (by exact cP) kL (fun _ _=>rfl) ?_);intro f7 nY mF lZ g0 pF;refine ⟨zaa g0,?_⟩;have iS:=zaa g0;have eA:By nY [bp e] f7 fM:=OwK.slk (Sc.stab _) _ mF (fun p z=>(Old.cons (Old.nil _) P.ltB) p (lZ p z)) (fun _ w=>w.2);replace P:=P.ext iS;have jN:=g2.trans iS;refine wss V V V (zbm (L:=[bp e]) (R:=Sc u8) V T22 V V e4 (fun _ _=>rfl) ?_);intro f8 nZ mG m0 g1 pG;refine ⟨zaa g1,?_⟩;have fD:=zaa g1;have lK:By nZ [bp e] f8 aT:=OwK.slk (Sc.stab _) _ mG (fun p z=>(Old.cons (Old.nil _) P.ltB) p (m0 p z)) (fun _ w=>w.2);replace eA:=eA.lift (le_ fD);replace P:=P.ext fD;have jO:=jN.trans fD;obtain ⟨eO,l5,A⟩:=bsi A;refine wsc V (by kernel_rfl) V V (zab (vs:=[ag i64 ([j,f,g,i]:List Int),.pointer none,f8,f7]) Tryz.func9 V V V (ar4 (by exact hD) V V V) (za7 ([j,f,g,i]:List Int) false aT fM (.pointer none) f8 f7 eO _ [bp e] (Old.cons (Old.nil _) P.ltB) (Fd.nil _ _) (lK.lift (Lift.sub (L':=[]) (fun _ _=>trivial))) (eA.lift (Lift.sub (L':=[]) (fun _ _=>trivial))) l5) ?_);rintro _ qD ⟨iK,rfl,oC,pP,pW⟩;refine ⟨_,rfl,?_⟩;have jP:=jO.trans oC;refine sv (.tuple #[iK,i64 eO.2]) V V V<|sa V V (zac V V V)<|sa V V (zac V V V)<|sa V V (zaq (v:=iK) V V)<|sa V V (zaq (v:=i64 eO.2) V V)<|zax<|wt_fin ?_;obtain rfl:=osi A;exact ⟨hP,hR,hT,hU,hV,hX,rfl,hK,jP⟩
   trivial
  refine wr_br ?_ ?_
  ·refine wss V V V (zbm (L:=[h,q,bp e]) (R:=Sc u8) V T22 V V e4 (fun _ _=>rfl) ?_);intro f3 nU mB lV fW pB;refine ⟨zaa fW,?_⟩;have bU:=zaa fW;have e8:By nU [h,q,bp e] f3 aT:=OwK.slk (Sc.stab _) _ mB (fun p z=>(Old.cons (Old.cons (Old.cons (Old.nil _) t.ltB) y.lt) x.lt) p (lV p z)) (fun _ w=>w.2);replace x:=x.extL (SlK.stab (Sc.stab _)) bU (le_ bU);replace y:=y.extL (Sc.stab _) bU (le_ bU);have jF:=fO.trans bU;obtain ⟨mW,l1,A⟩:=bsi A;refine wss V V V (zab (vs:=[ag i64 ([j,f,g,i]:List Int)]) Tryz.func22 V V V (ar1 V) (zbs ([j,f,g,i]:List Int)  mW _  l1) ?_);rintro _ q8 ⟨rfl,aR⟩;refine ⟨_,rfl,aR,?_⟩;replace x:=x.extL (SlK.stab (Sc.stab _)) aR (le_ aR);replace y:=y.extL (Sc.stab _) aR (le_ aR);replace t:=(t.ext bU).ext aR;have jG:=jF.trans aR;obtain ⟨fL,kJ,A⟩:=bsi A;refine wss V V V (zbm (L:=[h,q,bp e]) (R:=Sc u8) V T22 V V kJ (fun _ _=>rfl) ?_);intro f4 nV mC lW fX pC;refine ⟨zaa fX,?_⟩;have bB:=zaa fX;have lI:By nV [h,q,bp e] f4 fL:=OwK.slk (Sc.stab _) _ mC (fun p z=>(Old.cons (Old.cons (Old.cons (Old.nil _) t.ltB) y.lt) x.lt) p (lW p z)) (fun _ w=>w.2);replace e8:=(e8.lift (le_ aR)).lift (le_ bB);replace x:=x.extL (SlK.stab (Sc.stab _)) bB (le_ bB);replace y:=y.extL (Sc.stab _) bB (le_ bB);replace t:=t.ext bB;have jH:=jG.trans bB;obtain ⟨eN,l2,A⟩:=bsi A;refine wsc V (by kernel_rfl) V V (zab (vs:=[ag i64 ([j,f,g,i]:List Int),.pointer none,f3,f4]) Tryz.func9 V V V (ar4 V V V V) (za7 ([j,f,g,i]:List Int) false aT fL (.pointer none) f3 f4 eN _ [h,q,bp e] (Old.cons (Old.cons (Old.cons (Old.nil _) t.ltB) y.lt) x.lt) (Fd.nil _ _) (e8.lift (Lift.sub (L':=[]) (fun _ _=>trivial))) (lI.lift (Lift.sub (L':=[]) (fun _ _=>trivial))) l2) ?_)
   rintro _ q9 ⟨iI,rfl,oA,pN,pU⟩;refine ⟨_,rfl,?_⟩;have jI:=jH.trans oA;refine sv (.tuple #[iI,i64 eN.2]) V V V<|sa V V (zac V V V)<|sa V V (zac V V V)<|sa V V (zaq (v:=iI) V V)<|sa V V (zaq (v:=i64 eN.2) V V)<|zax<|wt_fin ?_;obtain rfl:=osi A;exact ⟨hO,hQ,rfl,rfl,rfl,rfl,rfl,hJ,jI⟩
  refine wr_br ?_ ?_
  ·obtain ⟨bM,l3,A⟩:=bsi A;refine wss V V V (zab (vs:=[ag i64 ([j,f,g,i]:List Int)]) Tryz.func22 V V V (ar1 V) (zbs ([j,f,g,i]:List Int)  bM _  l3) ?_);rintro _ qA ⟨rfl,fB⟩;refine ⟨_,rfl,fB,?_⟩;replace t:=t.ext fB;have jJ:=fO.trans fB;refine zax<|wt_br ?_;exact kA bM _ _ A ⟨aJ,hO,hQ,rfl,rfl,rfl,rfl,rfl,rfl,rfl,hJ,jJ,t,m3⟩
  trivial
 rintro _ qE ⟨n7,hS,n8,n9,nA,nB,nC,aK,k7⟩;refine W_th<|W_sr<|av (.pointer none) V V<|wnt<|W_sr<|mv (.pointer none) V V<|?_;obtain ⟨bN,l6,c⟩:=bsi c;refine wls V V (zab (vs:=[.pointer none]) Tryz.func14 V V V (ar1 V) (zg8 (none:Option (List Int×Bool×(Option (Bool×List UInt8×List (List UInt8)×List Int))×List (List UInt8)×List Int)) (.pointer none) bN _ (RcSt.nil _ _) l6) ?_);rintro _ qF ⟨iL,rfl,oD,pQ,pX⟩;refine ⟨_,rfl,?_⟩;have aA:=k7.trans oD;refine mv (.tuple #[iL,i64 bN.2]) V V<|wa V (zac V V V)<|wa V (zac V V V)<|av iL V V<|av (i64 bN.2) V V<|wnt<|W_sr<|mv (i64 aE.2) V n7<|mv (i64 aP) V hS<|wa V (q_eqI V V V)<|wlb V V (zau (v:=(.bool (decide (aE.2=aP)))) V V) (fun dD=>?_) (fun dD=>?_)
 ·replace c:=ifp dD c;refine mv (i64 aF.2) V n8<|wa V (q_eqI V V V)<|mv (i64 aP) V hS<|wa V (q_neI V V V)<|wa V (q_eqB V (by kernel_rfl) V V)<|wa V (zao (v:=(.bool ((decide (aF.2=3)) == (!decide (aP=2))))) V V V)<|wlb V V (zau (v:=(.bool ((decide (aF.2=3)) == (!decide (aP=2))))) V V) (fun dE=>?_) (fun dE=>?_)
  ·replace c:=(if_pos dE).symm.trans c;refine mv (i64 aG.2) V n9<|wa V (q_eqI V V V)<|wa V (zao (v:=(.bool (decide (aG.2=1)))) V V V)<|wlb V V (zau (v:=(.bool (decide (aG.2=1)))) V V) (fun dF=>?_) (fun dF=>?_)
   ·replace c:=ifp dF c;refine mv (i64 aH.2) V nA<|wa V (q_eqI V V V)<|wa V (zao (v:=(.bool (decide (aH.2=1)))) V V V)<|wlb V V (zau (v:=(.bool (decide (aH.2=1)))) V V) (fun dG=>?_) (fun dG=>?_)
    ·replace c:=ifp dG c;refine mv (i64 aI.2) V nB<|wa V (q_eqI V V V)<|wa V (zao (v:=(.bool (decide (aI.2=3)))) V V V)<|wlb V V (zau (v:=(.bool (decide (aI.2=3)))) V V) (fun dI=>?_) (fun dI=>?_)
     ·replace c:=ifp dI c;refine mv (i64 c9) V nC<|wa V (q_eqI V V V)<|wa V (zao (v:=(.bool (decide (c9=1)))) V V V)<|wlb V V (zau (v:=(.bool (decide (c9=1)))) V V) (fun dJ=>?_) (fun dJ=>?_)
      ·replace c:=ifp dJ c;refine mv (i64 bN.2) V V<|wa V (q_eqI V V V)<|wa V (zao (v:=(.bool (decide (bN.2=1)))) V V V)<|wlb V V (zau (v:=(.bool (decide (bN.2=1)))) V V) (fun dK=>?_) (fun dK=>?_)
       ·replace c:=ifp dK c;refine mv (.pointer none) V V ?_;obtain ⟨c2,l7,c⟩:=bsi c;refine wls V V (zab (vs:=[.pointer none,i64 1]) Tryz.func16 V V V (ar2 V V) (stripe_Row_calls (none:Option (List Int×Bool×(Option (Bool×List UInt8×List (List UInt8)×List Int))×List (List UInt8)×List Int)) 1 (.pointer none) c2 _ (RcSt.nil _ _) l7) ?_);rintro _ o0 ⟨iM,rfl,oE,m1,mH⟩;refine ⟨_,rfl,?_⟩;have lL:By o0 [] iM c2:=OwK.slk (Sc.stab _) _ (OwK.scal mH (iM::[])) (fun p z=>(Old.nil _) p (m1 p z)) (fun _ w=>w.2);have jQ:=aA.trans oE;refine wa V (q_len V T22.sl V lL)<|mv (.pointer none) V V<|?_;obtain ⟨c3,l8,c⟩:=bsi c;refine wls V V (zab (vs:=[.pointer none]) Tryz.func15 V V V (ar1 V) (stripe_Wrong_calls (none:Option (List Int×Bool×(Option (Bool×List UInt8×List (List UInt8)×List Int))×List (List UInt8)×List Int)) (.pointer none) c3 _ (RcSt.nil _ _) l8) ?_);rintro _ o1 ⟨iN,rfl,oF,m2,mI⟩;refine ⟨_,rfl,?_⟩;have lM:In o1 [] iN c3:=OwK.slk (Sc.stab _) _ (OwK.scal mI (iN::[])) (fun p z=>(Old.nil _) p (m2 p z)) (fun _ w=>w.2);have jR:=jQ.trans oF;refine wa V (q_len V T35.sl V lM)<|wa V (zar V V V)<|wa V (q_eqI V V V)<|wa V (zao (v:=(.bool (decide (wI ((c2.length:Int)+(c3.length:Int))=0)))) V V V)<|av (.bool (decide (wI ((c2.length:Int)+(c3.length:Int))=0))) V V<|wnt<|W_ret<|?_;obtain rfl:=osi c;refine rt1 (.bool (decide (wI ((c2.length:Int)+(c3.length:Int))=0))) V V V aK ?_;exact ⟨rfl,jR⟩
       replace c:=ifn dK c;refine wk V<|wk V<|wk V<|wk V<|wk V<|wk V<|wk V<|wk V<|wa V (zae (v:=(.bool false)) V V V)<|av (.bool false) V V<|wnt<|W_ret<|?_;obtain rfl:=osi c;refine rt1 (.bool false) V V V aK ?_;exact ⟨rfl,aA⟩
      replace c:=ifn dJ c;refine wk V<|wk V<|wa V (zae (v:=(.bool false)) V V V)<|mv (.bool false) V V<|wk V<|wk V<|wk V<|wk V<|?_;refine wk V<|wk V<|wk V<|wk V<|wa V (zae (v:=(.bool false)) V V V)<|av (.bool false) V V<|wnt<|W_ret<|?_;obtain rfl:=osi c;refine rt1 (.bool false) V V V aK ?_;exact ⟨rfl,aA⟩
     replace c:=ifn dI c;refine wk V<|wk V<|wa V (zae (v:=(.bool false)) V V V)<|mv (.bool false) V V<|wk V<|wk V<|wa V (zae (v:=(.bool false)) V V V)<|mv (.bool false) V V<|?_;refine wk V<|wk V<|wk V<|wk V<|wk V<|wk V<|wk V<|wk V<|wa V (zae (v:=(.bool false)) V V V)<|av (.bool false) V V<|wnt<|W_ret<|?_;obtain rfl:=osi c;refine rt1 (.bool false) V V V aK ?_;exact ⟨rfl,aA⟩
    replace c:=ifn dG c;refine wk V<|wk V<|wa V (zae (v:=(.bool false)) V V V)<|mv (.bool false) V V<|wk V<|wk V<|wa V (zae (v:=(.bool false)) V V V)<|mv (.bool false) V V<|?_;refine wk V<|wk V<|wa V (zae (v:=(.bool false)) V V V)<|mv (.bool false) V V<|wk V<|wk V<|wk V<|wk V<|?_;refine wk V<|wk V<|wk V<|wk V<|wa V (zae (v:=(.bool false)) V V V)<|av (.bool false) V V<|wnt<|W_ret<|?_;obtain rfl:=osi c;refine rt1 (.bool false) V V V aK ?_;exact ⟨rfl,aA⟩
   replace c:=ifn dF c;refine wk V<|wk V<|wa V (zae (v:=(.bool false)) V V V)<|mv (.bool false) V V<|wk V<|wk V<|wa V (zae (v:=(.bool false)) V V V)<|mv (.bool false) V V<|?_;refine wk V<|wk V<|wa V (zae (v:=(.bool false)) V V V)<|mv (.bool false) V V<|wk V<|wk V<|wa V (zae (v:=(.bool false)) V V V)<|mv (.bool false) V V<|?_;refine wk V<|wk V<|wk V<|wk V<|wk V<|wk V<|wk V<|wk V<|wa V (zae (v:=(.bool false)) V V V)<|av (.bool false) V V<|wnt<|W_ret<|?_;obtain rfl:=osi c;refine rt1 (.bool false) V V V aK ?_;exact ⟨rfl,aA⟩
  replace c:=(if_neg (ne_true_of_eq_false dE)).symm.trans c;refine wk V<|wk V<|wa V (zae (v:=(.bool false)) V V V)<|mv (.bool false) V V<|wk V<|wk V<|wa V (zae (v:=(.bool false)) V V V)<|mv (.bool false) V V<|?_;refine wk V<|wk V<|wa V (zae (v:=(.bool false)) V V V)<|mv (.bool false) V V<|wk V<|wk V<|wa V (zae (v:=(.bool false)) V V V)<|mv (.bool false) V V<|?_;refine wk V<|wk V<|wa V (zae (v:=(.bool false)) V V V)<|mv (.bool false) V V<|wk V<|wk V<|wk V<|wk V<|?_;refine wk V<|wk V<|wk V<|wk V<|wa V (zae (v:=(.bool false)) V V V)<|av (.bool false) V V<|wnt<|W_ret<|?_;obtain rfl:=osi c;refine rt1 (.bool false) V V V aK ?_;exact ⟨rfl,aA⟩
 replace c:=ifn dD c;refine wk V<|wk V<|wk V<|wk V<|wk V<|wa V (zae (v:=(.bool false)) V V V)<|mv (.bool false) V V<|wk V<|?_;refine wk V<|wa V (zae (v:=(.bool false)) V V V)<|mv (.bool false) V V<|wk V<|wk V<|wa V (zae (v:=(.bool false)) V V V)<|mv (.bool false) V V<|wk V<|?_;refine wk V<|wa V (zae (v:=(.bool false)) V V V)<|mv (.bool false) V V<|wk V<|wk V<|wa V (zae (v:=(.bool false)) V V V)<|mv (.bool false) V V<|wk V<|?_;refine wk V<|wa V (zae (v:=(.bool false)) V V V)<|mv (.bool false) V V<|wk V<|wk V<|wk V<|wk V<|wk V<|?_;refine wk V<|wk V<|wk V<|wa V (zae (v:=(.bool false)) V V V)<|av (.bool false) V V<|wnt<|W_ret<|?_;obtain rfl:=osi c;refine rt1 (.bool false) V V V aK ?_;exact ⟨rfl,aA⟩
end Gk

/- The law StripeForms. No condition. -/
namespace Gk
open Gf
theorem Spread_none (s:List Int) (b r:List UInt8) (hs:lenA 4 s=some ()):zav s false b r=some ([],1):=by
 unfold zav
 rw [hs,obs]
 unfold zbk
 rw [if_pos (by rfl),obs,if_neg (by decide)]
section
variable {m t n c : Nat}
theorem check_form (h:OkS m t n c) (r:List UInt8) (hr:r.length≠needS m t):zbk (shp m t n c) true r=some 3:=by
 unfold zbk
 rw [if_neg (by decide),lenS,obs,zf0 h,obs,if_neg (by decide),obs,Need_ok h,obs,if_neg (by omega)]
theorem Spread_form (h:OkS m t n c) (b r:List UInt8) (hb:¬ (b.length=440/\r.length=needS m t)):zav (shp m t n c) true b r=some ([],3):=by
 unfold zav
 rw [lenS,obs]
 by_cases hr:r.length=needS m t
 ·rw [checkS h r hr,obs,if_pos rfl,if_neg (by omega)]
 ·rw [check_form h r hr,obs,if_neg (by decide)]
theorem Fresh_form (h:OkS m t n c) (r:List (List UInt8)) (q:List UInt8) (hq:q.length=needS m t) (hr:r.length=n) (hb:∃ x∈r,x.length≠rowSz m t):zc4 (shp m t n c) true r q=some ([],3):=by
 have hany:anyO (fun y=>zb9 y (shp m t n c)) r=some (r.any fun q=>decide (q.length≠rowSz m t)):=zim _ _ _ fun q _=>by
  unfold zb9
  rw [lenS,obs,RowSize_ok h,obs]
  by_cases e:q.length=rowSz m t
  ·rw [decide_eq_true (by omega),decide_eq_false (by simp [e])];rfl
  ·rw [decide_eq_false (by omega),decide_eq_true e];rfl
 have hn:=h.n255
 unfold zc4
 rw [lenS,obs,checkS h q hq,obs,if_pos rfl,ixS2,obs,if_pos (by omega),zem (by omega),obs,hany,obs,lens_bad _ _ hb,if_pos rfl]
end
def rightB (mode t n c:Int):Bool:=decide ((mode=0∨mode=1)/\1<=t/\t<=n/\n<=255/\0<=c/\c<=127)
theorem Right_any (mode t n c:Int):zbb [mode,t,n,c]=some (rightB mode t n c):=by
 unfold zbb rightB
 rw [show idx [mode,t,n,c] 0=some mode by rfl,show idx [mode,t,n,c] 1=some t by rfl,show idx [mode,t,n,c] 2=some n by rfl,show idx [mode,t,n,c] 3=some c by rfl]
 simp only [obs]
 by_cases h1:0<=mode
 ·rw [if_pos h1]
  by_cases h2:mode<2
  ·rw [if_pos h2]
   by_cases h3:1<=t
   ·rw [if_pos h3]
    by_cases h4:t<=n
    ·rw [if_pos h4]
     by_cases h5:n<=255
     ·rw [if_pos h5]
      by_cases h6:0<=c
      ·rw [if_pos h6]
       by_cases h7:c<=127
       ·rw [decide_eq_true h7,decide_eq_true (by omega)]
       ·rw [decide_eq_false h7,decide_eq_false (by omega)]
      ·rw [if_neg h6,decide_eq_false (by omega)]
     ·rw [if_neg h5,decide_eq_false (by omega)]
    ·rw [if_neg h4,decide_eq_false (by omega)]
   ·rw [if_neg h3,decide_eq_false (by omega)]
  ·rw [if_neg h2,decide_eq_false (by omega)]
 ·rw [if_neg h1,decide_eq_false (by omega)]
theorem lawRight (mode t n c:Int):(if mode=0 then
(if 1<=t then
(if t<=n then
(if n<=255 then
(if 0<=c then some (decide (c<=127))
else some false)
else some false)
else some false)
else some false)
else
(if mode=1 then
(if 1<=t then
(if t<=n then
(if n<=255 then
(if 0<=c then some (decide (c<=127))
else some false)
else some false)
else some false)
else some false)
else some false))=some (rightB mode t n c):=by
 have core:(mode=0∨mode=1)->(if 1<=t then (if t<=n then (if n<=255 then (if 0<=c then some (decide (c<=127)) else some false) else some false) else some false) else some false)=some (rightB mode t n c):=fun h0=>by
  unfold rightB
  by_cases h3:1<=t
  ·rw [if_pos h3]
   by_cases h4:t<=n
   ·rw [if_pos h4]
    by_cases h5:n<=255
    ·rw [if_pos h5]
     by_cases h6:0<=c
     ·rw [if_pos h6]
      by_cases h7:c<=127
      ·rw [decide_eq_true h7,decide_eq_true ⟨h0,h3,h4,h5,h6,h7⟩]
      ·rw [decide_eq_false h7,decide_eq_false (fun h=>h7 h.2.2.2.2.2)]
     ·rw [if_neg h6,decide_eq_false (fun h=>h6 h.2.2.2.2.1)]
    ·rw [if_neg h5,decide_eq_false (fun h=>h5 h.2.2.2.1)]
   ·rw [if_neg h4,decide_eq_false (fun h=>h4 h.2.2.1)]
  ·rw [if_neg h3,decide_eq_false (fun h=>h3 h.2.1)]
 by_cases h0:mode=0
 ·rw [if_pos h0];exact core (.inl h0)
 ·rw [if_neg h0]
  by_cases h1:mode=1
  ·rw [if_pos h1];exact core (.inr h1)
  ·rw [if_neg h1]
   unfold rightB
   rw [decide_eq_false (fun h=>h.1.elim h0 h1)]
theorem Size_bad (mode t n c:Int) (h:rightB mode t n c=false):za6 [mode,t,n,c]=some 0:=by
 unfold za6
 rw [show lenA 4 [mode,t,n,c]=some () by rfl,obs,Right_any,h,obs,if_pos (by rfl)]
theorem Need_bad (mode t n c:Int) (h:rightB mode t n c=false):zba [mode,t,n,c]=some 0:=by
 unfold zba
 rw [show lenA 4 [mode,t,n,c]=some () by rfl,obs,Right_any,h,obs,if_pos (by rfl)]
theorem Gather_nil (mode t n c:Int):∃ x,zak [mode,t,n,c] true [] []=some x/\(rightB mode t n c=false->x.2=2):=by
 unfold zak
 rw [if_neg (by decide),if_pos (by rfl),show lenA 4 [mode,t,n,c]=some () by rfl,obs,Right_any,obs]
 cases h:rightB mode t n c with
 | false=>exact ⟨_,by rw [if_pos (by rfl)],fun _=>rfl⟩
 | true =>
  have ht:1<=t:=(of_decide_eq_true h).2.1
  refine ⟨_,by
   rw [if_neg (by decide),zem (by decide),obs,show anyO (fun y10=>za0 y10 [mode,t,n,c]) []=some false from rfl,obs,if_neg (by decide),zem (by decide),obs,show anyO (fun y10=>zbo y10 [mode,t,n,c]) []=some false from rfl,obs,if_neg (by decide),show idx [mode,t,n,c] 1=some t by rfl,obs,if_pos (by simp;omega)],fun h2=>by cases h2⟩
def atI (n:Nat):List Int:=(List.range n).map fun (i:Nat)=>((i+1:Nat):Int)
theorem atI_len (n:Nat):(atI n).length=n:=by simp [atI]
theorem atI_get {n i:Nat} (h:i<n):(atI n).getD i 0=((i+1:Nat):Int):=by simp [atI,List.getD_eq_getElem?_getD,h]
theorem atI_good (n:Nat):∀ x∈atI n,goodP n x:=fun x hx=>by
 obtain ⟨i,hi,rfl⟩:=List.mem_map.1 hx
 have:=List.mem_range.1 hi
 unfold goodP;omega
theorem ptsX_atI (n:Nat):ptsX (atI n)=plc n:=by
 unfold ptsX atI plc
 rw [List.map_map]
 exact List.map_congr_left fun i _=>zh4 _
def zeroR (n L:Nat):List (List UInt8):=List.replicate n (List.replicate L 0)
theorem made_loop {m t n c:Nat} (h:OkS m t n c):iterC (fun s80:List (List UInt8)×List Int×Int =>
(if s80.2.2<((List.replicate n ([]:List UInt8)).length:Int) then
((lenA 4 (shp m t n c)).bind fun c83 =>
((za6 (shp m t n c)).bind fun r84 =>
((makeL r84 (0:UInt8)).bind fun c86 =>
((idx s80.1 s80.2.2).bind fun c88 =>
((appL s80.2.1 (([(wI (s80.2.2+1))]:List Int))).bind fun c93 => some (.inl ((s80.1.set (s80.2.2:Int).toNat c86),c93,(wI (s80.2.2+1)))))))))
else some (.inr (s80.1,s80.2.1)))) (List.replicate n [],([]:List Int),0)=some (zeroR n (rowSz m t),atI n):=by
 have hm:1000<=most:=by decide
 have hm2:=zbl
 have hn:=h.n255
 obtain ⟨z1,z2⟩:=rowSz_pos h
 refine zas (fun i=>(updR (List.replicate n []) (fun _=>List.replicate (rowSz m t) 0) i,atI i,(i:Int))) n _ ?_ (fun i hi=>?_) ?_
 ·rw [updR_zero];rfl
 ·simp only
  have hU:=zid (List.replicate n ([]:List UInt8)) (fun _=>List.replicate (rowSz m t) 0) i
  rw [List.length_replicate] at hU
  rw [List.length_replicate,if_pos (by omega),lenS,obs,RowSize_ok h,obs,zbu _ _ (by omega),obs,zc8 (by omega),obs,za3 i (by omega),ze1 _ _ (by rw [atI_len];simp;omega) rfl,obs,Int.toNat_natCast,updR_succ _ _ _ (by simpa using hi)]
  congr 4
  unfold atI
  rw [List.range_succ,List.map_append];rfl
 ·simp only
  rw [List.length_replicate,if_neg (by omega)]
  have:=updR_end (List.replicate n ([]:List UInt8)) (fun _=>List.replicate (rowSz m t) (0:UInt8))
  rw [List.length_replicate] at this
  rw [this]
  congr 2
  congr 1
  unfold zeroR
  rw [List.map_const'];simp
theorem zeroR_len (n L:Nat):(zeroR n L).length=n:=by simp [zeroR]
theorem zeroR_mem (n L:Nat):∀ q∈zeroR n L,q.length=L:=fun q hq=>by rw [List.eq_of_mem_replicate hq];simp
theorem clm_zeroR (n L k:Nat):clm (zeroR n L) k n=List.replicate n 0:=by
 refine zcx (by simp [clm]) fun i=>?_
 rw [co_rep]
 by_cases h:i<n
 ·rw [co_clm _ _ _ _ h]
  unfold zeroR
  rw [getD_rep _ h,co_rep]
 ·rw [co_ge (by rw [clm_len];omega)]
theorem law17_StripeForms_true (mode t n c size need place : Int) (few : Bool) (l0 : -9223372036854775808 <= mode) (h0 : mode <= 9223372036854775807) (l1 : -9223372036854775808 <= t) (h1 : t <= 9223372036854775807) (l2 : -9223372036854775808 <= n) (h2 : n <= 9223372036854775807) (l3 : -9223372036854775808 <= c) (h3 : c <= 9223372036854775807) (l4 : -9223372036854775808 <= size) (h4 : size <= 9223372036854775807) (l5 : -9223372036854775808 <= need) (h5 : need <= 9223372036854775807) (l6 : -9223372036854775808 <= place) (h6 : place <= 9223372036854775807) : zd3 mode t n c size need place few = some true := by
  unfold zd3
  have hm : 4000 <= most := by decide
  have hm2 := zbl
  have h4s : lenA 4 [mode, t, n, c] = some () := by rfl
  rw [lives17, obs, if_neg (by decide), field_New, obs, show lenA 4 (List.replicate 4 (0 : Int)) = some () by rfl, obs, h4s, obs, lawRight, obs, obs, Right_any, obs, if_neg (by cases rightB mode t n c <;> decide)]
  cases hr : rightB mode t n c with
  | false =>
    rw [if_pos (by rfl), Size_bad _ _ _ _ hr, obs, Need_bad _ _ _ _ hr, obs, if_pos (by rfl), obs, Sum.elim_inl]
    obtain ⟨x, ex, hx⟩ := Gather_nil mode t n c
    rw [if_pos (by rfl), obs, if_pos (by rfl), obs, ex, obs, if_neg (by decide), decide_eq_true (hx hr), obs, Sum.elim_inr]
  | true =>
    rw [if_neg (by decide), obs, Sum.elim_inl, if_neg (by decide), obs]
    have hR := of_decide_eq_true hr
    obtain ⟨hmo, ht1, htn, hn255, hc0, hc127⟩ := hR
    by_cases h7 : 7 < n
    · obtain ⟨x, ex, hx⟩ := Gather_nil mode t n c
      rw [decide_eq_true h7, if_pos rfl, obs, ex, obs, if_pos rfl, obs, Sum.elim_inr]
    · rw [decide_eq_false h7, if_neg (by decide), obs, Sum.elim_inl]
      obtain ⟨m', rfl⟩ : ∃ k : Nat, mode = (k : Int) := ⟨mode.toNat, by omega⟩
      obtain ⟨t', rfl⟩ : ∃ k : Nat, t = (k : Int) := ⟨t.toNat, by omega⟩
      obtain ⟨n', rfl⟩ : ∃ k : Nat, n = (k : Int) := ⟨n.toNat, by omega⟩
      obtain ⟨c', rfl⟩ : ∃ k : Nat, c = (k : Int) := ⟨c.toNat, by omega⟩
      have hok : OkS m' t' n' c' := ⟨by omega, by omega, by omega, by omega, by omega⟩
      rw [show ([(m' : Int), (t' : Int), (n' : Int), (c' : Int)] : List Int) = shp m' t' n' c' from rfl]
      obtain ⟨sz, hsz, esz⟩ := mod_natq size 900 (by decide) (by decide)
      obtain ⟨nd, hnd, end_⟩ := mod_natq need 4000 (by decide) (by decide)
      have hsz' : sz < 900 := hsz
      have hnd' : nd < 4000 := hnd
      rw [esz, end_]
      obtain ⟨z1, z2⟩ := rowSz_pos hok
      have hS : ∃ q : List (List UInt8) × Int, zav (shp m' t' n' c') true (List.replicate sz 0) (List.replicate nd 0) = some q /\ ((q.2 = 0 /\ sz = 440 /\ nd = needS m' t') ∨ (q.2 = 3 /\ ¬ (sz = 440 /\ nd = needS m' t'))) := by
        by_cases hb : sz = 440 /\ nd = needS m' t'
        · exact ⟨_, Spread_ok hok _ _ (by rw [List.length_replicate]; exact hb.1) (by rw [List.length_replicate]; exact hb.2), .inl ⟨rfl, hb⟩⟩
        · exact ⟨_, Spread_form hok _ _ (by rw [List.length_replicate, List.length_replicate]; exact hb), .inr ⟨rfl, hb⟩⟩
      obtain ⟨q, eq, hq⟩ := hS
      have hX : (if (sz : Int) = 440 then
((lenA 4 (shp m' t' n' c')).bind fun c66 =>
((zba (shp m' t' n' c')).bind fun r67 =>
(if (!(((decide (q.2 = 0))) == ((decide ((nd : Int) = r67))))) = true then some (.inr false)
else
(if q.2 = 0 then some (.inl ())
else
(if q.2 = 3 then some (.inl ())
else some (.inr false))))))
else
(if (!(((decide (q.2 = 0))) == false)) = true then some (.inr false)
else
(if q.2 = 0 then some (.inl ())
else
(if q.2 = 3 then some (.inl ())
else some (.inr false))))) = some ((.inl ()) : Unit ⊕ Bool) := by
        rw [lenS, Need_ok hok]
        simp only [obs]
        rcases hq with ⟨e0, e1, e2⟩ | ⟨e0, e1⟩
        · rw [if_pos (by omega), e0, decide_eq_true (by rfl), decide_eq_true (by omega), if_neg (by decide), if_pos rfl]
        · rw [e0]
          by_cases e2 : sz = 440
          · rw [if_pos (by omega), decide_eq_false (by decide), decide_eq_false (by omega), if_neg (by decide), if_neg (by decide), if_pos rfl]
          · rw [if_neg (by omega), decide_eq_false (by decide), if_neg (by decide), if_neg (by decide), if_pos rfl]
      rw [obs, zbu _ _ (by omega), obs, zbu _ _ (by omega), obs, eq, obs, obs]
      rw [lenS] at hX
      refine zbp hX ?_
      rw [Sum.elim_inl, zbu _ _ (by omega), obs]
      have hml := made_loop hok
      rw [lenS] at hml
      refine zbp hml ?_
      simp only
      have hzl := zeroR_len n' (rowSz m' t')
      have hal := atI_len n'
      have htk : ∀ {α : Type} (l : List α), l.length = n' -> subL l 0 (wI ((t' : Int) - 1)) = some (l.take (t' - 1)) := fun l hl => by
        rw [zib t' (by omega) (by omega)]
        exact subL_0m l (t' - 1) (by omega)
      by_cases hf : few = true
      · rw [if_pos hf, htk _ hzl, obs, htk _ hal, obs, obs, Gather_few hok _ _ (by rw [List.length_take, List.length_take, hal, hzl]) (by rw [List.length_take]; omega) (fun x hx => atI_good n' x (List.mem_of_mem_take hx)) (fun q hq => zeroR_mem _ _ q (List.mem_of_mem_take hq)) (by rw [List.length_take]; omega), obs]
        rfl
      · rw [if_neg hf, show idx (atI n') 0 = some ((atI n').getD 0 0) from idx_gS (k := 0) (by omega), obs, obs]
        obtain ⟨p, hp⟩ : ∃ p, p = (atI n').set 0 place := ⟨_, rfl⟩
        have hpl : p.length = n' := by rw [hp, List.length_set, hal]
        rw [show (atI n').set (0 : Int).toNat place = p from hp.symm]
        have hpg : goodP n' place -> ∀ x ∈ p, goodP n' x := fun hg x hx => by
          rw [hp] at hx
          rcases List.mem_or_eq_of_mem_set hx with h | h
          · exact atI_good n' x h
          · rw [h]; exact hg
        have hpb : ¬ goodP n' place -> ∃ x ∈ p, ¬ goodP n' x := fun hg => ⟨place, by rw [hp]; exact List.mem_of_getElem? (i := 0) (by rw [List.getElem?_set_self (by omega)]), hg⟩
        obtain ⟨W, hW⟩ : ∃ W : Int, (if place < 1 then some 2 else (if (n' : Int) < place then some 2 else (if 1 < place then some 6 else some 0))) = some W /\ ((¬ goodP n' place /\ W = 2) ∨ (goodP n' place /\ 1 < place /\ W = 6) ∨ (goodP n' place /\ place = 1 /\ W = 0)) := by
          unfold goodP
          by_cases a1 : place < 1
          · exact ⟨2, by rw [if_pos a1], .inl ⟨by omega, rfl⟩⟩
          · by_cases a2 : (n' : Int) < place
            · exact ⟨2, by rw [if_neg a1, if_pos a2], .inl ⟨by omega, rfl⟩⟩
            · by_cases a3 : 1 < place
              · exact ⟨6, by rw [if_neg a1, if_neg a2, if_pos a3], .inr (.inl ⟨by omega, a3, rfl⟩)⟩
              · exact ⟨0, by rw [if_neg a1, if_neg a2, if_neg a3], .inr (.inr ⟨by omega, by omega, rfl⟩)⟩
        have hG : ∃ g, zak (shp m' t' n' c') true p (zeroR n' (rowSz m' t')) = some g /\ g.2 = W := by
          rcases hW.2 with ⟨b1, b2⟩ | ⟨b1, b2, b3⟩ | ⟨b1, b2, b3⟩
          · exact ⟨_, Gather_range hok _ _ (by omega) (by omega) (hpb b1), b2.symm⟩
          · have hnd2 : ¬ (ptsX p).Nodup := by
              obtain ⟨j, hj⟩ : ∃ j : Nat, place = ((j + 1 : Nat) : Int) /\ 0 < j /\ j < n' := ⟨(place - 1).toNat, by unfold goodP at b1; omega⟩
              intro hN
              have e1 : p.getD 0 0 = place := by rw [hp]; simp [List.getD_eq_getElem?_getD, show 0 < (atI n').length by omega]
              have e2 : p.getD j 0 = place := by
                have : p.getD j 0 = (atI n').getD j 0 := by
                  rw [hp]; simp only [List.getD_eq_getElem?_getD]
                  rw [List.getElem?_set_ne (by omega)]
                rw [this, atI_get hj.2.2, hj.1]
              have g1 : p[0]? = some place := by
                have : 0 < p.length := by omega
                simp [List.getD_eq_getElem?_getD, this] at e1; simp [this, e1]
              have g2 : p[j]? = some place := by
                have : j < p.length := by omega
                simp [List.getD_eq_getElem?_getD, this] at e2; simp [this, e2]
              have k1 : (ptsX p)[0]? = some (UInt8.ofInt place) := by unfold ptsX; rw [List.getElem?_map, g1]; rfl
              have k2 : (ptsX p)[j]? = some (UInt8.ofInt place) := by unfold ptsX; rw [List.getElem?_map, g2]; rfl
              have hlp : (ptsX p).length = n' := by simp [ptsX, hpl]
              have := (List.getElem?_inj (by omega) hN).1 (k1.trans k2.symm)
              omega
            have hcode : mcode (t' : Int) (ptsX p) ((zeroR n' (rowSz m' t')).length : Int) (c' : Int) = 6 := by
              have hlp : (ptsX p).length = n' := by simp [ptsX, hpl]
              unfold mcode
              rw [if_pos (by omega), if_neg (by omega), if_neg (by omega), if_neg (by omega), if_neg (by omega), if_neg hnd2]
            exact ⟨_, Gather_code hok _ _ (by omega) (by omega) (hpg b1) (zeroR_mem _ _) (by omega) (by rw [hcode]; decide), by rw [hcode, b3]⟩
          · have hpe : p = atI n' := by
              rw [hp, b2]
              refine List.ext_getElem? fun i => ?_
              rw [List.getElem?_set]
              by_cases hi : 0 = i
              · subst hi
                rw [if_pos rfl]
                have : 0 < n' := by omega
                simp [atI, this]
              · rw [if_neg hi]
            have hcode : mcode (t' : Int) (ptsX p) ((zeroR n' (rowSz m' t')).length : Int) (c' : Int) = 0 := by
              rw [hpe, ptsX_atI]
              have hlp := plc_len n'
              unfold mcode
              rw [if_pos (by omega), if_neg (by omega), if_neg (by omega), if_neg (by omega), if_neg (by omega), if_pos (plc_nodup n' (by omega))]
            rcases Gather_spec hok p (zeroR n' (rowSz m' t')) (by omega) (by omega) (hpg b1) (zeroR_mem _ _) (by omega) hcode with ⟨R, eR, _⟩ | ⟨_, k, hk, hkb⟩
            · exact ⟨_, eR, b3.symm⟩
            · have hlp : (ptsX p).length = n' := by simp [ptsX, hpl]
              refine absurd ?_ (hkb [])
              rw [hlp, clm_zeroR]
              have : wrg (ptsX p) (List.replicate n' 0) [] (ptsX p).length = 0 := wrg_zero _ fun i hi => by rw [co_rep]; simp [evp]
              exact ⟨Nat.zero_le _, by omega, by omega⟩
        obtain ⟨g, eg, hg⟩ := hG
        rw [eg, obs, hW.1, obs, idx_0 (by omega), obs]
        have hz0 : (zeroR n' (rowSz m' t')).getD 0 [] = List.replicate (rowSz m' t') 0 := by unfold zeroR; rw [getD_rep _ (by omega)]
        have hsub1 : subL ((zeroR n' (rowSz m' t')).getD 0 []) 1 ((((zeroR n' (rowSz m' t')).getD 0 []).length : Nat) : Int) = some (List.replicate (rowSz m' t' - 1) 0) := by
          rw [hz0, List.length_replicate]
          have := zd6 (List.replicate (rowSz m' t') (0 : UInt8)) 1 (rowSz m' t') z1 (by simp)
          rw [show ((1 : Nat) : Int) = 1 from rfl] at this
          rw [this]; simp
        rw [hsub1, obs]
        obtain ⟨r2, hr2⟩ : ∃ r2, r2 = (zeroR n' (rowSz m' t')).set 0 (List.replicate (rowSz m' t' - 1) 0) := ⟨_, rfl⟩
        rw [show (zeroR n' (rowSz m' t')).set (0 : Int).toNat (List.replicate (rowSz m' t' - 1) 0) = r2 from hr2.symm]
        have hr2l : r2.length = n' := by rw [hr2, List.length_set, hzl]
        have hr2b : ∃ q ∈ r2, q.length ≠ rowSz m' t' := ⟨List.replicate (rowSz m' t' - 1) 0, by rw [hr2]; exact List.mem_of_getElem? (i := 0) (by rw [List.getElem?_set_self (by omega)]), by simp; omega⟩
        have hG2 : ∃ g2, zak (shp m' t' n' c') true p r2 = some g2 /\ (decide (g2.2 = 3) == !decide (W = 2)) = true := by
          by_cases b : goodP n' place
          · refine ⟨_, Gather_form hok _ _ (by omega) (by omega) (hpg b) hr2b, ?_⟩
            rcases hW.2 with ⟨b1, b2⟩ | ⟨b1, b2, b3⟩ | ⟨b1, b2, b3⟩
            · exact absurd b b1
            · rw [b3]; decide
            · rw [b3]; decide
          · refine ⟨_, Gather_range hok _ _ (by omega) (by omega) (hpb b), ?_⟩
            rcases hW.2 with ⟨b1, b2⟩ | ⟨b1, b2, b3⟩ | ⟨b1, b2, b3⟩
            · rw [b2]; decide
            · exact absurd b1 b
            · exact absurd b1 b
        obtain ⟨g2, eg2, hg2⟩ := hG2
        have hsub2 : subL r2 1 (r2.length : Int) = some (r2.drop 1) := by
          have := zd6 r2 1 r2.length (by omega) (Nat.le_refl _)
          rwa [show ((1 : Nat) : Int) = 1 from rfl, List.take_length] at this
        rw [obs, eg2, obs, obs, hsub2, obs, Gather_lens _ _ _ (by simp; omega), obs, obs, Gather_none, obs, obs, Need_ok hok, obs, zbu _ _ (by unfold needS; split <;> omega), obs, Fresh_form hok r2 _ (by simp) hr2l hr2b, obs, obs, show makeL 440 (0 : UInt8) = some (List.replicate 440 0) from zbu 440 _ (by omega), obs, obs, zbu _ _ (by unfold needS; split <;> omega), obs, Spread_none _ _ _ lenS, obs, obs]
        have n1 : zeq (none : Option (List Int × Bool × (Option (Bool × List UInt8 × List (List UInt8) × List Int)) × List (List UInt8) × List Int)) = some ([], 1) := by unfold zeq; rw [if_pos (by rfl)]
        have n2 : zhw (none : Option (List Int × Bool × (Option (Bool × List UInt8 × List (List UInt8) × List Int)) × List (List UInt8) × List Int)) 1 = some [] := by unfold zhw; rw [if_pos (by rfl)]
        have n3 : zfu (none : Option (List Int × Bool × (Option (Bool × List UInt8 × List (List UInt8) × List Int)) × List (List UInt8) × List Int)) = some [] := by unfold zfu; rw [if_pos (by rfl)]
        rw [n1, obs, if_pos hg, if_pos hg2, if_pos rfl, if_pos rfl, if_pos rfl, if_pos rfl, if_pos rfl, n2, obs, n3, obs]
        rfl
end Gk

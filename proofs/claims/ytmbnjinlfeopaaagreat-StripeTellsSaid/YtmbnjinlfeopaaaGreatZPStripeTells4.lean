/- Parts F6, Qg, F7b, F7c, Pk, Pl, R7, Pm, Pn, Po, F11, L11, Qi, F4, L8a, F9, L9a, L9d, Mq, Mr0, Mu0, Mw, Mx0, Na, Ng, Nk, Hs, one behind the other. What is proved: said at the head of each part. No condition beside those said there. -/
import Derived.Test.YtmbnjinlfeopaaaGreatRows
import Derived.Orders
import Derived.Deep.Draws
import Derived.Laws.World
import Derived.KernelRfl
import Derived.OrdersIn
import Derived.TacticsIn
import Derived.RangeFuncCalls
import Derived.Deep.LoopGhost
import Derived.Tactics
import Derived.Sort.LoopGhostIn
import Derived.RangeFuncLeaves
import Derived.RangeFuncNested
import Derived.RangeFuncRecord
import Derived.Laws.Sem
import Derived.OwnWalk
import Derived.RangeFuncWrites
import Derived.Laws.IdiomCopy
import Derived.WalkKit
import Derived.ProofKit
import Derived.OpenShut
import Derived.ChangeOld
import Derived.Below
import Derived.Test.YtmbnjinlfeopaaaGreatProg
import Derived.MapKept
import Derived.Lib.AppendZerosOnto
import Derived.Laws.CopyRow
import Derived.Laws.Cells
import Derived.Lib.SlBytesConst
import Derived.Test.YtmbnjinlfeopaaaGreatZPStripeTells1
import Derived.Test.YtmbnjinlfeopaaaGreatZPStripeTells2
import Derived.Test.YtmbnjinlfeopaaaGreatZPStripeTells3
set_option maxRecDepth 100000
set_option maxHeartbeats 8000000
set_option linter.unusedVariables false
set_option linter.unusedSimpArgs false
/- Printed by gen.py: for each Go function a pure function, and that the Go code comes to it. No condition beside the equation that says what the pure function gives. -/
namespace Gk
open Go Go.Proofs
noncomputable def zfv (e:Option Cip) (f:List UInt8) (a:Int) (b:Int):Option (List UInt8×Int) :=
(if e.isNone=true then some (([]:List UInt8),1)
else
(if (f.length:Int)=8 then
(if a<0 then some (([]:List UInt8),2)
else
(if b<0 then some (([]:List UInt8),2)
else
(if 1073741824<a then some (([]:List UInt8),2)
else
(if 1048576<b then some (([]:List UInt8),2)
else
((divI a 16).bind fun m =>
((iterC (fun c:List UInt8×Int =>
((remI a 16).bind fun g =>
(if (c.1.length:Int)<(wI (g+b)) then
((zb9 f (UInt64.ofInt c.2)).bind fun o =>
((zee e o).bind fun d =>
(if d.2=0 then
((appL c.1 d.1).bind fun h => some (.inl (h,wI (c.2+1))))
else some (.inr (.inr (([]:List UInt8),d.2))))))
else some (.inr (.inl c.1))))) (([]:List UInt8),m)).bind (Sum.elim (fun p =>
(if b=0 then some (([]:List UInt8),0)
else
((remI a 16).bind fun i =>
((remI a 16).bind fun j =>
((remI a 16).bind fun k =>
((subL3 p i (wI (j+b)) (wI (k+b))).bind fun l => some (l,0))))))) (fun n=>some n))))))))
else some (([]:List UInt8),3)))
theorem stream_Bytes_calls (y:Option Cip) (z:List UInt8) (g:Int) (e:Int) (p:Value) (q:Value) (U:List UInt8×Int) (w0:World) (a9:Ci w0 [] p y) (aA:By w0 [] q z) (d:zfv y z g e=some U) :
  Calls Tryz.prog 114 [p,q,i64 g,i64 e].toArray w0 (fun aK aH=>∃ a3:Value,aK=.returned (.tuple #[a3,i64 U.2])/\Ext w0 aH/\Nw w0 a3/\By aH [] a3 U.1):=by
 have i:Ext w0 w0:=Ext.refl w0;unfold zfv at d;refine zai (n:=76) Tryz.func114 V V V<|W_sr<|av (.slice none 0 0) V V<|av (i64 0) V V<|wnt<|W_seq<|zac<|W_seq<|W_rg<|mv p V V<|wa V (q_eqC V V V V (a9.lift (le_ i)))<|av (.bool y.isNone) V V<|wnt<|zak _ V V (fun J=>?_) (fun J=>?_)
 ·replace d:=(if_pos J).symm.trans d;refine W_sr<|av (.slice none 0 0) V V<|av (i64 1) V V<|wnt<|W_ret<|bk_r<|th_r<|?_;obtain rfl:=osi d;refine rt2 (.slice none 0 0) (i64 1) V V V V V V ?_;exact ⟨.slice none 0 0,rfl,i,Nw.nil _,SlK.nil _ _ _⟩
 replace d:=(if_neg (ne_true_of_eq_false J)).symm.trans d;refine W_sr<|mv q V V<|wa V (q_len V T22.sl V (aA.lift (le_ i)))<|wa V (q_neI V V V)<|av (.bool (!decide ((z.length:Int)=8))) V V<|wnt<|zak _ V V (fun M=>?_) (fun M=>?_)
 ·replace d:=(if_neg (zbf M)).symm.trans d;refine W_sr<|av (.slice none 0 0) V V<|av (i64 3) V V<|wnt<|W_ret<|bk_r<|th_r<|?_;obtain rfl:=osi d;refine rt2 (.slice none 0 0) (i64 3) V V V V V V ?_;exact ⟨.slice none 0 0,rfl,i,Nw.nil _,SlK.nil _ _ _⟩
 replace d:=(if_pos (zbd M)).symm.trans d;refine W_sr<|mv (i64 g) V V<|wa V (q_ltI V V V)<|wlb V V (za5 (v:=(.bool (decide (g<0)))) V V) (fun N=>?_) (fun N=>?_)
 ·replace d:=ifp N d;refine wk V<|wk V<|wa V (zaq (v:=(.bool true)) V V V)<|mv (.bool true) V V<|wk V<|wk V<|wa V (zaq (v:=(.bool true)) V V V)<|mv (.bool true) V V<|wk V<|wk V<|wa V (zaq (v:=(.bool true)) V V V)<|av (.bool true) V V<|wnt<|zak true V V (fun _=>?_) (fun t=>by cases t);refine W_sr<|av (.slice none 0 0) V V<|av (i64 2) V V<|wnt<|W_ret<|bk_r<|th_r<|?_;obtain rfl:=osi d;refine rt2 (.slice none 0 0) (i64 2) V V V V V V ?_;exact ⟨.slice none 0 0,rfl,i,Nw.nil _,SlK.nil _ _ _⟩
 replace d:=ifn N d;refine mv (i64 e) V V<|wa V (q_ltI V V V)<|wa V (zap (v:=(.bool (decide (e<0)))) V V V)<|wlb V V (za5 (v:=(.bool (decide (e<0)))) V V) (fun O=>?_) (fun O=>?_)
 ·replace d:=ifp O d;refine wk V<|wk V<|wa V (zaq (v:=(.bool true)) V V V)<|mv (.bool true) V V<|wk V<|wk V<|wa V (zaq (v:=(.bool true)) V V V)<|av (.bool true) V V<|wnt<|zak true V V (fun _=>?_) (fun t=>by cases t);refine W_sr<|av (.slice none 0 0) V V<|av (i64 2) V V<|wnt<|W_ret<|bk_r<|th_r<|?_;obtain rfl:=osi d;refine rt2 (.slice none 0 0) (i64 2) V V V V V V ?_;exact ⟨.slice none 0 0,rfl,i,Nw.nil _,SlK.nil _ _ _⟩
 replace d:=ifn O d;refine mv (i64 g) V V<|wa V (q_gtI V V V)<|wa V (zap (v:=(.bool (decide (1073741824<g)))) V V V)<|wlb V V (za5 (v:=(.bool (decide (1073741824<g)))) V V) (fun P=>?_) (fun P=>?_)
 ·replace d:=ifp P d;refine wk V<|wk V<|wa V (zaq (v:=(.bool true)) V V V)<|av (.bool true) V V<|wnt<|zak true V V (fun _=>?_) (fun t=>by cases t);refine W_sr<|av (.slice none 0 0) V V<|av (i64 2) V V<|wnt<|W_ret<|bk_r<|th_r<|?_;obtain rfl:=osi d;refine rt2 (.slice none 0 0) (i64 2) V V V V V V ?_;exact ⟨.slice none 0 0,rfl,i,Nw.nil _,SlK.nil _ _ _⟩
 replace d:=ifn P d;refine mv (i64 e) V V<|wa V (q_gtI V V V)<|wa V (zap (v:=(.bool (decide (1048576<e)))) V V V)<|av (.bool (decide (1048576<e))) V V<|wnt<|wci d V V (fun d=>?_) (fun d=>?_)
 ·refine W_sr<|av (.slice none 0 0) V V<|av (i64 2) V V<|wnt<|W_ret<|bk_r<|th_r<|?_;obtain rfl:=osi d;refine rt2 (.slice none 0 0) (i64 2) V V V V V V ?_;exact ⟨.slice none 0 0,rfl,i,Nw.nil _,SlK.nil _ _ _⟩
 refine zad<|bk_n<|W_th<|W_sr<|av (.slice none 0 0) V V<|wnt<|W_seq<|W_sr<|mv (i64 g) V V<|bse d fun aJ aS d=>wa V (q_divI V V V aS)<|av (i64 aJ) V V<|wnt<|?_;obtain ⟨b8,aI,d⟩:=bsi d;refine W_mid (fun h x=>∃ a6,b8=.inl a6/\∃ F:Value,h 2=i64 g/\h 3=i64 e/\h 10=F/\h 76=undef/\Ext w0 x/\OwK (Sc u8) x [F] 5 F a6/\Nw w0 F) ?_ ?_
 ·refine zac<|za4 (fun m h x=>∃ D:Value,h 0=p/\h 1=q/\h 2=i64 g/\h 3=i64 e/\h 10=D/\h 11=i64 m.2/\h 76=undef/\Ext w0 x/\OwK (Sc u8) x [D] 5 D m.1/\Nw w0 D) aI ?_ ?_
  ·exact ⟨.slice none 0 0,rfl,rfl,rfl,rfl,rfl,rfl,rfl,i,OwK.nil _ _ _ _,Nw.nil _⟩
  rintro m _ _ bF ⟨o,aC,aE,Z,a1,X,aD,a2,I,j,S⟩ f aB;refine W_seq<|W_sr<|mv o V X<|wa V (q_len V T22.sl V (j.rd (Sc.stab _)))<|mv (i64 g) V Z<|bse f fun b9 aN f=>wa V (zg2 V V V aN)<|mv (i64 e) V a1<|wa V (zam V V V)<|wa V (q_ltI V V V)<|wnt<|wci f V V (fun f=>?_) (fun f=>?_)
  ·refine zad<|W_th<|W_seq<|zac<|W_sr<|mv p V aC<|mv q V aE<|mv (i64 m.2) V aD<|wa V (zfl V V V V)<|?_;obtain ⟨W,aT,f⟩:=bsi f;refine wls V V (zab (vs:=[q,u64 (UInt64.ofInt m.2)]) Tryz.func85 V V V (ar2 V V) (zfy z (UInt64.ofInt m.2) q W _ (aA.lift (le_ I)) aT) ?_);rintro _ b6 ⟨G,rfl,a4,aY,b2⟩;refine ⟨_,rfl,?_⟩;have aV:By b6 [o] G W:=OwK.slk (Sc.stab _) _ (OwK.scal b2 (G::[o])) (fun k w=>(Old.cons (Old.nil _) j.lt) k (aY k w)) (fun _ s=>s.2);replace j:=j.extL (Sc.stab _) a4 (le_ a4);have a7:=I.trans a4;obtain ⟨l,aU,f⟩:=bsi f;refine wls V V (zab (vs:=[p,G]) Tryz.func135 V V V (ar2 V V) (cipher_Encrypt_calls y W p G l _ (a9.lift (le_ a7)) (aV.lift (Lift.sub (L':=[]) (fun _ _=>trivial))) aU) ?_);rintro _ b7 ⟨r,rfl,a5,aZ,b3⟩;refine ⟨_,rfl,?_⟩;have aW:By b7 [o] r l.1:=OwK.slk (Sc.stab _) _ (OwK.scal b3 (r::[o])) (fun k w=>(Old.cons (Old.nil _) j.lt) k (aZ k w)) (fun _ s=>s.2);replace j:=j.extL (Sc.stab _) a5 (le_ a5);have H:=a7.trans a5;refine mv (.tuple #[r,i64 l.2]) V V<|wa V (zaf V V V)<|wa V (zaf V V V)<|av r V V<|av (i64 l.2) V V<|wnt<|W_seq<|W_seq<|W_rg<|mv (i64 l.2) V V<|wa V (q_neI V V V)<|wnt<|zak _ V V (fun K=>?_) (fun K=>?_)
   ·replace f:=(if_neg (zbf K)).symm.trans f;refine W_sr<|mv (i64 l.2) V V<|av (.slice none 0 0) V V<|av (i64 l.2) V V<|wnt<|W_ret<|th_r<|bk_r<|th_r<|?_;obtain rfl:=osi f;obtain rfl:=aB _ rfl;simp only [Sum.elim_inr] at d;refine th_r<|bk_r<|th_r<|th_r<|?_;obtain rfl:=osi d;refine rt2 (.slice none 0 0) (i64 l.2) V V V V V a2 ?_;exact ⟨.slice none 0 0,rfl,H,Nw.nil _,SlK.nil _ _ _⟩
   replace f:=(if_pos (zbd K)).symm.trans f;refine zad<|W_th<|W_rg<|mv o V X<|mv r V V<|?_;obtain ⟨bA,aO,f⟩:=bsi f;refine wls V V (zar (R:=Sc u8) (v:=o) (u:=r) (Sc.stab _) [] [] V T22 V V j aW (fun _ _ s=>s) aO oc_u8 ?_);intro aG bD b4 aM b1 bC;have aL:=H.grown aM S;have b0:=Nw.nxt H S b1;refine av aG V V<|zah<|bk_n<|W_th<|W_rg<|mv (i64 m.2) V aD<|wa V (zam V V V)<|av (i64 (wI (m.2+1))) V V<|zah ?_;obtain rfl:=osi f;exact ⟨_,rfl,aG,aC,aE,Z,a1,rfl,rfl,a2,aL,b4,b0⟩
  refine zaz<|th_x<|?_;obtain rfl:=osi f;obtain rfl:=aB _ rfl;refine th_x<|bk_x<|?_;exact ⟨_,rfl,o,Z,a1,X,a2,I,j,S⟩
 rintro _ bE ⟨a6,rfl,E,Y,a0,b5,aF,a8,T,aX⟩;simp only [Sum.elim_inl] at d;refine W_th<|W_seq<|W_sr<|mv (i64 e) V a0<|wa V (q_eqI V V V)<|wnt<|wci d V V (fun d=>?_) (fun d=>?_)
 ·refine W_sr<|av (.slice none 0 0) V V<|av (i64 0) V V<|wnt<|W_ret<|th_r<|?_;obtain rfl:=osi d;refine rt2 (.slice none 0 0) (i64 0) V V V V V aF ?_;exact ⟨.slice none 0 0,rfl,a8,Nw.nil _,SlK.nil _ _ _⟩
 refine zad<|W_th<|W_sr<|mv E V b5<|mv (i64 g) V Y<|bse d fun A aP d=>wa V (zg2 V V V aP)<|mv (i64 g) V Y<|bse d fun B aQ d=>wa V (zg2 V V V aQ)<|mv (i64 e) V a0<|wa V (zam V V V)<|mv (i64 g) V Y<|bse d fun C aR d=>wa V (zg2 V V V aR)<|mv (i64 e) V a0<|wa V (zam V V V)<|?_;obtain ⟨bB,Q,d⟩:=bsi d;refine wa V (q_slice3 (a:=A) (b:=wI (B+e)) (c:=wI (C+e)) V T22 V (T.rd (Sc.stab _)) V V V Q)<|av (subW E (A:Int).toNat ((wI (B+e)):Int).toNat ((wI (C+e)):Int).toNat) V V<|av (i64 0) V V<|wnt<|W_ret<|?_;obtain rfl:=osi d;refine rt2 (subW E (A:Int).toNat ((wI (B+e)):Int).toNat ((wI (C+e)):Int).toNat) (i64 0) V V V V V aF ?_;exact ⟨subW E (A:Int).toNat ((wI (B+e)):Int).toNat ((wI (C+e)):Int).toNat,rfl,a8,(fun k w=>aX k (hs_cut3 (T.rd (Sc.stab _)) Q k w)),SlK.cut3 (L:=[]) (T.rd (Sc.stab _)) Q⟩
noncomputable def zie (c:Option Cip) (d:List UInt8) (b:List UInt8):Option (List UInt8×Int) :=
((zfv c d 0 (b.length:Int)).bind fun a =>
(if a.2=0 then
((zfo a.1 b).bind fun e => some (e,0))
else some (([]:List UInt8),a.2)))
theorem stream_Xor_calls (k:Option Cip) (l:List UInt8) (e:List UInt8) (f:Value) (g:Value) (c:Value) (o:List UInt8×Int) (w0:World) (x:Ci w0 [] f k) (y:By w0 [] g l) (q:By w0 [] c e) (a:zie k l e=some o) :
  Calls Tryz.prog 84 [f,g,c].toArray w0 (fun u t=>∃ p:Value,u=.returned (.tuple #[p,i64 o.2])/\Ext w0 t/\Nw w0 p/\OwK (Sc u8) t [] 5 p o.1):=by
 have j:Ext w0 w0:=Ext.refl w0;unfold zie at a;refine zai (n:=24) Tryz.func84 V V V<|W_sr<|av (.slice none 0 0) V V<|av (i64 0) V V<|wnt<|W_sr<|mv f V V<|mv g V V<|mv c V V<|wa V (q_len V T22.sl V (q.lift (le_ j)))<|?_;obtain ⟨b,z,a⟩:=bsi a;refine wls V V (zab (vs:=[f,g,i64 0,i64 (e.length:Int)]) Tryz.func114 V V V (ar4 V V V V) (stream_Bytes_calls k l 0 (e.length:Int) f g b _ (x.lift (le_ j)) (y.lift (le_ j)) z) ?_);rintro _ I ⟨d,rfl,K,C,F⟩;refine ⟨_,rfl,?_⟩;have B:By I [] d b.1:=SlK.avail F _ (fun r w=>(Old.nil _) r (C r w));have i:=j.trans K;refine mv (.tuple #[d,i64 b.2]) V V<|wa V (zaf V V V)<|wa V (zaf V V V)<|av d V V<|av (i64 b.2) V V<|wnt<|W_seq<|W_seq<|W_rg<|mv (i64 b.2) V V<|wa V (q_neI V V V)<|wnt<|zak _ V V (fun m=>?_) (fun m=>?_)
 ·replace a:=(if_neg (zbf m)).symm.trans a;refine W_sr<|mv (i64 b.2) V V<|av (.slice none 0 0) V V<|av (i64 b.2) V V<|wnt<|W_ret<|th_r<|?_;obtain rfl:=osi a;refine rt2 (.slice none 0 0) (i64 b.2) V V V V V V ?_;exact ⟨.slice none 0 0,rfl,i,Nw.nil _,OwK.nil _ _ _ _⟩
 replace a:=(if_pos (zbd m)).symm.trans a;refine zad<|W_th<|W_sr<|mv d V V<|mv c V V<|?_;obtain ⟨s,A,a⟩:=bsi a;refine wls V V (zab (vs:=[d,c]) Tryz.func56 V V V (ar2 V V) (zej b.1 e d c s _ (B.lift (Lift.sub (L':=[]) (fun _ _=>trivial))) (q.lift (le_ i)) A) ?_);rintro _ J ⟨h,rfl,L,D,H⟩;refine ⟨_,rfl,?_⟩;have G:OwK (Sc u8) J (h::[]) 5 h s:=OwK.scal H _;have E:=Nw.ext i D;have v:=i.trans L;refine av h V V<|av (i64 0) V V<|wnt<|W_ret<|?_;obtain rfl:=osi a;refine rt2 h (i64 0) V V V V V V ?_;exact ⟨h,rfl,v,E,G.weak (Sc.stab _) (fun _ _=>trivial)⟩
end Gk

/- The stream's bytes (chapter 6), in plain Lean. No condition but lengths. -/
namespace Gk
open Gf
def b8 (x:UInt64):List UInt8:=(List.range 8).map fun i=>(shr64 x (56 - 8 * i)).toUInt8
theorem b8_len (x:UInt64):(b8 x).length=8:=by simp [b8]
theorem b8_get (x:UInt64) (i:Nat) (h:i<8):co (b8 x) i=(shr64 x (56 - 8 * i)).toUInt8:=by rw [b8,zde,if_pos h]
theorem Bits64q:zce=some 64:=by
 unfold zce
 rw [zds.2 ⟨65,by kernel_rfl⟩];rfl
theorem put64q (b:List UInt8) (x:UInt64) (h:b.length+8<=most):zb9 b x=some (b ++ b8 x):=by
 unfold zb9
 have hl:=b8_len x
 rw [Clone5 b (by omega),obs,Bits64q,obs,show wI (64 - 8)=(((64:Nat):Int) - 8 * ((0:Nat)+1)) by decide]
 refine zbh (x:=b ++ b8 x) (zas (fun i=>(b ++ (b8 x).take i,((64:Nat):Int) - 8 * ((i:Int)+1))) 8 _ (by rw [List.take_zero,List.append_nil]) ?_ ?_) rfl
 ·intro i hi
  dsimp only
  rw [if_pos (by omega),show ((64:Nat):Int) - 8 * ((i:Int)+1)=((56 - 8 * i:Nat):Int) by omega,cnt_nat,obs,← b8_get x i hi,zen _ _ (by simp only [List.length_append,List.length_take,List.length_singleton];omega) rfl,obs,List.append_assoc,← zg5 (by omega),wI_of (by omega) (by omega)]
  congr 3
  omega
 ·dsimp only
  rw [if_neg (by omega),List.take_of_length_le (by omega)]
def blk5 (k0:List UInt8) (ks:List (List UInt8)) (nonce:List UInt8) (c:Nat):List UInt8:=encF k0 ks (nonce ++ b8 (UInt64.ofNat c))
def strm (k0:List UInt8) (ks:List (List UInt8)) (nonce:List UInt8) (p:Nat):UInt8:=co (blk5 k0 ks nonce (p / 16)) (p % 16)
def strL (k0:List UInt8) (ks:List (List UInt8)) (nonce:List UInt8) (at_ n:Nat):List UInt8:=(List.range n).map fun i=>strm k0 ks nonce (at_+i)
theorem zdk (k0:List UInt8) (ks:List (List UInt8)) (nonce:List UInt8) (a n:Nat):(strL k0 ks nonce a n).length=n:=by simp [strL]
theorem co_strL (k0:List UInt8) (ks:List (List UInt8)) (nonce:List UInt8) (a n i:Nat) (h:i<n):co (strL k0 ks nonce a n) i=strm k0 ks nonce (a+i):=by rw [strL,zde,if_pos h]
structure GoodC (c:Cip) (k0:List UInt8) (ks:List (List UInt8)):Prop where
 eq:c=⟨true,k0 :: ks,boxT,backT⟩
 h0:k0.length=16
 hk:∀ x∈ks,x.length=16
 hn:ks.length<=100
theorem New_good (key:List UInt8) (n:Nat) (hn:n=4∨n=8) (h:key.length=4 * n):∃ c k0 ks,zfg true key=some (some c,0)/\GoodC c k0 ks/\keysF key=k0 :: ks:=by
 obtain ⟨k0,ks,hK,h0,hks,hsl⟩:=keys_cons key n hn h
 have hN:=New_eq key n hn h
 rw [hK] at hN
 exact ⟨_,k0,ks,hN,⟨rfl,h0,hks,by omega⟩,hK⟩
theorem blk5_len {c:Cip} {k0:List UInt8} {ks:List (List UInt8)} (G:GoodC c k0 ks) (nonce:List UInt8) (hn:nonce.length=8) (i:Nat):(blk5 k0 ks nonce i).length=16 :=
 encF_len k0 ks _ G.h0 G.hk (by rw [List.length_append,b8_len,hn])
theorem Bytes_eq {c:Cip} {k0:List UInt8} {ks:List (List UInt8)} (G:GoodC c k0 ks) (nonce:List UInt8) (hn:nonce.length=8) (a n:Nat) (ha:a<=1073741824) (hn2:n<=1048576) :
  zfv (some c) nonce (a:Int) (n:Int)=some (strL k0 ks nonce a n,0):=by
 have hm:(100000000:Nat)<=most:=by decide
 unfold zfv
 rw [if_neg (by simp),if_pos (by omega),if_neg (by omega),if_neg (by omega),if_neg (by omega),if_neg (by omega)]
 rw [show (16:Int)=((16:Nat):Int) by rfl,zix _ _ (by omega) (by omega),obs,zfn _ _ (by omega)]
 have hr:a % 16<16:=Nat.mod_lt _ (by omega)
 have hw:wI (((a % 16:Nat):Int)+(n:Int))=((a % 16+n:Nat):Int):=wI_add _ _ (by omega)
 have hd:a / 16<=67108864:=by omega
 have key:∀ j:Nat,16 * j+16<=2000000->strL k0 ks nonce (16 * (a / 16)) (16 * j) ++ blk5 k0 ks nonce (a / 16+j)=strL k0 ks nonce (16 * (a / 16)) (16 * (j+1)):=fun j hj=>by
  have hbl:=blk5_len G nonce hn (a / 16+j)
  refine ext_co (by rw [List.length_append,zdk,zdk,hbl];omega) fun i hi=>?_
  rw [List.length_append,zdk,hbl] at hi
  rw [co_strL _ _ _ _ _ _ (by omega)]
  by_cases h:i<16 * j
  ·rw [co_left _ _ _ (by rw [zdk];exact h),co_strL _ _ _ _ _ _ h]
  ·have e1:co (strL k0 ks nonce (16 * (a / 16)) (16 * j) ++ blk5 k0 ks nonce (a / 16+j)) i=co (blk5 k0 ks nonce (a / 16+j)) (i - 16 * j):=by
    simp only [co,List.getD_eq_getElem?_getD]
    rw [List.getElem?_append_right (by rw [zdk];omega),zdk]
   rw [e1,strm,show (16 * (a / 16)+i) / 16=a / 16+j by omega,show (16 * (a / 16)+i) % 16=i - 16 * j by omega]
 refine zbh (x:=.inl (strL k0 ks nonce (16 * (a / 16)) (16 * ((a % 16+n+15) / 16)))) (zas (fun j=>(strL k0 ks nonce (16 * (a / 16)) (16 * j),((a / 16+j:Nat):Int))) ((a % 16+n+15) / 16) _ rfl ?_ ?_) ?_
 ·intro j hj
  dsimp only
  rw [obs,zdk,hw,if_pos (by omega),put64q _ _ (by omega),obs]
  have hof:UInt64.ofInt ((a / 16+j:Nat):Int)=UInt64.ofNat (a / 16+j):=by
   apply UInt64.toNat_inj.1
   simp [UInt64.ofInt];omega
  rw [hof,G.eq,Encrypt_eq k0 ks _ G.h0 G.hk G.hn (by rw [List.length_append,b8_len,hn]),obs]
  dsimp only
  have hbl:=blk5_len G nonce hn (a / 16+j)
  have hfold:encF k0 ks (nonce ++ b8 (UInt64.ofNat (a / 16+j)))=blk5 k0 ks nonce (a / 16+j):=rfl
  rw [if_pos rfl,hfold]
  unfold appL
  rw [if_pos (by rw [zdk,hbl];omega),obs,key j (by omega),zau _ (by omega)];rfl
 ·dsimp only
  rw [obs,zdk,hw,if_neg (by omega)]
 ·rw [Sum.elim_inl]
  by_cases h0:n=0
  ·subst h0
   rw [if_pos (by rfl)];rfl
  ·rw [if_neg (by omega),obs,obs,obs,hw]
   have h3:subL3 (strL k0 ks nonce (16 * (a / 16)) (16 * ((a % 16+n+15) / 16))) ((a % 16:Nat):Int) ((a % 16+n:Nat):Int) ((a % 16+n:Nat):Int)=some (strL k0 ks nonce a n):=by
    refine zh1.2 ⟨⟨by omega,by omega,by omega,by rw [zdk];omega⟩,?_⟩
    rw [Int.toNat_natCast,Int.toNat_natCast]
    refine ext_co (by simp only [List.length_drop,List.length_take,zdk];omega) fun i hi=>?_
    simp only [List.length_drop,List.length_take,zdk] at hi
    rw [co_drop,co_take,if_pos (by omega),co_strL _ _ _ _ _ _ (by omega),co_strL _ _ _ _ _ _ (by omega)]
    congr 1;omega
   rw [h3,obs]
theorem SXor_eq {c:Cip} {k0:List UInt8} {ks:List (List UInt8)} (G:GoodC c k0 ks) (nonce:List UInt8) (hn:nonce.length=8) (b:List UInt8) (hb:b.length<=1048576) :
  zie (some c) nonce b=some (xr (strL k0 ks nonce 0 b.length) b,0):=by
 have hm:(100000000:Nat)<=most:=by decide
 unfold zie
 have:=Bytes_eq G nonce hn 0 b.length (by omega) hb
 rw [show ((0:Nat):Int)=0 by rfl] at this
 rw [this,obs]
 dsimp only
 rw [if_pos rfl,wXor_eq _ _ (by rw [zdk];omega),obs]
end Gk

/- Printed by gen.py: for each Go function a pure function, and that the Go code comes to it. No condition beside the equation that says what the pure function gives. -/
namespace Gk
open Go Go.Proofs
noncomputable def zgk (n:List UInt32) (z:List UInt8):Option (List UInt32) :=
(((lenA 8 n).bind fun P =>
((zd4 z).bind fun x =>
((za1).bind fun v =>
((lenA 64 (List.replicate 64 (0:UInt32))).bind fun J =>
((lenA 64 x).bind fun M =>
((lenA 64 v).bind fun N =>
((lenA 8 (List.replicate 8 (0:UInt32))).bind fun O => some (x,v,n)))))))).bind fun e =>
((iterC (fun a:List UInt32×Int =>
(if a.2<64 then
((lenA 8 a.1).bind fun D =>
((idx a.1 7).bind fun f =>
((idx a.1 4).bind fun b =>
((idx a.1 5).bind fun g =>
((idx a.1 6).bind fun h =>
((lenA 64 e.2.1).bind fun E =>
((idx e.2.1 a.2).bind fun i =>
((lenA 64 e.1).bind fun F =>
((idx e.1 a.2).bind fun j =>
((zd5 b 6 11 25).bind fun m =>
((lenA 8 a.1).bind fun G =>
((idx a.1 0).bind fun d =>
((idx a.1 1).bind fun k =>
((idx a.1 2).bind fun l =>
((zd5 d 2 13 22).bind fun w =>
((lenA 8 a.1).bind fun H =>
((idx a.1 0).bind fun o =>
((idx a.1 1).bind fun p =>
((idx a.1 2).bind fun q =>
((idx a.1 3).bind fun r =>
((idx a.1 4).bind fun s =>
((idx a.1 5).bind fun t =>
((idx a.1 6).bind fun u =>
((lenA 8 ([(((((f+m)+((b &&& g)^^^(((4294967295:UInt32)^^^b) &&& h)))+i)+j)+(w+(((d &&& k)^^^(d &&& l))^^^(k &&& l)))),o,p,q,(r+((((f+m)+((b &&& g)^^^(((4294967295:UInt32)^^^b) &&& h)))+i)+j)),s,t,u]:List UInt32)).bind fun I => some (.inl (([(((((f+m)+((b &&& g)^^^(((4294967295:UInt32)^^^b) &&& h)))+i)+j)+(w+(((d &&& k)^^^(d &&& l))^^^(k &&& l)))),o,p,q,(r+((((f+m)+((b &&& g)^^^(((4294967295:UInt32)^^^b) &&& h)))+i)+j)),s,t,u]:List UInt32),wI (a.2+1)))))))))))))))))))))))))))
else some (.inr a.1))) (e.2.2,0)).bind fun y =>
((iterC (fun c:List UInt32×Int =>
(if c.2<8 then
((lenA 8 c.1).bind fun K =>
((idx c.1 c.2).bind fun A =>
((lenA 8 y).bind fun L =>
((idx y c.2).bind fun B => some (.inl (c.1.set (c.2:Int).toNat (A+B),wI (c.2+1)))))))
else some (.inr c.1))) (n,0)).bind fun C => some C)))
theorem hash_block_calls (h:List UInt32) (D:List UInt8) (a:Nat) (i:Value) (pL:List UInt32) (w0:World) (I:Blk w0 a 116 (ac u32 h)) (aS:By w0 [bp a] i D) (bE:zgk h D=some pL) :
  Calls Tryz.prog 88 [bp a,i].toArray w0 (fun sN sG=>sN=.returned (.tuple #[])/\ExG [bp a] w0 sG/\Blk sG a 116 (ac u32 pL)):=by
 have vU:ExG [bp a] w0 w0:=ExG.refl _ w0;unfold zgk at bE;refine zai (n:=104) Tryz.func88 V V V<|W_seq ?_;obtain ⟨x,e,bE⟩:=bsi bE;refine W_mid (fun c d=>∃ cJ:Nat,∃ cK:Nat,∃ cL:Nat,c 0=bp a/\c 4=bp cJ/\c 5=bp cK/\c 6=bp cL/\c 104=undef/\ExG [bp a] w0 d/\Blk d a 116 (ac u32 h)/\NS [bp a] w0 (bp a)/\Blk d cJ 136 (ac u32 x.1)/\NS [bp a] w0 (bp cJ)/\Blk d cK 136 (ac u32 x.2.1)/\NS [bp a] w0 (bp cK)/\Blk d cL 116 (ac u32 x.2.2)/\NS [bp a] w0 (bp cL)/\Nq (bp a) (bp cJ)/\Nq (bp a) (bp cK)/\Nq (bp a) (bp cL)/\Nq (bp cJ) (bp cK)/\Nq (bp cJ) (bp cL)/\Nq (bp cK) (bp cL)) ?_ ?_
 ·refine W_drawTB (B:=(World.drew w0).heap.size) [5] [(0,0),(3,0),(4,0),(5,1)] (.br 1 [] (.br 2 [] (.br 6 [] (.br 7 [(8,2),(9,2),(10,2),(11,2)] .fin (.br 8 [(7,2),(9,2),(10,2),(11,2)] .fin .fin)) (.br 7 [] (.br 6 [(8,2),(9,2),(10,2),(11,2)] .fin (.br 8 [(6,2),(9,2),(10,2),(11,2)] .fin .fin)) (.br 8 [] (.br 6 [(7,2),(9,2),(10,2),(11,2)] .fin (.br 7 [(6,2),(9,2),(10,2),(11,2)] .fin .fin)) .fin))) (.br 6 [] (.br 2 [] (.br 7 [(8,2),(9,2),(10,2),(11,2)] .fin (.br 8 [(7,2),(9,2),(10,2),(11,2)] .fin .fin)) (.br 7 [] (.br 2 [(8,2),(9,2),(10,2),(11,2)] .fin (.br 8 [(2,2),(9,2),(10,2),(11,2)] .fin .fin)) (.br 8 [] (.br 2 [(7,2),(9,2),(10,2),(11,2)] .fin (.br 7 [(2,2),(9,2),(10,2),(11,2)] .fin .fin)) .fin))) (.br 7 [] (.br 2 [] (.br 6 [(8,2),(9,2),(10,2),(11,2)] .fin (.br 8 [(6,2),(9,2),(10,2),(11,2)] .fin .fin)) (.br 6 [] (.br 2 [(8,2),(9,2),(10,2),(11,2)] .fin (.br 8 [(2,2),(9,2),(10,2),(11,2)] .fin .fin)) (.br 8 [] (.br 2 [(6,2),(9,2),(10,2),(11,2)] .fin (.br 6 [(2,2),(9,2),(10,2),(11,2)] .fin .fin)) .fin))) (.br 8 [] (.br 2 [] (.br 6 [(7,2),(9,2),(10,2),(11,2)] .fin (.br 7 [(6,2),(9,2),(10,2),(11,2)] .fin .fin)) (.br 6 [] (.br 2 [(7,2),(9,2),(10,2),(11,2)] .fin (.br 7 [(2,2),(9,2),(10,2),(11,2)] .fin .fin)) (.br 7 [] (.br 2 [(6,2),(9,2),(10,2),(11,2)] .fin (.br 6 [(2,2),(9,2),(10,2),(11,2)] .fin .fin)) .fin))) .fin)))) (.br 6 [] (.br 1 [] (.br 2 [] (.br 7 [(8,2),(9,2),(10,2),(11,2)] .fin (.br 8 [(7,2),(9,2),(10,2),(11,2)] .fin .fin)) (.br 7 [] (.br 2 [(8,2),(9,2),(10,2),(11,2)] .fin (.br 8 [(2,2),(9,2),(10,2),(11,2)] .fin .fin)) (.br 8 [] (.br 2 [(7,2),(9,2),(10,2),(11,2)] .fin (.br 7 [(2,2),(9,2),(10,2),(11,2)] .fin .fin)) .fin))) (.br 7 [] (.br 1 [] (.br 2 [(8,2),(9,2),(10,2),(11,2)] .fin (.br 8 [(2,2),(9,2),(10,2),(11,2)] .fin .fin)) (.br 8 [(1,2),(2,2),(9,2),(10,2),(11,2)] .fin .fin)) (.br 8 [] (.br 1 [] (.br 2 [(7,2),(9,2),(10,2),(11,2)] .fin (.br 7 [(2,2),(9,2),(10,2),(11,2)] .fin .fin)) (.br 7 [(1,2),(2,2),(9,2),(10,2),(11,2)] .fin .fin)) .fin))) (.br 7 [] (.br 1 [] (.br 2 [] (.br 6 [(8,2),(9,2),(10,2),(11,2)] .fin (.br 8 [(6,2),(9,2),(10,2),(11,2)] .fin .fin)) (.br 6 [] (.br 2 [(8,2),(9,2),(10,2),(11,2)] .fin (.br 8 [(2,2),(9,2),(10,2),(11,2)] .fin .fin)) (.br 8 [] (.br 2 [(6,2),(9,2),(10,2),(11,2)] .fin (.br 6 [(2,2),(9,2),(10,2),(11,2)] .fin .fin)) .fin))) (.br 6 [] (.br 1 [] (.br 2 [(8,2),(9,2),(10,2),(11,2)] .fin (.br 8 [(2,2),(9,2),(10,2),(11,2)] .fin .fin)) (.br 8 [(1,2),(2,2),(9,2),(10,2),(11,2)] .fin .fin)) (.br 8 [] (.br 1 [] (.br 2 [(6,2),(9,2),(10,2),(11,2)] .fin (.br 6 [(2,2),(9,2),(10,2),(11,2)] .fin .fin)) (.br 6 [(1,2),(2,2),(9,2),(10,2),(11,2)] .fin .fin)) .fin))) (.br 8 [] (.br 1 [] (.br 2 [] (.br 6 [(7,2),(9,2),(10,2),(11,2)] .fin (.br 7 [(6,2),(9,2),(10,2),(11,2)] .fin .fin)) (.br 6 [] (.br 2 [(7,2),(9,2),(10,2),(11,2)] .fin (.br 7 [(2,2),(9,2),(10,2),(11,2)] .fin .fin)) (.br 7 [] (.br 2 [(6,2),(9,2),(10,2),(11,2)] .fin (.br 6 [(2,2),(9,2),(10,2),(11,2)] .fin .fin)) .fin))) (.br 6 [] (.br 1 [] (.br 2 [(7,2),(9,2),(10,2),(11,2)] .fin (.br 7 [(2,2),(9,2),(10,2),(11,2)] .fin .fin)) (.br 7 [(1,2),(2,2),(9,2),(10,2),(11,2)] .fin .fin)) (.br 7 [] (.br 1 [] (.br 2 [(6,2),(9,2),(10,2),(11,2)] .fin (.br 6 [(2,2),(9,2),(10,2),(11,2)] .fin .fin)) (.br 6 [(1,2),(2,2),(9,2),(10,2),(11,2)] .fin .fin)) .fin))) .fin)))) mixed (by kernel_rfl) (by kernel_rfl) (by kernel_rfl) (by kernel_rfl) ?_
  have sH:=Ext.drew w0;replace I:=I.ext sH;have bH:=vU.trans sH;have a6:EB (World.drew w0).heap.size (World.drew w0) (World.drew w0):=EB.refl _;have CV:=I;refine wba V V V (za5 (v:=i) V V)<|wba V V V (za5 (v:=bp a) V V)<|wba V V V (za9 V V) ?_;obtain ⟨D9,o1,e⟩:=bsi e;refine wbq V V V (Qb.of fun H9 vT=>q_loadA (m:=0) V A116 V (Blk.ebs CV (EB.trans a6 vT)) (zaj _ _) (zag o1))<|zbl<|zcr (fun q C=>∀ (f:List UInt32) (p:List UInt32) (r:Nat) (M:Nat) (P:Nat) (c:Nat->Value) (d:World),((lenA 64 (List.replicate 64 (0:UInt32))).bind fun E=>((lenA 64 f).bind fun F=>((lenA 64 p).bind fun G=>((lenA 8 (List.replicate 8 (0:UInt32))).bind fun H=>some (f,p,h)))))=some x->(c 0=bp a/\c 1=i/\c 4=bp r/\c 5=bp M/\c 6=bp P/\c 11=i/\c 12=ag u32 f/\c 13=ag u32 p/\c 14=bp a/\c 15=bp a/\c 16=ag u32 h/\c 104=undef/\ExG [bp a] w0 d/\Blk d a 116 (ac u32 h)/\NS [bp a] w0 (bp a)/\Blk d r 136 (ac u32 (List.replicate 64 (0:UInt32)))/\NS [bp a] w0 (bp r)/\Blk d M 136 (ac u32 (List.replicate 64 (0:UInt32)))/\NS [bp a] w0 (bp M)/\Blk d P 116 (ac u32 (List.replicate 8 (0:UInt32)))/\NS [bp a] w0 (bp P)/\Nq (bp a) (bp r)/\Nq (bp a) (bp M)/\Nq (bp a) (bp P)/\Nq (bp r) (bp M)/\Nq (bp r) (bp P)/\Nq (bp M) (bp P))->EB (World.drew w0).heap.size (World.drew w0) d->(∀ g,Hs (bp r) g->(World.drew w0).heap.size<=g)->(∀ g,Hs (bp M) g->(World.drew w0).heap.size<=g)->(∀ g,Hs (bp P) g->(World.drew w0).heap.size<=g)->C [(9,2),(10,2),(11,2)] c d) ?_ (fun X=>?_)
  ·rintro f p r M P c CZ e ⟨CH,ES,s0,s6,sE,EP,CO,CP,EQ,ER,CQ,CK,vV,dR,x4,yW,oK,iI,oS,iL,oT,p2,pB,pC,iV,iW,iX⟩ lO vR vS DA;obtain ⟨E,nY,e⟩:=bsi e;obtain ⟨F,w9,e⟩:=bsi e;refine wbm V V V (zcx [bp a] [bp M,bp P] V A136 (by exact s0) (by exact CO) (zag nY) (zag w9) yW zgo ?_);intro GW iM d4 EA;have z:=EB.own lO.1 d4 vR;refine ⟨z,?_⟩;have vL:=EB.trans lO z;replace iI:=iI.other d4 iV.symm;have u8:=vV.grown d4 oK;obtain ⟨G,wA,e⟩:=bsi e;refine wbm V V V (zcx [bp a,bp r] [bp P] V A136 (by exact s6) (by exact CP) (zag nY) (zag wA) iI zgo ?_);intro H1 iN d5 EE;have z:=EB.own vL.1 d5 vS;refine ⟨z,?_⟩;replace dR:=(dR.other d4 p2).other d5 pB;replace iL:=(iL.other d4 iW.symm).other d5 iX.symm;have u9:=u8.grown d5 oS;obtain ⟨H,wB,e⟩:=bsi e;refine wbn V (by kernel_rfl) V V (zcx [bp a,bp r,bp M] [] V A116 (by exact sE) (by exact CQ) (zag wB) (zag o1) iL zgo ?_);intro CZ zK eZ EF;replace dR:=dR.other eZ pC;replace iM:=(iM.other d5 iV).other eZ iW;replace iN:=iN.other eZ iX;have uA:=u9.grown eZ oT;refine zbl<|zf2 ?_;obtain rfl:=osi e;exact ⟨r,M,P,CH,s0,s6,sE,CK,uA,dR,x4,iM,oK,iN,oS,zK,oT,p2,pB,pC,iV,iW,iX⟩
  refine zcr (fun q C=>∀ (f:List UInt32) (p:List UInt32) (r:Nat) (c:Nat->Value) (d:World),((lenA 64 (List.replicate 64 (0:UInt32))).bind fun E=>((lenA 64 f).bind fun F=>((lenA 64 p).bind fun G=>((lenA 8 (List.replicate 8 (0:UInt32))).bind fun H=>some (f,p,h)))))=some x->(c 0=bp a/\c 1=i/\c 4=bp r/\c 11=i/\c 12=ag u32 f/\c 13=ag u32 p/\c 14=bp a/\c 15=bp a/\c 16=ag u32 h/\c 104=undef/\ExG [bp a] w0 d/\Blk d a 116 (ac u32 h)/\NS [bp a] w0 (bp a)/\Blk d r 136 (ac u32 (List.replicate 64 (0:UInt32)))/\NS [bp a] w0 (bp r)/\Nq (bp a) (bp r))->EB (World.drew w0).heap.size (World.drew w0) d->(∀ g,Hs (bp r) g->(World.drew w0).heap.size<=g)->q (.br 7 [(8,2),(9,2),(10,2),(11,2)] .fin (.br 8 [(7,2),(9,2),(10,2),(11,2)] .fin .fin)) c d) ?_ (fun nG=>?_)
  ·rintro f p r c FQ e ⟨pZ,rQ,rX,qK,qQ,qT,qZ,r8,rH,q9,f4,a0,o6,a3,oG,oY⟩ bJ lW;refine zbk ?_ ?_
   ·refine wbs V V V (sal u32 (List.replicate 64 (0:UInt32)) [bp a,bp r] V Z136 ?_);intro M FX fX fK mQ DV;have z:=EB.ext bJ.1 (zaa mQ);refine ⟨z,?_⟩;have gN:=zaa mQ;have h4:=EB.trans bJ (EB.ext bJ.1 gN);have BB:Nq (bp a) (bp M):=a0.nq fK;have BE:Nq (bp r) (bp M):=a3.nq fK;replace a0:=a0.ext gN;replace a3:=a3.ext gN;have y3:=NS.ext f4 fK;have l9:=f4.trans gN;refine wbs V V V (sal u32 (List.replicate 8 (0:UInt32)) [bp M,bp a,bp r] V Z116 ?_);intro P GC zA dM mW E2;have z:=EB.ext h4.1 (zaa mW);refine ⟨z,?_⟩;have eE:=zaa mW;have vB:=h4.e eE;have BO:Nq (bp M) (bp P):=fX.nq dM;have BT:Nq (bp a) (bp P):=a0.nq dM;have BW:Nq (bp r) (bp P):=a3.nq dM;replace fX:=fX.ext eE;replace a0:=a0.ext eE;replace a3:=a3.ext eE;have yA:=NS.ext l9 dM;have tW:=l9.trans eE;exact X f p r M P _ _ e ⟨pZ,rQ,rX,rfl,rfl,qK,qQ,qT,qZ,r8,rH,q9,tW,a0,o6,a3,oG,fX,y3,zA,yA,oY,BB,BT,BE,BW,BO⟩ vB lW (lt2 bJ.1 fK) (lt2 h4.1 dM)
   refine zbk ?_ ?_
   ·refine wbs V V V (sal u32 (List.replicate 8 (0:UInt32)) [bp a,bp r] V Z116 ?_);intro d6 H2 fY fS n4 EG;have z:=EB.ext bJ.1 (zaa n4);refine ⟨z,?_⟩;have gV:=zaa n4;have h5:=EB.trans bJ (EB.ext bJ.1 gV);have C3:Nq (bp a) (bp d6):=a0.nq fS;have C4:Nq (bp r) (bp d6):=a3.nq fS;replace a0:=a0.ext gV;replace a3:=a3.ext gV;have yE:=NS.ext f4 fS;have lC:=f4.trans gV;refine wbs V V V (sal u32 (List.replicate 64 (0:UInt32)) [bp d6,bp a,bp r] V Z136 ?_);intro f0 H3 zL dO n5 EH;have z:=EB.ext h5.1 (zaa n5);refine ⟨z,?_⟩;have eK:=zaa n5;have vM:=h5.e eK;have C5:Nq (bp d6) (bp f0):=fY.nq dO;have C6:Nq (bp a) (bp f0):=a0.nq dO;have C7:Nq (bp r) (bp f0):=a3.nq dO;replace fY:=fY.ext eK;replace a0:=a0.ext eK;replace a3:=a3.ext eK;have yF:=NS.ext lC dO;have uB:=lC.trans eK;exact X f p r f0 d6 _ _ e ⟨pZ,rQ,rX,rfl,rfl,qK,qQ,qT,qZ,r8,rH,q9,uB,a0,o6,a3,oG,zL,yF,fY,yE,oY,C6,C3,C7,C4,C5.symm⟩ vM lW (lt2 h5.1 dO) (lt2 bJ.1 fS)
   trivial
  refine zcr (fun q C=>∀ (f:List UInt32) (p:List UInt32) (A:Nat) (c:Nat->Value) (d:World),((lenA 64 (List.replicate 64 (0:UInt32))).bind fun E=>((lenA 64 f).bind fun F=>((lenA 64 p).bind fun G=>((lenA 8 (List.replicate 8 (0:UInt32))).bind fun H=>some (f,p,h)))))=some x->(c 0=bp a/\c 1=i/\c 5=bp A/\c 11=i/\c 12=ag u32 f/\c 13=ag u32 p/\c 14=bp a/\c 15=bp a/\c 16=ag u32 h/\c 104=undef/\ExG [bp a] w0 d/\Blk d a 116 (ac u32 h)/\NS [bp a] w0 (bp a)/\Blk d A 136 (ac u32 (List.replicate 64 (0:UInt32)))/\NS [bp a] w0 (bp A)/\Nq (bp a) (bp A))->EB (World.drew w0).heap.size (World.drew w0) d->(∀ g,Hs (bp A) g->(World.drew w0).heap.size<=g)->q (.br 6 [(8,2),(9,2),(10,2),(11,2)] .fin (.br 8 [(6,2),(9,2),(10,2),(11,2)] .fin .fin)) c d) ?_ (fun nL=>?_)
  ·rintro f p A c H6 e ⟨q4,rU,s8,qL,qR,qU,r3,rC,rL,qF,f8,a1,oB,a4,oL,p4⟩ bK m3;refine zbk ?_ ?_
   ·refine wbs V V V (sal u32 (List.replicate 64 (0:UInt32)) [bp a,bp A] V Z136 ?_);intro d7 H7 fZ fT n7 EJ;have z:=EB.ext bK.1 (zaa n7);refine ⟨z,?_⟩;have gX:=zaa n7;have h6:=EB.trans bK (EB.ext bK.1 gX);have C9:Nq (bp a) (bp d7):=a1.nq fT;have CA:Nq (bp A) (bp d7):=a4.nq fT;replace a1:=a1.ext gX;replace a4:=a4.ext gX;have yH:=NS.ext f8 fT;have lD:=f8.trans gX;refine wbs V V V (sal u32 (List.replicate 8 (0:UInt32)) [bp d7,bp a,bp A] V Z116 ?_);intro f1 H8 zN dP n8 EK;have z:=EB.ext h6.1 (zaa n8);refine ⟨z,?_⟩;have eL:=zaa n8;have vP:=h6.e eL;have CB:Nq (bp d7) (bp f1):=fZ.nq dP;have CC:Nq (bp a) (bp f1):=a1.nq dP;have CD:Nq (bp A) (bp f1):=a4.nq dP;replace fZ:=fZ.ext eL;replace a1:=a1.ext eL;replace a4:=a4.ext eL;have yI:=NS.ext lD dP;have uD:=lD.trans eL;exact X f p d7 A f1 _ _ e ⟨q4,rU,rfl,s8,rfl,qL,qR,qU,r3,rC,rL,qF,uD,a1,oB,fZ,yH,a4,oL,zN,yI,C9,p4,CC,CA.symm,CB,CD⟩ vP (lt2 bK.1 fT) m3 (lt2 h6.1 dP)
   refine zbk ?_ ?_
   ·refine wbs V V V (sal u32 (List.replicate 8 (0:UInt32)) [bp a,bp A] V Z116 ?_);intro d8 HA g0 fU n9 EL;have z:=EB.ext bK.1 (zaa n9);refine ⟨z,?_⟩;have gY:=zaa n9;have h7:=EB.trans bK (EB.ext bK.1 gY);have CE:Nq (bp a) (bp d8):=a1.nq fU;have CF:Nq (bp A) (bp d8):=a4.nq fU;replace a1:=a1.ext gY;replace a4:=a4.ext gY;have yJ:=NS.ext f8 fU;have lE:=f8.trans gY;refine wbs V V V (sal u32 (List.replicate 64 (0:UInt32)) [bp d8,bp a,bp A] V Z136 ?_);intro f2 HB zO dQ nA EM;have z:=EB.ext h7.1 (zaa nA);refine ⟨z,?_⟩;have eM:=zaa nA;have vQ:=h7.e eM;have CG:Nq (bp d8) (bp f2):=g0.nq dQ;have zV:Nq (bp a) (bp f2):=a1.nq dQ;have zW:Nq (bp A) (bp f2):=a4.nq dQ;replace g0:=g0.ext eM;replace a1:=a1.ext eM;replace a4:=a4.ext eM;have x7:=NS.ext lE dQ;have sO:=lE.trans eM;exact X f p f2 A d8 _ _ e ⟨q4,rU,rfl,s8,rfl,qL,qR,qU,r3,rC,rL,qF,sO,a1,oB,zO,x7,a4,oL,g0,yJ,zV,p4,CE,zW.symm,CG.symm,CF⟩ vQ (lt2 h7.1 dQ) m3 (lt2 bK.1 fU)
   trivial
  refine zcr (fun q C=>∀ (f:List UInt32) (p:List UInt32) (y:Nat) (c:Nat->Value) (d:World),((lenA 64 (List.replicate 64 (0:UInt32))).bind fun E=>((lenA 64 f).bind fun F=>((lenA 64 p).bind fun G=>((lenA 8 (List.replicate 8 (0:UInt32))).bind fun H=>some (f,p,h)))))=some x->(c 0=bp a/\c 1=i/\c 6=bp y/\c 11=i/\c 12=ag u32 f/\c 13=ag u32 p/\c 14=bp a/\c 15=bp a/\c 16=ag u32 h/\c 104=undef/\ExG [bp a] w0 d/\Blk d a 116 (ac u32 h)/\NS [bp a] w0 (bp a)/\Blk d y 116 (ac u32 (List.replicate 8 (0:UInt32)))/\NS [bp a] w0 (bp y)/\Nq (bp a) (bp y))->EB (World.drew w0).heap.size (World.drew w0) d->(∀ g,Hs (bp y) g->(World.drew w0).heap.size<=g)->q (.br 6 [(7,2),(9,2),(10,2),(11,2)] .fin (.br 7 [(6,2),(9,2),(10,2),(11,2)] .fin .fin)) c d) ?_ (fun nD=>?_)
  ·rintro f p y c EV e ⟨pV,rM,s9,qG,qM,qS,qV,r4,rD,q5,f3,Z,o2,a2,oC,oU⟩ bI lP;refine zbk ?_ ?_
   ·refine wbs V V V (sal u32 (List.replicate 64 (0:UInt32)) [bp a,bp y] V Z136 ?_);intro d2 EW fV fD m5 DC;have z:=EB.ext bI.1 (zaa m5);refine ⟨z,?_⟩;have gF:=zaa m5;have gZ:=EB.trans bI (EB.ext bI.1 gF);have zY:Nq (bp a) (bp d2):=Z.nq fD;have zZ:Nq (bp y) (bp d2):=a2.nq fD;replace Z:=Z.ext gF;replace a2:=a2.ext gF;have x9:=NS.ext f3 fD;have l3:=f3.trans gF;refine wbs V V V (sal u32 (List.replicate 64 (0:UInt32)) [bp d2,bp a,bp y] V Z136 ?_);intro eN EX yO dC m6 DD;have z:=EB.ext gZ.1 (zaa m6);refine ⟨z,?_⟩;have e0:=zaa m6;have uG:=gZ.e e0;have A0:Nq (bp d2) (bp eN):=fV.nq dC;have A1:Nq (bp a) (bp eN):=Z.nq dC;have A2:Nq (bp y) (bp eN):=a2.nq dC;replace fV:=fV.ext e0;replace Z:=Z.ext e0;replace a2:=a2.ext e0;have xA:=NS.ext l3 dC;have sQ:=l3.trans e0;exact X f p d2 eN y _ _ e ⟨pV,rM,rfl,rfl,s9,qG,qM,qS,qV,r4,rD,q5,sQ,Z,o2,fV,x9,yO,xA,a2,oC,zY,A1,oU,A0,zZ.symm,A2.symm⟩ uG (lt2 bI.1 fD) (lt2 gZ.1 dC) lP
   refine zbk ?_ ?_
   ·refine wbs V V V (sal u32 (List.replicate 64 (0:UInt32)) [bp a,bp y] V Z136 ?_);intro d3 EY fW fE m7 DE;have z:=EB.ext bI.1 (zaa m7);refine ⟨z,?_⟩;have gG:=zaa m7;have h0:=EB.trans bI (EB.ext bI.1 gG);have A3:Nq (bp a) (bp d3):=Z.nq fE;have A4:Nq (bp y) (bp d3):=a2.nq fE;replace Z:=Z.ext gG;replace a2:=a2.ext gG;have xB:=NS.ext f3 fE;have l4:=f3.trans gG;refine wbs V V V (sal u32 (List.replicate 64 (0:UInt32)) [bp d3,bp a,bp y] V Z136 ?_);intro eO F0 yP dD m8 DF;have z:=EB.ext h0.1 (zaa m8);refine ⟨z,?_⟩;have e1:=zaa m8;have uH:=h0.e e1;have A5:Nq (bp d3) (bp eO):=fW.nq dD;have A6:Nq (bp a) (bp eO):=Z.nq dD;have A7:Nq (bp y) (bp eO):=a2.nq dD;replace fW:=fW.ext e1;replace Z:=Z.ext e1;replace a2:=a2.ext e1;have xC:=NS.ext l4 dD;have sR:=l4.trans e1;exact X f p eO d3 y _ _ e ⟨pV,rM,rfl,rfl,s9,qG,qM,qS,qV,r4,rD,q5,sR,Z,o2,yP,xC,fW,xB,a2,oC,A6,A3,oU,A5.symm,A7.symm,A4.symm⟩ uH (lt2 h0.1 dD) (lt2 bI.1 fE) lP
   trivial
  refine zcr (fun q C=>∀ (f:List UInt32) (p:List UInt32) (c:Nat->Value) (d:World),((lenA 64 (List.replicate 64 (0:UInt32))).bind fun E=>((lenA 64 f).bind fun F=>((lenA 64 p).bind fun G=>((lenA 8 (List.replicate 8 (0:UInt32))).bind fun H=>some (f,p,h)))))=some x->(c 0=bp a/\c 1=i/\c 11=i/\c 12=ag u32 f/\c 13=ag u32 p/\c 14=bp a/\c 15=bp a/\c 16=ag u32 h/\c 104=undef/\ExG [bp a] w0 d/\Blk d a 116 (ac u32 h)/\NS [bp a] w0 (bp a))->EB (World.drew w0).heap.size (World.drew w0) d->q (.br 6 [] (.br 7 [(8,2),(9,2),(10,2),(11,2)] .fin (.br 8 [(7,2),(9,2),(10,2),(11,2)] .fin .fin)) (.br 7 [] (.br 6 [(8,2),(9,2),(10,2),(11,2)] .fin (.br 8 [(6,2),(9,2),(10,2),(11,2)] .fin .fin)) (.br 8 [] (.br 6 [(7,2),(9,2),(10,2),(11,2)] .fin (.br 7 [(6,2),(9,2),(10,2),(11,2)] .fin .fin)) .fin))) c d) ?_ (fun w1=>?_)
  ·rintro f p c F7 e ⟨iZ,k9,jE,jI,jL,jN,jU,k1,j7,cM,a8,hR⟩ a7;refine zbk ?_ ?_
   ·refine wbs V V V (sal u32 (List.replicate 64 (0:UInt32)) [bp a] V Z136 ?_);intro r FE yU i0 mG DL;have z:=EB.ext a7.1 (zaa mG);refine ⟨z,?_⟩;have kO:=zaa mG;have uQ:=EB.trans a7 (EB.ext a7.1 kO);have AT:Nq (bp a) (bp r):=a8.nq i0;replace a8:=a8.ext kO;have xR:=NS.ext cM i0;have t5:=cM.trans kO;refine zbl<|wt_br ?_;exact nG f p r _ _ e ⟨iZ,k9,rfl,jE,jI,jL,jN,jU,k1,j7,t5,a8,hR,yU,xR,AT⟩ uQ (lt2 a7.1 i0)
   refine zbk ?_ ?_
   ·refine wbs V V V (sal u32 (List.replicate 64 (0:UInt32)) [bp a] V Z136 ?_);intro A H5 zM iD n6 EI;have z:=EB.ext a7.1 (zaa n6);refine ⟨z,?_⟩;have kV:=zaa n6;have vN:=EB.trans a7 (EB.ext a7.1 kV);have C8:Nq (bp a) (bp A):=a8.nq iD;replace a8:=a8.ext kV;have yG:=NS.ext cM iD;have uC:=cM.trans kV;refine zbl<|wt_br ?_;exact nL f p A _ _ e ⟨iZ,k9,rfl,jE,jI,jL,jN,jU,k1,j7,uC,a8,hR,zM,yG,C8⟩ vN (lt2 a7.1 iD)
   refine zbk ?_ ?_
   ·refine wbs V V V (sal u32 (List.replicate 8 (0:UInt32)) [bp a] V Z116 ?_);intro y EU yN hY m4 DB;have z:=EB.ext a7.1 (zaa m4);refine ⟨z,?_⟩;have kM:=zaa m4;have uF:=EB.trans a7 (EB.ext a7.1 kM);have zX:Nq (bp a) (bp y):=a8.nq hY;replace a8:=a8.ext kM;have x8:=NS.ext cM hY;have sP:=cM.trans kM;refine zbl<|wt_br ?_;exact nD f p y _ _ e ⟨iZ,k9,rfl,jE,jI,jL,jN,jU,k1,j7,sP,a8,hR,yN,x8,zX⟩ uF (lt2 a7.1 hY)
   trivial
  refine zcr (fun q C=>∀ (f:List UInt32) (k:Nat) (J:Nat) (c:Nat->Value) (d:World),((za1).bind fun bN=>((lenA 64 (List.replicate 64 (0:UInt32))).bind fun E=>((lenA 64 f).bind fun F=>((lenA 64 bN).bind fun G=>((lenA 8 (List.replicate 8 (0:UInt32))).bind fun H=>some (f,bN,h))))))=some x->(c 0=bp a/\c 1=i/\c 4=bp k/\c 5=bp J/\c 11=i/\c 12=ag u32 f/\c 14=bp a/\c 15=bp a/\c 16=ag u32 h/\c 104=undef/\ExG [bp a] w0 d/\Blk d a 116 (ac u32 h)/\NS [bp a] w0 (bp a)/\Blk d k 136 (ac u32 (List.replicate 64 (0:UInt32)))/\NS [bp a] w0 (bp k)/\Blk d J 136 (ac u32 (List.replicate 64 (0:UInt32)))/\NS [bp a] w0 (bp J)/\Nq (bp a) (bp k)/\Nq (bp a) (bp J)/\Nq (bp k) (bp J))->EB (World.drew w0).heap.size (World.drew w0) d->(∀ g,Hs (bp k) g->(World.drew w0).heap.size<=g)->(∀ g,Hs (bp J) g->(World.drew w0).heap.size<=g)->q (.br 2 [(8,2),(9,2),(10,2),(11,2)] .fin (.br 8 [(2,2),(9,2),(10,2),(11,2)] .fin .fin)) c d) ?_ (fun hN=>?_)
  ·rintro f k J c F5 e ⟨pW,rN,rV,s2,qH,qN,qW,r5,rE,q6,hK,aT,o3,aX,oD,b1,oM,oV,p5,pD⟩ c0 lQ lR;refine zbk ?_ ?_
   ·obtain ⟨bN,wE,e⟩:=bsi e;refine wbs V V V (zab (vs:=[]) Tryz.func118 V V V (ar0) (zay   bN _  wE) ?_);rintro _ F6 ⟨rfl,cU⟩;refine ⟨_,rfl,EB.ext c0.1 cU,?_⟩;have h1:=EB.trans c0 (EB.ext c0.1 cU);replace aT:=aT.ext cU;replace aX:=aX.ext cU;replace b1:=b1.ext cU;have l5:=hK.trans cU;refine wbs V V V (sal u32 (List.replicate 8 (0:UInt32)) [bp a,bp k,bp J] V Z116 ?_);intro eP F8 yS dE mB DI;have z:=EB.ext h1.1 (zaa mB);refine ⟨z,?_⟩;have e3:=zaa mB;have uM:=h1.e e3;have AB:Nq (bp a) (bp eP):=aT.nq dE;have AC:Nq (bp k) (bp eP):=aX.nq dE;have AD:Nq (bp J) (bp eP):=b1.nq dE;replace aT:=aT.ext e3;replace aX:=aX.ext e3;replace b1:=b1.ext e3;have xF:=NS.ext l5 dE;have sW:=l5.trans e3;exact X f bN k J eP _ _ e ⟨pW,rN,rV,s2,rfl,qH,qN,rfl,qW,r5,rE,q6,sW,aT,o3,aX,oD,b1,oM,yS,xF,oV,p5,AB,pD,AC,AD⟩ uM lQ lR (lt2 h1.1 dE)
   refine zbk ?_ ?_
   ·refine wbs V V V (sal u32 (List.replicate 8 (0:UInt32)) [bp a,bp k,bp J] V Z116 ?_);intro eQ F9 iE dF mC DJ;have z:=EB.ext c0.1 (zaa mC);refine ⟨z,?_⟩;have e4:=zaa mC;have lF:=EB.trans c0 (EB.ext c0.1 e4);have AE:Nq (bp a) (bp eQ):=aT.nq dF;have AF:Nq (bp k) (bp eQ):=aX.nq dF;have AG:Nq (bp J) (bp eQ):=b1.nq dF;have xG:=NS.ext hK dF;have sX:=hK.trans e4;obtain ⟨pM,wF,e⟩:=bsi e;refine wbs V V V (zab (vs:=[]) Tryz.func118 V V V (ar0) (zay   pM _  wF) ?_);rintro _ FA ⟨rfl,cA⟩;refine ⟨_,rfl,EB.ext lF.1 cA,?_⟩;have uN:=lF.e cA;replace iE:=iE.ext cA;replace aT:=(aT.ext e4).ext cA;replace aX:=(aX.ext e4).ext cA;replace b1:=(b1.ext e4).ext cA;have sY:=sX.trans cA;exact X f pM k J eQ _ _ e ⟨pW,rN,rV,s2,rfl,qH,qN,rfl,qW,r5,rE,q6,sY,aT,o3,aX,oD,b1,oM,iE,xG,oV,p5,AE,pD,AF,AG⟩ uN lQ lR (lt2 c0.1 dF)
   trivial
  refine zcr (fun q C=>∀ (f:List UInt32) (k:Nat) (K:Nat) (c:Nat->Value) (d:World),((za1).bind fun bO=>((lenA 64 (List.replicate 64 (0:UInt32))).bind fun E=>((lenA 64 f).bind fun F=>((lenA 64 bO).bind fun G=>((lenA 8 (List.replicate 8 (0:UInt32))).bind fun H=>some (f,bO,h))))))=some x->(c 0=bp a/\c 1=i/\c 4=bp k/\c 6=bp K/\c 11=i/\c 12=ag u32 f/\c 14=bp a/\c 15=bp a/\c 16=ag u32 h/\c 104=undef/\ExG [bp a] w0 d/\Blk d a 116 (ac u32 h)/\NS [bp a] w0 (bp a)/\Blk d k 136 (ac u32 (List.replicate 64 (0:UInt32)))/\NS [bp a] w0 (bp k)/\Blk d K 116 (ac u32 (List.replicate 8 (0:UInt32)))/\NS [bp a] w0 (bp K)/\Nq (bp a) (bp k)/\Nq (bp a) (bp K)/\Nq (bp k) (bp K))->EB (World.drew w0).heap.size (World.drew w0) d->(∀ g,Hs (bp k) g->(World.drew w0).heap.size<=g)->(∀ g,Hs (bp K) g->(World.drew w0).heap.size<=g)->q (.br 2 [(7,2),(9,2),(10,2),(11,2)] .fin (.br 7 [(2,2),(9,2),(10,2),(11,2)] .fin .fin)) c d) ?_ (fun hO=>?_)
  ·rintro f k K c FC e ⟨pX,rO,rW,sA,qI,qO,qX,r6,rF,q7,hL,aU,o4,aY,oE,b2,oN,oW,p6,pE⟩ c1 lS lT;refine zbk ?_ ?_
   ·obtain ⟨bO,wG,e⟩:=bsi e;refine wbs V V V (zab (vs:=[]) Tryz.func118 V V V (ar0) (zay   bO _  wG) ?_);rintro _ FD ⟨rfl,cV⟩;refine ⟨_,rfl,EB.ext c1.1 cV,?_⟩;have h2:=EB.trans c1 (EB.ext c1.1 cV);replace aU:=aU.ext cV;replace aY:=aY.ext cV;replace b2:=b2.ext cV;have l6:=hL.trans cV;refine wbs V V V (sal u32 (List.replicate 64 (0:UInt32)) [bp a,bp k,bp K] V Z136 ?_);intro eR FF yV dG mE DM;have z:=EB.ext h2.1 (zaa mE);refine ⟨z,?_⟩;have e5:=zaa mE;have uP:=h2.e e5;have AJ:Nq (bp a) (bp eR):=aU.nq dG;have AK:Nq (bp k) (bp eR):=aY.nq dG;have AL:Nq (bp K) (bp eR):=b2.nq dG;replace aU:=aU.ext e5;replace aY:=aY.ext e5;replace b2:=b2.ext e5;have xI:=NS.ext l6 dG;have t0:=l6.trans e5;exact X f bO k eR K _ _ e ⟨pX,rO,rW,rfl,sA,qI,qO,rfl,qX,r6,rF,q7,t0,aU,o4,aY,oE,yV,xI,b2,oN,oW,AJ,p6,AK,pE,AL.symm⟩ uP lS (lt2 h2.1 dG) lT
   refine zbk ?_ ?_
   ·refine wbs V V V (sal u32 (List.replicate 64 (0:UInt32)) [bp a,bp k,bp K] V Z136 ?_);intro eS FG iF dH mF DN;have z:=EB.ext c1.1 (zaa mF);refine ⟨z,?_⟩;have e6:=zaa mF;have lG:=EB.trans c1 (EB.ext c1.1 e6);have AM:Nq (bp a) (bp eS):=aU.nq dH;have AQ:Nq (bp k) (bp eS):=aY.nq dH;have AR:Nq (bp K) (bp eS):=b2.nq dH;have xN:=NS.ext hL dH;have t1:=hL.trans e6;obtain ⟨pN,wH,e⟩:=bsi e;refine wbs V V V (zab (vs:=[]) Tryz.func118 V V V (ar0) (zay   pN _  wH) ?_);rintro _ FH ⟨rfl,cB⟩;refine ⟨_,rfl,EB.ext lG.1 cB,?_⟩;have uR:=lG.e cB;replace iF:=iF.ext cB;replace aU:=(aU.ext e6).ext cB;replace aY:=(aY.ext e6).ext cB;replace b2:=(b2.ext e6).ext cB;have t2:=t1.trans cB;exact X f pN k eS K _ _ e ⟨pX,rO,rW,rfl,sA,qI,qO,rfl,qX,r6,rF,q7,t2,aU,o4,aY,oE,iF,xN,b2,oN,oW,AM,p6,AQ,pE,AR.symm⟩ uR lS (lt2 c1.1 dH) lT
   trivial
  refine zcr (fun q C=>∀ (f:List UInt32) (k:Nat) (c:Nat->Value) (d:World),((za1).bind fun bM=>((lenA 64 (List.replicate 64 (0:UInt32))).bind fun E=>((lenA 64 f).bind fun F=>((lenA 64 bM).bind fun G=>((lenA 8 (List.replicate 8 (0:UInt32))).bind fun H=>some (f,bM,h))))))=some x->(c 0=bp a/\c 1=i/\c 4=bp k/\c 11=i/\c 12=ag u32 f/\c 14=bp a/\c 15=bp a/\c 16=ag u32 h/\c 104=undef/\ExG [bp a] w0 d/\Blk d a 116 (ac u32 h)/\NS [bp a] w0 (bp a)/\Blk d k 136 (ac u32 (List.replicate 64 (0:UInt32)))/\NS [bp a] w0 (bp k)/\Nq (bp a) (bp k))->EB (World.drew w0).heap.size (World.drew w0) d->(∀ g,Hs (bp k) g->(World.drew w0).heap.size<=g)->q (.br 2 [] (.br 7 [(8,2),(9,2),(10,2),(11,2)] .fin (.br 8 [(7,2),(9,2),(10,2),(11,2)] .fin .fin)) (.br 7 [] (.br 2 [(8,2),(9,2),(10,2),(11,2)] .fin (.br 8 [(2,2),(9,2),(10,2),(11,2)] .fin .fin)) (.br 8 [] (.br 2 [(7,2),(9,2),(10,2),(11,2)] .fin (.br 7 [(2,2),(9,2),(10,2),(11,2)] .fin .fin)) .fin))) c d) ?_ (fun nE=>?_)
  ·rintro f k c F2 e ⟨iY,k8,kF,jD,jH,jM,jT,k0,j6,d9,aF,hQ,aL,i1,iO⟩ a9 h8;refine zbk ?_ ?_
   ·obtain ⟨bM,wD,e⟩:=bsi e;refine wbs V V V (zab (vs:=[]) Tryz.func118 V V V (ar0) (zay   bM _  wD) ?_);rintro _ F3 ⟨rfl,e2⟩;refine ⟨_,rfl,EB.ext a9.1 e2,?_⟩;have uK:=EB.trans a9 (EB.ext a9.1 e2);replace aF:=aF.ext e2;replace aL:=aL.ext e2;have sT:=d9.trans e2;refine zbl<|wt_br ?_;exact nG f bM k _ _ e ⟨iY,k8,kF,jD,jH,rfl,jM,jT,k0,j6,sT,aF,hQ,aL,i1,iO⟩ uK h8
   refine zbk ?_ ?_
   ·refine wbs V V V (sal u32 (List.replicate 64 (0:UInt32)) [bp a,bp k] V Z136 ?_);intro J F4 yR fF mA DH;have z:=EB.ext a9.1 (zaa mA);refine ⟨z,?_⟩;have gI:=zaa mA;have uL:=EB.trans a9 (EB.ext a9.1 gI);have A9:Nq (bp a) (bp J):=aF.nq fF;have AA:Nq (bp k) (bp J):=aL.nq fF;replace aF:=aF.ext gI;replace aL:=aL.ext gI;have xE:=NS.ext d9 fF;have sV:=d9.trans gI;refine zbl<|wt_br ?_;exact hN f k J _ _ e ⟨iY,k8,kF,rfl,jD,jH,jM,jT,k0,j6,sV,aF,hQ,aL,i1,yR,xE,iO,A9,AA⟩ uL h8 (lt2 a9.1 fF)
   refine zbk ?_ ?_
   ·refine wbs V V V (sal u32 (List.replicate 8 (0:UInt32)) [bp a,bp k] V Z116 ?_);intro K FB yT fG mD DK;have z:=EB.ext a9.1 (zaa mD);refine ⟨z,?_⟩;have gJ:=zaa mD;have uO:=EB.trans a9 (EB.ext a9.1 gJ);have AH:Nq (bp a) (bp K):=aF.nq fG;have AI:Nq (bp k) (bp K):=aL.nq fG;replace aF:=aF.ext gJ;replace aL:=aL.ext gJ;have xH:=NS.ext d9 fG;have sZ:=d9.trans gJ;refine zbl<|wt_br ?_;exact hO f k K _ _ e ⟨iY,k8,kF,rfl,jD,jH,jM,jT,k0,j6,sZ,aF,hQ,aL,i1,yT,xH,iO,AH,AI⟩ uO h8 (lt2 a9.1 fG)
   trivial
  refine zcr (fun q C=>∀ (f:List UInt32) (s:Nat) (L:Nat) (c:Nat->Value) (d:World),((za1).bind fun bQ=>((lenA 64 (List.replicate 64 (0:UInt32))).bind fun E=>((lenA 64 f).bind fun F=>((lenA 64 bQ).bind fun G=>((lenA 8 (List.replicate 8 (0:UInt32))).bind fun H=>some (f,bQ,h))))))=some x->(c 0=bp a/\c 1=i/\c 5=bp s/\c 6=bp L/\c 11=i/\c 12=ag u32 f/\c 14=bp a/\c 15=bp a/\c 16=ag u32 h/\c 104=undef/\ExG [bp a] w0 d/\Blk d a 116 (ac u32 h)/\NS [bp a] w0 (bp a)/\Blk d s 136 (ac u32 (List.replicate 64 (0:UInt32)))/\NS [bp a] w0 (bp s)/\Blk d L 116 (ac u32 (List.replicate 8 (0:UInt32)))/\NS [bp a] w0 (bp L)/\Nq (bp a) (bp s)/\Nq (bp a) (bp L)/\Nq (bp s) (bp L))->EB (World.drew w0).heap.size (World.drew w0) d->(∀ g,Hs (bp s) g->(World.drew w0).heap.size<=g)->(∀ g,Hs (bp L) g->(World.drew w0).heap.size<=g)->q (.br 2 [(6,2),(9,2),(10,2),(11,2)] .fin (.br 6 [(2,2),(9,2),(10,2),(11,2)] .fin .fin)) c d) ?_ (fun hP=>?_)
  ·rintro f s L c FN e ⟨pY,rP,s3,sB,qJ,qP,qY,r7,rG,q8,hM,aV,o5,aZ,oF,b3,oO,oX,p7,pF⟩ c2 lU lV;refine zbk ?_ ?_
   ·obtain ⟨bQ,wK,e⟩:=bsi e;refine wbs V V V (zab (vs:=[]) Tryz.func118 V V V (ar0) (zay   bQ _  wK) ?_);rintro _ FO ⟨rfl,cW⟩;refine ⟨_,rfl,EB.ext c2.1 cW,?_⟩;have h3:=EB.trans c2 (EB.ext c2.1 cW);replace aV:=aV.ext cW;replace aZ:=aZ.ext cW;replace b3:=b3.ext cW;have l7:=hM.trans cW;refine wbs V V V (sal u32 (List.replicate 64 (0:UInt32)) [bp a,bp s,bp L] V Z136 ?_);intro eT FP z2 dI mK DR;have z:=EB.ext h3.1 (zaa mK);refine ⟨z,?_⟩;have e8:=zaa mK;have uW:=h3.e e8;have AY:Nq (bp a) (bp eT):=aV.nq dI;have AZ:Nq (bp s) (bp eT):=aZ.nq dI;have B0:Nq (bp L) (bp eT):=b3.nq dI;replace aV:=aV.ext e8;replace aZ:=aZ.ext e8;replace b3:=b3.ext e8;have xS:=NS.ext l7 dI;have t8:=l7.trans e8;exact X f bQ eT s L _ _ e ⟨pY,rP,rfl,s3,sB,qJ,qP,rfl,qY,r7,rG,q8,t8,aV,o5,z2,xS,aZ,oF,b3,oO,AY,oX,p7,AZ.symm,B0.symm,pF⟩ uW (lt2 h3.1 dI) lU lV
   refine zbk ?_ ?_
   ·refine wbs V V V (sal u32 (List.replicate 64 (0:UInt32)) [bp a,bp s,bp L] V Z136 ?_);intro eU FR iG dJ mL DS;have z:=EB.ext c2.1 (zaa mL);refine ⟨z,?_⟩;have e9:=zaa mL;have lH:=EB.trans c2 (EB.ext c2.1 e9);have B1:Nq (bp a) (bp eU):=aV.nq dJ;have B2:Nq (bp s) (bp eU):=aZ.nq dJ;have B3:Nq (bp L) (bp eU):=b3.nq dJ;have xT:=NS.ext hM dJ;have t9:=hM.trans e9;obtain ⟨pO,wL,e⟩:=bsi e;refine wbs V V V (zab (vs:=[]) Tryz.func118 V V V (ar0) (zay   pO _  wL) ?_);rintro _ FS ⟨rfl,cC⟩;refine ⟨_,rfl,EB.ext lH.1 cC,?_⟩;have uX:=lH.e cC;replace iG:=iG.ext cC;replace aV:=(aV.ext e9).ext cC;replace aZ:=(aZ.ext e9).ext cC;replace b3:=(b3.ext e9).ext cC;have tA:=t9.trans cC;exact X f pO eU s L _ _ e ⟨pY,rP,rfl,s3,sB,qJ,qP,rfl,qY,r7,rG,q8,tA,aV,o5,iG,xT,aZ,oF,b3,oO,B1,oX,p7,B2.symm,B3.symm,pF⟩ uX (lt2 c2.1 dJ) lU lV
   trivial
  refine zcr (fun q C=>∀ (f:List UInt32) (s:Nat) (c:Nat->Value) (d:World),((za1).bind fun bP=>((lenA 64 (List.replicate 64 (0:UInt32))).bind fun E=>((lenA 64 f).bind fun F=>((lenA 64 bP).bind fun G=>((lenA 8 (List.replicate 8 (0:UInt32))).bind fun H=>some (f,bP,h))))))=some x->(c 0=bp a/\c 1=i/\c 5=bp s/\c 11=i/\c 12=ag u32 f/\c 14=bp a/\c 15=bp a/\c 16=ag u32 h/\c 104=undef/\ExG [bp a] w0 d/\Blk d a 116 (ac u32 h)/\NS [bp a] w0 (bp a)/\Blk d s 136 (ac u32 (List.replicate 64 (0:UInt32)))/\NS [bp a] w0 (bp s)/\Nq (bp a) (bp s))->EB (World.drew w0).heap.size (World.drew w0) d->(∀ g,Hs (bp s) g->(World.drew w0).heap.size<=g)->q (.br 2 [] (.br 6 [(8,2),(9,2),(10,2),(11,2)] .fin (.br 8 [(6,2),(9,2),(10,2),(11,2)] .fin .fin)) (.br 6 [] (.br 2 [(8,2),(9,2),(10,2),(11,2)] .fin (.br 8 [(2,2),(9,2),(10,2),(11,2)] .fin .fin)) (.br 8 [] (.br 2 [(6,2),(9,2),(10,2),(11,2)] .fin (.br 6 [(2,2),(9,2),(10,2),(11,2)] .fin .fin)) .fin))) c d) ?_ (fun nF=>?_)
  ·rintro f s c FJ e ⟨j0,kA,kH,jF,jJ,jO,jV,k2,j8,dA,aG,hS,aM,i2,iP⟩ aA h9;refine zbk ?_ ?_
   ·obtain ⟨bP,wJ,e⟩:=bsi e;refine wbs V V V (zab (vs:=[]) Tryz.func118 V V V (ar0) (zay   bP _  wJ) ?_);rintro _ FK ⟨rfl,e7⟩;refine ⟨_,rfl,EB.ext aA.1 e7,?_⟩;have uT:=EB.trans aA (EB.ext aA.1 e7);replace aG:=aG.ext e7;replace aM:=aM.ext e7;have t4:=dA.trans e7;refine zbl<|wt_br ?_;exact nL f bP s _ _ e ⟨j0,kA,kH,jF,jJ,rfl,jO,jV,k2,j8,t4,aG,hS,aM,i2,iP⟩ uT h9
   refine zbk ?_ ?_
   ·refine wbs V V V (sal u32 (List.replicate 64 (0:UInt32)) [bp a,bp s] V Z136 ?_);intro hE FL z0 fH mI DP;have z:=EB.ext aA.1 (zaa mI);refine ⟨z,?_⟩;have gK:=zaa mI;have uU:=EB.trans aA (EB.ext aA.1 gK);have AU:Nq (bp a) (bp hE):=aG.nq fH;have AV:Nq (bp s) (bp hE):=aM.nq fH;replace aG:=aG.ext gK;replace aM:=aM.ext gK;have xP:=NS.ext dA fH;have t6:=dA.trans gK;refine zbl<|wt_br ?_;exact hN f hE s _ _ e ⟨j0,kA,rfl,kH,jF,jJ,jO,jV,k2,j8,t6,aG,hS,z0,xP,aM,i2,AU,iP,AV.symm⟩ uU (lt2 aA.1 fH) h9
   refine zbk ?_ ?_
   ·refine wbs V V V (sal u32 (List.replicate 8 (0:UInt32)) [bp a,bp s] V Z116 ?_);intro L FM z1 fI mJ DQ;have z:=EB.ext aA.1 (zaa mJ);refine ⟨z,?_⟩;have gL:=zaa mJ;have uV:=EB.trans aA (EB.ext aA.1 gL);have AW:Nq (bp a) (bp L):=aG.nq fI;have AX:Nq (bp s) (bp L):=aM.nq fI;replace aG:=aG.ext gL;replace aM:=aM.ext gL;have xQ:=NS.ext dA fI;have t7:=dA.trans gL;refine zbl<|wt_br ?_;exact hP f s L _ _ e ⟨j0,kA,kH,rfl,jF,jJ,jO,jV,k2,j8,t7,aG,hS,aM,i2,z1,xQ,iP,AW,AX⟩ uV h9 (lt2 aA.1 fI)
   trivial
  refine zcr (fun q C=>∀ (f:List UInt32) (O:Nat) (c:Nat->Value) (d:World),((za1).bind fun bR=>((lenA 64 (List.replicate 64 (0:UInt32))).bind fun E=>((lenA 64 f).bind fun F=>((lenA 64 bR).bind fun G=>((lenA 8 (List.replicate 8 (0:UInt32))).bind fun H=>some (f,bR,h))))))=some x->(c 0=bp a/\c 1=i/\c 6=bp O/\c 11=i/\c 12=ag u32 f/\c 14=bp a/\c 15=bp a/\c 16=ag u32 h/\c 104=undef/\ExG [bp a] w0 d/\Blk d a 116 (ac u32 h)/\NS [bp a] w0 (bp a)/\Blk d O 116 (ac u32 (List.replicate 8 (0:UInt32)))/\NS [bp a] w0 (bp O)/\Nq (bp a) (bp O))->EB (World.drew w0).heap.size (World.drew w0) d->(∀ g,Hs (bp O) g->(World.drew w0).heap.size<=g)->q (.br 2 [] (.br 6 [(7,2),(9,2),(10,2),(11,2)] .fin (.br 7 [(6,2),(9,2),(10,2),(11,2)] .fin .fin)) (.br 6 [] (.br 2 [(7,2),(9,2),(10,2),(11,2)] .fin (.br 7 [(2,2),(9,2),(10,2),(11,2)] .fin .fin)) (.br 7 [] (.br 2 [(6,2),(9,2),(10,2),(11,2)] .fin (.br 6 [(2,2),(9,2),(10,2),(11,2)] .fin .fin)) .fin))) c d) ?_ (fun nH=>?_)
  ·rintro f O c FU e ⟨j1,kB,kJ,jG,jK,jP,jW,k3,j9,dB,aH,hT,aN,i3,iQ⟩ aB hA;refine zbk ?_ ?_
   ·obtain ⟨bR,wM,e⟩:=bsi e;refine wbs V V V (zab (vs:=[]) Tryz.func118 V V V (ar0) (zay   bR _  wM) ?_);rintro _ FV ⟨rfl,eA⟩;refine ⟨_,rfl,EB.ext aB.1 eA,?_⟩;have uZ:=EB.trans aB (EB.ext aB.1 eA);replace aH:=aH.ext eA;replace aN:=aN.ext eA;have tC:=dB.trans eA;refine zbl<|wt_br ?_;exact nD f bR O _ _ e ⟨j1,kB,kJ,jG,jK,rfl,jP,jW,k3,j9,tC,aH,hT,aN,i3,iQ⟩ uZ hA
   refine zbk ?_ ?_
   ·refine wbs V V V (sal u32 (List.replicate 64 (0:UInt32)) [bp a,bp O] V Z136 ?_);intro hF FW z4 fJ mN DU;have z:=EB.ext aB.1 (zaa mN);refine ⟨z,?_⟩;have gM:=zaa mN;have v0:=EB.trans aB (EB.ext aB.1 gM);have B5:Nq (bp a) (bp hF):=aH.nq fJ;have B6:Nq (bp O) (bp hF):=aN.nq fJ;replace aH:=aH.ext gM;replace aN:=aN.ext gM;have xV:=NS.ext dB fJ;have tD:=dB.trans gM;refine zbl<|wt_br ?_;exact hO f hF O _ _ e ⟨j1,kB,rfl,kJ,jG,jK,jP,jW,k3,j9,tD,aH,hT,z4,xV,aN,i3,B5,iQ,B6.symm⟩ v0 (lt2 aB.1 fJ) hA
   refine zbk ?_ ?_
   ·refine wbs V V V (sal u32 (List.replicate 64 (0:UInt32)) [bp a,bp O] V Z136 ?_);intro hG FY z5 fL mO DW;have z:=EB.ext aB.1 (zaa mO);refine ⟨z,?_⟩;have gO:=zaa mO;have v1:=EB.trans aB (EB.ext aB.1 gO);have B7:Nq (bp a) (bp hG):=aH.nq fL;have B8:Nq (bp O) (bp hG):=aN.nq fL;replace aH:=aH.ext gO;replace aN:=aN.ext gO;have xW:=NS.ext dB fL;have tE:=dB.trans gO;refine zbl<|wt_br ?_;exact hP f hG O _ _ e ⟨j1,kB,rfl,kJ,jG,jK,jP,jW,k3,j9,tE,aH,hT,z5,xW,aN,i3,B7,iQ,B8.symm⟩ v1 (lt2 aB.1 fL) hA
   trivial
  refine zcr (fun q C=>∀ (f:List UInt32) (c:Nat->Value) (d:World),((za1).bind fun p=>((lenA 64 (List.replicate 64 (0:UInt32))).bind fun E=>((lenA 64 f).bind fun F=>((lenA 64 p).bind fun G=>((lenA 8 (List.replicate 8 (0:UInt32))).bind fun H=>some (f,p,h))))))=some x->(c 0=bp a/\c 1=i/\c 11=i/\c 12=ag u32 f/\c 14=bp a/\c 15=bp a/\c 16=ag u32 h/\c 104=undef/\ExG [bp a] w0 d/\Blk d a 116 (ac u32 h)/\NS [bp a] w0 (bp a))->EB (World.drew w0).heap.size (World.drew w0) d->q (.br 2 [] (.br 6 [] (.br 7 [(8,2),(9,2),(10,2),(11,2)] .fin (.br 8 [(7,2),(9,2),(10,2),(11,2)] .fin .fin)) (.br 7 [] (.br 6 [(8,2),(9,2),(10,2),(11,2)] .fin (.br 8 [(6,2),(9,2),(10,2),(11,2)] .fin .fin)) (.br 8 [] (.br 6 [(7,2),(9,2),(10,2),(11,2)] .fin (.br 7 [(6,2),(9,2),(10,2),(11,2)] .fin .fin)) .fin))) (.br 6 [] (.br 2 [] (.br 7 [(8,2),(9,2),(10,2),(11,2)] .fin (.br 8 [(7,2),(9,2),(10,2),(11,2)] .fin .fin)) (.br 7 [] (.br 2 [(8,2),(9,2),(10,2),(11,2)] .fin (.br 8 [(2,2),(9,2),(10,2),(11,2)] .fin .fin)) (.br 8 [] (.br 2 [(7,2),(9,2),(10,2),(11,2)] .fin (.br 7 [(2,2),(9,2),(10,2),(11,2)] .fin .fin)) .fin))) (.br 7 [] (.br 2 [] (.br 6 [(8,2),(9,2),(10,2),(11,2)] .fin (.br 8 [(6,2),(9,2),(10,2),(11,2)] .fin .fin)) (.br 6 [] (.br 2 [(8,2),(9,2),(10,2),(11,2)] .fin (.br 8 [(2,2),(9,2),(10,2),(11,2)] .fin .fin)) (.br 8 [] (.br 2 [(6,2),(9,2),(10,2),(11,2)] .fin (.br 6 [(2,2),(9,2),(10,2),(11,2)] .fin .fin)) .fin))) (.br 8 [] (.br 2 [] (.br 6 [(7,2),(9,2),(10,2),(11,2)] .fin (.br 7 [(6,2),(9,2),(10,2),(11,2)] .fin .fin)) (.br 6 [] (.br 2 [(7,2),(9,2),(10,2),(11,2)] .fin (.br 7 [(2,2),(9,2),(10,2),(11,2)] .fin .fin)) (.br 7 [] (.br 2 [(6,2),(9,2),(10,2),(11,2)] .fin (.br 6 [(2,2),(9,2),(10,2),(11,2)] .fin .fin)) .fin))) .fin)))) c d) ?_ (fun vZ=>?_)
  ·rintro f c ET e ⟨g1,gE,g3,gA,gB,gC,gD,g2,c8,Y,fC⟩ R;refine zbk ?_ ?_
   ·obtain ⟨p,wC,e⟩:=bsi e;refine wbs V V V (zab (vs:=[]) Tryz.func118 V V V (ar0) (zay   p _  wC) ?_);rintro _ EZ ⟨rfl,gH⟩;refine ⟨_,rfl,EB.ext R.1 gH,?_⟩;have uJ:=EB.trans R (EB.ext R.1 gH);replace Y:=Y.ext gH;have sU:=c8.trans gH;refine zbl<|wt_br ?_;exact w1 f p _ _ e ⟨g1,gE,g3,gA,rfl,gB,gC,gD,g2,sU,Y,fC⟩ uJ
   refine zbk ?_ ?_
   ·refine wbs V V V (sal u32 (List.replicate 64 (0:UInt32)) [bp a] V Z136 ?_);intro k F1 yQ hZ m9 DG;have z:=EB.ext R.1 (zaa m9);refine ⟨z,?_⟩;have kN:=zaa m9;have uI:=EB.trans R (EB.ext R.1 kN);have A8:Nq (bp a) (bp k):=Y.nq hZ;replace Y:=Y.ext kN;have xD:=NS.ext c8 hZ;have sS:=c8.trans kN;refine zbl<|wt_br ?_;exact nE f k _ _ e ⟨g1,gE,rfl,g3,gA,gB,gC,gD,g2,sS,Y,fC,yQ,xD,A8⟩ uI (lt2 R.1 hZ)
   refine zbk ?_ ?_
   ·refine wbs V V V (sal u32 (List.replicate 64 (0:UInt32)) [bp a] V Z136 ?_);intro s FI yZ i7 mH DO;have z:=EB.ext R.1 (zaa mH);refine ⟨z,?_⟩;have kP:=zaa mH;have uS:=EB.trans R (EB.ext R.1 kP);have AS:Nq (bp a) (bp s):=Y.nq i7;replace Y:=Y.ext kP;have xO:=NS.ext c8 i7;have t3:=c8.trans kP;refine zbl<|wt_br ?_;exact nF f s _ _ e ⟨g1,gE,rfl,g3,gA,gB,gC,gD,g2,t3,Y,fC,yZ,xO,AS⟩ uS (lt2 R.1 i7)
   refine zbk ?_ ?_
   ·refine wbs V V V (sal u32 (List.replicate 8 (0:UInt32)) [bp a] V Z116 ?_);intro O FT z3 i8 mM DT;have z:=EB.ext R.1 (zaa mM);refine ⟨z,?_⟩;have kQ:=zaa mM;have uY:=EB.trans R (EB.ext R.1 kQ);have B4:Nq (bp a) (bp O):=Y.nq i8;replace Y:=Y.ext kQ;have xU:=NS.ext c8 i8;have tB:=c8.trans kQ;refine zbl<|wt_br ?_;exact nH f O _ _ e ⟨g1,gE,rfl,g3,gA,gB,gC,gD,g2,tB,Y,fC,z3,xU,B4⟩ uY (lt2 R.1 i8)
   trivial
  refine zcr (fun q C=>∀ (o:Nat) (S:Nat) (c:Nat->Value) (d:World),((zd4 D).bind fun dU=>((za1).bind fun bN=>((lenA 64 (List.replicate 64 (0:UInt32))).bind fun E=>((lenA 64 dU).bind fun F=>((lenA 64 bN).bind fun G=>((lenA 8 (List.replicate 8 (0:UInt32))).bind fun H=>some (dU,bN,h)))))))=some x->(c 0=bp a/\c 1=i/\c 4=bp o/\c 5=bp S/\c 11=i/\c 14=bp a/\c 15=bp a/\c 16=ag u32 h/\c 104=undef/\ExG [bp a] w0 d/\Blk d a 116 (ac u32 h)/\NS [bp a] w0 (bp a)/\Blk d o 136 (ac u32 (List.replicate 64 (0:UInt32)))/\NS [bp a] w0 (bp o)/\Blk d S 136 (ac u32 (List.replicate 64 (0:UInt32)))/\NS [bp a] w0 (bp S)/\Nq (bp a) (bp o)/\Nq (bp a) (bp S)/\Nq (bp o) (bp S))->EB (World.drew w0).heap.size (World.drew w0) d->(∀ g,Hs (bp o) g->(World.drew w0).heap.size<=g)->(∀ g,Hs (bp S) g->(World.drew w0).heap.size<=g)->q (.br 1 [] (.br 2 [(8,2),(9,2),(10,2),(11,2)] .fin (.br 8 [(2,2),(9,2),(10,2),(11,2)] .fin .fin)) (.br 8 [(1,2),(2,2),(9,2),(10,2),(11,2)] .fin .fin)) c d) ?_ (fun nI=>?_)
  ·rintro o S c G3 e ⟨q0,rR,rY,s4,g5,r0,r9,rI,qA,f5,b5,o7,b8,oH,bB,oP,oZ,p8,pG⟩ c3 lX lY;refine zbk ?_ ?_
   ·obtain ⟨dU,wO,e⟩:=bsi e;refine wbs V V V (zab (vs:=[i]) Tryz.func117 V V V (ar1 (by exact g5)) (zbs D i dU _ (aS.lift (Lift.exg0 f5)) wO) ?_);rintro _ G4 ⟨rfl,cX⟩;refine ⟨_,rfl,EB.ext c3.1 cX,?_⟩;have v5:=EB.trans c3 (EB.ext c3.1 cX);replace b5:=b5.ext cX;replace b8:=b8.ext cX;replace bB:=bB.ext cX;have tI:=f5.trans cX;refine zbl<|wt_br ?_;exact hN dU o S _ _ e ⟨q0,rR,rY,s4,g5,rfl,r0,r9,rI,qA,tI,b5,o7,b8,oH,bB,oP,oZ,p8,pG⟩ v5 lX lY
   refine zbk ?_ ?_
   ·refine wbs V V V (sal u32 (List.replicate 8 (0:UInt32)) [bp a,bp o,bp S] V Z116 ?_);intro eV G5 iH dK mS DZ;have z:=EB.ext c3.1 (zaa mS);refine ⟨z,?_⟩;have eC:=zaa mS;have lI:=EB.trans c3 (EB.ext c3.1 eC);have BF:Nq (bp a) (bp eV):=b5.nq dK;have BG:Nq (bp o) (bp eV):=b8.nq dK;have BH:Nq (bp S) (bp eV):=bB.nq dK;have y1:=NS.ext f5 dK;have l8:=f5.trans eC;obtain ⟨pP,wP,e⟩:=bsi e;refine wbs V V V (zab (vs:=[i]) Tryz.func117 V V V (ar1 (by exact g5)) (zbs D i pP _ (aS.lift (Lift.exg0 l8)) wP) ?_);rintro _ G6 ⟨rfl,cD⟩;refine ⟨_,rfl,EB.ext lI.1 cD,?_⟩;have lJ:=lI.e cD;replace b5:=(b5.ext eC).ext cD;replace b8:=(b8.ext eC).ext cD;replace bB:=(bB.ext eC).ext cD;have tJ:=l8.trans cD;obtain ⟨pQ,wQ,e⟩:=bsi e;refine wbs V V V (zab (vs:=[]) Tryz.func118 V V V (ar0) (zay   pQ _  wQ) ?_);rintro _ G7 ⟨rfl,cE⟩;refine ⟨_,rfl,EB.ext lJ.1 cE,?_⟩;have v6:=lJ.e cE;replace iH:=(iH.ext cD).ext cE;replace b5:=b5.ext cE;replace b8:=b8.ext cE;replace bB:=bB.ext cE;have tK:=tJ.trans cE;exact X pP pQ o S eV _ _ e ⟨q0,rR,rY,s4,rfl,g5,rfl,rfl,r0,r9,rI,qA,tK,b5,o7,b8,oH,bB,oP,iH,y1,oZ,p8,BF,pG,BG,BH⟩ v6 lX lY (lt2 c3.1 dK)
   trivial
  refine zcr (fun q C=>∀ (o:Nat) (T:Nat) (c:Nat->Value) (d:World),((zd4 D).bind fun dV=>((za1).bind fun bO=>((lenA 64 (List.replicate 64 (0:UInt32))).bind fun E=>((lenA 64 dV).bind fun F=>((lenA 64 bO).bind fun G=>((lenA 8 (List.replicate 8 (0:UInt32))).bind fun H=>some (dV,bO,h)))))))=some x->(c 0=bp a/\c 1=i/\c 4=bp o/\c 6=bp T/\c 11=i/\c 14=bp a/\c 15=bp a/\c 16=ag u32 h/\c 104=undef/\ExG [bp a] w0 d/\Blk d a 116 (ac u32 h)/\NS [bp a] w0 (bp a)/\Blk d o 136 (ac u32 (List.replicate 64 (0:UInt32)))/\NS [bp a] w0 (bp o)/\Blk d T 116 (ac u32 (List.replicate 8 (0:UInt32)))/\NS [bp a] w0 (bp T)/\Nq (bp a) (bp o)/\Nq (bp a) (bp T)/\Nq (bp o) (bp T))->EB (World.drew w0).heap.size (World.drew w0) d->(∀ g,Hs (bp o) g->(World.drew w0).heap.size<=g)->(∀ g,Hs (bp T) g->(World.drew w0).heap.size<=g)->q (.br 1 [] (.br 2 [(7,2),(9,2),(10,2),(11,2)] .fin (.br 7 [(2,2),(9,2),(10,2),(11,2)] .fin .fin)) (.br 7 [(1,2),(2,2),(9,2),(10,2),(11,2)] .fin .fin)) c d) ?_ (fun nJ=>?_)
  ·rintro o T c G9 e ⟨q1,rS,rZ,sC,g6,r1,rA,rJ,qB,f6,b6,o8,b9,oI,bC,oQ,p0,p9,pH⟩ c4 lZ m0;refine zbk ?_ ?_
   ·obtain ⟨dV,wR,e⟩:=bsi e;refine wbs V V V (zab (vs:=[i]) Tryz.func117 V V V (ar1 (by exact g6)) (zbs D i dV _ (aS.lift (Lift.exg0 f6)) wR) ?_);rintro _ GA ⟨rfl,cY⟩;refine ⟨_,rfl,EB.ext c4.1 cY,?_⟩;have v8:=EB.trans c4 (EB.ext c4.1 cY);replace b6:=b6.ext cY;replace b9:=b9.ext cY;replace bC:=bC.ext cY;have tM:=f6.trans cY;refine zbl<|wt_br ?_;exact hO dV o T _ _ e ⟨q1,rS,rZ,sC,g6,rfl,r1,rA,rJ,qB,tM,b6,o8,b9,oI,bC,oQ,p0,p9,pH⟩ v8 lZ m0
   refine zbk ?_ ?_
   ·refine wbs V V V (sal u32 (List.replicate 64 (0:UInt32)) [bp a,bp o,bp T] V Z136 ?_);intro eW GB iJ dL mU E1;have z:=EB.ext c4.1 (zaa mU);refine ⟨z,?_⟩;have eD:=zaa mU;have lK:=EB.trans c4 (EB.ext c4.1 eD);have BK:Nq (bp a) (bp eW):=b6.nq dL;have BL:Nq (bp o) (bp eW):=b9.nq dL;have BM:Nq (bp T) (bp eW):=bC.nq dL;have y4:=NS.ext f6 dL;have lA:=f6.trans eD;obtain ⟨pR,wS,e⟩:=bsi e;refine wbs V V V (zab (vs:=[i]) Tryz.func117 V V V (ar1 (by exact g6)) (zbs D i pR _ (aS.lift (Lift.exg0 lA)) wS) ?_);rintro _ GD ⟨rfl,cF⟩;refine ⟨_,rfl,EB.ext lK.1 cF,?_⟩;have lL:=lK.e cF;replace b6:=(b6.ext eD).ext cF;replace b9:=(b9.ext eD).ext cF;replace bC:=(bC.ext eD).ext cF;have tN:=lA.trans cF;obtain ⟨pS,wT,e⟩:=bsi e;refine wbs V V V (zab (vs:=[]) Tryz.func118 V V V (ar0) (zay   pS _  wT) ?_);rintro _ GE ⟨rfl,cG⟩;refine ⟨_,rfl,EB.ext lL.1 cG,?_⟩;have v9:=lL.e cG;replace iJ:=(iJ.ext cF).ext cG;replace b6:=b6.ext cG;replace b9:=b9.ext cG;replace bC:=bC.ext cG;have tO:=tN.trans cG;exact X pR pS o eW T _ _ e ⟨q1,rS,rZ,rfl,sC,g6,rfl,rfl,r1,rA,rJ,qB,tO,b6,o8,b9,oI,iJ,y4,bC,oQ,p0,BK,p9,BL,pH,BM.symm⟩ v9 lZ (lt2 c4.1 dL) m0
   trivial
  refine zcr (fun q C=>∀ (o:Nat) (c:Nat->Value) (d:World),((zd4 D).bind fun dT=>((za1).bind fun bM=>((lenA 64 (List.replicate 64 (0:UInt32))).bind fun E=>((lenA 64 dT).bind fun F=>((lenA 64 bM).bind fun G=>((lenA 8 (List.replicate 8 (0:UInt32))).bind fun H=>some (dT,bM,h)))))))=some x->(c 0=bp a/\c 1=i/\c 4=bp o/\c 11=i/\c 14=bp a/\c 15=bp a/\c 16=ag u32 h/\c 104=undef/\ExG [bp a] w0 d/\Blk d a 116 (ac u32 h)/\NS [bp a] w0 (bp a)/\Blk d o 136 (ac u32 (List.replicate 64 (0:UInt32)))/\NS [bp a] w0 (bp o)/\Nq (bp a) (bp o))->EB (World.drew w0).heap.size (World.drew w0) d->(∀ g,Hs (bp o) g->(World.drew w0).heap.size<=g)->q (.br 1 [] (.br 2 [] (.br 7 [(8,2),(9,2),(10,2),(11,2)] .fin (.br 8 [(7,2),(9,2),(10,2),(11,2)] .fin .fin)) (.br 7 [] (.br 2 [(8,2),(9,2),(10,2),(11,2)] .fin (.br 8 [(2,2),(9,2),(10,2),(11,2)] .fin .fin)) (.br 8 [] (.br 2 [(7,2),(9,2),(10,2),(11,2)] .fin (.br 7 [(2,2),(9,2),(10,2),(11,2)] .fin .fin)) .fin))) (.br 7 [] (.br 1 [] (.br 2 [(8,2),(9,2),(10,2),(11,2)] .fin (.br 8 [(2,2),(9,2),(10,2),(11,2)] .fin .fin)) (.br 8 [(1,2),(2,2),(9,2),(10,2),(11,2)] .fin .fin)) (.br 8 [] (.br 1 [] (.br 2 [(7,2),(9,2),(10,2),(11,2)] .fin (.br 7 [(2,2),(9,2),(10,2),(11,2)] .fin .fin)) (.br 7 [(1,2),(2,2),(9,2),(10,2),(11,2)] .fin .fin)) .fin))) c d) ?_ (fun w2=>?_)
  ·rintro o c G0 e ⟨j2,kC,kG,g4,jQ,jX,k4,jA,cN,aI,hU,aO,i4,iR⟩ aC hB;refine zbk ?_ ?_
   ·obtain ⟨dT,wN,e⟩:=bsi e;refine wbs V V V (zab (vs:=[i]) Tryz.func117 V V V (ar1 (by exact g4)) (zbs D i dT _ (aS.lift (Lift.exg0 cN)) wN) ?_);rintro _ G1 ⟨rfl,eB⟩;refine ⟨_,rfl,EB.ext aC.1 eB,?_⟩;have v3:=EB.trans aC (EB.ext aC.1 eB);replace aI:=aI.ext eB;replace aO:=aO.ext eB;have tG:=cN.trans eB;refine zbl<|wt_br ?_;exact nE dT o _ _ e ⟨j2,kC,kG,g4,rfl,jQ,jX,k4,jA,tG,aI,hU,aO,i4,iR⟩ v3 hB
   refine zbk ?_ ?_
   ·refine wbs V V V (sal u32 (List.replicate 64 (0:UInt32)) [bp a,bp o] V Z136 ?_);intro S G2 z7 fM mR DY;have z:=EB.ext aC.1 (zaa mR);refine ⟨z,?_⟩;have gP:=zaa mR;have v4:=EB.trans aC (EB.ext aC.1 gP);have BA:Nq (bp a) (bp S):=aI.nq fM;have BC:Nq (bp o) (bp S):=aO.nq fM;replace aI:=aI.ext gP;replace aO:=aO.ext gP;have xY:=NS.ext cN fM;have tH:=cN.trans gP;refine zbl<|wt_br ?_;exact nI o S _ _ e ⟨j2,kC,kG,rfl,g4,jQ,jX,k4,jA,tH,aI,hU,aO,i4,z7,xY,iR,BA,BC⟩ v4 hB (lt2 aC.1 fM)
   refine zbk ?_ ?_
   ·refine wbs V V V (sal u32 (List.replicate 8 (0:UInt32)) [bp a,bp o] V Z116 ?_);intro T G8 z9 fN mT E0;have z:=EB.ext aC.1 (zaa mT);refine ⟨z,?_⟩;have gQ:=zaa mT;have v7:=EB.trans aC (EB.ext aC.1 gQ);have BI:Nq (bp a) (bp T):=aI.nq fN;have BJ:Nq (bp o) (bp T):=aO.nq fN;replace aI:=aI.ext gQ;replace aO:=aO.ext gQ;have y2:=NS.ext cN fN;have tL:=cN.trans gQ;refine zbl<|wt_br ?_;exact nJ o T _ _ e ⟨j2,kC,kG,rfl,g4,jQ,jX,k4,jA,tL,aI,hU,aO,i4,z9,y2,iR,BI,BJ⟩ v7 hB (lt2 aC.1 fN)
   trivial
  refine zcr (fun q C=>∀ (t:Nat) (U:Nat) (c:Nat->Value) (d:World),((zd4 D).bind fun dX=>((za1).bind fun bQ=>((lenA 64 (List.replicate 64 (0:UInt32))).bind fun E=>((lenA 64 dX).bind fun F=>((lenA 64 bQ).bind fun G=>((lenA 8 (List.replicate 8 (0:UInt32))).bind fun H=>some (dX,bQ,h)))))))=some x->(c 0=bp a/\c 1=i/\c 5=bp t/\c 6=bp U/\c 11=i/\c 14=bp a/\c 15=bp a/\c 16=ag u32 h/\c 104=undef/\ExG [bp a] w0 d/\Blk d a 116 (ac u32 h)/\NS [bp a] w0 (bp a)/\Blk d t 136 (ac u32 (List.replicate 64 (0:UInt32)))/\NS [bp a] w0 (bp t)/\Blk d U 116 (ac u32 (List.replicate 8 (0:UInt32)))/\NS [bp a] w0 (bp U)/\Nq (bp a) (bp t)/\Nq (bp a) (bp U)/\Nq (bp t) (bp U))->EB (World.drew w0).heap.size (World.drew w0) d->(∀ g,Hs (bp t) g->(World.drew w0).heap.size<=g)->(∀ g,Hs (bp U) g->(World.drew w0).heap.size<=g)->q (.br 1 [] (.br 2 [(6,2),(9,2),(10,2),(11,2)] .fin (.br 6 [(2,2),(9,2),(10,2),(11,2)] .fin .fin)) (.br 6 [(1,2),(2,2),(9,2),(10,2),(11,2)] .fin .fin)) c d) ?_ (fun nK=>?_)
  ·rintro t U c GK e ⟨q2,rT,s5,sD,g8,r2,rB,rK,qC,f7,b7,o9,bA,oJ,bD,oR,p1,pA,pI⟩ c5 m1 m2;refine zbk ?_ ?_
   ·obtain ⟨dX,wV,e⟩:=bsi e;refine wbs V V V (zab (vs:=[i]) Tryz.func117 V V V (ar1 (by exact g8)) (zbs D i dX _ (aS.lift (Lift.exg0 f7)) wV) ?_);rintro _ GL ⟨rfl,cZ⟩;refine ⟨_,rfl,EB.ext c5.1 cZ,?_⟩;have vF:=EB.trans c5 (EB.ext c5.1 cZ);replace b7:=b7.ext cZ;replace bA:=bA.ext cZ;replace bD:=bD.ext cZ;have tT:=f7.trans cZ;refine zbl<|wt_br ?_;exact hP dX t U _ _ e ⟨q2,rT,s5,sD,g8,rfl,r2,rB,rK,qC,tT,b7,o9,bA,oJ,bD,oR,p1,pA,pI⟩ vF m1 m2
   refine zbk ?_ ?_
   ·refine wbs V V V (sal u32 (List.replicate 64 (0:UInt32)) [bp a,bp t,bp U] V Z136 ?_);intro eX GM iK dN mZ E6;have z:=EB.ext c5.1 (zaa mZ);refine ⟨z,?_⟩;have eG:=zaa mZ;have lM:=EB.trans c5 (EB.ext c5.1 eG);have BU:Nq (bp a) (bp eX):=b7.nq dN;have BV:Nq (bp t) (bp eX):=bA.nq dN;have BX:Nq (bp U) (bp eX):=bD.nq dN;have y8:=NS.ext f7 dN;have lB:=f7.trans eG;obtain ⟨pT,wW,e⟩:=bsi e;refine wbs V V V (zab (vs:=[i]) Tryz.func117 V V V (ar1 (by exact g8)) (zbs D i pT _ (aS.lift (Lift.exg0 lB)) wW) ?_);rintro _ GN ⟨rfl,cH⟩;refine ⟨_,rfl,EB.ext lM.1 cH,?_⟩;have lN:=lM.e cH;replace b7:=(b7.ext eG).ext cH;replace bA:=(bA.ext eG).ext cH;replace bD:=(bD.ext eG).ext cH;have tU:=lB.trans cH;obtain ⟨pU,wX,e⟩:=bsi e;refine wbs V V V (zab (vs:=[]) Tryz.func118 V V V (ar0) (zay   pU _  wX) ?_);rintro _ GO ⟨rfl,cI⟩;refine ⟨_,rfl,EB.ext lN.1 cI,?_⟩;have vG:=lN.e cI;replace iK:=(iK.ext cH).ext cI;replace b7:=b7.ext cI;replace bA:=bA.ext cI;replace bD:=bD.ext cI;have tV:=tU.trans cI;exact X pT pU eX t U _ _ e ⟨q2,rT,rfl,s5,sD,g8,rfl,rfl,r2,rB,rK,qC,tV,b7,o9,iK,y8,bA,oJ,bD,oR,BU,p1,pA,BV.symm,BX.symm,pI⟩ vG (lt2 c5.1 dN) m1 m2
   trivial
  refine zcr (fun q C=>∀ (t:Nat) (c:Nat->Value) (d:World),((zd4 D).bind fun dW=>((za1).bind fun bP=>((lenA 64 (List.replicate 64 (0:UInt32))).bind fun E=>((lenA 64 dW).bind fun F=>((lenA 64 bP).bind fun G=>((lenA 8 (List.replicate 8 (0:UInt32))).bind fun H=>some (dW,bP,h)))))))=some x->(c 0=bp a/\c 1=i/\c 5=bp t/\c 11=i/\c 14=bp a/\c 15=bp a/\c 16=ag u32 h/\c 104=undef/\ExG [bp a] w0 d/\Blk d a 116 (ac u32 h)/\NS [bp a] w0 (bp a)/\Blk d t 136 (ac u32 (List.replicate 64 (0:UInt32)))/\NS [bp a] w0 (bp t)/\Nq (bp a) (bp t))->EB (World.drew w0).heap.size (World.drew w0) d->(∀ g,Hs (bp t) g->(World.drew w0).heap.size<=g)->q (.br 1 [] (.br 2 [] (.br 6 [(8,2),(9,2),(10,2),(11,2)] .fin (.br 8 [(6,2),(9,2),(10,2),(11,2)] .fin .fin)) (.br 6 [] (.br 2 [(8,2),(9,2),(10,2),(11,2)] .fin (.br 8 [(2,2),(9,2),(10,2),(11,2)] .fin .fin)) (.br 8 [] (.br 2 [(6,2),(9,2),(10,2),(11,2)] .fin (.br 6 [(2,2),(9,2),(10,2),(11,2)] .fin .fin)) .fin))) (.br 6 [] (.br 1 [] (.br 2 [(8,2),(9,2),(10,2),(11,2)] .fin (.br 8 [(2,2),(9,2),(10,2),(11,2)] .fin .fin)) (.br 8 [(1,2),(2,2),(9,2),(10,2),(11,2)] .fin .fin)) (.br 8 [] (.br 1 [] (.br 2 [(6,2),(9,2),(10,2),(11,2)] .fin (.br 6 [(2,2),(9,2),(10,2),(11,2)] .fin .fin)) (.br 6 [(1,2),(2,2),(9,2),(10,2),(11,2)] .fin .fin)) .fin))) c d) ?_ (fun w3=>?_)
  ·rintro t c GG e ⟨j3,kD,kI,g7,jR,jY,k5,jB,cO,aJ,hV,aP,i5,iS⟩ aD hC;refine zbk ?_ ?_
   ·obtain ⟨dW,wU,e⟩:=bsi e;refine wbs V V V (zab (vs:=[i]) Tryz.func117 V V V (ar1 (by exact g7)) (zbs D i dW _ (aS.lift (Lift.exg0 cO)) wU) ?_);rintro _ GH ⟨rfl,eF⟩;refine ⟨_,rfl,EB.ext aD.1 eF,?_⟩;have vC:=EB.trans aD (EB.ext aD.1 eF);replace aJ:=aJ.ext eF;replace aP:=aP.ext eF;have tQ:=cO.trans eF;refine zbl<|wt_br ?_;exact nF dW t _ _ e ⟨j3,kD,kI,g7,rfl,jR,jY,k5,jB,tQ,aJ,hV,aP,i5,iS⟩ vC hC
   refine zbk ?_ ?_
   ·refine wbs V V V (sal u32 (List.replicate 64 (0:UInt32)) [bp a,bp t] V Z136 ?_);intro hH GI zC fO mX E4;have z:=EB.ext aD.1 (zaa mX);refine ⟨z,?_⟩;have gR:=zaa mX;have vD:=EB.trans aD (EB.ext aD.1 gR);have BP:Nq (bp a) (bp hH):=aJ.nq fO;have BQ:Nq (bp t) (bp hH):=aP.nq fO;replace aJ:=aJ.ext gR;replace aP:=aP.ext gR;have y6:=NS.ext cO fO;have tR:=cO.trans gR;refine zbl<|wt_br ?_;exact nI hH t _ _ e ⟨j3,kD,rfl,kI,g7,jR,jY,k5,jB,tR,aJ,hV,zC,y6,aP,i5,BP,iS,BQ.symm⟩ vD (lt2 aD.1 fO) hC
   refine zbk ?_ ?_
   ·refine wbs V V V (sal u32 (List.replicate 8 (0:UInt32)) [bp a,bp t] V Z116 ?_);intro U GJ zD fP mY E5;have z:=EB.ext aD.1 (zaa mY);refine ⟨z,?_⟩;have gS:=zaa mY;have vE:=EB.trans aD (EB.ext aD.1 gS);have BR:Nq (bp a) (bp U):=aJ.nq fP;have BS:Nq (bp t) (bp U):=aP.nq fP;replace aJ:=aJ.ext gS;replace aP:=aP.ext gS;have y7:=NS.ext cO fP;have tS:=cO.trans gS;refine zbl<|wt_br ?_;exact nK t U _ _ e ⟨j3,kD,kI,rfl,g7,jR,jY,k5,jB,tS,aJ,hV,aP,i5,zD,y7,iS,BR,BS⟩ vE hC (lt2 aD.1 fP)
   trivial
  refine zcr (fun q C=>∀ (Q:Nat) (c:Nat->Value) (d:World),((zd4 D).bind fun dY=>((za1).bind fun bR=>((lenA 64 (List.replicate 64 (0:UInt32))).bind fun E=>((lenA 64 dY).bind fun F=>((lenA 64 bR).bind fun G=>((lenA 8 (List.replicate 8 (0:UInt32))).bind fun H=>some (dY,bR,h)))))))=some x->(c 0=bp a/\c 1=i/\c 6=bp Q/\c 11=i/\c 14=bp a/\c 15=bp a/\c 16=ag u32 h/\c 104=undef/\ExG [bp a] w0 d/\Blk d a 116 (ac u32 h)/\NS [bp a] w0 (bp a)/\Blk d Q 116 (ac u32 (List.replicate 8 (0:UInt32)))/\NS [bp a] w0 (bp Q)/\Nq (bp a) (bp Q))->EB (World.drew w0).heap.size (World.drew w0) d->(∀ g,Hs (bp Q) g->(World.drew w0).heap.size<=g)->q (.br 1 [] (.br 2 [] (.br 6 [(7,2),(9,2),(10,2),(11,2)] .fin (.br 7 [(6,2),(9,2),(10,2),(11,2)] .fin .fin)) (.br 6 [] (.br 2 [(7,2),(9,2),(10,2),(11,2)] .fin (.br 7 [(2,2),(9,2),(10,2),(11,2)] .fin .fin)) (.br 7 [] (.br 2 [(6,2),(9,2),(10,2),(11,2)] .fin (.br 6 [(2,2),(9,2),(10,2),(11,2)] .fin .fin)) .fin))) (.br 6 [] (.br 1 [] (.br 2 [(7,2),(9,2),(10,2),(11,2)] .fin (.br 7 [(2,2),(9,2),(10,2),(11,2)] .fin .fin)) (.br 7 [(1,2),(2,2),(9,2),(10,2),(11,2)] .fin .fin)) (.br 7 [] (.br 1 [] (.br 2 [(6,2),(9,2),(10,2),(11,2)] .fin (.br 6 [(2,2),(9,2),(10,2),(11,2)] .fin .fin)) (.br 6 [(1,2),(2,2),(9,2),(10,2),(11,2)] .fin .fin)) .fin))) c d) ?_ (fun w4=>?_)
  ·rintro Q c GQ e ⟨j4,kE,kK,g9,jS,jZ,k6,jC,cP,aK,hW,aQ,i6,iT⟩ aE hD;refine zbk ?_ ?_
   ·obtain ⟨dY,wY,e⟩:=bsi e;refine wbs V V V (zab (vs:=[i]) Tryz.func117 V V V (ar1 (by exact g9)) (zbs D i dY _ (aS.lift (Lift.exg0 cP)) wY) ?_);rintro _ GR ⟨rfl,eH⟩;refine ⟨_,rfl,EB.ext aE.1 eH,?_⟩;have vI:=EB.trans aE (EB.ext aE.1 eH);replace aK:=aK.ext eH;replace aQ:=aQ.ext eH;have tY:=cP.trans eH;refine zbl<|wt_br ?_;exact nH dY Q _ _ e ⟨j4,kE,kK,g9,rfl,jS,jZ,k6,jC,tY,aK,hW,aQ,i6,iT⟩ vI hD
   refine zbk ?_ ?_
   ·refine wbs V V V (sal u32 (List.replicate 64 (0:UInt32)) [bp a,bp Q] V Z136 ?_);intro hI GS zF fQ n1 E8;have z:=EB.ext aE.1 (zaa n1);refine ⟨z,?_⟩;have gT:=zaa n1;have vJ:=EB.trans aE (EB.ext aE.1 gT);have BZ:Nq (bp a) (bp hI):=aK.nq fQ;have C0:Nq (bp Q) (bp hI):=aQ.nq fQ;replace aK:=aK.ext gT;replace aQ:=aQ.ext gT;have yB:=NS.ext cP fQ;have tZ:=cP.trans gT;refine zbl<|wt_br ?_;exact nJ hI Q _ _ e ⟨j4,kE,rfl,kK,g9,jS,jZ,k6,jC,tZ,aK,hW,zF,yB,aQ,i6,BZ,iT,C0.symm⟩ vJ (lt2 aE.1 fQ) hD
   refine zbk ?_ ?_
   ·refine wbs V V V (sal u32 (List.replicate 64 (0:UInt32)) [bp a,bp Q] V Z136 ?_);intro hJ GT zG fR n2 E9;have z:=EB.ext aE.1 (zaa n2);refine ⟨z,?_⟩;have gU:=zaa n2;have vK:=EB.trans aE (EB.ext aE.1 gU);have C1:Nq (bp a) (bp hJ):=aK.nq fR;have C2:Nq (bp Q) (bp hJ):=aQ.nq fR;replace aK:=aK.ext gU;replace aQ:=aQ.ext gU;have yD:=NS.ext cP fR;have u0:=cP.trans gU;refine zbl<|wt_br ?_;exact nK hJ Q _ _ e ⟨j4,kE,rfl,kK,g9,jS,jZ,k6,jC,u0,aK,hW,zG,yD,aQ,i6,C1,iT,C2.symm⟩ vK (lt2 aE.1 fR) hD
   trivial
  refine zbk ?_ ?_
  ·obtain ⟨f,x3,e⟩:=bsi e;refine wbs V V V (zab (vs:=[i]) Tryz.func117 V V V (ar1 V) (zbs D i f _ (aS.lift (Lift.exg0 bH)) x3) ?_);rintro _ H4 ⟨rfl,gW⟩;refine ⟨_,rfl,EB.ext a6.1 gW,?_⟩;have vO:=a6.e gW;replace I:=I.ext gW;have uE:=bH.trans gW;refine zbl<|wt_br ?_;exact vZ f _ _ e ⟨rfl,rfl,rfl,rfl,rfl,rfl,rfl,rfl,uE,I,NS.own⟩ vO
  refine zbk ?_ ?_
  ·refine wbs V V V (sal u32 (List.replicate 64 (0:UInt32)) [bp a] V Z136 ?_);intro o FZ z6 i9 mP DX;have z:=EB.ext a6.1 (zaa mP);refine ⟨z,?_⟩;have kR:=zaa mP;have v2:=a6.e kR;have B9:Nq (bp a) (bp o):=I.nq i9;replace I:=I.ext kR;have xX:=NS.ext bH i9;have tF:=bH.trans kR;refine zbl<|wt_br ?_;exact w2 o _ _ e ⟨rfl,rfl,rfl,rfl,rfl,rfl,rfl,rfl,tF,I,NS.own,z6,xX,B9⟩ v2 (lt2 a6.1 i9)
  refine zbk ?_ ?_
  ·refine wbs V V V (sal u32 (List.replicate 64 (0:UInt32)) [bp a] V Z136 ?_);intro t GF zB iA mV E3;have z:=EB.ext a6.1 (zaa mV);refine ⟨z,?_⟩;have kS:=zaa mV;have vA:=a6.e kS;have BN:Nq (bp a) (bp t):=I.nq iA;replace I:=I.ext kS;have y5:=NS.ext bH iA;have tP:=bH.trans kS;refine zbl<|wt_br ?_;exact w3 t _ _ e ⟨rfl,rfl,rfl,rfl,rfl,rfl,rfl,rfl,tP,I,NS.own,zB,y5,BN⟩ vA (lt2 a6.1 iA)
  refine zbk ?_ ?_
  ·refine wbs V V V (sal u32 (List.replicate 8 (0:UInt32)) [bp a] V Z116 ?_);intro Q GP zE iB n0 E7;have z:=EB.ext a6.1 (zaa n0);refine ⟨z,?_⟩;have kT:=zaa n0;have vH:=a6.e kT;have BY:Nq (bp a) (bp Q):=I.nq iB;replace I:=I.ext kT;have y9:=NS.ext bH iB;have tX:=bH.trans kT;refine zbl<|wt_br ?_;exact w4 Q _ _ e ⟨rfl,rfl,rfl,rfl,rfl,rfl,rfl,rfl,tX,I,NS.own,zE,y9,BY⟩ vH (lt2 a6.1 iB)
  trivial
 rintro _ GU ⟨c6,c7,W,CI,CR,CS,CT,CL,vW,yK,x5,yX,xJ,z8,xZ,zH,yC,zP,zS,zU,AN,AP,BD⟩;refine W_th<|W_seq<|W_sr<|mv (i64 0) V V<|wnt<|?_;obtain ⟨sI,sJ,bE⟩:=bsi bE;refine W_mid (fun c d=>c 0=bp a/\c 6=bp W/\c 104=undef/\ExG [bp a] w0 d/\Blk d a 116 (ac u32 h)/\NS [bp a] w0 (bp a)/\Blk d W 116 (ac u32 sI)/\NS [bp a] w0 (bp W)/\Nq (bp a) (bp W)) ?_ ?_
 ·refine zac<|za4 (fun bT c d=>c 0=bp a/\c 4=bp c6/\c 5=bp c7/\c 6=bp W/\c 17=i64 bT.2/\c 104=undef/\ExG [bp a] w0 d/\Blk d a 116 (ac u32 h)/\NS [bp a] w0 (bp a)/\Blk d c6 136 (ac u32 x.1)/\NS [bp a] w0 (bp c6)/\Blk d c7 136 (ac u32 x.2.1)/\NS [bp a] w0 (bp c7)/\Blk d W 116 (ac u32 bT.1)/\NS [bp a] w0 (bp W)/\Nq (bp a) (bp c6)/\Nq (bp a) (bp c7)/\Nq (bp a) (bp W)/\Nq (bp c6) (bp c7)/\Nq (bp c6) (bp W)/\Nq (bp c7) (bp W)) sJ ?_ ?_
  ·exact ⟨CI,CR,CS,CT,rfl,CL,vW,yK,x5,yX,xJ,z8,xZ,zH,yC,zP,zS,zU,AN,AP,BD⟩
  rintro bT _ _ CW ⟨q3,s1,s7,w,k7,qD,nB,aW,oA,b0,xK,b4,y0,u,iC,zQ,zT,iU,AO,pJ,pK⟩ j wZ;refine W_sr<|wa V (q_ltI V k7 V)<|wnt<|W_seq<|wci j V V (fun j=>?_) (fun j=>?_)
  ·refine zad<|W_th<|W_seq<|zac<|W_sr<|mv (i64 bT.2) V k7<|av (i64 bT.2) V V<|wnt<|W_seq<|zbi [1,3,7,9,12,15,21,25] [(0,0),(1,1),(2,0),(3,1),(6,0),(7,1),(8,0),(9,1),(10,0),(11,0),(12,1),(13,0),(14,0),(15,1),(16,0),(17,0),(19,0),(20,0),(21,1),(23,0),(24,0),(25,1),(4,2),(5,0),(18,0),(22,0),(26,0),(27,0)] mixed (by kernel_rfl) (by kernel_rfl) (by kernel_rfl) (by kernel_rfl) ?_;have eI:=Ext.drew CW;replace aW:=aW.ext eI;replace b0:=b0.ext eI;replace b4:=b4.ext eI;replace u:=u.ext eI;have u1:=nB.trans eI;obtain ⟨D1,cQ,j⟩:=bsi j;obtain ⟨bV,nM,j⟩:=bsi j;refine sa V V (q_ixA (m:=0) V A116 (by exact w) V (zag cQ) nM)<|sq V V (zbq (m:=0) V A116 V u (zaj _ _) nM)<|bse j fun N cR j=>sa V V (q_ixA (m:=0) V A116 (by exact w) V (zag cQ) cR)<|sq V V (zbq (m:=0) V A116 V u (zaj _ _) cR)<|sa V V (q_ixA (m:=0) V A116 (by exact w) V (zag cQ) cR)<|sq V V (zbq (m:=0) V A116 V u (zaj _ _) cR)<|bse j fun bW nN j=>sa V V (q_ixA (m:=0) V A116 (by exact w) V (zag cQ) nN)<|sq V V (zbq (m:=0) V A116 V u (zaj _ _) nN)<|sa V V (q_and32 V V V)<|sa V V (q_ixA (m:=0) V A116 (by exact w) V (zag cQ) cR)<|sq V V (zbq (m:=0) V A116 V u (zaj _ _) cR)<|sa V V (q_not32 V V)<|?_;obtain ⟨bX,nO,j⟩:=bsi j;refine sa V V (q_ixA (m:=0) V A116 (by exact w) V (zag cQ) nO)<|sq V V (zbq (m:=0) V A116 V u (zaj _ _) nO)<|sa V V (q_and32 V V V)<|sa V V (ziw V V V)<|sv (i64 bT.2) V V V<|?_;obtain ⟨D2,w5,j⟩:=bsi j;obtain ⟨bY,nP,j⟩:=bsi j;refine sa V V (q_ixA (m:=0) V A136 (by exact s7) V (zag w5) nP)<|sq V V (zbq (m:=0) V A136 V b4 (zaj _ _) nP)<|sv (i64 bT.2) V V V<|?_;obtain ⟨D3,w6,j⟩:=bsi j
   obtain ⟨bZ,nQ,j⟩:=bsi j;refine sa V V (q_ixA (m:=0) V A136 (by exact s1) V (zag w6) nQ)<|sq V V (zbq (m:=0) V A136 V b0 (zaj _ _) nQ)<|?_;obtain ⟨bS,x0,j⟩:=bsi j;refine wss V V V (zab (vs:=[u32 N,i64 6,i64 11,i64 25]) Tryz.func119 V V V (ar4 V V V V) (zig N 6 11 25  bS _  x0) ?_);rintro _ CX ⟨rfl,d0⟩;refine ⟨_,rfl,d0,?_⟩;have u2:=u1.trans d0;refine sa V V (zhb V V V)<|sa V V (zhb V V V)<|sa V V (zhb V V V)<|sa V V (zhb V V V)<|sa V V (zan (v:=u32 ((((bV+bS)+((N &&& bW)^^^(((4294967295:UInt32)^^^N) &&& bX)))+bY)+bZ)) V V)<|zaw<|W_th<|W_seq<|zbi [1,4,6,9,11,15,17] [(0,0),(1,1),(3,0),(4,1),(5,0),(6,1),(7,0),(8,0),(9,1),(10,0),(11,1),(12,0),(13,0),(14,0),(15,1),(16,0),(17,1),(18,0),(19,0),(2,2),(20,0),(21,0)] mixed (by kernel_rfl) (by kernel_rfl) (by kernel_rfl) (by kernel_rfl) ?_;have eJ:=Ext.drew CX;replace aW:=(aW.ext d0).ext eJ;replace b0:=(b0.ext d0).ext eJ;replace b4:=(b4.ext d0).ext eJ;replace u:=(u.ext d0).ext eJ;have u3:=u2.trans eJ;obtain ⟨D4,c9,j⟩:=bsi j;obtain ⟨aR,cS,j⟩:=bsi j;refine sa V V (q_ixA (m:=0) V A116 (by exact w) V (zag c9) cS)<|sq V V (zbq (m:=0) V A116 V u (zaj _ _) cS)<|sa V V (q_ixA (m:=0) V A116 (by exact w) V (zag c9) cS)<|sq V V (zbq (m:=0) V A116 V u (zaj _ _) cS)<|bse j fun bF f9 j=>sa V V (q_ixA (m:=0) V A116 (by exact w) V (zag c9) f9)<|sq V V (zbq (m:=0) V A116 V u (zaj _ _) f9)<|sa V V (q_and32 V V V)<|sa V V (q_ixA (m:=0) V A116 (by exact w) V (zag c9) cS)<|sq V V (zbq (m:=0) V A116 V u (zaj _ _) cS)<|bse j fun bG fA j=>sa V V (q_ixA (m:=0) V A116 (by exact w) V (zag c9) fA)<|sq V V (zbq (m:=0) V A116 V u (zaj _ _) fA)<|sa V V (q_and32 V V V)<|sa V V (ziw V V V)<|sa V V (q_ixA (m:=0) V A116 (by exact w) V (zag c9) f9)<|?_
   refine sq V V (zbq (m:=0) V A116 V u (zaj _ _) f9)<|sa V V (q_ixA (m:=0) V A116 (by exact w) V (zag c9) fA)<|sq V V (zbq (m:=0) V A116 V u (zaj _ _) fA)<|sa V V (q_and32 V V V)<|sa V V (ziw V V V)<|?_;obtain ⟨dZ,x1,j⟩:=bsi j;refine wss V V V (zab (vs:=[u32 aR,i64 2,i64 13,i64 22]) Tryz.func119 V V V (ar4 V V V V) (zig aR 2 13 22  dZ _  x1) ?_);rintro _ GV ⟨rfl,d1⟩;refine ⟨_,rfl,d1,?_⟩;replace aW:=aW.ext d1;replace b0:=b0.ext d1;replace b4:=b4.ext d1;replace u:=u.ext d1;have u4:=u3.trans d1;refine sa V V (zhb V V V)<|sa V V (zan (v:=u32 (dZ+(((aR &&& bF)^^^(aR &&& bG))^^^(bF &&& bG)))) V V)<|zaw<|W_th<|W_rg<|mv (u32 ((((bV+bS)+((N &&& bW)^^^(((4294967295:UInt32)^^^N) &&& bX)))+bY)+bZ)) V V<|mv (u32 (dZ+(((aR &&& bF)^^^(aR &&& bG))^^^(bF &&& bG)))) V V<|wa V (zhb V V V)<|?_;obtain ⟨D5,bL,j⟩:=bsi j;obtain ⟨kW,nR,j⟩:=bsi j;refine wa V (q_ixA (m:=0) V A116 (by exact w) V (zag bL) nR)<|wq V (zbq (m:=0) V A116 V u (zaj _ _) nR)<|bse j fun kX nS j=>wa V (q_ixA (m:=0) V A116 (by exact w) V (zag bL) nS)<|wq V (zbq (m:=0) V A116 V u (zaj _ _) nS)<|bse j fun kY nT j=>wa V (q_ixA (m:=0) V A116 (by exact w) V (zag bL) nT)<|wq V (zbq (m:=0) V A116 V u (zaj _ _) nT)<|bse j fun kZ nU j=>wa V (q_ixA (m:=0) V A116 (by exact w) V (zag bL) nU)<|wq V (zbq (m:=0) V A116 V u (zaj _ _) nU)<|mv (u32 ((((bV+bS)+((N &&& bW)^^^(((4294967295:UInt32)^^^N) &&& bX)))+bY)+bZ)) V V<|wa V (zhb V V V)<|bse j fun l0 nV j=>wa V (q_ixA (m:=0) V A116 (by exact w) V (zag bL) nV)<|wq V (zbq (m:=0) V A116 V u (zaj _ _) nV)<|bse j fun l1 nW j=>wa V (q_ixA (m:=0) V A116 (by exact w) V (zag bL) nW) ?_
   refine wq V (zbq (m:=0) V A116 V u (zaj _ _) nW) ?_;obtain ⟨l2,nX,j⟩:=bsi j;refine wa V (q_ixA (m:=0) V A116 (by exact w) V (zag bL) nX)<|wq V (zbq (m:=0) V A116 V u (zaj _ _) nX)<|wa V (q_buildAF (l:=([(((((bV+bS)+((N &&& bW)^^^(((4294967295:UInt32)^^^N) &&& bX)))+bY)+bZ)+(dZ+(((aR &&& bF)^^^(aR &&& bG))^^^(bF &&& bG)))),kW,kX,kY,(kZ+((((bV+bS)+((N &&& bW)^^^(((4294967295:UInt32)^^^N) &&& bX)))+bY)+bZ)),l0,l1,l2]:List UInt32)) (us:=[u32 (((((bV+bS)+((N &&& bW)^^^(((4294967295:UInt32)^^^N) &&& bX)))+bY)+bZ)+(dZ+(((aR &&& bF)^^^(aR &&& bG))^^^(bF &&& bG)))),u32 kW,u32 kX,u32 kY,u32 (kZ+((((bV+bS)+((N &&& bW)^^^(((4294967295:UInt32)^^^N) &&& bX)))+bY)+bZ)),u32 l0,u32 l1,u32 l2]) (z:=(0:UInt32)) V A116 Z116 (by exact ⟨rfl,rfl,rfl,rfl,rfl,rfl,rfl,rfl,rfl,rfl,rfl,rfl,rfl,rfl,rfl,rfl,trivial⟩) V V cel_u32)<|?_;obtain ⟨D6,w7,j⟩:=bsi j;refine wln V V (zcx [bp a,bp c6,bp c7] [] V A116 (by exact w) V (zag bL) (zag w7) u zgo ?_);intro GX zI eY EC;replace aW:=aW.other eY iU;replace b0:=b0.other eY pJ;replace b4:=b4.other eY pK;have u5:=u4.grown eY iC;refine zah<|bk_n<|W_th<|W_rg<|wa V (zam V k7 V)<|mv (i64 (wI (bT.2+1))) V V<|zah<|?_;obtain rfl:=osi j;exact ⟨_,rfl,q3,s1,s7,w,rfl,qD,u5,aW,oA,b0,xK,b4,y0,zI,iC,zQ,zT,iU,AO,pJ,pK⟩
  refine zaz<|th_x<|?_;obtain rfl:=osi j;obtain rfl:=wZ _ rfl;refine th_x<|bk_x<|?_;exact ⟨q3,w,qD,nB,aW,oA,u,iC,iU⟩
 rintro _ GY ⟨CJ,CU,CM,vX,yL,x6,yY,xL,zR⟩;refine W_th<|W_sr<|mv (i64 0) V V<|wnt<|?_;obtain ⟨D0,sK,bE⟩:=bsi bE;refine W_mid (fun c d=>c 0=bp a/\c 104=undef/\ExG [bp a] w0 d/\Blk d a 116 (ac u32 D0)/\NS [bp a] w0 (bp a)) ?_ ?_
 ·refine zac<|za4 (fun bU c d=>c 0=bp a/\c 6=bp W/\c 89=i64 bU.2/\c 104=undef/\ExG [bp a] w0 d/\Blk d a 116 (ac u32 bU.1)/\NS [bp a] w0 (bp a)/\Blk d W 116 (ac u32 sI)/\NS [bp a] w0 (bp W)/\Nq (bp a) (bp W)) sK ?_ ?_
  ·exact ⟨CJ,CU,rfl,CM,vX,yL,x6,yY,xL,zR⟩
  rintro bU _ _ CY ⟨j5,sF,kL,qE,nC,dS,hX,cT,xM,p3⟩ a5 x2;refine W_sr<|wa V (q_ltI V kL V)<|wnt<|W_seq<|wci a5 V V (fun a5=>?_) (fun a5=>?_)
  ·refine zad<|W_th<|W_seq<|zac<|W_sr<|mv (i64 bU.2) V kL<|av (i64 bU.2) V V<|wnt<|zbi [4,7] [(0,0),(1,0),(2,0),(3,0),(4,1),(5,0),(6,0),(7,1),(8,0),(9,0),(10,0),(11,2)] mixed (by kernel_rfl) (by kernel_rfl) (by kernel_rfl) (by kernel_rfl) ?_;have kU:=Ext.drew CY;replace dS:=dS.ext kU;replace cT:=cT.ext kU;have u6:=nC.trans kU;refine sv (bp a) V V j5<|sv (i64 bU.2) V V V<|sa V V (za9 V V)<|?_;obtain ⟨D7,nZ,a5⟩:=bsi a5;obtain ⟨sL,fB,a5⟩:=bsi a5;refine sa V V (q_ixA (m:=0) V A116 V V (zag nZ) fB)<|sq V V (zbq (m:=0) V A116 V dS (zaj _ _) fB)<|sv (i64 bU.2) V V V<|?_;obtain ⟨D8,w8,a5⟩:=bsi a5;obtain ⟨sM,o0,a5⟩:=bsi a5;refine sa V V (q_ixA (m:=0) V A116 (by exact sF) V (zag w8) o0)<|sq V V (zbq (m:=0) V A116 V cT (zaj _ _) o0)<|sa V V (zhb V V V)<|sa V V (za9 V V)<|sa V V (q_ixA (m:=0) V A116 V V (zag nZ) fB)<|wsn V (by kernel_rfl) V V (zic (b:=(sL+sM)) [] [bp W] V A116 V V dS fB (zgo _) ?_);intro GZ zJ n3 ED;replace cT:=cT.other n3 p3.symm;have u7:=u6.grown n3 hX;refine zaw<|bk_n<|W_th<|W_rg<|wa V (zam V kL V)<|mv (i64 (wI (bU.2+1))) V V<|zah<|?_;obtain rfl:=osi a5;exact ⟨_,rfl,j5,sF,rfl,qE,u7,zJ,hX,cT,xM,p3⟩
  refine zaz<|th_x<|?_;obtain rfl:=osi a5;obtain rfl:=x2 _ rfl;refine th_x<|bk_x<|?_;exact ⟨j5,qE,nC,dS,hX⟩
 rintro _ H0 ⟨EO,CN,vY,yM,EN⟩;refine rtn ?_;obtain rfl:=osi bE;refine rt0 V CN ?_;exact ⟨rfl,vY,yM⟩
end Gk

/- Printed by gen.py: for each Go function a pure function, and that the Go code comes to it. No condition beside the equation that says what the pure function gives. -/
namespace Gk
open Go Go.Proofs
noncomputable def ziu (g:List (List UInt8)):Option (List UInt8) :=
((zat g).bind fun d =>
((appL d ([(128:UInt8)]:List UInt8)).bind fun c =>
((remI (c.length:Int) 64).bind fun l =>
((remI (wI (120 - l)) 64).bind fun h =>
((makeL h (0:UInt8)).bind fun i =>
((appL c i).bind fun j =>
((zb9 j (shl64 (UInt64.ofInt (d.length:Int)) 3)).bind fun e =>
((zif).bind fun f =>
((lenA 8 (List.replicate 8 (0:UInt32))).bind fun r =>
((lenA 8 f).bind fun s =>
((lim (e.length+64)).bind fun v =>
((zhx (fun (o:List UInt32) (q:Int×List UInt8) =>
((zgk o q.2).bind fun m => some m)) (za0 e 64) f).bind fun b =>
((lenA 8 b).bind fun t =>
((iterC (fun a:List UInt8×Int =>
(if a.2<8 then
((lenA 8 b).bind fun u =>
((idx b a.2).bind fun k =>
((zd3 a.1 k).bind fun n => some (.inl (n,wI (a.2+1))))))
else some (.inr a.1))) (([]:List UInt8),0)).bind fun p => some p))))))))))))))
theorem hash_Sum_calls (U:List (List UInt8)) (A:Value) (aR:List UInt8) (w0:World) (bZ:Rw w0 [] A U) (a:ziu U=some aR) :
  Calls Tryz.prog 57 [A].toArray w0 (fun b3 aY=>∃ a5:Value,b3=.returned a5/\Ext w0 aY/\Nw w0 a5/\OwK (Sc u8) aY [] 5 a5 aR):=by
 have Z:Ext w0 w0:=Ext.refl w0;unfold ziu at a;refine zai (n:=44) Tryz.func57 V V V<|W_sr<|av (.slice none 0 0) V V<|wnt<|W_sr<|mv A V V<|?_;obtain ⟨t,c0,a⟩:=bsi a;refine wls V V (zab (vs:=[A]) Tryz.func29 V V V (ar1 V) (za2 U A t _ (bZ.lift (le_ Z)) c0) ?_);rintro _ e7 ⟨q,rfl,eD,cM,d7⟩;refine ⟨_,rfl,?_⟩;have y:OwK (Sc u8) e7 (q::[]) 5 q t:=OwK.scal d7 _;have aK:=Nw.ext Z cM;have b5:=Z.trans eD;refine av q V V<|wnt<|W_sr<|mv q V V<|wa V (q_len V T22.sl V (y.rd (Sc.stab _)))<|av (i64 (t.length:Int)) V V<|wnt<|W_sr<|mv q V V<|wls V V (zax (L:=[q]) (R:=Sc u8) [u8 128] ([(128:UInt8)]:List UInt8) V T22 V (by exact ⟨rfl,cst8 (128:UInt8) V,trivial⟩) V (litC u8 zbx (us:=[u8 128]) (l:=([(128:UInt8)]:List UInt8)) V) V (litS u8 (us:=[u8 128]) (l:=([(128:UInt8)]:List UInt8)) V) ?_);intro aX eA dG cX bC eU;have a9:=zaa bC;have c7:By eA [q] aX ([(128:UInt8)]:List UInt8):=OwK.slk (Sc.stab _) _ dG (fun F a1=>(Old.cons (Old.nil _) y.lt) F (cX F a1)) (fun _ d=>d.2);replace y:=y.extL (Sc.stab _) a9 (le_ a9);have aC:=b5.trans a9;obtain ⟨eQ,bV,a⟩:=bsi a;refine wls V V (zar (R:=Sc u8) (v:=q) (u:=aX) (Sc.stab _) [] [] V T22 V V y c7 (fun _ _ d=>d) bV oc_u8 ?_);intro M fI aN bD d1 eV;have b9:=aC.grown bD aK;have d0:=Nw.nxt aC aK d1;refine av M V V<|wnt<|W_sr<|mv M V V<|mv M V V<|wa V (q_len V T22.sl V (aN.rd (Sc.stab _)))<|bse a fun eR bW a=>wa V (zg2 V V V bW)<|wa V (zbn V V V)<|bse a fun eK bN a=>wa V (zg2 V V V bN) ?_;obtain ⟨eL,bO,a⟩:=bsi a;obtain ⟨b2,bP,a⟩:=bsi a;refine wls V V (stp_appz (R:=Sc u8) (v:=M) (Sc.stab _) [] [] V T22 Tryz.underlying3 V V V aN bO (fun _ _=>rfl) bP ?_);intro s fC d5 bA f1 eS;have aA:=b9.grown bA d0
 refine av s V V<|wnt<|W_sr<|mv s V V<|mv (i64 (t.length:Int)) V V<|wa V (zfl V V V V)<|wa V (q_shl64 3 V V V V)<|?_;obtain ⟨r,c1,a⟩:=bsi a;refine wls V V (zab (vs:=[s,u64 (shl64 (UInt64.ofInt (t.length:Int)) 3)]) Tryz.func85 V V V (ar2 V V) (zfy b2 (shl64 (UInt64.ofInt (t.length:Int)) 3) s r _ (d5.rd (Sc.stab _)) c1) ?_);rintro _ e8 ⟨b,rfl,eE,cK,d6⟩;refine ⟨_,rfl,?_⟩;have k:OwK (Sc u8) e8 (b::[s]) 5 b r:=OwK.scal d6 _;have cL:=Nw.ext aA cK;have b4:=aA.trans eE;refine av b V V<|wnt<|W_sr<|?_;obtain ⟨e3,c2,a⟩:=bsi a;refine wls V V (zab (vs:=[]) Tryz.func86 V V V (ar0) (hash_first_calls   e3 _  c2) ?_);rintro _ fD ⟨rfl,a7⟩;refine ⟨_,rfl,?_⟩;replace k:=k.extL (Sc.stab _) a7 (le_ a7);have aB:=b4.trans a7;refine wls V V (sal u32 (List.replicate 8 (0:UInt32)) [b,s] V Z116 ?_);intro g fE dB a2 bB eT;have a8:=zaa bB;have aQ:Nq b (bp g):=k.nq a2;have aJ:=Nw.ext aB a2;have b6:=aB.trans a8;obtain ⟨eM,bQ,a⟩:=bsi a;obtain ⟨eN,bR,a⟩:=bsi a;refine wln V V (zcx [] [b,s] V A116 V V (zag bQ) (zag bR) dB zgo ?_);intro fF z aD cD;replace k:=(k.extL (Sc.stab _) a8 (Lift.call _ a8 a2)).other (Sc.stab _) aD aQ cD;have X:=b6.grown aD aJ;refine wnt<|W_seq<|W_sr<|mv b V V<|wls V V (zab (vs:=[b,i64 64]) Tryz.func87 V V V (ar2 V V) (zh4 b (cells_own k) 64 (by decide) _) ?_);rintro _ e9 ⟨i,j,rfl,G,H,e2,aE,aF,Q⟩;refine ⟨_,rfl,?_⟩;have dY:Nq (bp g) (bp i):=z.nq G;have dZ:Nq (bp g) (bp j):=z.nq H;have e0:Nq b (bp i):=k.nq G
 have e1:Nq b (bp j):=k.nq H;replace z:=z.ext Q;replace k:=k.extL (Sc.stab _) Q (Lift.call2 _ Q G H);have cS:=Nw.ext X G;have cT:=Nw.ext X H;have Y:=X.trans Q;refine wnt<|zac<|?_;obtain ⟨eW,bY,a⟩:=bsi a;obtain ⟨eF,b0,a⟩:=bsi a;refine W_rangeDS (π:=fun c:ChEl r 64=>c.1) (xs:=za0 r 64) (ea:=fun c=>subW b c.1.1.toNat (c.1.1+(c.1.2.length:Int)).toNat (c.1.1+(c.1.2.length:Int)).toNat) (Rd:=zbu r 64 i j b) (gf:=116) (lb:=#[bp i,bp j]) b0 V V V (enters Tryz.func116 V V) V (chunk_bytes r 64 (by decide) b i j _ ⟨aE,aF,k.rd (Sc.stab _)⟩ (lim_lt bY)) (fun fK d=>d) (fun c=>c.2.2) (fun _ _ f d=>zbu.tn f d) V (fun B h=>Ext w0 h/\OwK (Sc u8) h [b,bp g,bp i,bp j] 5 b r/\Nw w0 b/\Blk h g 116 (ac u32 B)/\Nw w0 (bp g)/\Blk h i 22 #[b]/\Nw w0 (bp i)/\Blk h j 3 #[i64 64]/\Nw w0 (bp j)/\Nq b (bp g)/\Nq b (bp i)/\Nq b (bp j)/\Nq (bp g) (bp i)/\Nq (bp g) (bp j)/\Nq (bp i) (bp j)) ?_ ?_ ⟨Y,k.weak (Sc.stab _) (fun _ d=>⟨d.2.2.2.1,d.2.2.1,d.1,d.2.1,trivial⟩),cL,z,aJ,aE,cS,aF,cT,aQ,e0,e1,dY,dZ,e2⟩ (fun c p=>upd p 6 (subW b c.1.1.toNat (c.1.1+(c.1.2.length:Int)).toNat (c.1.1+(c.1.2.length:Int)).toNat)) ?_ ?_ ?_
 ·rintro B W eI f ⟨bF,d2,cF,d8,cN,dC,cP,dE,cU,dJ,dL,dO,dR,dT,dV⟩;exact ⟨bF.tn f Y.size,d2.tn (Sc.stab _) f,cF,d8.tn f,cN,dC.tn f,cP,dE.tn f,cU,dJ,dL,dO,dR,dT,dV⟩
 ·rintro B W ⟨bG,d3,cG,d9,cO,dD,cQ,dF,cV,dK,dM,dP,dS,dU,dW⟩;have f:=Ext.drew W;exact ⟨bG.trans f,d3.extL (Sc.stab _) f (le_ f),cG,d9.ext f,cO,dD.ext f,cQ,dF.ext f,cV,dK,dM,dP,dS,dU,dW⟩
 ·intro l c eJ eH bK;refine W_rg<|av (subW b c.1.1.toNat (c.1.1+(c.1.2.length:Int)).toNat (c.1.1+(c.1.2.length:Int)).toNat) V V<|zah<|?_;exact bK
 ·rintro l ⟨e,c6⟩ B fB eB ⟨bH,x,cH,aM,aI,I,cR,J,cW,a3,dN,dQ,aO,aP,dX⟩ T;have cC:=KeepsFrom.refl e9.heap.size eB;refine zac<|W_rg<|mv (subW b e.1.toNat (e.1+(e.2.length:Int)).toNat (e.1+(e.2.length:Int)).toNat) V V<|?_;obtain ⟨e4,c3,T⟩:=bsi T;refine wls V V (zab (vs:=[bp g,subW b e.1.toNat (e.1+(e.2.length:Int)).toNat (e.1+(e.2.length:Int)).toNat]) Tryz.func88 V V V (ar2 V V) (hash_block_calls B e.2 g (subW b e.1.toNat (e.1+(e.2.length:Int)).toNat (e.1+(e.2.length:Int)).toNat) e4 _ aM (SlK.cut3 (L:=[bp g]) (OwK.slk (Sc.stab _) [bp g] x (fun F a1=>⟨a3 F a1,trivial⟩) (fun _ d=>⟨d.2.1,trivial⟩)) c6.1) c3) ?_);rintro _ fG ⟨rfl,w,bM⟩;refine ⟨_,rfl,?_⟩;have cE:=Lift.ownX [b] [bp i,bp j] w;have c9:=cC.ownX w aM.cl;replace x:=x.otherX (Sc.stab _) w a3 cE;replace I:=I.otherX w aO.symm;replace J:=J.otherX w aP.symm;have b7:=bH.grownX w aI;refine zah<|bk_n<|?_;obtain rfl:=osi T;exact ⟨c9,⟨I,J,x.rd (Sc.stab _)⟩,b7,x,cH,bM,aI,I,cR,J,cW,a3,dN,dQ,aO,aP,dX⟩
 intro S a6 bE ⟨bI,f2,eX,dA,eY,f3,eZ,f4,f0,f5,f6,f7,f8,f9,fA⟩ bL;have bX:=Nat.le_trans Y.size bE;have cB:=KeepsFrom.refl 0 a6;refine bk_n<|W_th<|W_sr<|av (.slice none 0 0) V V<|wnt<|W_seq<|W_seq<|W_rg<|bse a fun eO bS a=>wq V (q_loadA (m:=0) V A116 V dA (zaj _ _) (zag bS))<|mv (i64 0) V V<|wnt<|?_;obtain ⟨eG,b1,a⟩:=bsi a;refine W_mid (fun p h=>∃ P:Value,p 7=P/\p 44=bp S/\Ext w0 h/\KeepsFrom 0 a6 h/\OwK (Sc u8) h [P] 5 P eG/\Nw w0 P) ?_ ?_
 ·refine zac<|za4 (fun C p h=>∃ N:Value,p 7=N/\p 35=ag u32 eF/\p 36=i64 C.2/\p 44=bp S/\Ext w0 h/\KeepsFrom 0 a6 h/\OwK (Sc u8) h [N] 5 N C.1/\Nw w0 N) b1 ?_ ?_
  ·exact ⟨.slice none 0 0,rfl,rfl,rfl,rfl,bI,cB,OwK.nil _ _ _ _,Nw.nil _⟩
  rintro C _ _ fH ⟨D,aV,aT,a4,aU,a0,aH,aL,cI⟩ o c4;refine W_sr<|wa V (q_ltI V a4 V)<|wnt<|W_seq<|wci o V V (fun o=>?_) (fun o=>?_)
  ·refine zad<|W_th<|W_seq<|zac<|W_sr<|?_;obtain ⟨eP,bT,o⟩:=bsi o;obtain ⟨E,bU,o⟩:=bsi o;refine wa V (q_index V A116 (by exact aT) (by exact a4) (zag bT) bU)<|av (u32 E) V V<|wnt<|W_rg<|mv D V aV<|mv (u32 E) V V<|?_;obtain ⟨aS,c5,o⟩:=bsi o;refine wls V V (zab (vs:=[D,u32 E]) Tryz.func89 V V V (ar2 V V) (word_Put_uint32_calls C.1 E D aS _ (aL.rd (Sc.stab _)) c5) ?_);rintro _ eC ⟨K,rfl,aZ,cY,dI⟩;refine ⟨_,rfl,?_⟩;have dH:OwK (Sc u8) eC (K::[D]) 5 K aS:=OwK.scal dI _;have cA:=aH.ext aZ;have cZ:=Nw.ext a0 cY;have b8:=a0.trans aZ;refine av K V V<|zah<|bk_n<|W_th<|W_rg<|wa V (zam V a4 V)<|mv (i64 (wI (C.2+1))) V V<|zah<|?_;obtain rfl:=osi o;exact ⟨_,rfl,K,rfl,aT,rfl,aU,b8,cA,dH.weak (Sc.stab _) (fun _ d=>⟨d.1,trivial⟩),cZ⟩
  refine zaz<|th_x<|?_;obtain rfl:=osi o;obtain rfl:=c4 _ rfl;refine th_x<|bk_x<|?_;exact ⟨D,aV,aU,a0,aH,aL,cI⟩
 rintro _ fJ ⟨O,e6,e5,bJ,c8,d4,cJ⟩;refine W_th<|W_sr<|mv O V e6<|av O V V<|wnt<|W_ret<|?_;obtain rfl:=osi a;have aG:=c8.same S _ (Nat.zero_le _) bL V;have aW:=Tn.put aG bX (.deferred none);refine rtm1 O V V V e5 aG ?_;exact ⟨O,rfl,bJ.tn aW (Nat.le_refl _),cJ,((d4.tn (Sc.stab _) aW).weak (Sc.stab _) (fun _ _=>trivial))⟩
end Gk

/- Words and the sum of bytes (chapters 1 and 7), in plain Lean. No condition but lengths. -/
namespace Gk
open Gf
theorem Bits32_eq:zcd=some 32:=by
 unfold zcd
 rw [zds.2 ⟨33,by kernel_rfl⟩];rfl
theorem Bits64_eq:zce=some 64:=by
 unfold zce
 rw [zds.2 ⟨65,by kernel_rfl⟩];rfl
def rot (x:UInt32) (k:Nat):UInt32:=shr32 x k ||| shl32 x (32 - k)
theorem zil (x:UInt32) (k:Nat) (h0:0<k) (h1:k<32):zbb x (-(k:Int))=some (rot x k):=by
 unfold zbb
 rw [Bits32_eq,obs]
 have e1:remI (-(k:Int)) 32=some (-(k:Int)):=by
  unfold remI;rw [if_neg (by decide),Int.neg_tmod,Int.tmod_eq_emod_of_nonneg (by omega),Int.emod_eq_of_lt (by omega) (by omega)]
 rw [e1,obs,wI_of (by omega) (by omega)]
 rw [show -(k:Int)+32=((32 - k:Nat):Int) by omega,show (32:Int)=((32:Nat):Int) by rfl,zfn _ _ (by omega),Nat.mod_eq_of_lt (by omega),obs,if_neg (by omega),cnt_nat,obs,
  wI_of (by omega) (by omega),show ((32:Nat):Int) - ((32 - k:Nat):Int)=(k:Int) by omega,cnt_nat,obs,UInt32.or_comm];rfl
theorem turned_eq (x:UInt32) (a b c:Nat) (ha:0<a/\a<32) (hb:0<b/\b<32) (hc:0<c/\c<32):zd5 x a b c=some ((rot x a^^^rot x b)^^^rot x c):=by
 unfold zd5
 rw [wI_of (by omega) (by omega),wI_of (by omega) (by omega),wI_of (by omega) (by omega),Int.zero_sub,Int.zero_sub,Int.zero_sub,zil _ _ ha.1 ha.2,zil _ _ hb.1 hb.2,zil _ _ hc.1 hc.2];rfl
def be4 (a b c d:UInt8):UInt32:=((shl32 a.toUInt32 24 ||| shl32 b.toUInt32 16) ||| shl32 c.toUInt32 8) ||| d.toUInt32
def be (p:List UInt8) (i:Nat):UInt32:=be4 (co p i) (co p (i+1)) (co p (i+2)) (co p (i+3))
theorem or_add (a b k:Nat) (h:b<2 ^ k):(a * 2 ^ k) ||| b=a * 2 ^ k+b:=by
 rw [← Nat.shiftLeft_eq,Nat.shiftLeft_add_eq_or_of_lt h]
theorem be4_nat (a b c d:UInt8):(be4 a b c d).toNat=((a.toNat * 256+b.toNat) * 256+c.toNat) * 256+d.toNat:=by
 have ha:=a.toNat_lt;have hb:=b.toNat_lt;have hc:=c.toNat_lt;have hd:=d.toNat_lt
 simp only [be4,shl32,UInt32.toNat_or,UInt32.toNat_ofNat',UInt8.toNat_toUInt32]
 rw [Nat.mod_eq_of_lt (by simp;omega),Nat.mod_eq_of_lt (by simp;omega),Nat.mod_eq_of_lt (by simp;omega)]
 simp only [show min 24 32=24 by rfl,show min 16 32=16 by rfl,show min 8 32=8 by rfl]
 rw [or_add a.toNat (b.toNat * 2 ^ 16) 24 (by omega),show a.toNat * 2 ^ 24+b.toNat * 2 ^ 16=(a.toNat * 256+b.toNat) * 2 ^ 16 by omega,or_add _ (c.toNat * 2 ^ 8) 16 (by omega),
  show (a.toNat * 256+b.toNat) * 2 ^ 16+c.toNat * 2 ^ 8=((a.toNat * 256+b.toNat) * 256+c.toNat) * 2 ^ 8 by omega,or_add _ d.toNat 8 (by omega)]
theorem or64 (x:UInt64) (y:UInt8) (h:x.toNat<2 ^ 48):(shl64 x 8 ||| y.toUInt64).toNat=x.toNat * 256+y.toNat:=by
 have hy:=y.toNat_lt
 simp only [shl64,UInt64.toNat_or,UInt64.toNat_ofNat',UInt8.toNat_toUInt64,show min 8 64=8 by rfl]
 rw [Nat.mod_eq_of_lt (by omega),or_add _ _ 8 (by omega)]
theorem Get_eq (b:List UInt8) (h:4<=b.length) (hm:b.length<=most):zdy b=some (be b 0,true):=by
 obtain ⟨b0,b1,b2,b3,t,rfl⟩:∃ b0 b1 b2 b3 t,b=b0 :: b1 :: b2 :: b3 :: t:=by
  match b,h with
  | b0 :: b1 :: b2 :: b3 :: t,_=>exact ⟨b0,b1,b2,b3,t,rfl⟩
 unfold zdy
 rw [Bits32_eq,obs,show divI 32 8=some 4 by decide,obs,if_neg (by simp only [List.length_cons] at h ⊢;omega)]
 have e:subL (b0 :: b1 :: b2 :: b3 :: t) 0 4=some [b0,b1,b2,b3]:=by
  have:=zdj (b0 :: b1 :: b2 :: b3 :: t) 0 4 (by omega) (by simp)
  simpa using this
 rw [e,obs]
 let z:UInt64:=((shl64 (shl64 (shl64 (shl64 0 8 ||| b0.toUInt64) 8 ||| b1.toUInt64) 8 ||| b2.toUInt64) 8) ||| b3.toUInt64)
 rw [zds.2 ⟨5,show _=some z by kernel_rfl⟩,obs]
 have ha:=b0.toNat_lt;have hb:=b1.toNat_lt;have hc:=b2.toNat_lt;have hd:=b3.toNat_lt
 have h1:=or64 0 b0 (by decide)
 have h2:=or64 (shl64 0 8 ||| b0.toUInt64) b1 (by rw [h1];simp;omega)
 have h3:=or64 (shl64 (shl64 0 8 ||| b0.toUInt64) 8 ||| b1.toUInt64) b2 (by rw [h2,h1];simp;omega)
 have h4:=or64 (shl64 (shl64 (shl64 0 8 ||| b0.toUInt64) 8 ||| b1.toUInt64) 8 ||| b2.toUInt64) b3 (by rw [h3,h2,h1];simp;omega)
 have:z.toUInt32=be (b0 :: b1 :: b2 :: b3 :: t) 0:=by
  apply UInt32.toNat_inj.1
  show z.toUInt32.toNat=(be4 b0 b1 b2 b3).toNat
  rw [be4_nat,UInt64.toNat_toUInt32,show z.toNat=_ from h4,h3,h2,h1]
  simp only [UInt64.toNat_zero,Nat.zero_mul,Nat.zero_add]
  omega
 rw [this]
theorem put_loop {X:Type} {body:List UInt8×Int->Option ((List UInt8×Int)⊕List UInt8)} (F:Nat->UInt8) (n:Nat) (b:List UInt8) (hb:b.length+n<=most)
  (h1:∀ (l:List UInt8) (j:Nat),j<n->l.length+1<=most->body (l,8 * (j:Int))=some (.inl (l ++ [F j],8 * (j:Int) - 8))) (h2:∀ l,body (l,-8)=some (.inr l)) :
  iterC body (b,8 * (n:Int) - 8)=some (b ++ ((List.range n).map F).reverse):=by
 induction n generalizing b with
 | zero=>rw [zb4];simp [h2]
 | succ n ih =>
  rw [zb4,show 8 * ((n+1:Nat):Int) - 8=8 * (n:Int) by omega,h1 b n (by omega) (by omega),obs]
  simp only []
  rw [ih (b ++ [F n]) (by simp only [List.length_append,List.length_singleton];omega) (fun l j hj hl=>h1 l j (by omega) hl)]
  simp [List.range_succ]
def by4 (x:UInt32):List UInt8:=[(shr32 x 24).toUInt8,(shr32 x 16).toUInt8,(shr32 x 8).toUInt8,x.toUInt8]
def by8 (x:UInt64):List UInt8:=((List.range 8).map fun j=>(shr64 x (8 * j)).toUInt8).reverse
theorem by8_len (x:UInt64):(by8 x).length=8:=by simp [by8]
theorem Clone_eq (b:List UInt8) (h:b.length<=most):zae b=some b:=by
 unfold zae;exact zel b h
theorem appL_one (l:List UInt8) (x:UInt8) (h:l.length+1<=most):appL l [x]=some (l ++ [x]):=by
 unfold appL;rw [if_pos (by simpa using h)]
theorem shr32_zero (x:UInt32):shr32 x 0=x:=by simp [shr32]
theorem Put32_eq (b:List UInt8) (x:UInt32) (h:b.length+4<=most):zd3 b x=some (b ++ by4 x):=by
 unfold zd3
 rw [Clone_eq b (by omega),obs,Bits32_eq,obs,show wI (32 - 8)=8 * ((4:Nat):Int) - 8 by decide]
 rw [put_loop (X:=UInt8) (fun j=>(shr32 x (8 * j)).toUInt8) 4 b h]
 ·simp [List.range,List.range.loop,by4,shr32_zero]
 ·intro l j hj hl
  rw [if_pos (by simp only [];omega)]
  simp only []
  rw [show 8 * (j:Int)=((8 * j:Nat):Int) by omega,cnt_nat,obs,appL_one l _ hl,obs,wI_of (by omega) (by omega)]
 ·intro l;rw [if_neg (by simp only [];omega)]
theorem Put64_eq (b:List UInt8) (x:UInt64) (h:b.length+8<=most):zb9 b x=some (b ++ by8 x):=by
 unfold zb9
 rw [Clone_eq b (by omega),obs,Bits64_eq,obs,show wI (64 - 8)=8 * ((8:Nat):Int) - 8 by decide]
 rw [put_loop (X:=UInt8) (fun j=>(shr64 x (8 * j)).toUInt8) 8 b h]
 ·rfl
 ·intro l j hj hl
  rw [if_pos (by simp only [];omega)]
  simp only []
  rw [show 8 * (j:Int)=((8 * j:Nat):Int) by omega,cnt_nat,obs,appL_one l _ hl,obs,wI_of (by omega) (by omega)]
 ·intro l;rw [if_neg (by simp only [];omega)]
def kL:List UInt32:=[0x428a2f98,0x71374491,0xb5c0fbcf,0xe9b5dba5,0x3956c25b,0x59f111f1,0x923f82a4,0xab1c5ed5,
 0xd807aa98,0x12835b01,0x243185be,0x550c7dc3,0x72be5d74,0x80deb1fe,0x9bdc06a7,0xc19bf174,
 0xe49b69c1,0xefbe4786,0x0fc19dc6,0x240ca1cc,0x2de92c6f,0x4a7484aa,0x5cb0a9dc,0x76f988da,
 0x983e5152,0xa831c66d,0xb00327c8,0xbf597fc7,0xc6e00bf3,0xd5a79147,0x06ca6351,0x14292967,
 0x27b70a85,0x2e1b2138,0x4d2c6dfc,0x53380d13,0x650a7354,0x766a0abb,0x81c2c92e,0x92722c85,
 0xa2bfe8a1,0xa81a664b,0xc24b8b70,0xc76c51a3,0xd192e819,0xd6990624,0xf40e3585,0x106aa070,
 0x19a4c116,0x1e376c08,0x2748774c,0x34b0bcb5,0x391c0cb3,0x4ed8aa4a,0x5b9cca4f,0x682e6ff3,
 0x748f82ee,0x78a5636f,0x84c87814,0x8cc70208,0x90befffa,0xa4506ceb,0xbef9a3f7,0xc67178f2]
def hL:List UInt32:=[0x6a09e667,0xbb67ae85,0x3c6ef372,0xa54ff53a,0x510e527f,0x9b05688c,0x1f83d9ab,0x5be0cd19]
theorem constants_eq:za1=some kL:=by unfold za1;kernel_rfl
theorem first_eq:zif=some hL:=by unfold zif;kernel_rfl
def w0 (l:List UInt32) (i:Nat):UInt32:=l.getD i 0
theorem idx_w0 {l:List UInt32} {i:Nat} (h:i<l.length):idx l (i:Int)=some (w0 l i):=by
 rw [zf5,w0,List.getD_eq_getElem?_getD,List.getElem?_eq_getElem h];rfl
theorem zec {α:Type} {n:Nat} {l:List α} (h:l.length=n):lenA n l=some ():=by unfold lenA;rw [if_pos h]
def nxt (p:List UInt8) (w:List UInt32):UInt32 :=
 if w.length<16 then be p (4 * w.length) else
  ((w0 w (w.length - 16)+w0 w (w.length - 7))+((rot (w0 w (w.length - 15)) 7^^^rot (w0 w (w.length - 15)) 18)^^^shr32 (w0 w (w.length - 15)) 3))+((rot (w0 w (w.length - 2)) 17^^^rot (w0 w (w.length - 2)) 19)^^^shr32 (w0 w (w.length - 2)) 10)
def sched (p:List UInt8):Nat->List UInt32
 | 0=>[]
 | n+1=>sched p n ++ [nxt p (sched p n)]
theorem zdv (p:List UInt8):∀ n,(sched p n).length=n
 | 0=>rfl
 | n+1=>by simp [sched,zdv p n]
def wTo (p:List UInt8) (i:Nat):List UInt32:=sched p i ++ List.replicate (64 - i) 0
theorem wTo_len (p:List UInt8) (i:Nat) (h:i<=64):(wTo p i).length=64:=by simp [wTo,zdv];omega
theorem wTo_get (p:List UInt8) (i j:Nat) (h:j<i):w0 (wTo p i) j=w0 (sched p i) j:=by
 simp only [w0,wTo,List.getD_eq_getElem?_getD];rw [List.getElem?_append_left (by rw [zdv];exact h)]
theorem wTo_set (p:List UInt8) (i:Nat) (h:i<64):(wTo p i).set i (nxt p (sched p i))=wTo p (i+1):=by
 unfold wTo
 obtain ⟨m,hm⟩:∃ m,64 - i=m+1:=⟨63 - i,by omega⟩
 rw [List.set_append_right _ _ (by rw [zdv];exact Nat.le_refl _),zdv,Nat.sub_self,hm,List.replicate_succ,List.set_cons_zero,show 64 - (i+1)=m by omega]
 simp [sched]
theorem drop_co (p:List UInt8) (i:Nat):be (p.drop i) 0=be p i:=by
 simp only [be,co_drop];rfl
theorem plan_eq (p:List UInt8) (h:p.length=64):zd4 p=some (sched p 64):=by
 unfold zd4
 refine zbh (zas (fun i=>(wTo p i,(i:Int))) 64 (wTo p 64) rfl ?_ ?_) ?_
 rotate_left 2
 ·rw [zec (wTo_len p 64 (by omega)),obs,zec (by simp),obs]
  simp [wTo,zec (zdv p 64)]
 ·intro i hi
  have hl:=wTo_len p i (by omega)
  simp only []
  rw [if_pos (by omega)]
  by_cases h16:i<16
  ·rw [if_pos (by omega),wI_of (by omega) (by omega),show 4 * (i:Int)=((4 * i:Nat):Int) by omega,zdj _ _ _ (by omega) (by omega),obs,List.take_length,
    Get_eq _ (by simp;omega) (by have:=h257;simp;omega),obs,zec hl,obs,idx_w0 (by omega),obs,drop_co,zau _ (by omega),Int.toNat_natCast]
   have:be p (4 * i)=nxt p (sched p i):=by unfold nxt;rw [zdv,if_pos h16]
   rw [this,wTo_set p i hi]
  ·rw [if_neg (by omega),zec hl,obs,wI_of (by omega) (by omega),wI_of (by omega) (by omega),wI_of (by omega) (by omega),wI_of (by omega) (by omega),
    show (i:Int) - 15=((i - 15:Nat):Int) by omega,show (i:Int) - 2=((i - 2:Nat):Int) by omega,show (i:Int) - 16=((i - 16:Nat):Int) by omega,show (i:Int) - 7=((i - 7:Nat):Int) by omega,
    idx_w0 (by omega),obs,idx_w0 (by omega),obs,obs,idx_w0 (by omega),obs,idx_w0 (by omega),obs,
    show (-7:Int)=-((7:Nat):Int) by rfl,zil _ 7 (by omega) (by omega),obs,show (-18:Int)=-((18:Nat):Int) by rfl,zil _ 18 (by omega) (by omega),obs,
    show (-17:Int)=-((17:Nat):Int) by rfl,zil _ 17 (by omega) (by omega),obs,show (-19:Int)=-((19:Nat):Int) by rfl,zil _ 19 (by omega) (by omega),obs,
    idx_w0 (by omega),obs,zau _ (by omega),Int.toNat_natCast,wTo_get _ _ _ (by omega),wTo_get _ _ _ (by omega),wTo_get _ _ _ (by omega),wTo_get _ _ _ (by omega)]
   rw [← wTo_set p i hi]
   unfold nxt;rw [zdv,if_neg h16]
 ·simp only [];rw [if_neg (by omega)]
def rnd (k w:UInt32) (t:List UInt32):List UInt32 :=
 let a:=(((w0 t 7+((rot (w0 t 4) 6^^^rot (w0 t 4) 11)^^^rot (w0 t 4) 25))+((w0 t 4 &&& w0 t 5)^^^(((4294967295:UInt32)^^^w0 t 4) &&& w0 t 6)))+k)+w
 [a+(((rot (w0 t 0) 2^^^rot (w0 t 0) 13)^^^rot (w0 t 0) 22)+(((w0 t 0 &&& w0 t 1)^^^(w0 t 0 &&& w0 t 2))^^^(w0 t 1 &&& w0 t 2))),w0 t 0,w0 t 1,w0 t 2,w0 t 3+a,w0 t 4,w0 t 5,w0 t 6]
def rnds (w:List UInt32) (s:List UInt32):Nat->List UInt32
 | 0=>s
 | n+1=>rnd (w0 kL n) (w0 w n) (rnds w s n)
theorem rnds_len (w s:List UInt32) (h:s.length=8):∀ n,(rnds w s n).length=8
 | 0=>h
 | n+1=>rfl
def addW (s t:List UInt32):List UInt32:=[w0 s 0+w0 t 0,w0 s 1+w0 t 1,w0 s 2+w0 t 2,w0 s 3+w0 t 3,w0 s 4+w0 t 4,w0 s 5+w0 t 5,w0 s 6+w0 t 6,w0 s 7+w0 t 7]
def blk (s:List UInt32) (p:List UInt8):List UInt32:=addW s (rnds (sched p 64) s 64)
theorem eight {s:List UInt32} (h:s.length=8):∃ a b c d e f g i,s=[a,b,c,d,e,f,g,i]:=by
 match s,h with
 | [a,b,c,d,e,f,g,i],_=>exact ⟨a,b,c,d,e,f,g,i,rfl⟩
theorem idx_at {l:List UInt32} (i:Nat) (h:i<l.length) (k:Int) (e:k=(i:Int)):idx l k=some (w0 l i):=by rw [e,idx_w0 h]
theorem add_loop (s t:List UInt32) (hs:s.length=8) (ht:t.length=8):iterC (fun s82:List UInt32×Int =>
  (if s82.2<8 then
  ((lenA 8 s82.1).bind fun c87 =>
  ((idx s82.1 s82.2).bind fun c88 =>
  ((lenA 8 t).bind fun c89 =>
  ((idx t s82.2).bind fun c90 =>
  some (.inl ((s82.1.set (s82.2:Int).toNat ((c88+c90))),(wI (s82.2+1))))))))
  else
  some (.inr s82.1))) (s,0)=some (addW s t):=by
 obtain ⟨a,b,c,d,e,f,g,i,rfl⟩:=eight hs
 obtain ⟨a',b',c',d',e',f',g',i',rfl⟩:=eight ht
 exact zds.2 ⟨9,by kernel_rfl⟩
theorem block_eq (s:List UInt32) (p:List UInt8) (hs:s.length=8) (hp:p.length=64):zgk s p=some (blk s p):=by
 unfold zgk
 simp only [zec hs,plan_eq p hp,constants_eq,zec (zdv p 64),zec (show kL.length=64 from rfl),zec (List.length_replicate),obs]
 refine zbh (zas (fun i=>(rnds (sched p 64) s i,(i:Int))) 64 (rnds (sched p 64) s 64) rfl ?_ ?_) ?_
 rotate_left 2
 ·rw [add_loop s _ hs (rnds_len _ _ hs _)];rfl
 ·intro i hi
  have hl:=rnds_len (sched p 64) s hs i
  simp only []
  rw [if_pos (by omega)]
  have e0:=idx_at (l:=rnds (sched p 64) s i) 0 (by omega) 0 rfl
  have e1:=idx_at (l:=rnds (sched p 64) s i) 1 (by omega) 1 rfl
  have e2:=idx_at (l:=rnds (sched p 64) s i) 2 (by omega) 2 rfl
  have e3:=idx_at (l:=rnds (sched p 64) s i) 3 (by omega) 3 rfl
  have e4:=idx_at (l:=rnds (sched p 64) s i) 4 (by omega) 4 rfl
  have e5:=idx_at (l:=rnds (sched p 64) s i) 5 (by omega) 5 rfl
  have e6:=idx_at (l:=rnds (sched p 64) s i) 6 (by omega) 6 rfl
  have e7:=idx_at (l:=rnds (sched p 64) s i) 7 (by omega) 7 rfl
  simp only [zec hl,e0,e1,e2,e3,e4,e5,e6,e7,obs,zec (zdv p 64),zec (show kL.length=64 from rfl),idx_w0 (show i<(sched p 64).length by rw [zdv];exact hi),idx_w0 (show i<kL.length from hi),
   show ∀ x,zd5 x 6 11 25=some ((rot x 6^^^rot x 11)^^^rot x 25) from fun x=>turned_eq x 6 11 25 (by decide) (by decide) (by decide),
   show ∀ x,zd5 x 2 13 22=some ((rot x 2^^^rot x 13)^^^rot x 22) from fun x=>turned_eq x 2 13 22 (by decide) (by decide) (by decide),zau i (by omega),
   zec (List.length_cons.trans (congrArg (·+1) (show [_,_,_,_,_,_,_].length=7 from rfl)))]
  rfl
 ·simp only [];rw [if_neg (by omega)]
end Gk

/- The sum of bytes, whole, in plain Lean. No condition but lengths. -/
namespace Gk
open Gf
def padN (n:Nat):Nat:=(120 - (n+1) % 64) % 64
def padL (b:List UInt8):List UInt8:=(b ++ [128]) ++ List.replicate (padN b.length) 0
def padded (b:List UInt8):List UInt8:=padL b ++ by8 (UInt64.ofInt (b.length:Int) * 8)
def nbl (n:Nat):Nat:=(n+9+padN n) / 64
theorem nbl_eq (n:Nat):n+9+padN n=64 * nbl n:=by unfold nbl padN;omega
theorem padL_len (b:List UInt8):(padL b).length=b.length+1+padN b.length:=by simp only [padL,List.length_append,List.length_singleton,List.length_replicate]
theorem padded_len (b:List UInt8):(padded b).length=64 * nbl b.length:=by
 rw [← nbl_eq];simp only [padded,List.length_append,padL_len,by8_len];omega
def pcS (m:List UInt8) (j:Nat):List UInt8:=(m.drop (64 * j)).take 64
def shaS (m:List UInt8):Nat->List UInt32
 | 0=>hL
 | j+1=>blk (shaS m j) (pcS m j)
theorem shaS_len (m:List UInt8):∀ j,(shaS m j).length=8
 | 0=>rfl
 | j+1=>rfl
def sha (b:List UInt8):List UInt8:=(shaS (padded b) (nbl b.length)).flatMap by4
theorem flat4_len (x:List UInt32):(x.flatMap by4).length=4 * x.length:=by
 induction x with
 | nil=>rfl
 | cons a x ih=>rw [List.flatMap_cons,List.length_append,ih,List.length_cons];simp only [by4,List.length_cons,List.length_nil];omega
theorem sha_len (b:List UInt8):(sha b).length=32:=by rw [sha,flat4_len,shaS_len]
theorem w0_take {x:List UInt32} {i:Nat} (h:i<x.length):x.take (i+1)=x.take i ++ [w0 x i]:=by
 rw [List.take_add_one,List.getElem?_eq_getElem h,w0,List.getD_eq_getElem?_getD,List.getElem?_eq_getElem h];rfl
theorem out_loop (x:List UInt32) (hx:x.length=8) {body:List UInt8×Int->Option ((List UInt8×Int)⊕List UInt8)}
  (h1:∀ (l:List UInt8) (i:Nat),i<8->l.length<=32->body (l,(i:Int))=some (.inl (l ++ by4 (w0 x i),((i+1:Nat):Int)))) (h2:∀ l,body (l,8)=some (.inr l)) :
  iterC body ([],0)=some (x.flatMap by4):=by
 refine zas (fun i=>((x.take i).flatMap by4,(i:Int))) 8 _ (by simp) ?_ ?_
 ·intro i hi
  rw [h1 _ i hi (by rw [flat4_len,List.length_take];omega),w0_take (by omega)]
  simp
 ·rw [show ((8:Nat):Int)=8 by rfl,h2,List.take_of_length_le (by omega)]
theorem shl3 (x:UInt64):shl64 x 3=x * 8:=by
 apply UInt64.toNat_inj.1
 simp [shl64,UInt64.toNat_mul]
theorem hash_Sum_eq (parts:List (List UInt8)) (h:parts.flatten.length<=1000000) (hl:parts.length<=1000000):ziu parts=some (sha parts.flatten):=by
 have hm:(1000000:Nat)+200<=most:=by decide
 unfold ziu
 rw [Concat_eq parts (by omega) (by omega),obs]
 generalize hb:parts.flatten=b at *
 have hp:padN b.length<64:=Nat.mod_lt _ (by decide)
 rw [appL_one b 128 (by omega),obs,List.length_append,List.length_singleton,show (64:Int)=((64:Nat):Int) by rfl,zfn _ _ (by omega),obs,
  wI_of (by omega) (by omega),show (120:Int) - ((((b.length+1) % 64:Nat)):Int)=((120 - (b.length+1) % 64:Nat):Int) by omega,zfn _ _ (by omega),obs,
  zcg _ _ (by omega),obs]
 have e1:appL (b ++ [128]) (List.replicate ((120 - (b.length+1) % 64) % 64) 0)=some (padL b):=by
  unfold appL;rw [if_pos (by simp only [List.length_append,List.length_singleton,List.length_replicate];omega)];rfl
 rw [e1,obs,shl3,Put64_eq _ _ (by rw [padL_len];omega),obs,first_eq,obs,zec (by simp),obs,zec (show hL.length=8 from rfl),obs]
 rw [show padL b ++ by8 (UInt64.ofInt (b.length:Int) * 8)=padded b from rfl]
 have hn:=nbl_eq b.length
 rw [lim_of (by rw [padded_len];omega),obs]
 have hcm:∀ x∈za0 (padded b) 64,x.2.length=64:=by
  intro x hx
  simp only [za0,List.mem_map,List.mem_range] at hx
  obtain ⟨j,hj,rfl⟩:=hx
  simp only [List.length_take,List.length_drop]
  rw [padded_len] at *
  omega
 have hr:=zgl (f:=fun (s41:List UInt32) (y41:Int×List UInt8)=>(zgk s41 y41.2).bind fun r45=>some r45) (fun s y=>blk s y.2) (xs:=za0 (padded b) 64) (s0:=hL) (fun _ s=>s.length=8) rfl
  (fun k s x hk hx hs=>⟨by rw [block_eq s x.2 hs (hcm x hx)];rfl,rfl⟩)
 rw [hr.1,obs,zec hr.2,obs]
 have hf:(za0 (padded b) 64).foldl (fun s y=>blk s y.2) hL=shaS (padded b) (nbl b.length):=by
  unfold za0
  rw [show ((padded b).length+64 - 1) / 64=nbl b.length by rw [padded_len];omega]
  generalize nbl b.length=n
  rw [List.foldl_map]
  induction n with
  | zero=>rfl
  | succ n ih=>rw [List.range_succ,List.foldl_append,ih];simp only [List.foldl_cons,List.foldl_nil,shaS,pcS,Nat.mul_comm]
 have hlen:=hr.2
 rw [hf] at hlen ⊢
 rw [out_loop _ hlen]
 ·rfl
 ·intro l i hi hl
  simp only []
  rw [if_pos (by omega),obs,idx_w0 (by omega),obs,Put32_eq _ _ (by omega),obs,zau _ (by omega)]
 ·intro l;rfl
end Gk

/- Printed by gen.py: for each Go function a pure function, and that the Go code comes to it. No condition beside the equation that says what the pure function gives. -/
namespace Gk
open Go Go.Proofs
end Gk

/- The document's answer for sums of bytes, in plain Lean. No condition but lengths. -/
namespace Gk
open Gf
end Gk

/- The document's constants for sums of bytes. No condition. -/
namespace Gk
open Gf
end Gk

/- The document's answer for sums of bytes is the program's. No condition but lengths. -/
namespace Gk
open Gf
end Gk

/- Printed by gen.py: for each Go function a pure function, and that the Go code comes to it. No condition beside the equation that says what the pure function gives. -/
namespace Gk
open Go Go.Proofs
noncomputable def aont_mix (d:Bool) (e:List UInt8) (b:List UInt8):Option (List UInt8×Int) :=
(if 1048576<(b.length:Int) then some (([]:List UInt8),4)
else
((zfg d e).bind fun a =>
(if a.2=0 then
((makeL 8 (0:UInt8)).bind fun f =>
((zie a.1 f b).bind fun c => some (c.1,c.2)))
else some (([]:List UInt8),a.2))))
theorem aont_mix_calls (j:Bool) (k:List UInt8) (l:List UInt8) (e:Value) (f:Value) (c:Value) (q:List UInt8×Int) (w0:World) (F:Fd w0 [] e j) (G:By w0 [] f k) (v:By w0 [] c l) (a:aont_mix j k l=some q) :
  Calls Tryz.prog 55 [e,f,c].toArray w0 (fun z x=>∃ r:Value,z=.returned (.tuple #[r,i64 q.2])/\Ext w0 x/\Nw w0 r/\OwK (Sc u8) x [] 5 r q.1):=by
 have d:Ext w0 w0:=Ext.refl w0;unfold aont_mix at a;refine zai (n:=28) Tryz.func55 V V V<|W_sr<|av (.slice none 0 0) V V<|av (i64 0) V V<|wnt<|W_seq<|W_sr<|mv c V V<|wa V (q_len V T22.sl V (v.lift (le_ d)))<|wa V (q_gtI V V V)<|wnt<|wci a V V (fun a=>?_) (fun a=>?_)
 ·refine W_sr<|av (.slice none 0 0) V V<|av (i64 4) V V<|wnt<|W_ret<|th_r<|?_;obtain rfl:=osi a;refine rt2 (.slice none 0 0) (i64 4) V V V V V V ?_;exact ⟨.slice none 0 0,rfl,d,Nw.nil _,OwK.nil _ _ _ _⟩
 refine zad<|W_th<|W_sr<|mv e V V<|mv f V V<|?_;obtain ⟨b,H,a⟩:=bsi a;refine wls V V (zab (vs:=[e,f]) Tryz.func83 V V V (ar2 V V) (cipher_New_calls j k e f b _ [] (Old.nil _) (F.lift (Lift.arg d nv_nil)) (G.lift (le_ d)) H) ?_);rintro _ Y ⟨g,rfl,U,p⟩;refine ⟨_,rfl,?_⟩;have u:=d.trans U;refine mv (.tuple #[g,i64 b.2]) V V<|wa V (zaf V V V)<|wa V (zaf V V V)<|av g V V<|av (i64 b.2) V V<|wnt<|W_seq<|W_seq<|W_rg<|mv (i64 b.2) V V<|wa V (q_neI V V V)<|wnt<|zak _ V V (fun o=>?_) (fun o=>?_)
 ·replace a:=(if_neg (zbf o)).symm.trans a;refine W_sr<|mv (i64 b.2) V V<|av (.slice none 0 0) V V<|av (i64 b.2) V V<|wnt<|W_ret<|th_r<|?_;obtain rfl:=osi a;refine rt2 (.slice none 0 0) (i64 b.2) V V V V V V ?_;exact ⟨.slice none 0 0,rfl,u,Nw.nil _,OwK.nil _ _ _ _⟩
 replace a:=(if_pos (zbd o)).symm.trans a;refine zad<|W_th<|W_sr<|mv g V V<|?_;obtain ⟨t,D,a⟩:=bsi a;refine wls V V (zc8 (L:=[]) (R:=Sc u8) V T22 V V D (fun _ _=>rfl) ?_);intro s S O K B X;have y:=zaa B;have J:By S [] s t:=OwK.slk (Sc.stab _) _ O (fun w E=>(Old.nil _) w (K w E)) (fun _ C=>C.2);replace p:=p.lift (le_ y);have m:=u.trans y;refine mv c V V ?_;obtain ⟨i,I,a⟩:=bsi a;refine wls V V (zab (vs:=[g,s,c]) Tryz.func84 V V V (ar3 V V V) (stream_Xor_calls b.1 t l g s c i _ (p.lift (Lift.sub (L':=[]) (fun _ _=>trivial))) (J.lift (Lift.sub (L':=[]) (fun _ _=>trivial))) (v.lift (le_ m)) I) ?_);rintro _ T ⟨h,rfl,W,M,Q⟩;refine ⟨_,rfl,?_⟩;have P:OwK (Sc u8) T (h::[]) 5 h i.1:=OwK.scal Q _;have N:=Nw.ext m M;have A:=m.trans W;refine wa V (zaf V V V)<|wa V (zaf V V V)<|av h V V<|av (i64 i.2) V V<|wnt<|W_ret<|?_;obtain rfl:=osi a;refine rt2 h (i64 i.2) V V V V V V ?_;exact ⟨h,rfl,A,N,P.weak (Sc.stab _) (fun _ _=>trivial)⟩
noncomputable def aont_Wrap (c:Bool) (b:List UInt8) (d:List UInt8):Option (List UInt8×Int) :=
(if (!c)=true then some (([]:List UInt8),1)
else
(if (b.length:Int)=32 then
((aont_mix c b d).bind fun a =>
(if a.2=0 then
((ziu ([a.1]:List (List UInt8))).bind fun g =>
((zfo b g).bind fun e =>
((zat ([a.1,e]:List (List UInt8))).bind fun f => some (f,0))))
else some (([]:List UInt8),a.2)))
else some (([]:List UInt8),3)))
theorem aont_Wrap_calls (q:Bool) (m:List UInt8) (s:List UInt8) (k:Value) (g:Value) (o:Value) (y:List UInt8×Int) (w0:World) (M:Fd w0 [] k q) (x:By w0 [] g m) (a1:By w0 [] o s) (a:aont_Wrap q m s=some y) :
  Calls Tryz.prog 27 [k,g,o].toArray w0 (fun U P=>∃ B:Value,U=.returned (.tuple #[B,i64 y.2])/\Ext w0 P/\Nw w0 B/\OwK (Sc u8) P [] 5 B y.1):=by
 have h:Ext w0 w0:=Ext.refl w0;unfold aont_Wrap at a;refine zai (n:=35) Tryz.func27 V V V<|W_sr<|av (.slice none 0 0) V V<|av (i64 0) V V<|wnt<|W_seq<|zac<|W_seq<|W_rg<|mv k V V<|wa V (q_eqF V V V V (M.lift (le_ h)))<|av (.bool (!q)) V V<|wnt<|zak _ V V (fun t=>?_) (fun t=>?_)
 ·replace a:=(if_pos t).symm.trans a;refine W_sr<|av (.slice none 0 0) V V<|av (i64 1) V V<|wnt<|W_ret<|bk_r<|th_r<|?_;obtain rfl:=osi a;refine rt2 (.slice none 0 0) (i64 1) V V V V V V ?_;exact ⟨.slice none 0 0,rfl,h,Nw.nil _,OwK.nil _ _ _ _⟩
 replace a:=(if_neg (ne_true_of_eq_false t)).symm.trans a;refine W_sr<|mv g V V<|wa V (q_len V T22.sl V (x.lift (le_ h)))<|wa V (q_neI V V V)<|av (.bool (!decide ((m.length:Int)=32))) V V<|wnt<|zak _ V V (fun u=>?_) (fun u=>?_)
 ·replace a:=(if_neg (zbf u)).symm.trans a;refine W_sr<|av (.slice none 0 0) V V<|av (i64 3) V V<|wnt<|W_ret<|bk_r<|th_r<|?_;obtain rfl:=osi a;refine rt2 (.slice none 0 0) (i64 3) V V V V V V ?_;exact ⟨.slice none 0 0,rfl,h,Nw.nil _,OwK.nil _ _ _ _⟩
 replace a:=(if_pos (zbd u)).symm.trans a;refine zad<|bk_n<|W_th<|W_sr<|mv k V V<|mv g V V<|mv o V V<|?_;obtain ⟨b,a4,a⟩:=bsi a;refine wls V V (zab (vs:=[k,g,o]) Tryz.func55 V V V (ar3 V V V) (aont_mix_calls q m s k g o b _ (M.lift (le_ h)) (x.lift (le_ h)) (a1.lift (le_ h)) a4) ?_);rintro _ G ⟨i,rfl,aT,aD,aK⟩;refine ⟨_,rfl,?_⟩;have e:By G [] i b.1:=OwK.slk (Sc.stab _) _ (OwK.scal aK (i::[])) (fun c f=>(Old.nil _) c (aD c f)) (fun _ d=>d.2);have J:=h.trans aT;refine mv (.tuple #[i,i64 b.2]) V V<|wa V (zaf V V V)<|wa V (zaf V V V)<|av i V V<|av (i64 b.2) V V<|wnt<|W_seq<|W_seq<|W_rg<|mv (i64 b.2) V V<|wa V (q_neI V V V)<|wnt<|zak _ V V (fun v=>?_) (fun v=>?_)
 ·replace a:=(if_neg (zbf v)).symm.trans a;refine W_sr<|mv (i64 b.2) V V<|av (.slice none 0 0) V V<|av (i64 b.2) V V<|wnt<|W_ret<|th_r<|?_;obtain rfl:=osi a;refine rt2 (.slice none 0 0) (i64 b.2) V V V V V V ?_;exact ⟨.slice none 0 0,rfl,J,Nw.nil _,OwK.nil _ _ _ _⟩
 replace a:=(if_pos (zbd v)).symm.trans a;refine zad<|W_th<|W_sr<|mv i V V<|mv g V V<|mv i V V<|wls V V (zax (L:=[]) (R:=By) [i] ([b.1]:List (List UInt8)) V T29 V (by exact ⟨rfl,rfl,trivial⟩) V (LitR.cells (R:=By) (w:=G) (L:=[]) (l:=([b.1]:List (List UInt8))) (LitR.cons e LitR.nil) (fun A H d=>zcj A H d)) V (LitR.all (R:=By) (w:=G) (L:=[]) (l:=([b.1]:List (List UInt8))) (SlK.stab (Sc.stab _)) (LitR.cons e LitR.nil)) ?_);intro E aP aL aE a0 aV;have S:=zaa a0;have a7:Rw aP [] E ([b.1]:List (List UInt8)):=OwK.slk (SlK.stab (Sc.stab _)) _ aL (fun c f=>(Old.nil _) c (aE c f)) (fun _ d=>d.2);replace e:=e.lift (le_ S);have Y:=J.trans S;obtain ⟨z,a5,a⟩:=bsi a;refine wls V V (zab (vs:=[E]) Tryz.func57 V V V (ar1 V) (hash_Sum_calls ([b.1]:List (List UInt8)) E z _ (a7.lift (Lift.sub (L':=[]) (fun _ _=>trivial))) a5) ?_);rintro _ aQ ⟨r,rfl,T,aF,aM⟩;refine ⟨_,rfl,?_⟩;have a8:By aQ [] r z:=OwK.slk (Sc.stab _) _ (OwK.scal aM (r::[])) (fun c f=>(Old.nil _) c (aF c f)) (fun _ d=>d.2);replace e:=e.lift (le_ T);have K:=Y.trans T;obtain ⟨j,a2,a⟩:=bsi a;refine wls V V (zab (vs:=[g,r]) Tryz.func56 V V V (ar2 V V) (zej m z g r j _ (x.lift (le_ K)) (a8.lift (Lift.sub (L':=[]) (fun _ _=>trivial))) a2) ?_);rintro _ F ⟨C,rfl,Q,a9,aG⟩;refine ⟨_,rfl,?_⟩;have N:By F [] C j:=OwK.slk (Sc.stab _) _ (OwK.scal aG (C::[])) (fun c f=>(Old.nil _) c (a9 c f)) (fun _ d=>d.2);replace e:=e.lift (le_ Q);have W:=K.trans Q;refine wls V V (zax (L:=[]) (R:=By) [i,C] ([b.1,j]:List (List UInt8)) V T29 V (by exact ⟨rfl,rfl,rfl,rfl,trivial⟩) V (LitR.cells (R:=By) (w:=F) (L:=[]) (l:=([b.1,j]:List (List UInt8))) (LitR.cons e (LitR.cons N LitR.nil)) (fun A H d=>zcj A H d)) V (LitR.all (R:=By) (w:=F) (L:=[]) (l:=([b.1,j]:List (List UInt8))) (SlK.stab (Sc.stab _)) (LitR.cons e (LitR.cons N LitR.nil))) ?_);intro D aN aH aA Z aU;have aR:=zaa Z;have a6:Rw aN [] D ([b.1,j]:List (List UInt8)):=OwK.slk (SlK.stab (Sc.stab _)) _ aH (fun c f=>(Old.nil _) c (aA c f)) (fun _ d=>d.2);have I:=W.trans aR
 obtain ⟨O,a3,a⟩:=bsi a;refine wls V V (zab (vs:=[D]) Tryz.func29 V V V (ar1 V) (za2 ([b.1,j]:List (List UInt8)) D O _ (a6.lift (Lift.sub (L':=[]) (fun _ _=>trivial))) a3) ?_);rintro _ aO ⟨p,rfl,aS,aB,aJ⟩;refine ⟨_,rfl,?_⟩;have aI:OwK (Sc u8) aO (p::[]) 5 p O:=OwK.scal aJ _;have aC:=Nw.ext I aB;have X:=I.trans aS;refine av p V V<|av (i64 0) V V<|wnt<|W_ret<|?_;obtain rfl:=osi a;refine rt2 p (i64 0) V V V V V V ?_;exact ⟨p,rfl,X,aC,aI.weak (Sc.stab _) (fun _ _=>trivial)⟩
noncomputable def aont_Key (a:List UInt8):Option (List UInt8×Int) :=
(if (wI ((a.length:Int) - 32))<0 then some (([]:List UInt8),3)
else
((subL a (wI ((a.length:Int) - 32)) (a.length:Int)).bind fun b =>
((subL a 0 (wI ((a.length:Int) - 32))).bind fun c =>
((ziu ([c]:List (List UInt8))).bind fun e =>
((zfo b e).bind fun d => some (d,0))))))
theorem aont_Key_calls (d:List UInt8) (e:Value) (s:List UInt8×Int) (w0:World) (f:By w0 [] e d) (c:aont_Key d=some s) :
  Calls Tryz.prog 74 [e].toArray w0 (fun C A=>∃ u:Value,C=.returned (.tuple #[u,i64 s.2])/\Ext w0 A/\Nw w0 u/\OwK (Sc u8) A [] 5 u s.1):=by
 have p:Ext w0 w0:=Ext.refl w0;unfold aont_Key at c;refine zai (n:=19) Tryz.func74 V V V<|W_sr<|av (.slice none 0 0) V V<|av (i64 0) V V<|wnt<|W_sr<|mv e V V<|wa V (q_len V T22.sl V (f.lift (le_ p)))<|wa V (zbn V V V)<|av (i64 (wI ((d.length:Int) - 32))) V V<|wnt<|W_seq<|W_sr<|mv (i64 (wI ((d.length:Int) - 32))) V V<|?_;refine wa V (q_ltI V V V)<|wnt<|wci c V V (fun c=>?_) (fun c=>?_)
 ·refine W_sr<|av (.slice none 0 0) V V<|av (i64 3) V V<|wnt<|W_ret<|th_r<|?_;obtain rfl:=osi c;refine rt2 (.slice none 0 0) (i64 3) V V V V V V ?_;exact ⟨.slice none 0 0,rfl,p,Nw.nil _,OwK.nil _ _ _ _⟩
 refine zad<|W_th<|W_seq<|zbi [] [(0,0),(1,0),(2,0),(3,0),(4,0),(5,0),(6,2),(7,2),(8,2),(9,0),(10,0)] mixed (by kernel_rfl) (by kernel_rfl) (by kernel_rfl) (by kernel_rfl) ?_;have a1:=Ext.drew w0;have h:=p.trans a1;refine sv e V V V<|sv (i64 (wI ((d.length:Int) - 32))) V V V<|bse c fun B y c=>sa V V (zdm (a:=wI ((d.length:Int) - 32)) (b:=(d.length:Int)) V T22 V (f.lift (le_ h)) V V y)<|sv e V V V<|sv (i64 (wI ((d.length:Int) - 32))) V V V<|bse c fun g q c=>sa V V (zdm (a:=0) (b:=wI ((d.length:Int) - 32)) V T22 V (f.lift (le_ h)) V V q)<|wsc V (by kernel_rfl) V V (zax (L:=[]) (R:=By) [subV e (0:Int).toNat ((wI ((d.length:Int) - 32)):Int).toNat] ([g]:List (List UInt8)) V T29 V (by exact ⟨rfl,rfl,trivial⟩) V (LitR.cells (R:=By) (w:=World.drew w0) (L:=[]) (l:=([g]:List (List UInt8))) (LitR.cons (SlK.cut (f.lift (Lift.arg h nv_nil)) q) LitR.nil) (fun U Z i=>zcj U Z i)) V (LitR.all (R:=By) (w:=World.drew w0) (L:=[]) (l:=([g]:List (List UInt8))) (SlK.stab (Sc.stab _)) (LitR.cons (SlK.cut (f.lift (Lift.arg h nv_nil)) q) LitR.nil)) ?_);intro x X S N F a4;have a2:=zaa F;have I:Rw X [] x ([g]:List (List UInt8)):=OwK.slk (SlK.stab (Sc.stab _)) _ S (fun j r=>(Old.nil _) j (N j r)) (fun _ i=>i.2);have E:=h.trans a2;obtain ⟨t,H,c⟩:=bsi c;refine wsc V (by kernel_rfl) V V (zab (vs:=[x]) Tryz.func57 V V V (ar1 V) (hash_Sum_calls ([g]:List (List UInt8)) x t _ (I.lift (Lift.sub (L':=[]) (fun _ _=>trivial))) H) ?_);rintro _ Y ⟨m,rfl,a3,O,T⟩;refine ⟨_,rfl,?_⟩;have J:By Y [] m t:=OwK.slk (Sc.stab _) _ (OwK.scal T (m::[])) (fun j r=>(Old.nil _) j (O j r)) (fun _ i=>i.2);have o:=E.trans a3;obtain ⟨z,G,c⟩:=bsi c;refine wsc V (by kernel_rfl) V V (zab (vs:=[subV e ((wI ((d.length:Int) - 32)):Int).toNat ((d.length:Int):Int).toNat,m]) Tryz.func56 V V V (ar2 V V) (zej B t (subV e ((wI ((d.length:Int) - 32)):Int).toNat ((d.length:Int):Int).toNat) m z _ (SlK.cut (L:=[]) (f.lift (le_ o)) y) (J.lift (Lift.sub (L':=[]) (fun _ _=>trivial))) G) ?_);rintro _ W ⟨k,rfl,a0,K,Q⟩;refine ⟨_,rfl,?_⟩;have P:OwK (Sc u8) W (k::[]) 5 k z:=OwK.scal Q _
 have M:=Nw.ext o K;have D:=o.trans a0;refine sa V V (zan (v:=k) V V)<|sa V V (zan (v:=i64 0) V V)<|zaw<|W_th<|W_ret<|?_;obtain rfl:=osi c;refine rt2 k (i64 0) V V V V V V ?_;exact ⟨k,rfl,D,M,P.weak (Sc.stab _) (fun _ _=>trivial)⟩
noncomputable def aont_Open (c:Bool) (a:List UInt8):Option (List UInt8×Int) :=
(if (!c)=true then some (([]:List UInt8),1)
else
((aont_Key a).bind fun b =>
(if b.2=0 then
((subL a 0 (wI ((a.length:Int) - 32))).bind fun e =>
((aont_mix c b.1 e).bind fun d => some (d.1,d.2)))
else some (([]:List UInt8),b.2))))
theorem aont_Open_calls (o:Bool) (h:List UInt8) (i:Value) (d:Value) (r:List UInt8×Int) (w0:World) (u:Fd w0 [] i o) (l:By w0 [] d h) (c:aont_Open o h=some r) :
  Calls Tryz.prog 41 [i,d].toArray w0 (fun y w=>∃ s:Value,y=.returned (.tuple #[s,i64 r.2])/\Ext w0 w/\Nw w0 s/\OwK (Sc u8) w [] 5 s r.1):=by
 have k:Ext w0 w0:=Ext.refl w0;unfold aont_Open at c;refine zai (n:=28) Tryz.func41 V V V<|W_sr<|av (.slice none 0 0) V V<|av (i64 0) V V<|wnt<|W_seq<|W_sr<|mv i V V<|wa V (q_eqF V V V V (u.lift (le_ k)))<|wnt<|zak _ V V (fun p=>?_) (fun p=>?_)
 ·replace c:=(if_pos p).symm.trans c;refine W_sr<|av (.slice none 0 0) V V<|av (i64 1) V V<|wnt<|W_ret<|th_r<|?_;obtain rfl:=osi c;refine rt2 (.slice none 0 0) (i64 1) V V V V V V ?_;exact ⟨.slice none 0 0,rfl,k,Nw.nil _,OwK.nil _ _ _ _⟩
 replace c:=(if_neg (ne_true_of_eq_false p)).symm.trans c;refine zad<|W_th<|W_sr<|mv d V V<|?_;obtain ⟨e,C,c⟩:=bsi c;refine wls V V (zab (vs:=[d]) Tryz.func74 V V V (ar1 V) (aont_Key_calls h d e _ (l.lift (le_ k)) C) ?_);rintro _ M ⟨g,rfl,O,F,I⟩;refine ⟨_,rfl,?_⟩;have E:By M [] g e.1:=OwK.slk (Sc.stab _) _ (OwK.scal I (g::[])) (fun v B=>(Old.nil _) v (F v B)) (fun _ A=>A.2);have f:=k.trans O;refine mv (.tuple #[g,i64 e.2]) V V<|wa V (zaf V V V)<|wa V (zaf V V V)<|av g V V<|av (i64 e.2) V V<|wnt<|W_seq<|W_seq<|W_rg<|mv (i64 e.2) V V<|wa V (q_neI V V V)<|wnt<|zak _ V V (fun q=>?_) (fun q=>?_)
 ·replace c:=(if_neg (zbf q)).symm.trans c;refine W_sr<|mv (i64 e.2) V V<|av (.slice none 0 0) V V<|av (i64 e.2) V V<|wnt<|W_ret<|th_r<|?_;obtain rfl:=osi c;refine rt2 (.slice none 0 0) (i64 e.2) V V V V V V ?_;exact ⟨.slice none 0 0,rfl,f,Nw.nil _,OwK.nil _ _ _ _⟩
 replace c:=(if_pos (zbd q)).symm.trans c;refine zad<|W_th<|W_sr<|mv i V V<|mv g V V<|mv d V V<|mv d V V<|wa V (q_len V T22.sl V (l.lift (le_ f)))<|wa V (zbn V V V)<|bse c fun x t c=>wa V (zdm (a:=0) (b:=wI ((h.length:Int) - 32)) V T22 V (l.lift (le_ f)) V V t) ?_;obtain ⟨m,D,c⟩:=bsi c;refine wls V V (zab (vs:=[i,g,subV d (0:Int).toNat ((wI ((h.length:Int) - 32)):Int).toNat]) Tryz.func55 V V V (ar3 V V V) (aont_mix_calls o e.1 x i g (subV d (0:Int).toNat ((wI ((h.length:Int) - 32)):Int).toNat) m _ (u.lift (le_ f)) (E.lift (Lift.sub (L':=[]) (fun _ _=>trivial))) (SlK.cut (L:=[]) (l.lift (le_ f)) t) D) ?_);rintro _ N ⟨j,rfl,P,G,K⟩;refine ⟨_,rfl,?_⟩;have J:OwK (Sc u8) N (j::[]) 5 j m.1:=OwK.scal K _;have H:=Nw.ext f G;have z:=f.trans P;refine wa V (zaf V V V)<|wa V (zaf V V V)<|av j V V<|av (i64 m.2) V V<|wnt<|W_ret<|?_;obtain rfl:=osi c;refine rt2 j (i64 m.2) V V V V V V ?_;exact ⟨j,rfl,z,H,J.weak (Sc.stab _) (fun _ _=>trivial)⟩
end Gk

/- Printed by gen.py: for each Go function a pure function, and that the Go code comes to it. No condition beside the equation that says what the pure function gives. -/
namespace Gk
open Go Go.Proofs
end Gk

/- All or nothing (chapter 11), in plain Lean. No condition but lengths. -/
namespace Gk
open Gf
def z8:List UInt8:=List.replicate 8 0
def mixF (key nonce b:List UInt8):List UInt8:=xr (strL ((keysF key).headD []) (keysF key).tail nonce 0 b.length) b
theorem zhk (key nonce b:List UInt8):(mixF key nonce b).length=b.length:=by rw [mixF,zgx,zdk];omega
theorem co_mixF (key nonce b:List UInt8) (i:Nat) (h:i<b.length):co (mixF key nonce b) i=strm ((keysF key).headD []) (keysF key).tail nonce i^^^co b i:=by
 rw [mixF,co_xr _ _ _ (by rw [zdk];exact h) h,co_strL _ _ _ _ _ _ h,Nat.zero_add]
theorem mixF_mixF (key nonce b:List UInt8):mixF key nonce (mixF key nonce b)=b:=by
 refine ext_co (by rw [zhk,zhk]) fun i hi=>?_
 rw [zhk,zhk] at hi
 rw [co_mixF _ _ _ _ (by rw [zhk];exact hi),co_mixF _ _ _ _ hi,xor_cancel]
theorem New_mix (key:List UInt8) (n:Nat) (hn:n=4∨n=8) (h:key.length=4 * n):∃ c,zfg true key=some (some c,0)/\GoodC c ((keysF key).headD []) (keysF key).tail/\keysF key=(keysF key).headD [] :: (keysF key).tail:=by
 obtain ⟨c,k0,ks,hN,G,hK⟩:=New_good key n hn h
 refine ⟨c,hN,?_,?_⟩
 ·rw [hK];exact G
 ·rw [hK];rfl
theorem mix_eq (key b:List UInt8) (hk:key.length=32) (hb:b.length<=10000):aont_mix true key b=some (mixF key z8 b,0):=by
 have hm:(1000:Nat)<=most:=by decide
 obtain ⟨c,hN,G,hK⟩:=New_mix key 8 (.inr rfl) hk
 unfold aont_mix
 rw [if_neg (by omega),hN,obs]
 dsimp only
 rw [if_pos rfl,show makeL 8 (0:UInt8)=some (List.replicate 8 0) from zcg 8 _ (by omega),obs,SXor_eq G _ (by simp) b (by omega),obs];rfl
theorem Concat2 (a b:List UInt8) (h:a.length+b.length<=1000000):zat [a,b]=some (a ++ b):=by
 have hm:(1000000:Nat)<=most:=by decide
 rw [Concat_eq _ (by simp;omega) (by simp;omega)];simp
def wrapF (key b:List UInt8):List UInt8:=mixF key z8 b ++ xr key (sha (mixF key z8 b))
theorem wrapF_len (key b:List UInt8) (hk:key.length=32):(wrapF key b).length=b.length+32:=by
 rw [wrapF,List.length_append,zhk,zgx,sha_len,hk];rfl
theorem Sum1 (b:List UInt8) (h:b.length<=1000000):ziu [b]=some (sha b):=by
 rw [hash_Sum_eq _ (by simpa using h) (by simp)];simp
theorem Wrap_eq (key b:List UInt8) (hk:key.length=32) (hb:b.length<=10000):aont_Wrap true key b=some (wrapF key b,0):=by
 have hm:(1000000:Nat)<=most:=by decide
 have hl:=zhk key z8 b
 unfold aont_Wrap
 rw [if_neg (by simp),if_pos (by omega),mix_eq key b hk hb,obs]
 dsimp only
 rw [if_pos rfl,Sum1 _ (by omega),obs,wXor_eq _ _ (by omega),obs,Concat2 _ _ (by rw [zgx,sha_len];omega),obs];rfl
def keyOf (p:List UInt8):List UInt8:=xr (p.drop (p.length - 32)) (sha (p.take (p.length - 32)))
theorem keyOf_len (p:List UInt8) (h:32<=p.length):(keyOf p).length=32:=by
 rw [keyOf,zgx,sha_len,List.length_drop];omega
theorem Key_ok (p:List UInt8) (h:32<=p.length) (h2:p.length<=100000):aont_Key p=some (keyOf p,0):=by
 have hm:(1000000:Nat)<=most:=by decide
 have hw:wI ((p.length:Int) - 32)=((p.length - 32:Nat):Int):=by rw [wI_of (by omega) (by omega)];omega
 unfold aont_Key
 have e0:=zdj p 0 (p.length - 32) (by omega) (by omega)
 rw [show ((0:Nat):Int)=0 by rfl] at e0
 rw [hw,if_neg (by omega),zdj p _ _ (by omega) (Nat.le_refl _),obs,e0,obs,List.drop_zero,List.take_length,Sum1 _ (by rw [List.length_take];omega),obs,wXor_eq _ _ (by rw [List.length_drop];omega),obs];rfl
theorem Open_ok (p:List UInt8) (h:32<=p.length) (h2:p.length<=10000):aont_Open true p=some (mixF (keyOf p) z8 (p.take (p.length - 32)),0):=by
 have hw:wI ((p.length:Int) - 32)=((p.length - 32:Nat):Int):=by rw [wI_of (by omega) (by omega)];omega
 have e0:=zdj p 0 (p.length - 32) (by omega) (by omega)
 rw [show ((0:Nat):Int)=0 by rfl] at e0
 unfold aont_Open
 rw [if_neg (by simp),Key_ok p h (by omega),obs]
 dsimp only
 rw [if_pos rfl,hw,e0,obs,List.drop_zero,mix_eq _ _ (keyOf_len p h) (by rw [List.length_take];omega),obs]
theorem keyOf_wrap (key b:List UInt8) (hk:key.length=32):keyOf (wrapF key b)=key/\(wrapF key b).take ((wrapF key b).length - 32)=mixF key z8 b:=by
 have hl:=zhk key z8 b
 have hw:=wrapF_len key b hk
 have hx:(xr key (sha (mixF key z8 b))).length=32:=by rw [zgx,sha_len,hk];rfl
 have ht:(wrapF key b).take ((wrapF key b).length - 32)=mixF key z8 b:=by
  rw [hw,Nat.add_sub_cancel,wrapF];exact List.take_left' hl
 refine ⟨?_,ht⟩
 unfold keyOf
 rw [ht]
 have hd:(wrapF key b).drop ((wrapF key b).length - 32)=xr key (sha (mixF key z8 b)):=by
  rw [hw,Nat.add_sub_cancel,wrapF];exact List.drop_left' hl
 rw [hd,xr_xr _ _ (by rw [sha_len,hk])]
theorem ofInt64q (n:Nat) (h:n<18446744073709551616):UInt64.ofInt (n:Int)=UInt64.ofNat n:=by
 apply UInt64.toNat_inj.1
 simp [UInt64.ofInt];omega
theorem mod_natq (a:Int) (m:UInt64) (h0:0<m.toNat) (h:m.toNat<=2000000000):∃ n:Nat,n<m.toNat/\wI ((((UInt64.ofInt a) % m).toNat:Int))=(n:Int):=by
 have h1:((UInt64.ofInt a) % m).toNat<m.toNat:=by rw [UInt64.toNat_mod];exact Nat.mod_lt _ h0
 exact ⟨_,h1,wI_nat (by omega)⟩
theorem nz_of {m:UInt64} (h:0<m.toNat):nz m=some ():=by
 unfold nz
 rw [if_neg (fun e=>by rw [e] at h;exact absurd h (by decide))]
end Gk

/- Printed by gen.py: for each Go function a pure function, and that the Go code comes to it. No condition beside the equation that says what the pure function gives. -/
namespace Gk
open Go Go.Proofs
end Gk

/- Printed by gen.py: for each Go function a pure function, and that the Go code comes to it. No condition beside the equation that says what the pure function gives. -/
namespace Gk
open Go Go.Proofs
noncomputable def zev (d:List UInt8) (e:Int):Option (List UInt8) :=
((iterC (fun s6:(List (UInt8×Bool))×List UInt8×Int =>
(if s6.2.2<(d.length:Int) then
((idx d s6.2.2).bind fun c =>
(if (!(mget s6.1 c))=true then
(if (s6.2.1.length:Int)<e then
((appL s6.2.1 ([c]:List UInt8)).bind fun f => some (.inl (mput s6.1 c true,f,wI (s6.2.2+1))))
else some (.inl (mput s6.1 c true,s6.2.1,wI (s6.2.2+1))))
else some (.inl (mput s6.1 c true,s6.2.1,wI (s6.2.2+1)))))
else some (.inr s6.2.1))) (mput ([]:List (UInt8×Bool)) (0:UInt8) true,([]:List UInt8),0)).bind fun k =>
((iterC (fun a:List UInt8×UInt8 =>
(if (a.1.length:Int)<e then
(if (0:UInt8)<a.2 then
((iterC (fun b:Bool×Int =>
(if b.2<(a.1.length:Int) then
((idx a.1 b.2).bind fun g =>
(if b.1=true then some (.inl (true,wI (b.2+1)))
else some (.inl (decide (a.2=g),wI (b.2+1)))))
else some (.inr b.1))) (false,0)).bind fun j =>
(if (!j)=true then
((appL a.1 ([a.2]:List UInt8)).bind fun h => some (.inl (h,(a.2+(1:UInt8)))))
else some (.inl (a.1,(a.2+(1:UInt8))))))
else some (.inr a.1))
else some (.inr a.1))) (k,(1:UInt8))).bind fun i => some i))
theorem law08_Unlike_calls (Z:List UInt8) (k:Int) (K:Value) (b1:List UInt8) (w0:World) (a8:By w0 [] K Z) (t:zev Z k=some b1) :
  Calls Tryz.prog 31 [K,i64 k].toArray w0 (fun bG bB=>∃ aK:Value,bG=.returned aK/\Ext w0 bB/\Nw w0 aK/\OwK (Sc u8) bB [] 5 aK b1):=by
 have aT:Ext w0 w0:=Ext.refl w0;unfold zev at t;refine zai (n:=68) Tryz.func31 V V V<|W_sr<|av (.slice none 0 0) V V<|wnt<|W_sr<|wls V V (stp_makeMap [] V ?_);intro g d5 cD c5 bO cZ;have cU:=zaa bO;have aY:=Nw.ext aT c5;have bJ:=aT.trans cU;refine wln V V (ze0 [] [] (.inr V) Tryz.underlying91 Tryz.underlying5 V (cst8 (0:UInt8) V) V cD ?_);intro dE cJ bQ d3;have aO:=bJ.grown bQ aY;refine mv (mp g) V V<|av (mp g) V V<|wnt<|W_sr<|av (.slice none 0 0) V V<|wnt<|W_seq<|W_sr<|mv K V V<|wa V (q_len V T22.sl V (a8.lift (le_ aO)))<|mv (i64 0) V V<|wnt<|?_;obtain ⟨cW,bF,t⟩:=bsi t;refine W_mid (fun a f=>∃ X:Value,a 1=i64 k/\a 6=X/\a 68=undef/\Ext w0 f/\OwK (Sc u8) f [X] 5 X cW/\Nw w0 X) ?_ ?_
 ·refine zac<|za4 (fun q a f=>∃ I:Value,a 1=i64 k/\a 5=mp g/\a 6=I/\a 15=K/\a 16=i64 (Z.length:Int)/\a 17=i64 q.2.2/\a 68=undef/\Ext w0 f/\Mp f g q.1/\Nw w0 (mp g)/\OwK (Sc u8) f [mp g,I] 5 I q.2.1/\Nw w0 I/\Nq (mp g) I) bF ?_ ?_
  ·exact ⟨.slice none 0 0,rfl,rfl,rfl,rfl,rfl,rfl,rfl,aO,cJ,aY,OwK.nil _ _ _ _,Nw.nil _,(Nq.nil _).symm⟩
  rintro q _ _ dH ⟨o,F,s,H,M,N,E,P,w,m,x,j,A,y⟩ d bX;refine W_sr<|wa V (q_ltI V E N)<|wnt<|W_seq<|wci d V V (fun d=>?_) (fun d=>?_)
  ·refine zad<|W_th<|W_seq<|zac<|W_sr<|bse d fun h aW d=>wa V (q_adr V T22 M E (a8.lift (le_ w)) aW)<|wq V (zav V T22 V (a8.lift (le_ w)) aW)<|av (u8 h) V V<|wnt<|W_seq<|W_sr<|mv (mp g) V s<|?_;refine mv (u8 h) V V<|wq V (q_lookup V Tryz.underlying91 Tryz.underlying5 Tryz.zeroValue4 V V m)<|wa V (q_not V V)<|wlb V V (za5 (v:=(.bool (!(mget q.1 h)))) V V) (fun a3=>?_) (fun a3=>?_)
   ·replace d:=(if_pos a3).symm.trans d;refine mv o V H<|wa V (q_len V T22.sl V (j.rd (Sc.stab _)))<|mv (i64 k) V F<|wa V (q_ltI V V V)<|wa V (zaq (v:=(.bool (decide ((q.2.1.length:Int)<k)))) V V V)<|wnt<|wci d V V (fun d=>?_) (fun d=>?_)
    ·refine W_rg<|mv o V H<|mv (u8 h) V V<|wls V V (zax (L:=[mp g,o]) (R:=Sc u8) [u8 h] ([h]:List UInt8) V T22 V (by exact ⟨rfl,rfl,trivial⟩) V (litC u8 zbx (us:=[u8 h]) (l:=([h]:List UInt8)) V) V (litS u8 (us:=[u8 h]) (l:=([h]:List UInt8)) V) ?_);intro b8 cS cE c6 bN d0;have Y:=zaa bN;have bY:By cS [mp g,o] b8 ([h]:List UInt8):=OwK.slk (Sc.stab _) _ cE (fun z a7=>(Old.cons (Old.cons (Old.nil _) j.lt) m.ltB) z (c6 z a7)) (fun _ p=>p.2);replace m:=m.ext Y;replace j:=j.extL (Sc.stab _) Y (le_ Y);have aM:=w.trans Y;obtain ⟨cX,bU,d⟩:=bsi d;refine wls V V (zar (R:=Sc u8) (v:=o) (u:=b8) (Sc.stab _) [mp g] [] V T22 V V j bY (fun _ _ p=>p) bU oc_u8 ?_);intro S d6 aC aP aZ d1;have b0:Nq (mp g) S:=m.nxt y aZ;replace m:=m.other aP y;have bH:=aM.grown aP A;have c7:=Nw.nxt aM A aZ;refine av S V V<|wnt<|W_rg<|mv (mp g) V s<|mv (u8 h) V V<|wln V V (ze0 [] [S] (.inl V) Tryz.underlying91 Tryz.underlying5 V V V m ?_);intro d7 cF aQ c0;replace aC:=aC.other (Sc.stab _) aQ b0.symm c0;have bI:=bH.grown aQ x;refine zah<|bk_n<|W_th<|W_rg<|wa V (zam V E V)<|mv (i64 (wI (q.2.2+1))) V V<|zah<|?_;obtain rfl:=osi d;exact ⟨_,rfl,S,F,s,rfl,M,N,rfl,P,bI,cF,x,aC,c7,b0⟩
    refine zad<|W_th<|W_rg<|mv (mp g) V s<|mv (u8 h) V V<|wln V V (ze0 [] [o] (.inl V) Tryz.underlying91 Tryz.underlying5 V V V m ?_);intro d8 cG aR c1;replace j:=j.other (Sc.stab _) aR y.symm c1;have bK:=w.grown aR x;refine zah<|bk_n<|W_th<|W_rg<|wa V (zam V E V)<|mv (i64 (wI (q.2.2+1))) V V<|zah<|?_;obtain rfl:=osi d;exact ⟨_,rfl,o,F,s,H,M,N,rfl,P,bK,cG,x,j,A,y⟩
   replace d:=(if_neg (ne_true_of_eq_false a3)).symm.trans d;refine wk V<|wk V<|wk V<|wk V<|wa V (zap (v:=(.bool false)) V V V)<|wnt<|zak false V V (fun a2=>by cases a2) (fun _=>?_);refine zad<|W_th<|W_rg<|mv (mp g) V s<|mv (u8 h) V V<|wln V V (ze0 [] [o] (.inl V) Tryz.underlying91 Tryz.underlying5 V V V m ?_);intro d9 cH aS c2;replace j:=j.other (Sc.stab _) aS y.symm c2;have bL:=w.grown aS x;refine zah<|bk_n<|W_th<|W_rg<|wa V (zam V E V)<|mv (i64 (wI (q.2.2+1))) V V<|zah<|?_;obtain rfl:=osi d;exact ⟨_,rfl,o,F,s,H,M,N,rfl,P,bL,cH,x,j,A,y⟩
  refine zaz<|th_x<|?_;obtain rfl:=osi d;obtain rfl:=bX _ rfl;refine th_x<|bk_x<|?_;exact ⟨o,F,H,P,w,j.weak (Sc.stab _) (fun _ p=>⟨p.2.1,trivial⟩),A⟩
 rintro _ dA ⟨cR,cM,cP,cN,bS,cB,c3⟩;refine W_th<|W_seq<|W_sr<|av (u8 1) V (cst8 (1:UInt8) V)<|wnt<|?_;obtain ⟨cV,bD,t⟩:=bsi t;refine W_mid (fun a f=>∃ W:Value,a 6=W/\a 68=undef/\Ext w0 f/\OwK (Sc u8) f [W] 5 W cV/\Nw w0 W) ?_ ?_
 ·refine zac<|za4 (fun b a f=>∃ T:Value,a 1=i64 k/\a 6=T/\a 9=u8 b.2/\a 68=undef/\Ext w0 f/\OwK (Sc u8) f [T] 5 T b.1/\Nw w0 T) bD ?_ ?_
  ·exact ⟨cR,cM,cP,rfl,cN,bS,cB,c3⟩
  rintro b _ _ dB ⟨e,b3,G,b7,aG,a0,B,a9⟩ c aX;refine W_seq<|W_sr<|mv e V G<|wa V (q_len V T22.sl V (B.rd (Sc.stab _)))<|mv (i64 k) V b3<|wa V (q_ltI V V V)<|wlb V V (za5 (v:=(.bool (decide ((b.1.length:Int)<k)))) V V) (fun a4=>?_) (fun a4=>?_)
  ·replace c:=ifp a4 c;refine mv (u8 b.2) V b7<|wa V (q_gt8 V V (cst8 (0:UInt8) V))<|wa V (zaq (v:=(.bool (decide ((0:UInt8)<b.2)))) V V V)<|wnt<|wci c V V (fun c=>?_) (fun c=>?_)
   ·refine zad<|W_th<|W_seq<|zac<|W_sr<|av (.bool false) V V<|wnt<|W_seq<|W_sr<|mv e V G<|wa V (q_len V T22.sl V (B.rd (Sc.stab _)))<|mv (i64 0) V V<|wnt<|?_;obtain ⟨bC,bE,c⟩:=bsi c;refine W_mid (fun a f=>a 1=i64 k/\a 6=e/\a 9=u8 b.2/\a 10=(.bool bC)/\a 68=undef/\Ext w0 f/\OwK (Sc u8) f [e] 5 e b.1/\Nw w0 e) ?_ ?_
    ·refine zac<|za4 (fun r a f=>a 1=i64 k/\a 6=e/\a 9=u8 b.2/\a 10=(.bool r.1)/\a 48=e/\a 49=i64 (b.1.length:Int)/\a 50=i64 r.2/\a 68=undef/\Ext w0 f/\OwK (Sc u8) f [e] 5 e b.1/\Nw w0 e) bE ?_ ?_
     ·exact ⟨b3,G,b7,rfl,rfl,rfl,rfl,aG,a0,B,a9⟩
     rintro r _ _ dC ⟨aD,aI,Q,b2,aE,aF,O,aH,a1,C,aA⟩ i bW;refine W_sr<|wa V (q_ltI V O aF)<|wnt<|W_seq<|wci i V V (fun i=>?_) (fun i=>?_)
     ·refine zad<|W_th<|W_seq<|zac<|W_sr<|bse i fun J aV i=>wa V (q_adr V T22 aE O (C.rd (Sc.stab _)) aV)<|wq V (zav V T22 V (C.rd (Sc.stab _)) aV)<|av (u8 J) V V<|wnt<|W_rg<|mv (.bool r.1) V b2<|wlb V V (za5 (v:=(.bool r.1)) V V) (fun a5=>?_) (fun a5=>?_)
      ·replace i:=(if_pos a5).symm.trans i;refine wk V<|wk V<|wk V<|wa V (zaq (v:=(.bool true)) V V V)<|av (.bool true) V V<|zah<|bk_n<|W_th<|W_rg<|wa V (zam V O V)<|mv (i64 (wI (r.2+1))) V V<|zah<|?_;obtain rfl:=osi i;exact ⟨_,rfl,aD,aI,Q,rfl,aE,aF,rfl,aH,a1,C,aA⟩
      replace i:=(if_neg (ne_true_of_eq_false a5)).symm.trans i;refine mv (u8 b.2) V Q<|mv (u8 J) V V<|wa V (q_eq8 V V V)<|wa V (zap (v:=(.bool (decide (b.2=J)))) V V V)<|av (.bool (decide (b.2=J))) V V<|zah<|bk_n<|W_th<|W_rg<|wa V (zam V O V)<|mv (i64 (wI (r.2+1))) V V<|zah<|?_;obtain rfl:=osi i;exact ⟨_,rfl,aD,aI,Q,rfl,aE,aF,rfl,aH,a1,C,aA⟩
     refine zaz<|th_x<|?_;obtain rfl:=osi i;obtain rfl:=bW _ rfl;refine th_x<|bk_x<|?_;exact ⟨aD,aI,Q,b2,aH,a1,C,aA⟩
    rintro _ dD ⟨b4,b6,aJ,cL,b5,aU,D,aB⟩;refine W_th<|W_sr<|mv (.bool bC) V cL<|wa V (q_not V V)<|wnt<|zak _ V V (fun a6=>?_) (fun a6=>?_)
    ·replace c:=(if_pos a6).symm.trans c;refine W_rg<|mv e V b6<|mv (u8 b.2) V aJ<|wls V V (zax (L:=[e]) (R:=Sc u8) [u8 b.2] ([b.2]:List UInt8) V T22 V (by exact ⟨rfl,rfl,trivial⟩) V (litC u8 zbx (us:=[u8 b.2]) (l:=([b.2]:List UInt8)) V) V (litS u8 (us:=[u8 b.2]) (l:=([b.2]:List UInt8)) V) ?_);intro b9 cT cI c8 bP d2;have aL:=zaa bP;have bZ:By cT [e] b9 ([b.2]:List UInt8):=OwK.slk (Sc.stab _) _ cI (fun z a7=>(Old.cons (Old.nil _) D.lt) z (c8 z a7)) (fun _ p=>p.2);replace D:=D.extL (Sc.stab _) aL (le_ aL);have aN:=aU.trans aL;obtain ⟨cY,bV,c⟩:=bsi c;refine wls V V (zar (R:=Sc u8) (v:=e) (u:=b9) (Sc.stab _) [] [] V T22 V V D bZ (fun _ _ p=>p) bV oc_u8 ?_);intro bA dF cK bR cA d4;have bM:=aN.grown bR aB;have c9:=Nw.nxt aN aB cA;refine av bA V V<|zah<|bk_n<|W_th<|W_rg<|mv (u8 b.2) V aJ<|wa V (q_add8 V V (cst8 (1:UInt8) V))<|av (u8 (b.2+(1:UInt8))) V V<|zah ?_;obtain rfl:=osi c;exact ⟨_,rfl,bA,b4,rfl,rfl,b5,bM,cK,c9⟩
    replace c:=(if_neg (ne_true_of_eq_false a6)).symm.trans c;refine zad<|bk_n<|W_th<|W_rg<|mv (u8 b.2) V aJ<|wa V (q_add8 V V (cst8 (1:UInt8) V))<|av (u8 (b.2+(1:UInt8))) V V<|zah<|?_;obtain rfl:=osi c;exact ⟨_,rfl,e,b4,b6,rfl,b5,aU,D,aB⟩
   refine zaz<|th_x<|?_;obtain rfl:=osi c;obtain rfl:=aX _ rfl;refine th_x<|bk_x<|?_;exact ⟨e,G,aG,a0,B,a9⟩
  replace c:=ifn a4 c;refine wk V<|wk V<|wa V (zap (v:=(.bool false)) V V V)<|wnt<|zak false V V (fun a2=>by cases a2) (fun _=>?_);refine zaz<|th_x<|?_;obtain rfl:=osi c;obtain rfl:=aX _ rfl;refine th_x<|bk_x<|?_;exact ⟨e,G,aG,a0,B,a9⟩
 rintro _ dG ⟨U,cQ,cO,bT,cC,c4⟩;refine W_th<|W_sr<|mv U V cQ<|av U V V<|wnt<|W_ret<|?_;obtain rfl:=osi t;refine rt1 U V V V cO ?_;exact ⟨U,rfl,bT,c4,cC.weak (Sc.stab _) (fun _ _=>trivial)⟩
end Gk

/- Printed by gen.py: for each Go function a pure function, and that the Go code comes to it. No condition beside the equation that says what the pure function gives. -/
namespace Gk
open Go Go.Proofs
noncomputable def zeo (a:Int):Option Bool :=
(if 1<=a then some (decide (a<=255))
else some false)
theorem zd8 (a0n:Int) (r:Bool) (w0:World) (H:zeo a0n=some r) :
  Calls Tryz.prog 58 [(i64 a0n)].toArray w0 (fun e w'=>e=.returned (.bool r)/\Ext w0 w'):=by
 have hE:Ext w0 w0:=Ext.refl w0;unfold zeo at H;refine zai (n:=9) Tryz.func58 rfl rfl rfl ?_;refine W_seq<|W_rg<|av (.bool false) rfl rfl<|wnt<|W_seq<|W_rg<|mv (i64 a0n) rfl rfl<|wa rfl (q_geI rfl rfl rfl)<|?_;refine wlb rfl rfl (za5 (v:=(.bool ((decide (1<=a0n))))) rfl rfl) (fun hb1=>?_) (fun hb1=>?_)
 ·replace H:=ifp hb1 H;refine mv (i64 a0n) rfl rfl<|wa rfl (q_leI rfl rfl rfl)<|wa rfl (zaq (v:=(.bool ((decide (a0n<=255))))) rfl rfl rfl)<|av (.bool ((decide (a0n<=255)))) rfl rfl<|wnt<|W_ret<|?_;obtain rfl:=osi H;refine rt1 (.bool ((decide (a0n<=255)))) rfl rfl rfl rfl ?_;exact ⟨rfl,hE⟩
 replace H:=ifn hb1 H;refine wk rfl<|wk rfl<|wa rfl (zap (v:=(.bool false)) rfl rfl rfl)<|av (.bool false) rfl rfl<|wnt<|W_ret<|?_;obtain rfl:=osi H;refine rt1 (.bool false) rfl rfl rfl rfl ?_;exact ⟨rfl,hE⟩
noncomputable def zg7 (c:Int):Option (List UInt8) :=
((makeL c (0:UInt8)).bind fun b =>
((iterC (fun a:List UInt8×Int =>
(if a.2<(b.length:Int) then
((idx a.1 a.2).bind fun e => some (.inl (a.1.set (a.2:Int).toNat (UInt8.ofInt (wI (a.2+1))),wI (a.2+1))))
else some (.inr a.1))) (b,0)).bind fun d => some d))
theorem code_places_calls (g:Int) (r:List UInt8) (w0:World) (e:zg7 g=some r) :
  Calls Tryz.prog 92 [i64 g].toArray w0 (fun y v=>∃ l:Value,y=.returned l/\Ext w0 v/\Nw w0 l/\OwK (Sc u8) v [] 5 l r):=by
 have m:Ext w0 w0:=Ext.refl w0;unfold zg7 at e;refine zai (n:=20) Tryz.func92 V V V<|W_sr<|av (.slice none 0 0) V V<|wnt<|W_sr<|mv (i64 g) V V<|?_;obtain ⟨x,E,e⟩:=bsi e;refine wls V V (zc8 (L:=[]) (R:=Sc u8) V T22 V V E (fun _ _=>rfl) ?_);intro a U q H B S;have O:=zaa B;have I:=Nw.ext m H;have z:=m.trans O;refine av a V V<|wnt<|W_seq<|W_sr<|mv a V V<|wa V (q_len V T22.sl V (q.rd (Sc.stab _)))<|mv (i64 0) V V<|wnt ?_;obtain ⟨P,w,e⟩:=bsi e;refine W_mid (fun d f=>d 3=a/\d 20=undef/\Ext w0 f/\OwK (Sc u8) f [a] 5 a P/\Nw w0 a) ?_ ?_
 ·refine zac<|za4 (fun b d f=>d 3=a/\d 8=i64 (x.length:Int)/\d 9=i64 b.2/\d 20=undef/\Ext w0 f/\OwK (Sc u8) f [a] 5 a b.1/\Nw w0 a) w ?_ ?_
  ·exact ⟨rfl,rfl,rfl,rfl,z,q,I⟩
  rintro b _ _ X ⟨j,t,k,s,o,i,h⟩ c F;refine W_sr<|wa V (q_ltI V k t)<|wnt<|W_seq<|wci c V V (fun c=>?_) (fun c=>?_)
  ·refine zad<|W_th<|W_seq<|zac<|W_sr<|mv (i64 b.2) V k<|av (i64 b.2) V V<|wnt<|W_rg<|mv a V j<|mv (i64 b.2) V V<|mv (i64 b.2) V V<|wa V (zam V V V)<|wa V (zg6 V V V V)<|bse c fun Q p c=>wa V (q_adr V T22 V V (i.rd (Sc.stab _)) p)<|wln V V (zcn (R:=Sc u8) (u:=u8 (UInt8.ofInt (wI (b.2+1)))) (Sc.stab _) [] [] V T22 V V i (zg8 (UInt8.ofInt (wI (b.2+1))) p) V V ?_);intro Y K C T;have A:=o.grown C h;refine zah<|bk_n<|W_th<|W_rg<|wa V (zam V k V)<|mv (i64 (wI (b.2+1))) V V<|zah<|?_;obtain rfl:=osi c;exact ⟨_,rfl,j,t,rfl,s,A,K,h⟩
  refine zaz<|th_x<|?_;obtain rfl:=osi c;obtain rfl:=F _ rfl;refine th_x<|bk_x<|?_;exact ⟨j,s,o,i,h⟩
 rintro _ W ⟨N,M,D,J,G⟩;refine W_th<|W_sr<|mv a V N<|av a V V<|wnt<|W_ret<|?_;obtain rfl:=osi e;refine rt1 a V V V M ?_;exact ⟨a,rfl,D,G,J.weak (Sc.stab _) (fun _ _=>trivial)⟩
noncomputable def zga (a:List UInt8) (b:List (List UInt8)):Option Bool :=
((idx b 0).bind fun c => some (!decide ((a.length:Int)=(c.length:Int))))
theorem code_unlike_1_calls (a0r:List UInt8) (b0:List (List UInt8)) (p0:Value) (gc0:Nat) (cv0:Value) (r:Bool) (w0:World) (hp0:By w0 [] p0 a0r) (hcB0:Blk w0 gc0 29 #[cv0]) (hcv0:Rw w0 [] cv0 b0) (H:zga a0r b0=some r) :
  Calls Tryz.prog 90 [p0,(bp gc0)].toArray w0 (fun e w'=>e=.returned (.bool r)/\Ext w0 w'):=by
 have hE:Ext w0 w0:=Ext.refl w0;unfold zga at H;refine zai (n:=11) Tryz.func90 rfl rfl rfl ?_;refine W_seq<|W_rg<|av (.bool false) rfl rfl<|wnt<|W_seq<|W_rg<|mv p0 rfl rfl<|wa rfl (q_len rfl T22.sl rfl (hp0.lift (le_ hE)))<|?_;refine wq rfl (zal (u:=cv0) rfl Tryz.isAgg29 rfl (hcB0.ext hE) rfl) ?_;obtain ⟨c1,hc1,H⟩:=bsi H;refine wa rfl (q_adr rfl T29 rfl rfl (hcv0.lift (le_ hE)) hc1) ?_;refine zdl rfl rfl rfl T29 rfl hcv0 hc1 hE (fun v2 ha2=>?_);refine wa rfl (q_len rfl T22.sl rfl (ha2.lift (le_ hE)))<|wa rfl (q_neI rfl rfl rfl)<|av (.bool ((!decide ((a0r.length:Int)=(c1.length:Int))))) rfl rfl<|wnt<|W_ret<|?_;obtain rfl:=osi H;refine rt1 (.bool ((!decide ((a0r.length:Int)=(c1.length:Int))))) rfl rfl rfl rfl ?_;exact ⟨rfl,hE⟩
noncomputable def zha (a:List (List UInt8)):Option Bool :=
((lim a.length).bind fun d =>
((anyO (fun c=>zga c a) a).bind fun b => some b))
theorem zh8 (a0l:List (List UInt8)) (p0:Value) (r:Bool) (w0:World) (hp0:Rw w0 [] p0 a0l) (H:zha a0l=some r) :
  Calls Tryz.prog 61 [p0].toArray w0 (fun e w'=>e=.returned (.bool r)/\Ext w0 w'):=by
 have hE:Ext w0 w0:=Ext.refl w0;unfold zha at H;refine zai (n:=6) Tryz.func61 rfl rfl rfl ?_;refine W_seq<|W_rg<|?_;refine wls rfl rfl (zb0 (v:=p0) (cs:=#[p0]) [] rfl rfl (zcj _ _ (hp0.lift (le_ hE))) ?_);intro g1 w1 o1 n1 g1r l1;have x1:=zaa g1r;have e2:=hE.trans x1;refine av (.bool false) rfl rfl<|wnt<|W_seq<|W_rg<|wq rfl (zal (u:=p0) rfl Tryz.isAgg29 rfl o1 rfl)<|wa rfl (zhc (vs:=[(bp g1)]) rfl (ar1 rfl))<|?_;obtain ⟨lim4,hl4,H⟩:=bsi H;obtain ⟨r4,hr4,H⟩:=bsi H;refine wls rfl rfl (zab (vs:=[p0,(.func (.func 90) #[] [(bp g1)].toArray)]) Tryz.func34 rfl rfl rfl (ar2 rfl rfl) (zch p0 a0l 90 _ Tryz.func90 rfl rfl [(bp g1)] (fun y4=>zga y4 a0l) r4 _ (hp0.lift (le_ e2)) (lim_lt hl4) hr4 (fun y4 _ b w' xE hb u hu=>code_unlike_1_calls y4 a0l u g1 p0 b w' hu (o1.ext xE) ((hp0.lift (le_ e2)).lift (le_ xE)) hb)) ?_);rintro _ w4 ⟨rfl,x4⟩;refine ⟨_,rfl,?_⟩;have e5:=e2.trans x4;refine av (.bool r4) rfl rfl<|wnt<|W_ret<|?_;obtain rfl:=osi H;refine rt1 (.bool r4) rfl rfl rfl rfl ?_;exact ⟨rfl,e5⟩
noncomputable def zgi (c:Bool) (a:List (List UInt8)) (b:Int):Option (List UInt8×Int) :=
(if (!c)=true then some (([]:List UInt8),1)
else
((zeo (a.length:Int)).bind fun h =>
(if (!h)=true then some (([]:List UInt8),2)
else
((zeo b).bind fun i =>
(if (!i)=true then some (([]:List UInt8),2)
else
((zha a).bind fun j =>
(if j=true then some (([]:List UInt8),3)
else
(if b<=(a.length:Int) then
((idx a (wI (b - 1))).bind fun e =>
((zae e).bind fun f => some (f,0)))
else
((zg7 (a.length:Int)).bind fun g =>
((shamir_At c g a (UInt8.ofInt b)).bind fun d => some (d.1,d.2)))))))))))
theorem code_Piece_calls (j:Bool) (d:List (List UInt8)) (c:Int) (g:Value) (b:Value) (u:List UInt8×Int) (w0:World) (B:Fd w0 [] g j) (f:Rw w0 [] b d) (a:zgi j d c=some u) :
  Calls Tryz.prog 62 [g,b,i64 c].toArray w0 (fun J H=>∃ y:Value,J=.returned (.tuple #[y,i64 u.2])/\Ext w0 H/\Nw w0 y/\OwK (Sc u8) H [] 5 y u.1):=by
 have l:Ext w0 w0:=Ext.refl w0;unfold zgi at a;refine zai (n:=45) Tryz.func62 V V V<|W_sr<|av (.slice none 0 0) V V<|av (i64 0) V V<|wnt<|W_seq<|zac<|W_seq<|W_rg<|mv g V V<|wa V (q_eqF V V V V (B.lift (le_ l)))<|av (.bool (!j)) V V<|wnt<|zak _ V V (fun q=>?_) (fun q=>?_)
 ·replace a:=(if_pos q).symm.trans a;refine W_sr<|av (.slice none 0 0) V V<|av (i64 1) V V<|wnt<|W_ret<|bk_r<|th_r<|?_;obtain rfl:=osi a;refine rt2 (.slice none 0 0) (i64 1) V V V V V V ?_;exact ⟨.slice none 0 0,rfl,l,Nw.nil _,OwK.nil _ _ _ _⟩
 replace a:=(if_neg (ne_true_of_eq_false q)).symm.trans a;refine W_sr<|mv b V V<|wa V (q_len V T29.sl V (f.lift (le_ l)))<|?_;obtain ⟨E,T,a⟩:=bsi a;refine wls V V (zab (vs:=[i64 (d.length:Int)]) Tryz.func58 V V V (ar1 V) (zd8 (d.length:Int)  E _  T) ?_);rintro _ aH ⟨rfl,aE⟩;refine ⟨_,rfl,?_⟩;have z:=l.trans aE;refine wa V (q_not V V)<|wlb V V (za5 (v:=(.bool (!E))) V V) (fun s=>?_) (fun s=>?_)
 ·replace a:=(if_pos s).symm.trans a;refine wk V<|wk V<|wk V<|wa V (zaq (v:=(.bool true)) V V V)<|av (.bool true) V V<|wnt<|zak true V V (fun _=>?_) (fun O=>by cases O);refine W_sr<|av (.slice none 0 0) V V<|av (i64 2) V V<|wnt<|W_ret<|bk_r<|th_r<|?_;obtain rfl:=osi a;refine rt2 (.slice none 0 0) (i64 2) V V V V V V ?_;exact ⟨.slice none 0 0,rfl,z,Nw.nil _,OwK.nil _ _ _ _⟩
 replace a:=(if_neg (ne_true_of_eq_false s)).symm.trans a;refine mv (i64 c) V V ?_;obtain ⟨x,U,a⟩:=bsi a;refine wls V V (zab (vs:=[i64 c]) Tryz.func58 V V V (ar1 V) (zd8 c  x _  U) ?_);rintro _ aI ⟨rfl,aF⟩;refine ⟨_,rfl,?_⟩;have p:=z.trans aF;refine wa V (q_not V V)<|wa V (zap (v:=(.bool (!x))) V V V)<|av (.bool (!x)) V V<|wnt<|zak _ V V (fun t=>?_) (fun t=>?_)
 ·replace a:=(if_pos t).symm.trans a;refine W_sr<|av (.slice none 0 0) V V<|av (i64 2) V V<|wnt<|W_ret<|bk_r<|th_r<|?_;obtain rfl:=osi a;refine rt2 (.slice none 0 0) (i64 2) V V V V V V ?_;exact ⟨.slice none 0 0,rfl,p,Nw.nil _,OwK.nil _ _ _ _⟩
 replace a:=(if_neg (ne_true_of_eq_false t)).symm.trans a;refine W_sr<|mv b V V<|?_;obtain ⟨F,W,a⟩:=bsi a;refine wls V V (zab (vs:=[b]) Tryz.func61 V V V (ar1 V) (zh8 d b F _ (f.lift (le_ p)) W) ?_);rintro _ aJ ⟨rfl,aG⟩;refine ⟨_,rfl,?_⟩;have e:=p.trans aG;refine av (.bool F) V V<|wnt<|zak _ V V (fun r=>?_) (fun r=>?_)
 ·replace a:=(if_pos r).symm.trans a;refine W_sr<|av (.slice none 0 0) V V<|av (i64 3) V V<|wnt<|W_ret<|bk_r<|th_r<|?_;obtain rfl:=osi a;refine rt2 (.slice none 0 0) (i64 3) V V V V V V ?_;exact ⟨.slice none 0 0,rfl,e,Nw.nil _,OwK.nil _ _ _ _⟩
 replace a:=(if_neg (ne_true_of_eq_false r)).symm.trans a;refine W_sr<|mv (i64 c) V V<|mv b V V<|wa V (q_len V T29.sl V (f.lift (le_ e)))<|wa V (q_leI V V V)<|av (.bool (decide (c<=(d.length:Int)))) V V<|wnt<|wci a V V (fun a=>?_) (fun a=>?_)
 ·refine W_sr<|mv b V V<|mv (i64 c) V V<|wa V (zbn V V V)<|bse a fun I A a=>wa V (q_adr V T29 V V (f.lift (le_ e)) A)<|zdl V V V T29 V f A e (fun G N=>?_);obtain ⟨D,Q,a⟩:=bsi a;refine wls V V (zab (vs:=[G]) Tryz.func59 V V V (ar1 V) (zao I G D _ (N.lift (le_ e)) Q) ?_);rintro _ a8 ⟨h,rfl,aB,Y,a4⟩;refine ⟨_,rfl,?_⟩;have a3:OwK (Sc u8) a8 (h::[]) 5 h D:=OwK.scal a4 _;have Z:=Nw.ext e Y;have K:=e.trans aB;refine av h V V<|av (i64 0) V V<|wnt<|W_ret<|bk_r<|th_r<|?_;obtain rfl:=osi a;refine rt2 h (i64 0) V V V V V V ?_;exact ⟨h,rfl,K,Z,a3.weak (Sc.stab _) (fun _ _=>trivial)⟩
 refine zad<|bk_n<|W_th<|W_sr<|mv g V V<|mv b V V<|wa V (q_len V T29.sl V (f.lift (le_ e)))<|?_;obtain ⟨w,R,a⟩:=bsi a;refine wls V V (zab (vs:=[i64 (d.length:Int)]) Tryz.func92 V V V (ar1 V) (code_places_calls (d.length:Int)  w _  R) ?_);rintro _ a9 ⟨o,rfl,aC,a0,a5⟩;refine ⟨_,rfl,?_⟩;have X:By a9 [] o w:=OwK.slk (Sc.stab _) _ (OwK.scal a5 (o::[])) (fun C P=>(Old.nil _) C (a0 C P)) (fun _ M=>M.2);have k:=e.trans aC;refine mv b V V<|mv (i64 c) V V<|wa V (zg6 V V V V)<|?_;obtain ⟨m,S,a⟩:=bsi a;refine wls V V (zab (vs:=[g,o,b,u8 (UInt8.ofInt c)]) Tryz.func91 V V V (ar4 V V V V) (shamir_At_calls j w d (UInt8.ofInt c) g o b m _ (B.lift (le_ k)) (X.lift (Lift.sub (L':=[]) (fun _ _=>trivial))) (f.lift (le_ k)) S) ?_);rintro _ aA ⟨i,rfl,aD,a1,a7⟩;refine ⟨_,rfl,?_⟩;have a6:OwK (Sc u8) aA (i::[]) 5 i m.1:=OwK.scal a7 _;have a2:=Nw.ext k a1;have L:=k.trans aD;refine wa V (zaf V V V)<|wa V (zaf V V V)<|av i V V<|av (i64 m.2) V V<|wnt<|W_ret<|?_;obtain rfl:=osi a;refine rt2 i (i64 m.2) V V V V V V ?_;exact ⟨i,rfl,L,a2,a6.weak (Sc.stab _) (fun _ _=>trivial)⟩
noncomputable def zgs (d:Bool) (b:Int) (a:List (List UInt8)):Option (List (List UInt8)×Int) :=
(if (!d)=true then some (([]:List (List UInt8)),1)
else
(if (a.length:Int)=0 then some (([]:List (List UInt8)),2)
else
(if b<(a.length:Int) then some (([]:List (List UInt8)),2)
else
(if 255<b then some (([]:List (List UInt8)),2)
else
((zha a).bind fun g =>
(if g=true then some (([]:List (List UInt8)),3)
else
((iterC (fun s8:List (List UInt8)×Int =>
(if s8.2<b then
((zgi d a (wI (s8.2+1))).bind fun c =>
(if c.2=0 then
((appL s8.1 ([c.1]:List (List UInt8))).bind fun e => some (.inl (e,wI (s8.2+1))))
else some (.inr (.inr (([]:List (List UInt8)),c.2)))))
else some (.inr (.inl s8.1)))) (([]:List (List UInt8)),0)).bind (Sum.elim (fun h => some (h,0)) (fun f=>some f)))))))))
theorem code_Encode_calls (t:Bool) (f:Int) (o:List (List UInt8)) (p:Value) (e:Value) (M:List (List UInt8)×Int) (w0:World) (d:List Value) (X:Old w0 d) (Y:Fd w0 [] p t) (x:Rw w0 [] e o) (a:zgs t f o=some M) :
  Calls Tryz.prog 30 [p,i64 f,e].toArray w0 (fun aA a8=>∃ y:Value,aA=.returned (.tuple #[y,i64 M.2])/\Ext w0 a8/\Nw w0 y/\OwK By a8 (y::d) 22 y M.1):=by
 have i:Ext w0 w0:=Ext.refl w0;unfold zgs at a;refine zai (n:=53) Tryz.func30 V V V<|W_sr<|av (.slice none 0 0) V V<|av (i64 0) V V<|wnt<|W_seq<|zac<|W_seq<|W_rg<|mv p V V<|wa V (q_eqF V V V V (Y.lift (le_ i)))<|av (.bool (!t)) V V<|wnt<|zak _ V V (fun E=>?_) (fun E=>?_)
 ·replace a:=(if_pos E).symm.trans a;refine W_sr<|av (.slice none 0 0) V V<|av (i64 1) V V<|wnt<|W_ret<|bk_r<|th_r<|?_;obtain rfl:=osi a;refine rt2 (.slice none 0 0) (i64 1) V V V V V V ?_;exact ⟨.slice none 0 0,rfl,i,Nw.nil _,OwK.nil _ _ _ _⟩
 replace a:=(if_neg (ne_true_of_eq_false E)).symm.trans a;refine W_sr<|mv e V V<|wa V (q_len V T29.sl V (x.lift (le_ i)))<|wa V (q_eqI V V V)<|wlb V V (za5 (v:=(.bool (decide ((o.length:Int)=0)))) V V) (fun G=>?_) (fun G=>?_)
 ·replace a:=ifp G a;refine wk V<|wk V<|wk V<|wk V<|wa V (zaq (v:=(.bool true)) V V V)<|mv (.bool true) V V<|wk V<|wk V<|wa V (zaq (v:=(.bool true)) V V V)<|av (.bool true) V V<|wnt<|zak true V V (fun _=>?_) (fun D=>by cases D);refine W_sr<|av (.slice none 0 0) V V<|av (i64 2) V V<|wnt<|W_ret<|bk_r<|th_r<|?_;obtain rfl:=osi a;refine rt2 (.slice none 0 0) (i64 2) V V V V V V ?_;exact ⟨.slice none 0 0,rfl,i,Nw.nil _,OwK.nil _ _ _ _⟩
 replace a:=ifn G a;refine mv e V V<|wa V (q_len V T29.sl V (x.lift (le_ i)))<|mv (i64 f) V V<|wa V (q_gtI V V V)<|wa V (zap (v:=(.bool (decide (f<(o.length:Int))))) V V V)<|wlb V V (za5 (v:=(.bool (decide (f<(o.length:Int))))) V V) (fun H=>?_) (fun H=>?_)
 ·replace a:=ifp H a;refine wk V<|wk V<|wa V (zaq (v:=(.bool true)) V V V)<|av (.bool true) V V<|wnt<|zak true V V (fun _=>?_) (fun D=>by cases D);refine W_sr<|av (.slice none 0 0) V V<|av (i64 2) V V<|wnt<|W_ret<|bk_r<|th_r<|?_;obtain rfl:=osi a;refine rt2 (.slice none 0 0) (i64 2) V V V V V V ?_;exact ⟨.slice none 0 0,rfl,i,Nw.nil _,OwK.nil _ _ _ _⟩
 replace a:=ifn H a;refine mv (i64 f) V V<|wa V (q_gtI V V V)<|wa V (zap (v:=(.bool (decide (255<f)))) V V V)<|av (.bool (decide (255<f))) V V<|wnt<|wci a V V (fun a=>?_) (fun a=>?_)
 ·refine W_sr<|av (.slice none 0 0) V V<|av (i64 2) V V<|wnt<|W_ret<|bk_r<|th_r<|?_;obtain rfl:=osi a;refine rt2 (.slice none 0 0) (i64 2) V V V V V V ?_;exact ⟨.slice none 0 0,rfl,i,Nw.nil _,OwK.nil _ _ _ _⟩
 refine W_sr<|mv e V V<|?_;obtain ⟨a1,aH,a⟩:=bsi a;refine wls V V (zab (vs:=[e]) Tryz.func61 V V V (ar1 V) (zh8 o e a1 _ (x.lift (le_ i)) aH) ?_);rintro _ b3 ⟨rfl,aW⟩;refine ⟨_,rfl,?_⟩;have W:=i.trans aW;refine av (.bool a1) V V<|wnt<|zak _ V V (fun I=>?_) (fun I=>?_)
 ·replace a:=(if_pos I).symm.trans a;refine W_sr<|av (.slice none 0 0) V V<|av (i64 3) V V<|wnt<|W_ret<|bk_r<|th_r<|?_;obtain rfl:=osi a;refine rt2 (.slice none 0 0) (i64 3) V V V V V V ?_;exact ⟨.slice none 0 0,rfl,W,Nw.nil _,OwK.nil _ _ _ _⟩
 replace a:=(if_neg (ne_true_of_eq_false I)).symm.trans a;refine zad<|bk_n<|W_th<|W_sr<|av (.slice none 0 0) V V<|wnt<|W_seq<|W_sr<|mv (i64 f) V V<|mv (i64 0) V V<|wnt<|?_;obtain ⟨aX,a9,a⟩:=bsi a;refine W_mid (fun h w=>∃ T,aX=.inl T/\∃ B:Value,h 8=B/\h 53=undef/\Ext w0 w/\OwK By w (B::d) 22 B T/\Nw w0 B) ?_ ?_
 ·refine zac<|za4 (fun j h w=>∃ z:Value,h 0=p/\h 2=e/\h 8=z/\h 32=i64 f/\h 33=i64 j.2/\h 53=undef/\Ext w0 w/\OwK By w (z::d) 22 z j.1/\Nw w0 z) a9 ?_ ?_
  ·exact ⟨.slice none 0 0,rfl,rfl,rfl,rfl,rfl,rfl,W,OwK.nil _ _ _ _,Nw.nil _⟩
  rintro j _ _ b4 ⟨k,a2,a3,a5,a4,N,O,r,m,K⟩ b Z;refine W_sr<|wa V (q_ltI V N a4)<|wnt<|W_seq<|wci b V V (fun b=>?_) (fun b=>?_)
  ·refine zad<|W_th<|W_seq<|zac<|W_sr<|mv (i64 j.2) V N<|av (i64 j.2) V V<|wnt<|W_sr<|mv p V a2<|mv e V a3<|mv (i64 j.2) V V<|wa V (zam V V V)<|?_;obtain ⟨c,aG,b⟩:=bsi b;refine wls V V (zab (vs:=[p,e,i64 (wI (j.2+1))]) Tryz.func62 V V V (ar3 V V V) (code_Piece_calls t o (wI (j.2+1)) p e c _ (Y.lift (le_ r)) (x.lift (le_ r)) aG) ?_);rintro _ P ⟨q,rfl,Q,aK,aP⟩;refine ⟨_,rfl,?_⟩;have a0:By P (k::d) q c.1:=OwK.slk (Sc.stab _) _ (OwK.scal aP (q::(k::d))) (fun s J=>(Old.cons (X.ext r) m.lt) s (aK s J)) (fun _ g=>g.2);replace m:=m.extL (SlK.stab (Sc.stab _)) Q (le_ Q);have C:=r.trans Q;refine mv (.tuple #[q,i64 c.2]) V V<|wa V (zaf V V V)<|wa V (zaf V V V)<|av q V V<|av (i64 c.2) V V<|wnt<|W_seq<|W_seq<|W_rg<|mv (i64 c.2) V V<|wa V (q_neI V V V)<|wnt<|zak _ V V (fun F=>?_) (fun F=>?_)
   ·replace b:=(if_neg (zbf F)).symm.trans b;refine W_sr<|mv (i64 c.2) V V<|av (.slice none 0 0) V V<|av (i64 c.2) V V<|wnt<|W_ret<|th_r<|bk_r<|th_r<|?_;obtain rfl:=osi b;obtain rfl:=Z _ rfl;simp only [Sum.elim_inr] at a;refine th_r<|bk_r<|th_r<|th_r<|?_;obtain rfl:=osi a;refine rt2 (.slice none 0 0) (i64 c.2) V V V V V O ?_;exact ⟨.slice none 0 0,rfl,C,Nw.nil _,OwK.nil _ _ _ _⟩
   replace b:=(if_pos (zbd F)).symm.trans b;refine zad<|W_th<|W_rg<|mv k V a5<|mv q V V<|wls V V (zax (L:=(k::d)) (R:=By) [q] ([c.1]:List (List UInt8)) V T29 V (by exact ⟨rfl,rfl,trivial⟩) V (LitR.cells (R:=By) (w:=P) (L:=(k::d)) (l:=([c.1]:List (List UInt8))) (LitR.cons a0 LitR.nil) (fun u aV g=>zcj u aV g)) V (LitR.all (R:=By) (w:=P) (L:=(k::d)) (l:=([c.1]:List (List UInt8))) (SlK.stab (Sc.stab _)) (LitR.cons a0 LitR.nil)) ?_);intro a6 aU aQ aL aC aZ;have S:=zaa aC;have aI:Rw aU (k::d) a6 ([c.1]:List (List UInt8)):=OwK.slk (SlK.stab (Sc.stab _)) _ aQ (fun s J=>(Old.cons (X.ext C) m.lt) s (aL s J)) (fun _ g=>g.2);replace m:=m.extL (SlK.stab (Sc.stab _)) S (le_ S);have U:=C.trans S;obtain ⟨aY,aF,b⟩:=bsi b;refine wls V V (zar (R:=By) (v:=k) (u:=a6) (SlK.stab (Sc.stab _)) [] d V T29 V V m aI (fun _ _ g=>g) aF oc_sl ?_);intro a7 b1 aR aD aN b0;have aB:=U.grown aD K;have aM:=Nw.nxt U K aN;refine av a7 V V<|zah<|bk_n<|W_th<|W_rg<|wa V (zam V N V)<|mv (i64 (wI (j.2+1))) V V<|zah<|?_;obtain rfl:=osi b;exact ⟨_,rfl,a7,a2,a3,rfl,a4,rfl,O,aB,aR,aM⟩
  refine zaz<|th_x<|?_;obtain rfl:=osi b;obtain rfl:=Z _ rfl;refine th_x<|bk_x<|?_;exact ⟨_,rfl,k,a5,O,r,m,K⟩
 rintro _ b2 ⟨T,rfl,A,aT,aS,aE,aO,aJ⟩;simp only [Sum.elim_inl] at a;refine W_th<|W_sr<|mv A V aT<|av A V V<|av (i64 0) V V<|wnt<|W_ret<|?_;obtain rfl:=osi a;refine rt2 A (i64 0) V V V V V aS ?_;exact ⟨A,rfl,aE,aJ,aO.weak (SlK.stab (Sc.stab _)) (fun _ g=>⟨g.1,g.2⟩)⟩
noncomputable def zdo (a:Int) (b:Int):Option Int :=
((zeo b).bind fun e =>
(if (!e)=true then some 0
else
(if a<0 then some 0
else
((divI a b).bind fun c =>
((remI a b).bind fun d =>
(if 0<d then some (wI (c+1))
else some c))))))
theorem zgw (d:Int) (c:Int) (g:Int) (w0:World) (a:zdo d c=some g) :
  Calls Tryz.prog 50 [i64 d,i64 c].toArray w0 (fun i p=>i=.returned (i64 g)/\Ext w0 p):=by
 have j:Ext w0 w0:=Ext.refl w0;unfold zdo at a;refine zai (n:=23) Tryz.func50 V V V<|W_sr<|av (i64 0) V V<|wnt<|W_seq<|W_sr<|mv (i64 c) V V<|?_;obtain ⟨h,o,a⟩:=bsi a;refine wls V V (zab (vs:=[i64 c]) Tryz.func58 V V V (ar1 V) (zd8 c  h _  o) ?_);rintro _ s ⟨rfl,q⟩;refine ⟨_,rfl,?_⟩;have e:=j.trans q;refine wa V (q_not V V)<|wlb V V (za5 (v:=(.bool (!h))) V V) (fun f=>?_) (fun f=>?_)
 ·replace a:=(if_pos f).symm.trans a;refine wk V<|wk V<|wa V (zaq (v:=(.bool true)) V V V)<|wnt<|zak true V V (fun _=>?_) (fun k=>by cases k);refine W_sr<|av (i64 0) V V<|wnt<|W_ret<|th_r<|?_;obtain rfl:=osi a;refine rt1 (i64 0) V V V V ?_;exact ⟨rfl,e⟩
 replace a:=(if_neg (ne_true_of_eq_false f)).symm.trans a;refine mv (i64 d) V V<|wa V (q_ltI V V V)<|wa V (zap (v:=(.bool (decide (d<0)))) V V V)<|wnt<|wci a V V (fun a=>?_) (fun a=>?_)
 ·refine W_sr<|av (i64 0) V V<|wnt<|W_ret<|th_r<|?_;obtain rfl:=osi a;refine rt1 (i64 0) V V V V ?_;exact ⟨rfl,e⟩
 refine zad<|W_th<|W_sr<|mv (i64 d) V V<|mv (i64 c) V V<|bse a fun b l a=>wa V (q_divI V V V l)<|av (i64 b) V V<|wnt<|W_seq<|W_sr<|mv (i64 d) V V<|mv (i64 c) V V<|?_;obtain ⟨r,m,a⟩:=bsi a;refine wa V (zg2 V V V m)<|wa V (q_gtI V V V)<|wnt<|wci a V V (fun a=>?_) (fun a=>?_)
 ·refine W_rg<|mv (i64 b) V V<|wa V (zam V V V)<|av (i64 (wI (b+1))) V V<|wnt<|W_sr<|mv (i64 (wI (b+1))) V V<|av (i64 (wI (b+1))) V V<|wnt<|W_ret<|?_;obtain rfl:=osi a;refine rt1 (i64 (wI (b+1))) V V V V ?_;exact ⟨rfl,e⟩
 refine zad<|W_th<|W_sr<|mv (i64 b) V V<|av (i64 b) V V<|wnt<|W_ret<|?_;obtain rfl:=osi a;refine rt1 (i64 b) V V V V ?_;exact ⟨rfl,e⟩
noncomputable def code_Cut (c:List UInt8) (a:Int):Option (List (List UInt8)×Int) :=
((zeo a).bind fun g =>
(if (!g)=true then some (([]:List (List UInt8)),2)
else
((zdo (c.length:Int) a).bind fun b =>
((makeL (wI (b * a)) (0:UInt8)).bind fun f =>
((iterC (fun s11:List (List UInt8)×Int =>
(if s11.2<a then
((subL (copyL f 0 c) (wI (s11.2 * b)) (wI ((wI (s11.2+1)) * b))).bind fun d =>
((zae d).bind fun h =>
((appL s11.1 ([h]:List (List UInt8))).bind fun e => some (.inl (e,wI (s11.2+1))))))
else some (.inr s11.1))) (([]:List (List UInt8)),0)).bind fun i => some (i,0))))))
theorem code_Cut_calls (s:List UInt8) (k:Int) (x:Value) (I:List (List UInt8)×Int) (w0:World) (f:List Value) (W:Old w0 f) (Y:By w0 [] x s) (e:code_Cut s k=some I) :
  Calls Tryz.prog 28 [x,i64 k].toArray w0 (fun aD a9=>∃ A:Value,aD=.returned (.tuple #[A,i64 I.2])/\Ext w0 a9/\Nw w0 A/\OwK By a9 (A::f) 22 A I.1):=by
 have aJ:Ext w0 w0:=Ext.refl w0;unfold code_Cut at e;refine zai (n:=43) Tryz.func28 V V V<|W_sr<|av (.slice none 0 0) V V<|av (i64 0) V V<|wnt<|W_seq<|W_sr<|mv (i64 k) V V ?_;obtain ⟨b5,aN,e⟩:=bsi e;refine wls V V (zab (vs:=[i64 k]) Tryz.func58 V V V (ar1 V) (zd8 k  b5 _  aN) ?_);rintro _ bI ⟨rfl,bA⟩;refine ⟨_,rfl,?_⟩;have D:=aJ.trans bA;refine wa V (q_not V V)<|wnt<|zak _ V V (fun F=>?_) (fun F=>?_)
 ·replace e:=(if_pos F).symm.trans e;refine W_sr<|av (.slice none 0 0) V V<|av (i64 2) V V<|wnt<|W_ret<|th_r<|?_;obtain rfl:=osi e;refine rt2 (.slice none 0 0) (i64 2) V V V V V V ?_;exact ⟨.slice none 0 0,rfl,D,Nw.nil _,OwK.nil _ _ _ _⟩
 replace e:=(if_neg (ne_true_of_eq_false F)).symm.trans e;refine zad<|W_th<|W_sr<|mv x V V<|wa V (q_len V T22.sl V (Y.lift (le_ D)))<|mv (i64 k) V V<|?_;obtain ⟨i,aQ,e⟩:=bsi e;refine wls V V (zab (vs:=[i64 (s.length:Int),i64 k]) Tryz.func50 V V V (ar2 V V) (zgw (s.length:Int) k  i _  aQ) ?_);rintro _ bM ⟨rfl,bC⟩;refine ⟨_,rfl,?_⟩;have S:=D.trans bC;refine av (i64 i) V V<|wnt<|W_sr<|mv (i64 i) V V<|mv (i64 k) V V<|wa V (zg1 V V V)<|?_;obtain ⟨aC,aM,e⟩:=bsi e;refine wls V V (zc8 (L:=f) (R:=Sc u8) V T22 V V aM (fun _ _=>rfl) ?_);intro c bN a2 aY aH bG;have bD:=zaa aH;have a0:=Nw.ext S aY;have T:=S.trans bD;refine av c V V<|wnt<|W_sr<|mv c V V<|mv x V V<|wls V V (stp_copy (R:=Sc u8) (off:=0) (dv:=c) (u:=x) (Sc.stab _) [] f V T22 V V a2 (copy_whole a2) (by decide) (Int.natCast_nonneg _) (Y.lift (le_ T)) (fun _ _ d=>d) oc_u8 ?_);intro bO b3 aI bH;have aE:=T.grown aI a0;refine wnt<|W_sr<|av (.slice none 0 0) V V<|wnt<|W_seq<|W_sr<|mv (i64 k) V V<|mv (i64 0) V V<|wnt<|?_;obtain ⟨bB,aA,e⟩:=bsi e;refine W_mid (fun m w=>∃ C:Value,m 8=C/\m 43=undef/\Ext w0 w/\OwK By w (C::f) 22 C bB/\Nw w0 C) ?_ ?_
 ·refine zac<|za4 (fun g m w=>∃ r:Value,m 6=i64 i/\m 7=c/\m 8=r/\m 24=i64 k/\m 25=i64 g.2/\m 43=undef/\Ext w0 w/\OwK (Sc u8) w (c::r::f) 5 c (copyL aC 0 s)/\Nw w0 c/\OwK By w (c::r::f) 22 r g.1/\Nw w0 r/\Nq c r) aA ?_ ?_
  ·exact ⟨.slice none 0 0,rfl,rfl,rfl,rfl,rfl,rfl,aE,b3.weak (Sc.stab _) (fun _ d=>⟨d.1,zhm,d.2⟩),a0,OwK.nil _ _ _ _,Nw.nil _,(Nq.nil _).symm⟩
  rintro g _ _ bJ ⟨o,K,a6,a7,a4,J,a5,E,h,aT,p,H,a3⟩ j aO;refine W_sr<|wa V (q_ltI V J a4)<|wnt<|W_seq<|wci j V V (fun j=>?_) (fun j=>?_)
  ·refine zad<|W_th<|W_seq<|zac<|W_sr<|mv (i64 g.2) V J<|av (i64 g.2) V V<|?_;refine wnt<|W_rg<|mv o V a7<|mv c V a6<|mv (i64 g.2) V V<|mv (i64 i) V K<|wa V (zg1 V V V)<|mv (i64 g.2) V V<|wa V (zam V V V)<|mv (i64 i) V K<|wa V (zg1 V V V)<|bse j fun aB X j=>wa V (zdm (a:=wI (g.2 * i)) (b:=wI ((wI (g.2+1)) * i)) V T22 V (h.rd (Sc.stab _)) V V X) ?_;obtain ⟨q,aP,j⟩:=bsi j;refine wls V V (zab (vs:=[subV c ((wI (g.2 * i)):Int).toNat ((wI ((wI (g.2+1)) * i)):Int).toNat]) Tryz.func59 V V V (ar1 V) (zao aB (subV c ((wI (g.2 * i)):Int).toNat ((wI ((wI (g.2+1)) * i)):Int).toNat) q _ (SlK.cut (L:=[]) (h.rd (Sc.stab _)) X) aP) ?_);rintro _ O ⟨M,rfl,y,aV,b0⟩;refine ⟨_,rfl,?_⟩;have Z:By O (c::o::f) M q:=OwK.slk (Sc.stab _) _ (OwK.scal b0 (M::(c::o::f))) (fun t G=>(Old.cons (Old.cons (W.ext E) p.lt) h.lt) t (aV t G)) (fun _ d=>d.2);replace h:=h.extL (Sc.stab _) y (le_ y);replace p:=p.extL (SlK.stab (Sc.stab _)) y (le_ y);have P:=E.trans y;refine wls V V (zax (L:=(c::o::f)) (R:=By) [M] ([q]:List (List UInt8)) V T29 V (by exact ⟨rfl,rfl,trivial⟩) V (LitR.cells (R:=By) (w:=O) (L:=(c::o::f)) (l:=([q]:List (List UInt8))) (LitR.cons Z LitR.nil) (fun u b9 d=>zcj u b9 d)) V (LitR.all (R:=By) (w:=O) (L:=(c::o::f)) (l:=([q]:List (List UInt8))) (SlK.stab (Sc.stab _)) (LitR.cons Z LitR.nil)) ?_);intro a8 b8 b1 aW aG bF;have z:=zaa aG;have aR:Rw b8 (c::o::f) a8 ([q]:List (List UInt8)):=OwK.slk (SlK.stab (Sc.stab _)) _ b1 (fun t G=>(Old.cons (Old.cons (W.ext P) p.lt) h.lt) t (aW t G)) (fun _ d=>d.2);replace h:=h.extL (Sc.stab _) z (le_ z);replace p:=p.extL (SlK.stab (Sc.stab _)) z (le_ z);have Q:=P.trans z;obtain ⟨bE,aL,j⟩:=bsi j;refine wls V V (zar (R:=By) (v:=o) (u:=a8) (SlK.stab (Sc.stab _)) [c] f V T29 V V p aR (fun _ _ d=>d) aL oc_sl ?_)
   intro N bK b2 U a1 aS;have b4:Nq c N:=h.nxt a3 a1;replace h:=h.other (Sc.stab _) U a3 aS;have aF:=Q.grown U H;have aX:=Nw.nxt Q H a1;refine av N V V<|zah<|bk_n<|W_th<|W_rg<|wa V (zam V J V)<|mv (i64 (wI (g.2+1))) V V<|zah<|?_;obtain rfl:=osi j;exact ⟨_,rfl,N,K,a6,rfl,a4,rfl,a5,aF,h,aT,b2,aX,b4⟩
  refine zaz<|th_x<|?_;obtain rfl:=osi j;obtain rfl:=aO _ rfl;refine th_x<|bk_x<|?_;exact ⟨o,a7,a5,E,p.weak (SlK.stab (Sc.stab _)) (fun _ d=>⟨d.2.1,d.2.2⟩),H⟩
 rintro _ bL ⟨B,b7,b6,aK,aZ,aU⟩;refine W_th<|W_sr<|mv B V b7<|av B V V<|av (i64 0) V V<|wnt<|W_ret<|?_;obtain rfl:=osi e;refine rt2 B (i64 0) V V V V V b6 ?_;exact ⟨B,rfl,aK,aU,aZ.weak (SlK.stab (Sc.stab _)) (fun _ d=>⟨d.1,d.2⟩)⟩
noncomputable def zid (c:List (List UInt8)) (a:Int):Option (List UInt8×Int) :=
((zat c).bind fun b =>
(if a<0 then some (([]:List UInt8),2)
else
(if (b.length:Int)<a then some (([]:List UInt8),2)
else
((subL3 b 0 a a).bind fun d => some (d,0)))))
theorem code_Glue_calls (j:List (List UInt8)) (d:Int) (h:Value) (q:List UInt8×Int) (w0:World) (z:Rw w0 [] h j) (e:zid j d=some q) :
  Calls Tryz.prog 40 [h,i64 d].toArray w0 (fun w u=>∃ s:Value,w=.returned (.tuple #[s,i64 q.2])/\Ext w0 u/\Nw w0 s/\By u [] s q.1):=by
 have l:Ext w0 w0:=Ext.refl w0;unfold zid at e;refine zai (n:=21) Tryz.func40 V V V<|W_sr<|av (.slice none 0 0) V V<|av (i64 0) V V<|wnt<|W_sr<|mv h V V<|?_;obtain ⟨r,A,e⟩:=bsi e;refine wls V V (zab (vs:=[h]) Tryz.func29 V V V (ar1 V) (za2 j h r _ (z.lift (le_ l)) A) ?_);rintro _ D ⟨f,rfl,E,t,C⟩;refine ⟨_,rfl,?_⟩;have B:=Nw.ext l t;have i:By D [] f r:=OwK.slk (Sc.stab _) _ (OwK.scal C (f::[])) (fun g p=>(Old.nil _) g (t g p)) (fun _ x=>x.2);have k:=l.trans E;refine av f V V<|wnt<|W_seq<|W_sr<|mv (i64 d) V V<|wa V (q_ltI V V V)<|wlb V V (za5 (v:=(.bool (decide (d<0)))) V V) (fun m=>?_) (fun m=>?_)
 ·replace e:=ifp m e;refine wk V<|wk V<|wk V<|wk V<|wa V (zaq (v:=(.bool true)) V V V)<|wnt<|zak true V V (fun _=>?_) (fun y=>by cases y);refine W_sr<|av (.slice none 0 0) V V<|av (i64 2) V V<|wnt<|W_ret<|th_r<|?_;obtain rfl:=osi e;refine rt2 (.slice none 0 0) (i64 2) V V V V V V ?_;exact ⟨.slice none 0 0,rfl,k,Nw.nil _,SlK.nil _ _ _⟩
 replace e:=ifn m e;refine mv (i64 d) V V<|mv f V V<|wa V (q_len V T22.sl V i)<|wa V (q_gtI V V V)<|wa V (zap (v:=(.bool (decide ((r.length:Int)<d)))) V V V)<|wnt<|wci e V V (fun e=>?_) (fun e=>?_)
 ·refine W_sr<|av (.slice none 0 0) V V<|av (i64 2) V V<|wnt<|W_ret<|th_r<|?_;obtain rfl:=osi e;refine rt2 (.slice none 0 0) (i64 2) V V V V V V ?_;exact ⟨.slice none 0 0,rfl,k,Nw.nil _,SlK.nil _ _ _⟩
 refine zad<|W_th<|W_sr<|mv f V V<|mv (i64 d) V V<|mv (i64 d) V V<|bse e fun F o e=>wa V (q_slice3 (a:=0) (b:=d) (c:=d) V T22 V i V V V o)<|av (subW f (0:Int).toNat (d:Int).toNat (d:Int).toNat) V V<|av (i64 0) V V<|wnt<|W_ret<|?_;obtain rfl:=osi e;refine rt2 (subW f (0:Int).toNat (d:Int).toNat (d:Int).toNat) (i64 0) V V V V V V ?_;exact ⟨subW f (0:Int).toNat (d:Int).toNat (d:Int).toNat,rfl,k,(fun g p=>B g (hs_cut3 (i.lift (Lift.sub (L':=[]) (fun _ _=>trivial))) o g p)),SlK.cut3 (L:=[]) (i.lift (Lift.sub (L':=[]) (fun _ _=>trivial))) o⟩
end Gk

/- Printed by gen.py: for each Go function a pure function, and that the Go code comes to it. No condition beside the equation that says what the pure function gives. -/
namespace Gk
open Go Go.Proofs
end Gk

/- Printed by gen.py: for each Go function a pure function, and that the Go code comes to it. No condition beside the equation that says what the pure function gives. -/
namespace Gk
open Go Go.Proofs
end Gk

/- What chapter 3's functions come to, in plain Lean. No condition but lengths. -/
namespace Gk
open Gf
theorem degI_eq (p:List UInt8):degI p=((trim p).length:Int) - 1:=by
 unfold degI
 have hb:=(zgm p (trim p).length).1 (Nat.le_refl _)
 by_cases h:trim p=[]
 ·rw [firstNZ_none,h];· rfl
  intro x hx
  obtain ⟨k,hk,rfl⟩:=mem_revI hx
  rw [← co_lt hk];exact trim_nil h k
 ·have hpos:=List.length_pos_iff.2 h
  have hle:=trim_le p
  generalize hn:(trim p).length=n at *
  have hg:=revI_get p (n - 1) (by omega)
  rw [show p.length - 1 - (n - 1)=p.length - n by omega] at hg
  obtain ⟨hlt,hge⟩:=List.getElem?_eq_some_iff.1 hg
  have hsplit:revI p=(revI p).take (p.length - n) ++ (((n - 1:Nat):Int),p[n - 1]) :: (revI p).drop (p.length - n+1):=by
   rw [← hge,← List.drop_eq_getElem_cons hlt,List.take_append_drop]
  rw [hsplit,firstNZ_stop]
  ·omega
  ·intro x hx
   obtain ⟨i,hi,rfl⟩:=List.getElem_of_mem hx
   rw [List.getElem_take]
   rw [List.length_take,zge] at hi
   have h1:=revI_get p (p.length - 1 - i) (by omega)
   rw [show p.length - 1 - (p.length - 1 - i)=i by omega] at h1
   obtain ⟨h2,h3⟩:=List.getElem?_eq_some_iff.1 h1
   rw [h3,← co_lt (by omega)]
   exact hb _ (by omega)
  ·rw [← co_lt (by omega),← hn]
   exact zgu p h
theorem zht (p:List UInt8) (h:p.length<=most):zdw p=some (((trim p).length:Int) - 1):=by
 unfold zdw
 rw [if_pos (by have:=za8;omega),degI_eq]
theorem zey (p:List UInt8) (h:p.length<=most):zei p=some (trim p):=by
 unfold zei
 have hl:=trim_le p
 have hm:=za8
 rw [zht p h,obs,show ((trim p).length:Int) - 1+1=((trim p).length:Int) by omega,wI_nat (by omega)]
 have:=zdj p 0 (trim p).length (Nat.zero_le _) hl
 rw [show ((0:Nat):Int)=0 from rfl] at this
 rw [this,obs,List.drop_zero,← trim_take]
 unfold zae
 rw [zel _ (by omega)];rfl
theorem revI_snd (p:List UInt8):(revI p).map (·.2)=p.reverse:=by
 simp only [revI,List.map_reverse]
 congr 1
 apply List.ext_getElem?
 intro i
 rw [List.getElem?_map,List.getElem?_mapIdx]
 cases p[i]? <;> rfl
theorem foldl_revI {σ:Type} (g:σ->UInt8->σ) (p:List UInt8) (s:σ):(revI p).foldl (fun s y=>g s y.2) s=p.foldr (fun c s=>g s c) s:=by
 have:(revI p).foldl (fun s y=>g s y.2) s=((revI p).map (·.2)).foldl g s:=by rw [List.foldl_map]
 rw [this,revI_snd,List.foldl_reverse]
theorem ev_foldr (x:UInt8):∀ p:List UInt8,p.foldr (fun c s=>mul s x^^^c) 0=evp p x
 | []=>rfl
 | c :: p=>by
  rw [List.foldr_cons,ev_foldr x p]
  show mul (evp p x) x^^^c=c^^^mul (evp p x) x
  rw [xor_comm]
theorem poly_Eval_eq (p:List UInt8) (x:UInt8) (h:p.length<=most):zgp true p x=some (evp p x):=by
 unfold zgp
 have hm:=za8
 rw [lim_of (by omega),obs]
 have:=(zgl (f:=fun (s:UInt8) (y:Int×UInt8)=>(zb2 true s x).bind fun r22=>(zb8 r22 y.2).bind fun r25=>some r25) (fun s y=>mul s x^^^y.2) (xs:=revI p) (s0:=0) (fun _ _=>True) trivial
  (fun k s y _ _ _=>⟨by simp only [Mul_eq,Add_eq,obs],trivial⟩)).1
 rw [this,obs,foldl_revI (fun s c=>mul s x^^^c),ev_foldr];simp
theorem maxI (a b:Nat):(if (a:Int)<(b:Int) then (b:Int) else (a:Int))=((max a b:Nat):Int):=by split <;> omega
theorem addLoop (M:Nat) (p q:List UInt8) (hp:p.length<=M) (hq:q.length<=M) (hM:M<=most) {body:List UInt8×Int->Option ((List UInt8×Int)⊕List UInt8)}
  (hb1:∀ (s:List UInt8) (i:Nat),i<q.length->i<s.length->body (s,(i:Int))=some (.inl (s.set i (co s i^^^co q i),((i+1:Nat):Int))))
  (hb2:∀ s:List UInt8,body (s,(q.length:Int))=some (.inr s)) :
  ∃ x,iterC body (copyL (List.replicate M 0) 0 p,0)=some x/\x.length=M/\∀ j,co x j=co p j^^^co q j:=by
 refine iterC_up (fun i s=>s.length=M/\∀ j,co s j=co p j^^^(if j<i then co q j else 0)) q.length _ ?_ ?_ ?_
 ·refine ⟨?_,fun j=>?_⟩
  ·have:=zgq (List.replicate M (0:UInt8)) 0 p (Nat.zero_le _)
   simpa using this
  ·have:=co_copyL (List.replicate M 0) 0 p (by simpa using hp) j
   rw [show ((0:Nat):Int)=0 from rfl] at this
   rw [this,co_rep]
   simp only [Nat.zero_le,true_and,Nat.zero_add,Nat.sub_zero,Nat.not_lt_zero,if_false,xor_zero]
   split
   ·rfl
   ·rw [co_ge (by omega)]
 ·rintro i s hi ⟨hl,hs⟩
  refine ⟨_,hb1 s i hi (by omega),by simpa using hl,fun j=>?_⟩
  rw [co_set (by omega)]
  by_cases hj:j=i
  ·subst hj;rw [if_pos rfl,hs j,if_neg (by omega),if_pos (by omega),xor_zero]
  ·rw [if_neg hj,hs j]
   have:j<i+1 ↔ j<i:=by omega
   simp only [this]
 ·rintro s ⟨hl,hs⟩
  refine ⟨s,hb2 s,hl,fun j=>?_⟩
  rw [hs j]
  split
  ·rfl
  ·rw [co_ge (show q.length<=j by omega)]
theorem poly_Add_eq (p q:List UInt8) (hp:p.length<=most) (hq:q.length<=most):zhj p q=some (trim (pplus p q)):=by
 unfold zhj
 have hm:=za8
 rw [maxI,zcg _ _ (by omega),obs]
 obtain ⟨x,h1,h2,h3⟩:=addLoop (max p.length q.length) p q (by omega) (by omega) (by omega)
  (body:=fun s6:List UInt8×Int=>(if s6.2<(q.length:Int) then ((idx q s6.2).bind fun c9=>((idx s6.1 s6.2).bind fun c10=>some (.inl ((s6.1.set (s6.2:Int).toNat ((c10^^^c9))),(wI (s6.2+1)))))) else some (.inr s6.1)))
  (fun s i hi hs=>by
   simp only
   rw [if_pos (by omega),zba hi,obs,zba hs,obs,zau i (by omega),Int.toNat_natCast])
  (fun s=>by simp)
 rw [h1,obs,zey x (by omega),obs,zim x (pplus p q) (fun j=>by rw [h3,zb6])]
theorem mulLoop (P Q:List UInt8) (M:Nat) (hM:M=P.length+Q.length - 1) (hQ:Q≠[]) (hm:P.length+Q.length<=most) {body:List UInt8×Int->Option ((List UInt8×Int)⊕List UInt8)}
  (hb1:∀ (s:List UInt8) (i:Nat),i<P.length->s.length=M->body (s,(i:Int))=some (.inl (copyL s (i:Int) (sumL ((s.take (i+Q.length)).drop i) (co P i) Q),((i+1:Nat):Int))))
  (hb2:∀ s:List UInt8,body (s,(P.length:Int))=some (.inr s)) :
  ∃ x,iterC body (List.replicate M 0,0)=some x/\x.length=M/\∀ j,co x j=co (pmul P Q) j:=by
 have lq:=List.length_pos_iff.2 hQ
 refine iterC_up (fun i s=>s.length=M/\∀ j,co s j=co (pmul (P.take i) Q) j) P.length _ ⟨by simp,fun j=>by rw [co_rep];simp [pmul,zct]⟩ ?_ ?_
 ·rintro i s hi ⟨hl,hs⟩
  have hlen:(sumL ((s.take (i+Q.length)).drop i) (co P i) Q).length=Q.length:=by rw [sumL_len];simp;omega
  refine ⟨_,hb1 s i hi hl,by rw [zgq _ _ _ (by omega),hl],fun j=>?_⟩
  rw [co_copyL _ _ _ (by rw [hlen];omega),hlen,zg5 hi,co_pmul_snoc,← hs j,List.length_take,Nat.min_eq_left (Nat.le_of_lt hi),co_sumL]
  by_cases h1:i<=j/\j<i+Q.length
  ·have hl2:((s.take (i+Q.length)).drop i).length=Q.length:=by simp;omega
   rw [if_pos h1,if_neg (show ¬ j<i by omega),hl2,if_pos (show j - i<Q.length by omega),co_drop,co_take,show i+(j - i)=j by omega,if_pos (show j<i+Q.length by omega)]
  ·rw [if_neg h1]
   by_cases h2:j<i
   ·rw [if_pos h2,xor_zero]
   ·rw [if_neg h2,co_ge (show Q.length<=j - i by omega),mul_zero,xor_zero]
 ·rintro s ⟨hl,hs⟩
  exact ⟨s,hb2 s,hl,fun j=>by rw [hs j,List.take_of_length_le (Nat.le_refl _)]⟩
theorem poly_Mul_eq (p q:List UInt8) (hp:p.length<=most) (hq:q.length<=most) (h:trim p=[]∨trim q=[]∨(trim p).length+(trim q).length<=257):zgc true p q=some (trim (pmul p q),0):=by
 unfold zgc
 rw [zey p hp,obs,zey q hq,obs,if_neg (by simp)]
 have hs:trim (pmul p q)=trim (pmul (trim p) (trim q)):=zim _ _ (pmul_sim (zdu p).symm (zdu q).symm)
 by_cases h1:trim p=[]
 ·rw [if_pos (by rw [h1];rfl),hs,h1];rfl
 ·have l1:=List.length_pos_iff.2 h1
  rw [if_neg (by omega)]
  by_cases h2:trim q=[]
  ·rw [if_pos (by rw [h2];rfl),hs,h2,zim _ [] (pmul_nilR _)];rfl
  ·have l2:=List.length_pos_iff.2 h2
   have h3:(trim p).length+(trim q).length<=257:=by rcases h with h | h | h <;> first | exact absurd h h1 | exact absurd h h2 | exact h
   rw [if_neg (by omega),wI_add _ _ (by omega),wI_pred _ (by omega) (by omega),if_neg (by omega),zcg _ _ (by have:=h257;omega),obs]
   obtain ⟨x,e1,e2,e3⟩:=mulLoop (trim p) (trim q) _ rfl h2 (by have:=h257;omega)
    (body:=fun s12:List UInt8×Int=>(if s12.2<((trim p).length:Int) then ((idx (trim p) s12.2).bind fun c15=>((subL s12.1 s12.2 ((s12.1.length:Int))).bind fun c18=>((subL s12.1 s12.2 ((wI (s12.2+((trim q).length:Int))))).bind fun c19 =>
     ((zc2 true c19 c15 (trim q)).bind fun r20=>some (.inl ((copyL s12.1 s12.2 r20),(wI (s12.2+1)))))))) else some (.inr s12.1)))
    (fun s i hi hl=>by
     simp only
     rw [if_pos (by omega),zba hi,obs,zdj _ _ _ (by omega) (Nat.le_refl _),obs,wI_add _ _ (by omega),zdj _ _ _ (by omega) (by omega),obs,
      Sum_eq _ _ _ (by have:=h257;simp;omega),obs,zau i (by omega)])
    (fun s=>by simp)
   rw [e1,obs,hs]
   congr 2
   refine zcc ?_ (fun j=>by rw [e3,zis])
   rw [e2,zgd (zef p) (zef q) h1 h2]
end Gk

/- Chapter 3: vanishing polynomials. No condition. -/
namespace Gk
open Gf
def zf7 (o:List UInt8) (a:UInt8):List UInt8:=trim (pmul o [a,1])
def van (xs:List UInt8):List UInt8:=xs.foldl zf7 [1]
theorem trim_lin (a:UInt8):trim [a,1]=[a,1]:=trim_id (fun _=>by show (1:UInt8)≠0;decide)
theorem van_len:∀ (xs o:List UInt8),trim o=o->o≠[]->(xs.foldl zf7 o).length=o.length+xs.length/\trim (xs.foldl zf7 o)=xs.foldl zf7 o
 | [],o,h,_=>⟨rfl,h⟩
 | a :: xs,o,h,hne=>by
  have hl:(zf7 o a).length=o.length+1:=by
   unfold zf7
   rw [zgd h (trim_lin a) hne (by simp)];simp
  have:=van_len xs (zf7 o a) (zef _) (fun e=>by rw [e] at hl;simp at hl)
  rw [List.foldl_cons]
  exact ⟨by rw [this.1,hl,List.length_cons];omega,this.2⟩
theorem trim_one:trim [1]=[1]:=trim_id (fun _=>by show (1:UInt8)≠0;decide)
theorem van_length (xs:List UInt8):(van xs).length=xs.length+1:=by
 have:=(van_len xs [1] trim_one (by simp)).1
 unfold van;rw [this];simp;omega
theorem van_trim (xs:List UInt8):trim (van xs)=van xs:=(van_len xs [1] trim_one (by simp)).2
theorem van_snoc (xs:List UInt8) (a:UInt8):van (xs ++ [a])=zf7 (van xs) a:=by unfold van;rw [List.foldl_append];rfl
theorem poly_Vanish_eq (xs:List UInt8) (h:xs.length<=255):zg0 true xs=some (van xs,0):=by
 unfold zg0
 rw [if_neg (by simp),if_neg (by omega)]
 refine zbh ?_ rfl
 refine zas (fun i=>(van (xs.take i),(i:Int))) xs.length (van xs) rfl ?_ ?_
 ·intro i hi
  have h1:=van_length (xs.take i)
  have h2:(xs.take i).length=i:=by simp;omega
  have:=h257
  simp only
  rw [if_pos (by omega),zba hi,obs,poly_Mul_eq _ _ (by omega) (by simp;omega) (.inr (.inr (by rw [van_trim,trim_lin,h1,h2];simp;omega))),obs,zau i (by omega),zg5 hi,van_snoc]
  rfl
 ·simp
end Gk

/- Chapter 3: places, weights. No condition but lengths. -/
namespace Gk
open Gf
theorem mput_keys (m:List (UInt8×Bool)) (k:UInt8) (v:Bool) (a:UInt8):a∈(mput m k v).map (·.1) ↔ a=k∨a∈m.map (·.1):=by
 unfold mput
 split
 ·rename_i h
  rw [List.map_map]
  have:((fun x:UInt8×Bool=>x.1) ∘ fun p=>if p.1=k then (p.1,v) else p)=(fun x=>x.1):=by
   funext p;simp only [Function.comp];split <;> rfl
  rw [this]
  exact ⟨fun h=>.inr h,fun h'=>h'.elim (fun e=>e ▸ h) id⟩
 ·simp only [List.map_append,List.mem_append,List.map_cons,List.map_nil,List.mem_singleton]
  exact ⟨fun h=>h.symm,fun h=>h.symm⟩
theorem mput_len (m:List (UInt8×Bool)) (k:UInt8) (v:Bool):(mput m k v).length=if k∈m.map (·.1) then m.length else m.length+1:=by
 unfold mput
 split <;> simp
theorem seen_inv (xs:List UInt8) (i:Nat) (hi:i<xs.length) (m:List (UInt8×Bool)) (h:(∀ a,a∈m.map (·.1) ↔ a∈xs.take i)/\m.length<=i/\(m.length=i ↔ (xs.take i).Nodup)) :
  (∀ a,a∈(mput m (co xs i) true).map (·.1) ↔ a∈xs.take (i+1))/\(mput m (co xs i) true).length<=i+1/\((mput m (co xs i) true).length=i+1 ↔ (xs.take (i+1)).Nodup):=by
 obtain ⟨h1,h2,h3⟩:=h
 rw [zg5 hi]
 refine ⟨fun a=>?_,?_,?_⟩
 ·rw [mput_keys,h1 a,List.mem_append,List.mem_singleton]
  exact ⟨fun h=>h.symm,fun h=>h.symm⟩
 ·rw [mput_len];split <;> omega
 ·rw [mput_len,List.nodup_append]
  by_cases hk:co xs i∈m.map (·.1)
  ·rw [if_pos hk]
   refine ⟨fun h=>by omega,fun h=>?_⟩
   exact absurd rfl (h.2.2 _ ((h1 _).1 hk) _ (by simp))
  ·rw [if_neg hk]
   refine ⟨fun h=>⟨h3.1 (by omega),by simp,fun a ha b hb e=>?_⟩,fun h=>by rw [h3.2 h.1]⟩
   rw [List.mem_singleton] at hb
   subst hb;subst e
   exact hk ((h1 _).2 ha)
theorem zin (xs:List UInt8) (h:xs.length<=most):zfd true xs=some (if xs.length=0 then 5 else if 255<xs.length then 4 else if xs.Nodup then 0 else 6):=by
 unfold zfd
 have hm:=za8
 obtain ⟨m,e1,e2,e3⟩:=iterC_up (s0:=([]:List (UInt8×Bool))) (fun i m=>(∀ a,a∈m.map (·.1) ↔ a∈xs.take i)/\m.length<=i/\(m.length=i ↔ (xs.take i).Nodup)) xs.length (fun m:List (UInt8×Bool)=>m.length<=xs.length/\(m.length=xs.length ↔ xs.Nodup))
  (body:=fun s4:(List (UInt8×Bool))×Int=>(if s4.2<(xs.length:Int) then ((idx xs s4.2).bind fun c7=>some (.inl ((mput s4.1 c7 true),(wI (s4.2+1))))) else some (.inr s4.1)))
  ⟨by simp,by simp,by simp⟩
  (fun i m hi hI=>⟨_,by simp only;rw [if_pos (by omega),zba hi,obs,zau i (by omega)],seen_inv xs i hi m hI⟩)
  (fun m hI=>⟨m,by simp,hI.2.1,by rw [hI.2.2,List.take_of_length_le (Nat.le_refl _)]⟩)
 rw [e1,obs,if_neg (by simp)]
 by_cases h0:xs.length=0
 ·rw [if_pos (by omega),if_pos h0]
 ·rw [if_neg (by omega),if_neg h0]
  by_cases h1:255<xs.length
  ·rw [if_pos (by omega),if_pos h1]
  ·rw [if_neg (by omega),if_neg h1]
   by_cases h2:xs.Nodup
   ·rw [if_pos h2,if_pos (by rw [e3.2 h2])]
   ·rw [if_neg h2,if_neg (fun e=>h2 (e3.1 (by omega)))]
def wts (xs:List UInt8) (x:UInt8):List UInt8:=(List.range xs.length).map fun i=>wt xs i x
theorem wts_len (xs:List UInt8) (x:UInt8):(wts xs x).length=xs.length:=by simp [wts]
theorem co_wts (xs:List UInt8) (x:UInt8) (i:Nat) (h:i<xs.length):co (wts xs x) i=wt xs i x:=by
 simp [co,wts,List.getD_eq_getElem?_getD,h]
theorem poly_Weights_bad (xs:List UInt8) (x:UInt8) (e:Int) (h:zfd true xs=some e) (he:e≠0):zcy true xs x=some ([],e):=by
 unfold zcy
 rw [h,obs,if_neg he]
theorem zgt (xs:List UInt8) (x:UInt8) (h0:xs.length≠0) (h1:xs.length<=255) (hn:xs.Nodup):zcy true xs x=some (wts xs x,0):=by
 unfold zcy
 have hm:=za8
 have hh:=h257
 rw [zin xs (by omega),if_neg h0,if_neg (by omega),if_pos hn,obs,if_pos rfl,zcg _ _ (by omega),obs]
 obtain ⟨s,e1,e2⟩:=iterC_up (s0:=List.replicate xs.length (0:UInt8)) (fun i s=>s.length=xs.length/\∀ j,j<i->co s j=wt xs j x) xs.length (fun s:List UInt8=>s=wts xs x)
  (body:=fun s7:List UInt8×Int=>(if s7.2<(xs.length:Int) then ((idx xs s7.2).bind fun c10=>((iterC (fun s11:UInt8×UInt8×Int=>(if s11.2.2<(xs.length:Int) then ((idx xs s11.2.2).bind fun c14=>(if s11.2.2=s7.2 then some (.inl (s11.1,s11.2.1,(wI (s11.2.2+1)))) else
   ((zb8 x c14).bind fun r16=>((zb2 true s11.1 r16).bind fun r18=>((zb8 c10 c14).bind fun r20=>((zb2 true s11.2.1 r20).bind fun r22=>some (.inl (r18,r22,(wI (s11.2.2+1)))))))))) else some (.inr (s11.1,s11.2.1)))) ((1:UInt8),(1:UInt8),0)).bind fun x11 =>
   ((ze4 true x11.1 x11.2).bind fun r26=>((idx s7.1 s7.2).bind fun c28=>some (.inl ((s7.1.set (s7.2:Int).toNat r26.1),(wI (s7.2+1)))))))) else some (.inr s7.1)))
  ⟨by simp,fun j hj=>absurd hj (Nat.not_lt_zero _)⟩
  (fun i s hi hI=>by
   obtain ⟨hl,hs⟩:=hI
   have inner:iterC (fun s11:UInt8×UInt8×Int=>(if s11.2.2<(xs.length:Int) then ((idx xs s11.2.2).bind fun c14=>(if s11.2.2=(i:Int) then some (.inl (s11.1,s11.2.1,(wI (s11.2.2+1)))) else
     ((zb8 x c14).bind fun r16=>((zb2 true s11.1 r16).bind fun r18=>((zb8 (co xs i) c14).bind fun r20=>((zb2 true s11.2.1 r20).bind fun r22=>some (.inl (r18,r22,(wI (s11.2.2+1)))))))))) else some (.inr (s11.1,s11.2.1)))) ((1:UInt8),(1:UInt8),0)
     = some (pe xs i x xs.length,pe xs i (co xs i) xs.length):=by
    refine zas (fun k=>(pe xs i x k,pe xs i (co xs i) k,(k:Int))) xs.length _ rfl ?_ ?_
    ·intro k hk
     simp only
     rw [if_pos (by omega),zba hk,obs]
     by_cases hki:k=i
     ·subst hki
      rw [if_pos rfl,zau k (by omega)]
      simp [pe]
     ·rw [if_neg (by omega)]
      simp only [Add_eq,Mul_eq,obs]
      rw [zau k (by omega)]
      simp [pe,hki]
    ·simp
   refine ⟨s.set i (wt xs i x),?_,by simpa using hl,fun j hj=>?_⟩
   ·simp only
    rw [if_pos (by omega),zba hi,obs,inner,obs,Div_eq,if_neg (pe_ne hn hi _ (Nat.le_refl _)),obs,zba (by omega),obs,zau i (by omega),Int.toNat_natCast]
    rfl
   ·rw [co_set (by omega)]
    by_cases hji:j=i
    ·rw [if_pos hji,hji]
    ·rw [if_neg hji];exact hs j (by omega))
  (fun s hI=>⟨s,by simp,zcc (by rw [wts_len,hI.1]) (fun j=>by
   by_cases hj:j<xs.length
   ·rw [hI.2 j hj,co_wts xs x j hj]
   ·rw [co_ge (by omega),co_ge (by rw [wts_len];omega)])⟩)
 rw [e1,obs,e2]
theorem ev_van:∀ (xs o:List UInt8) (y:UInt8),evp (xs.foldl zf7 o) y=0 ↔ evp o y=0∨y∈xs
 | [],o,y=>by simp
 | a :: xs,o,y=>by
  rw [List.foldl_cons,ev_van xs (zf7 o a) y]
  have:evp (zf7 o a) y=mul (evp o y) (y^^^a):=by unfold zf7;rw [ev_trim,zff,ev_lin]
  rw [this,List.mem_cons]
  constructor
  ·rintro (h | h)
   ·rcases zij h with h | h
    ·exact .inl h
    ·exact .inr (.inl (zdn h))
   ·exact .inr (.inr h)
  ·rintro (h | h | h)
   ·exact .inl (by rw [h,zero_mul])
   ·exact .inl (by rw [h,xor_self,mul_zero])
   ·exact .inr h
theorem van_root (xs:List UInt8) (y:UInt8):evp (van xs) y=0 ↔ y∈xs:=by
 unfold van
 rw [ev_van]
 have:evp [1] y=1:=by show 1^^^mul 0 y=1;rw [zero_mul,xor_zero]
 rw [this]
 constructor
 ·rintro (h | h)
  ·exact absurd h (by decide)
  ·exact h
 ·exact .inr
end Gk

/- Newton's divided differences give the polynomial through places and values. Plain. No condition. -/
namespace Gf
theorem zhg:∀ (p:List UInt8) (a:UInt8) (i:Nat),co (pmul p [a,1]) (i+1)=mul (co p (i+1)) a^^^co p i
 | [],a,i=>by simp [pmul,zct,zero_mul]
 | c :: p,a,0=>by
  rw [za3,zca,zc3,zca,zc3,mul_one]
  cases p with
  | nil=>simp [pmul,zct,zero_mul]
  | cons d p=>rw [za7,zc3,zc3,xor_comm]
 | c :: p,a,i+1=>by
  have:co [a,1] (i+1+1)=0:=co_ge (by simp)
  rw [za3,zhg p a i,this,mul_zero,zero_xor,zca,zca]
theorem ev_const (c x:UInt8):evp [c] x=c:=by show c^^^mul 0 x=c;rw [zero_mul,xor_zero]
def dd (xs ys:Nat->UInt8) (a:Nat):Nat->UInt8
 | 0=>ys a
 | m+1=>mul (dd xs ys (a+1) m^^^dd xs ys a m) (inv (xs (a+m+1)^^^xs a))
def nev (xs ys:Nat->UInt8) (a:Nat):Nat->List UInt8
 | 0=>[ys a]
 | m+1=>(pplus (pmul (nev xs ys (a+1) m) [xs a,1]) (pmul (nev xs ys a m) [xs (a+m+1),1])).map (mul (inv (xs (a+m+1)^^^xs a)))
theorem dg_nev (xs ys:Nat->UInt8):∀ (m a:Nat),dg (nev xs ys a m)<=m+1
 | 0,a=>dg_len _
 | m+1,a=>by
  refine dg_map _ (dg_pplus ?_ ?_)
  ·have:=zhv (dg_nev xs ys m (a+1)) (dg_lin (xs a));omega
  ·have:=zhv (dg_nev xs ys m a) (dg_lin (xs (a+m+1)));omega
theorem co_nev (xs ys:Nat->UInt8):∀ (m a:Nat),co (nev xs ys a m) m=dd xs ys a m
 | 0,a=>rfl
 | m+1,a=>by
  unfold nev dd
  rw [co_map,zb6,zhg,zhg,co_nev xs ys m (a+1),co_nev xs ys m a,dg_le.1 (dg_nev xs ys m (a+1)) (m+1) (Nat.le_refl _),dg_le.1 (dg_nev xs ys m a) (m+1) (Nat.le_refl _),zero_mul,zero_mul,zero_xor,zero_xor,mul_comm]
theorem ev_nev (xs ys:Nat->UInt8):∀ (m a:Nat),(∀ i j,a<=i->i<j->j<=a+m->xs i≠xs j)->∀ j,a<=j->j<=a+m->evp (nev xs ys a m) (xs j)=ys j
 | 0,a,_,j,h1,h2=>by
  obtain rfl:j=a:=by omega
  exact ev_const _ _
 | m+1,a,hd,j,h1,h2=>by
  have hne:xs (a+m+1)^^^xs a≠0:=fun e=>hd a (a+m+1) (Nat.le_refl _) (by omega) (by omega) (zdn e).symm
  unfold nev
  rw [ev_map,zfj,zff,zff,ev_lin,ev_lin]
  by_cases ha:j=a
  ·subst ha
   rw [xor_self,mul_zero,zero_xor,ev_nev xs ys m j (fun i k h3 h4 h5=>hd i k h3 h4 (by omega)) j (Nat.le_refl _) (by omega),mul_comm (ys j),← zcz,xor_comm (xs j),inv_mul hne,one_mul]
  ·by_cases hb:j=a+m+1
   ·subst hb
    rw [xor_self,mul_zero,xor_zero,ev_nev xs ys m (a+1) (fun i k h3 h4 h5=>hd i k (by omega) h4 (by omega)) (a+m+1) (by omega) (by omega),mul_comm (ys _),← zcz,inv_mul hne,one_mul]
   ·rw [ev_nev xs ys m (a+1) (fun i k h3 h4 h5=>hd i k (by omega) h4 (by omega)) j (by omega) (by omega),ev_nev xs ys m a (fun i k h3 h4 h5=>hd i k h3 h4 (by omega)) j h1 (by omega),← mul_add,
     zhn,xor_self,zero_xor,mul_comm (ys j),← zcz,xor_comm (xs a),inv_mul hne,one_mul]
def pip (xs:Nat->UInt8):Nat->List UInt8
 | 0=>[1]
 | m+1=>pmul (pip xs m) [xs m,1]
def pi (xs:Nat->UInt8) (x:UInt8):Nat->UInt8
 | 0=>1
 | m+1=>mul (pi xs x m) (x^^^xs m)
theorem ev_pip (xs:Nat->UInt8) (x:UInt8):∀ m,evp (pip xs m) x=pi xs x m
 | 0=>ev_const 1 x
 | m+1=>by unfold pip pi;rw [zff,ev_pip xs x m,ev_lin]
theorem dg_pip (xs:Nat->UInt8):∀ m,dg (pip xs m)<=m+1
 | 0=>dg_len _
 | m+1=>by have:=zhv (dg_pip xs m) (dg_lin (xs m));unfold pip;omega
theorem co_pip (xs:Nat->UInt8):∀ m,co (pip xs m) m=1
 | 0=>rfl
 | m+1=>by unfold pip;rw [zhg,co_pip xs m,dg_le.1 (dg_pip xs m) (m+1) (Nat.le_refl _),zero_mul,zero_xor]
theorem pi_zero (xs:Nat->UInt8):∀ (m j:Nat),j<m->pi xs (xs j) m=0
 | m+1,j,h=>by
  unfold pi
  by_cases hj:j=m
  ·subst hj;rw [xor_self,mul_zero]
  ·rw [pi_zero xs m j (by omega),zero_mul]
def ns (xs ys:Nat->UInt8) (x:UInt8):Nat->UInt8:=sm (fun i=>mul (dd xs ys 0 i) (pi xs x i))
theorem ns_nev (xs ys:Nat->UInt8) (x:UInt8):∀ m,(∀ i j,i<j->j<=m->xs i≠xs j)->evp (nev xs ys 0 m) x=ns xs ys x (m+1)
 | 0,_=>by
  show evp [ys 0] x=0^^^mul (ys 0) 1
  rw [ev_const,mul_one,zero_xor]
 | m+1,hd=>by
  have ih:=ns_nev xs ys x m (fun i j h1 h2=>hd i j h1 (by omega))
  have hpl:((List.range (m+1)).map xs).length=m+1:=by simp
  have hnd:((List.range (m+1)).map xs).Nodup:=by
   refine List.pairwise_iff_getElem.2 fun i j hi hj hij=>?_
   simp only [List.getElem_map,List.getElem_range]
   simp only [List.length_map,List.length_range] at hi hj
   exact hd i j hij (by omega)
  have h0:Sim (pplus (nev xs ys 0 (m+1)) ((pip xs (m+1)).map (mul (dd xs ys 0 (m+1))))) (nev xs ys 0 m):=by
   refine agree hnd ?_ ?_ ?_
   ·rw [hpl]
    refine dg_le.2 fun i hi=>?_
    rw [zb6,co_map]
    by_cases h1:i=m+1
    ·subst h1;rw [co_nev,co_pip,mul_one,xor_self]
    ·rw [dg_le.1 (dg_nev xs ys (m+1) 0) i (by omega),dg_le.1 (dg_pip xs (m+1)) i (by omega),mul_zero,xor_zero]
   ·rw [hpl];exact dg_nev xs ys m 0
   ·intro a ha
    obtain ⟨j,hj,rfl⟩:=List.mem_map.1 ha
    have hj':j<m+1:=by simpa using hj
    rw [zfj,ev_map,ev_pip,pi_zero xs (m+1) j hj',mul_zero,xor_zero,ev_nev xs ys (m+1) 0 (fun i k _ h2 h3=>hd i k h2 (by omega)) j (Nat.zero_le _) (by omega),
     ev_nev xs ys m 0 (fun i k _ h2 h3=>hd i k h2 (by omega)) j (Nat.zero_le _) (by omega)]
  have h1:=ev_sim _ _ x h0
  rw [zfj,ev_map,ev_pip,ih] at h1
  show evp (nev xs ys 0 (m+1)) x=ns xs ys x (m+1)^^^mul (dd xs ys 0 (m+1)) (pi xs x (m+1))
  rw [← h1,xor_assoc,xor_self,xor_zero]
theorem ns_at (xs ys:Nat->UInt8) (n:Nat) (hd:∀ i j,i<j->j<n->xs i≠xs j) (j:Nat) (hj:j<n):ns xs ys (xs j) n=ys j:=by
 obtain ⟨m,rfl⟩:∃ m,n=m+1:=⟨n - 1,by omega⟩
 rw [← ns_nev xs ys (xs j) m (fun i k h1 h2=>hd i k h1 (by omega))]
 exact ev_nev xs ys m 0 (fun i k _ h2 h3=>hd i k h2 (by omega)) j (Nat.zero_le _) (by omega)
def hn (xs c:Nat->UInt8) (x:UInt8) (n:Nat):Nat->UInt8
 | 0=>0
 | k+1=>c (n - (k+1))^^^mul (hn xs c x n k) (x^^^xs (n - (k+1)))
theorem hn_ns (xs c:Nat->UInt8) (x:UInt8) (n:Nat):∀ k,k<=n->sm (fun i=>mul (c i) (pi xs x i)) (n - k)^^^mul (hn xs c x n k) (pi xs x (n - k))=sm (fun i=>mul (c i) (pi xs x i)) n
 | 0,_=>by
  show sm (fun i=>mul (c i) (pi xs x i)) n^^^mul 0 _=_
  rw [zero_mul,xor_zero]
 | k+1,h=>by
  have ih:=hn_ns xs c x n k (by omega)
  rw [show n - k=(n - (k+1))+1 by omega] at ih
  rw [← ih]
  show sm _ (n - (k+1))^^^mul (c (n - (k+1))^^^mul (hn xs c x n k) (x^^^xs (n - (k+1)))) (pi xs x (n - (k+1)))=(sm _ (n - (k+1))^^^mul (c (n - (k+1))) (pi xs x (n - (k+1))))^^^mul (hn xs c x n k) (mul (pi xs x (n - (k+1))) (x^^^xs (n - (k+1))))
  rw [add_mul,xor_assoc,zcz,mul_comm (x^^^_)]
end Gf

/- Chapter 3: the polynomial through places and values. No condition but lengths. -/
namespace Gk
open Gf
def stg (xs ys:List UInt8) (k i:Nat):UInt8:=dd (co xs) (co ys) (i - min k i) (min k i)
theorem stg_step (xs ys:List UInt8) (k j:Nat) (h1:1<=k) (h2:k<=j):stg xs ys k j=mul (stg xs ys (k - 1) j^^^stg xs ys (k - 1) (j - 1)) (inv (co xs j^^^co xs (j - k))):=by
 obtain ⟨m,rfl⟩:∃ m,k=m+1:=⟨k - 1,by omega⟩
 unfold stg
 have e1:min (m+1) j=m+1:=by omega
 have e2:min m j=m:=by omega
 have e3:min m (j - 1)=m:=by omega
 rw [Nat.add_sub_cancel,e1,e2,e3]
 have e4:j - m=j - (m+1)+1:=by omega
 have e5:j - 1 - m=j - (m+1):=by omega
 rw [e4,e5]
 show mul (dd _ _ (j - (m+1)+1) m^^^dd _ _ (j - (m+1)) m) (inv (co xs (j - (m+1)+m+1)^^^co xs (j - (m+1))))=_
 rw [show j - (m+1)+m+1=j by omega]
def thStep (xs:List UInt8) (s:List UInt8) (y:Int×UInt8):List UInt8:=trim (pplus (trim (pmul s [co xs y.1.toNat,1])) [y.2])
theorem ev_thStep (xs s:List UInt8) (y:Int×UInt8) (x:UInt8):evp (thStep xs s y) x=y.2^^^mul (evp s x) (x^^^co xs y.1.toNat):=by
 unfold thStep
 rw [ev_trim,zfj,ev_trim,zff,ev_lin,ev_const,xor_comm]
theorem ev_thFold (xs d:List UInt8) (x:UInt8):∀ k,k<=d.length->evp (((revI d).take k).foldl (thStep xs) []) x=Gf.hn (co xs) (co d) x d.length k
 | 0,_=>rfl
 | k+1,h=>by
  have hg:=revI_get d (d.length - 1 - k) (by omega)
  rw [show d.length - 1 - (d.length - 1 - k)=k by omega] at hg
  rw [List.take_add_one,hg,List.foldl_append]
  show evp (thStep xs _ _) x=_
  rw [ev_thStep,ev_thFold xs d x k (by omega)]
  simp only [Int.toNat_natCast]
  rw [← co_lt (show d.length - 1 - k<d.length by omega),show d.length - 1 - k=d.length - (k+1) by omega]
  rfl
theorem poly_Through_ok (xs ys:List UInt8) (hl:xs.length=ys.length) (h0:xs.length≠0) (h1:xs.length<=255) (hn:xs.Nodup) :
  ∃ N,zfs true xs ys=some (N,0)/\trim N=N/\dg N<=xs.length/\∀ j,j<xs.length->evp N (co xs j)=co ys j:=by
 unfold zfs
 have hm:=za8
 have hh:=h257
 rw [if_pos (by omega),zin xs (by omega),if_neg h0,if_neg (by omega),if_pos hn,obs,if_pos rfl]
 unfold zae
 rw [zel ys (by omega),obs]
 obtain ⟨d,e1,e2,e3⟩:=iterC_from (s0:=ys) (fun k d=>d.length=xs.length/\∀ i,i<xs.length->co d i=stg xs ys (k - 1) i) 1 xs.length (by omega) (fun d:List UInt8=>d.length=xs.length/\∀ i,i<xs.length->co d i=dd (co xs) (co ys) 0 i)
  (body:=fun s17:List UInt8×Int=>(if s17.2<(s17.1.length:Int) then ((iterC (fun s20:List UInt8×Int=>(if s17.2<=s20.2 then ((idx s20.1 s20.2).bind fun c25=>((idx s20.1 ((wI (s20.2 - 1)))).bind fun c26=>((idx xs s20.2).bind fun c27=>((idx xs ((wI (s20.2 - s17.2)))).bind fun c28 =>
   ((zb8 c25 c26).bind fun r29=>((zb8 c27 c28).bind fun r31=>((ze4 true r29 r31).bind fun r33=>some (.inl ((s20.1.set (s20.2:Int).toNat r33.1),(wI (s20.2 - 1))))))))))) else some (.inr s20.1))) (s17.1,(wI ((s17.1.length:Int) - 1)))).bind fun x20=>some (.inl (x20,(wI (s17.2+1))))) else some (.inr s17.1)))
  ⟨hl.symm,fun i hi=>by simp [stg,dd]⟩
  (fun k d hk hkn hI=>by
   obtain ⟨dl,hd⟩:=hI
   obtain ⟨d',f1,f2,f3⟩:=iterC_dn (s0:=d) (fun j s=>s.length=xs.length/\∀ i,i<xs.length->co s i=if j<=i then stg xs ys k i else stg xs ys (k - 1) i) k xs.length (by omega) (fun s:List UInt8=>s.length=xs.length/\∀ i,i<xs.length->co s i=stg xs ys k i)
    (body:=fun s20:List UInt8×Int=>(if (k:Int)<=s20.2 then ((idx s20.1 s20.2).bind fun c25=>((idx s20.1 ((wI (s20.2 - 1)))).bind fun c26=>((idx xs s20.2).bind fun c27=>((idx xs ((wI (s20.2 - (k:Int))))).bind fun c28 =>
     ((zb8 c25 c26).bind fun r29=>((zb8 c27 c28).bind fun r31=>((ze4 true r29 r31).bind fun r33=>some (.inl ((s20.1.set (s20.2:Int).toNat r33.1),(wI (s20.2 - 1))))))))))) else some (.inr s20.1)))
    ⟨dl,fun i hi=>by rw [if_neg (by omega)];exact hd i hi⟩
    (fun j s hkj hj hI=>by
     obtain ⟨sl,hs⟩:=hI
     have hne:co xs j^^^co xs (j - k)≠0:=fun e=>by
      have:=co_inj hn hj (by omega) (zdn e)
      omega
     refine ⟨s.set j (stg xs ys k j),?_,by simpa using sl,fun i hi=>?_⟩
     ·simp only
      rw [if_pos (by omega),zba (by omega),obs,wI_pred j (by omega) (by omega),zba (by omega),obs,zba hj,obs,wI_sub j k hkj (by omega),zba (by omega),obs,
       Add_eq,obs,Add_eq,obs,Div_eq,if_neg hne,obs,Int.toNat_natCast,hs j hj,if_neg (by omega),hs (j - 1) (by omega),if_neg (by omega),← stg_step xs ys k j hk hkj]
      congr 3;omega
     ·rw [co_set (by omega)]
      by_cases hij:i=j
      ·rw [if_pos hij,if_pos (by omega),hij]
      ·rw [if_neg hij,hs i hi]
       have:(j+1<=i) ↔ (j<=i):=by omega
       simp only [this])
    (fun s hI=>⟨s,by simp only;rw [if_neg (by omega)],hI.1,fun i hi=>by
     rw [hI.2 i hi]
     by_cases h:k<=i
     ·rw [if_pos h]
     ·rw [if_neg h]
      unfold stg
      rw [show min (k - 1) i=min k i by omega]⟩)
   refine ⟨d',?_,f2,fun i hi=>by rw [f3 i hi,Nat.add_sub_cancel]⟩
   simp only
   rw [if_pos (by omega),dl,wI_of (by omega) (by omega),f1,obs,zau k (by omega)])
  (fun d hI=>⟨d,by simp only;rw [if_neg (by omega)],hI.1,fun i hi=>by
   rw [hI.2 i hi]
   unfold stg
   rw [show min (xs.length - 1) i=i by omega,Nat.sub_self]⟩)
 rw [show ((1:Nat):Int)=1 from rfl] at e1
 rw [e1,obs,lim_of (by omega),obs]
 have key:=zgl (f:=fun (s55:List UInt8) (y55:(Int×UInt8))=>((idx xs y55.1).bind fun c61=>((zgc true s55 ([c61,(1:UInt8)]:List UInt8)).bind fun r65=>((zhj r65.1 ([y55.2]:List UInt8)).bind fun r81=>some r81)))) (thStep xs) (xs:=revI d) (s0:=[])
  (fun k s=>s.length<=k/\trim s=s) ⟨Nat.le_refl _,rfl⟩ (by
   rintro k s ⟨y,c⟩ hk hy ⟨hs,ht⟩
   obtain ⟨i,hi,e⟩:=mem_revI hy
   simp only [Prod.mk.injEq] at e
   obtain ⟨rfl,rfl⟩:=e
   rw [zge] at hk
   have ds:dg s<=k:=Nat.le_trans (dg_len s) hs
   have d1:=zhv ds (dg_lin (co xs i))
   have l1:(trim (pmul s [co xs i,1])).length<=k+1:=by unfold dg at d1;omega
   simp only
   rw [zba (by omega),obs,poly_Mul_eq _ _ (by omega) (by simp;omega) (.inr (.inr (by
    have:=dg_lin (co xs i)
    unfold dg at this ds
    omega))),obs,poly_Add_eq _ _ (by simp only;omega) (by simp;omega),obs]
   refine ⟨by simp only [thStep,Int.toNat_natCast],?_,zef _⟩
   have h3:=trim_le (pplus (trim (pmul s [co xs i,1])) [d[i]])
   rw [pplus_len] at h3
   simp only [thStep,Int.toNat_natCast]
   simp only [List.length_cons,List.length_nil] at h3
   omega)
 rw [key.1,obs]
 refine ⟨_,rfl,key.2.2,?_,fun j hj=>?_⟩
 ·have:=key.2.1
  rw [zge,e2] at this
  exact Nat.le_trans (dg_len _) this
 ·have h2:=ev_thFold xs d (co xs j) d.length (Nat.le_refl _)
  rw [List.take_of_length_le (by rw [zge];omega)] at h2
  rw [h2]
  have h3:=hn_ns (co xs) (co d) (co xs j) d.length d.length (Nat.le_refl _)
  rw [Nat.sub_self] at h3
  have h4:mul (Gf.hn (co xs) (co d) (co xs j) d.length d.length) (pi (co xs) (co xs j) 0)=Gf.hn (co xs) (co d) (co xs j) d.length d.length:=mul_one _
  rw [h4] at h3
  have h5:sm (fun i=>mul (co d i) (pi (co xs) (co xs j) i)) 0=0:=rfl
  rw [h5,zero_xor] at h3
  rw [h3,e2]
  have h6:=ns_at (co xs) (co ys) xs.length (fun a b h h' e=>absurd (co_inj hn (by omega) h' e) (by omega)) j hj
  rw [← h6]
  exact sm_congr _ fun i hi=>by rw [e3 i hi]
end Gk

/- Chapter 8 in plain Lean: shares, and what shares tell. No condition but lengths. -/
namespace Gk
open Gf
def rowsp (m:List UInt8) (n q i:Nat):List UInt8:=(List.range q).map fun k=>co m (k * n+i)
theorem rowsp_len (m:List UInt8) (n q i:Nat):(rowsp m n q i).length=q:=by simp [rowsp]
theorem co_rowsp (m:List UInt8) (n q i k:Nat) (h:k<q):co (rowsp m n q i) k=co m (k * n+i):=by
 simp [co,rowsp,List.getD_eq_getElem?_getD,h]
def colp (s m:List UInt8) (q i:Nat):List UInt8:=co s i :: rowsp m s.length q i
theorem colp_len (s m:List UInt8) (q i:Nat):(colp s m q i).length=q+1:=by simp [colp,rowsp_len]
def shr (s m:List UInt8) (q:Nat) (x:UInt8):List UInt8:=(List.range s.length).map fun i=>evp (colp s m q i) x
theorem shr_len (s m:List UInt8) (q:Nat) (x:UInt8):(shr s m q x).length=s.length:=by simp [shr]
theorem co_shr (s m:List UInt8) (q:Nat) (x:UInt8) (i:Nat) (h:i<s.length):co (shr s m q x) i=evp (colp s m q i) x:=by
 unfold shr;rw [zde,if_pos h]
theorem share_eq (s m:List UInt8) (q:Nat) (x:UInt8) (hm:m.length=q * s.length) (hs:s.length<=most) (hmm:m.length<=most):zfr true s m x=some (shr s m q x):=by
 unfold zfr
 have hmo:=za8
 rw [zcg _ _ hs,obs]
 by_cases h0:s.length=0
 ·have hs0:s=[]:=List.eq_nil_of_length_eq_zero h0
  subst hs0
  have hm0:m.length=0:=by rw [hm];simp
  have:iterC (fun s3:List UInt8×Int=>(if 0<=s3.2 then (if 0<((([]:List UInt8)).length:Int) then ((subL m s3.2 ((wI (s3.2+((([]:List UInt8)).length:Int))))).bind fun c7=>((zc2 true c7 x s3.1).bind fun r8=>some (.inl (r8,(wI (s3.2 - ((([]:List UInt8)).length:Int))))))) else some (.inr s3.1)) else some (.inr s3.1))) (List.replicate ([]:List UInt8).length 0,(wI ((m.length:Int) - ((([]:List UInt8)).length:Int))))=some ([]:List UInt8):=by
   rw [zb4];simp
  rw [this,obs,Sum_eq _ _ _ (by simp)]
  rfl
 ·generalize hn:s.length=n at *
  have key:iterC (fun s3:List UInt8×Int=>(if 0<=s3.2 then (if 0<(n:Int) then ((subL m s3.2 ((wI (s3.2+(n:Int))))).bind fun c7=>((zc2 true c7 x s3.1).bind fun r8=>some (.inl (r8,(wI (s3.2 - (n:Int))))))) else some (.inr s3.1)) else some (.inr s3.1))) (List.replicate n 0,(wI ((m.length:Int) - (n:Int))))=some ((List.range n).map fun i=>evp (rowsp m n q i) x):=by
   refine zas (fun j=>((List.range n).map (fun i=>evp ((rowsp m n q i).drop (q - j)) x),((((q - j) * n:Nat):Int) - (n:Int)))) q _ ?_ ?_ ?_
   ·rw [Nat.sub_zero,← hm,wI_of (by omega) (by omega)]
    congr 1
    refine zcc (by simp) fun i=>?_
    rw [co_rep,zde]
    split
    ·rw [List.drop_of_length_le (by rw [rowsp_len];omega)];rfl
    ·rfl
   ·intro j hj
    obtain ⟨r,hr⟩:∃ r,q - j=r+1:=⟨q - j - 1,by omega⟩
    have e1:(q - j) * n=r * n+n:=by rw [hr,Nat.succ_mul]
    have e2:q - (j+1)=r:=by omega
    have hle:r * n+n<=m.length:=by rw [hm,← e1];exact Nat.mul_le_mul_right n (Nat.sub_le q j)
    simp only
    rw [e1,show (((r * n+n:Nat):Int) - (n:Int))=((r * n:Nat):Int) by omega,if_pos (by omega),if_pos (by omega),wI_add _ _ (by omega),zdj _ _ _ (by omega) hle,obs,
     Sum_eq _ _ _ (by simp;omega),obs,wI_of (by omega) (by omega),e2]
    congr 3
    refine zcc ?_ fun i=>?_
    ·rw [sumL_len];simp;omega
    ·have hl:((m.take (r * n+n)).drop (r * n)).length=n:=by simp;omega
     rw [co_sumL,hl]
     by_cases hi:i<n
     ·rw [if_pos hi,co_drop,co_take,if_pos (by omega),zde,if_pos hi,zde,if_pos hi,ev_drop _ x r,co_rowsp m n q i r (by omega),hr,mul_comm x]
     ·rw [if_neg hi,zde,if_neg hi]
   ·simp only
    rw [Nat.sub_self,Nat.zero_mul,if_neg (by omega)]
    congr 2
  rw [key,obs,Sum_eq _ _ _ (by omega),obs]
  congr 1
  refine zcc (by rw [sumL_len,shr_len]) fun i=>?_
  rw [co_sumL,zde]
  by_cases hi:i<n
  ·rw [if_pos (by omega),if_pos hi,co_shr _ _ _ _ _ (by omega)]
   unfold colp
   rw [hn]
   show _=co s i^^^mul (evp (rowsp m n q i) x) x
   rw [mul_comm x]
  ·rw [if_neg (by omega),co_ge (by rw [shr_len];omega)]
theorem Contains_eq (xs:List UInt8) (v:UInt8) (h:xs.length<=most):zbr xs v=some (decide (v∈xs)):=by
 unfold zbr zcs
 have hm:=za8
 obtain ⟨x,e1,e2⟩:=zd2 (body:=fun s1:Int=>(if s1<(xs.length:Int) then ((idx xs s1).bind fun c4=>(if v=c4 then some (.inr (Sum.inr (α:=Unit) s1)) else some (.inl (wI (s1+1))))) else some (.inr (.inl ()))))
  (fun s=>∃ i:Nat,i<=xs.length/\s=(i:Int)/\∀ j,j<i->co xs j≠v) (fun s=>xs.length - s.toNat) (fun r=>(r=.inl ()/\v ∉ xs)∨∃ i:Nat,r=.inr (i:Int)/\v∈xs)
  (by
   rintro _ ⟨i,hi,rfl,hb⟩
   by_cases hlt:i<xs.length
   ·rw [if_pos (by omega),zba hlt,obs]
    by_cases he:v=co xs i
    ·rw [if_pos he];exact .inr ⟨_,rfl,.inr ⟨i,rfl,he ▸ co_mem hlt⟩⟩
    ·rw [if_neg he,zau i (by omega)]
     refine .inl ⟨_,rfl,⟨i+1,hlt,rfl,fun j hj=>?_⟩,by simp only [Int.toNat_natCast];omega⟩
     by_cases hji:j=i
     ·subst hji;exact fun e=>he e.symm
     ·exact hb j (by omega)
   ·obtain rfl:i=xs.length:=by omega
    rw [if_neg (by omega)]
    refine .inr ⟨_,rfl,.inl ⟨rfl,fun hv=>?_⟩⟩
    obtain ⟨j,hj,rfl⟩:=mem_co hv
    exact hb j hj rfl) 0 ⟨0,Nat.zero_le _,rfl,fun j hj=>absurd hj (Nat.not_lt_zero _)⟩
 rw [e1,obs]
 rcases e2 with ⟨rfl,hv⟩ | ⟨i,rfl,hv⟩
 ·simp [hv]
 ·simp [hv]
theorem threshold_eq (t:Int):zcw t=some (decide (1<=t/\t<=255)):=by
 unfold zcw
 by_cases h:1<=t
 ·rw [if_pos h];simp [h]
 ·rw [if_neg h];simp [h]
theorem MaskSize_eq (q n:Nat) (hq:q<=254) (hn:n<=most):zcp ((q+1:Nat):Int) (n:Int)=some ((q * n:Nat):Int):=by
 unfold zcp
 have hle:q * n<=254 * most:=Nat.mul_le_mul hq hn
 have hmm:254 * most<9223372036854775807:=by decide
 have e:((q:Int) * (n:Int))=((q * n:Nat):Int):=(Int.natCast_mul _ _).symm
 rw [threshold_eq,obs,if_neg (by simp;omega),if_neg (by omega),wI_pred _ (by omega) (by omega),Nat.add_sub_cancel,e,wI_nat (by omega)]
theorem check_eq (t:Int) (s m xs:List UInt8) (hs:s.length<=most) (hx:xs.length<=most):zfq true t s m xs=some (if ¬ (1<=t/\t<=255)∨0∈xs then 2 else if m.length=(t - 1).toNat * s.length then 0 else 3):=by
 unfold zfq
 rw [if_neg (by simp),threshold_eq,obs]
 by_cases ht:1<=t/\t<=255
 ·rw [if_neg (by simp [ht]),Contains_eq _ _ hx,obs]
  by_cases h0:(0:UInt8)∈xs
  ·rw [if_pos (by simpa using h0),if_pos (.inr h0)]
  ·obtain ⟨q,hq⟩:∃ q:Nat,t=((q+1:Nat):Int):=⟨(t - 1).toNat,by omega⟩
   have e:(t - 1).toNat=q:=by omega
   rw [if_neg (by simpa using h0),if_neg (by simp [h0];omega),e,hq,MaskSize_eq q _ (by omega) hs,obs]
   by_cases hl:m.length=q * s.length
   ·rw [if_pos (by rw [hl]),if_pos hl]
   ·rw [if_neg (by omega),if_neg hl]
 ·rw [if_pos (by simp only [decide_eq_false ht];rfl),if_pos (.inl ht)]
theorem Split_ok (q:Nat) (s m xs:List UInt8) (hq:q<=254) (hm:m.length=q * s.length) (hs:s.length<=most) (hmm:m.length<=most) (hx:(0:UInt8) ∉ xs) (hxl:xs.length<=most):zf1 true ((q+1:Nat):Int) s m xs=some (xs.map (shr s m q),0):=by
 unfold zf1
 have e:(((q+1:Nat):Int) - 1).toNat=q:=by omega
 have hmo:=za8
 rw [check_eq _ _ _ _ hs hxl,e,if_neg (by simp [hx];omega),if_pos hm,obs,if_pos rfl]
 refine zbh ?_ rfl
 refine zas (fun i=>((xs.take i).map (shr s m q),(i:Int))) xs.length _ rfl ?_ ?_
 ·intro i hi
  simp only
  rw [if_pos (by omega),zba hi,obs,share_eq s m q _ hm hs hmm,obs]
  unfold appL
  rw [if_pos (by simp;omega),obs,zau i (by omega),zg5 hi,List.map_append]
  rfl
 ·simp
theorem unlike_eq (l:List (List UInt8)) (h:l.length<=most) (d:Nat) (hd:∀ r,l[0]?=some r->r.length=d):ze5 l=some (l.any fun r=>!decide (r.length=d)):=by
 unfold ze5
 have hm:=za8
 rw [lim_of (by omega),obs,anyO_all _ (fun r=>!decide (r.length=d))]
 ·rfl
 ·intro x hx
  have hpos:0<l.length:=List.length_pos_of_mem hx
  have h0:l[0]?=some l[0]:=by simp
  unfold zdx
  have:idx l 0=some l[0]:=by
   have:=zf5 l 0
   rw [show ((0:Nat):Int)=0 from rfl] at this
   rw [this,h0]
  rw [this,obs,hd _ h0]
  congr 1
  rw [Bool.not_inj_iff,decide_eq_decide]
  omega
def atv (xs:List UInt8) (shares:List (List UInt8)) (d:Nat) (x:UInt8):List UInt8:=(List.range d).map fun i=>sm (fun k=>mul (wt xs k x) (co (shares.getD k []) i)) xs.length
theorem At_ok (xs:List UInt8) (shares:List (List UInt8)) (d:Nat) (x:UInt8) (hl:xs.length=shares.length) (h0:xs.length≠0) (h1:xs.length<=255) (hn:xs.Nodup) (hr:∀ r∈shares,r.length=d) (hd:d<=most) :
  shamir_At true xs shares x=some (atv xs shares d x,0):=by
 unfold shamir_At
 have hm:=za8
 have hh:=h257
 have hany:(shares.any fun r=>!decide (r.length=d))=false:=by
  rw [List.any_eq_false];intro r hr';simp [hr r hr']
 have i0:idx shares 0=some (shares.getD 0 []):=by
  have:=zci (l:=shares) (k:=0) (by omega)
  rwa [show ((0:Nat):Int)=0 from rfl] at this
 have hd0:(shares.getD 0 []).length=d:=hr _ (zfm (by omega))
 rw [if_neg (by simp),if_pos (by omega),unlike_eq shares (by omega) d (fun r h=>hr r (List.mem_of_getElem? h)),obs,hany,if_neg (by decide),zgt xs x h0 h1 hn,obs,if_pos rfl,i0,obs,hd0,zcg _ _ hd,obs]
 refine zbh ?_ rfl
 refine zas (fun j=>((List.range d).map (fun i=>sm (fun k=>mul (wt xs k x) (co (shares.getD k []) i)) j),(j:Int))) xs.length _ ?_ ?_ ?_
 ·congr 1
  refine zcc (by simp) fun i=>?_
  rw [co_rep,zde];split <;> rfl
 ·intro j hj
  simp only
  rw [if_pos (by omega),zci (by omega),obs,zba (by rw [wts_len];exact hj),obs,co_wts xs x j hj,Sum_eq _ _ _ (by simpa using hd),obs,zau j (by omega)]
  congr 3
  refine zcc (by rw [sumL_len];simp) fun i=>?_
  rw [co_sumL,zde,zde]
  simp only [List.length_map,List.length_range]
  split
  ·rfl
  ·rfl
 ·simp only
  rw [if_neg (by omega)]
  rfl
end Gk

/- Chapter 9 in plain Lean: pieces of parts. No condition but lengths. -/
namespace Gk
open Gf
def plc (n:Nat):List UInt8:=(List.range n).map fun i=>UInt8.ofNat (i+1)
theorem zdd (n:Nat):(plc n).length=n:=by simp [plc]
theorem co_plc (n i:Nat) (h:i<n):co (plc n) i=UInt8.ofNat (i+1):=by unfold plc;rw [zde,if_pos h]
theorem plc_nodup (n:Nat) (h:n<=255):(plc n).Nodup:=by
 refine List.pairwise_iff_getElem.2 fun i j hi hj hij e=>?_
 rw [zdd] at hi hj
 simp only [plc,List.getElem_map,List.getElem_range] at e
 have:=congrArg UInt8.toNat e
 rw [UInt8.toNat_ofNat',UInt8.toNat_ofNat'] at this
 omega
theorem zgj (n:Nat):UInt8.ofInt (n:Int)=UInt8.ofNat n:=by
 apply UInt8.toNat_inj.1
 simp [UInt8.ofInt]
 omega
theorem places_eq (n:Nat) (h:n<=255):zg7 (n:Int)=some (plc n):=by
 unfold zg7
 have h2:=h257
 rw [zcg _ _ (by omega),obs]
 obtain ⟨x,e1,e2⟩:=iterC_up (s0:=List.replicate n (0:UInt8)) (fun i s=>s.length=n/\∀ j,j<i->co s j=UInt8.ofNat (j+1)) n (fun x:List UInt8=>x=plc n)
  (body:=fun s4:List UInt8×Int=>(if s4.2<((List.replicate n (0:UInt8)).length:Int) then ((idx s4.1 s4.2).bind fun c7=>some (.inl ((s4.1.set (s4.2:Int).toNat ((UInt8.ofInt ((wI (s4.2+1)))))),(wI (s4.2+1))))) else some (.inr s4.1)))
  ⟨by simp,fun j hj=>absurd hj (Nat.not_lt_zero _)⟩
  (fun i s hi hI=>by
   obtain ⟨hl,hs⟩:=hI
   refine ⟨s.set i (UInt8.ofNat (i+1)),?_,by simpa using hl,fun j hj=>?_⟩
   ·simp only
    rw [if_pos (by rw [List.length_replicate];omega),zba (by omega),obs,zau i (by omega),zgj,Int.toNat_natCast]
   ·rw [co_set (by omega)]
    by_cases hji:j=i
    ·rw [if_pos hji,hji]
    ·rw [if_neg hji];exact hs j (by omega))
  (fun s hI=>⟨s,by simp,zcc (by rw [hI.1,zdd]) (fun j=>by
   by_cases hj:j<n
   ·rw [hI.2 j hj,co_plc n j hj]
   ·rw [co_ge (by omega),co_ge (by rw [zdd];omega)])⟩)
 rw [e1,obs,e2]
theorem member_eq (t:Int):zeo t=some (decide (1<=t/\t<=255)):=threshold_eq t
theorem cunlike_eq (l:List (List UInt8)) (h:l.length<=most):zha l=some (l.any fun r=>!decide (r.length=(l.getD 0 []).length)) :=
 unlike_eq l h _ (fun r hr=>by
  have:l.getD 0 []=r:=by simp [List.getD_eq_getElem?_getD,hr]
  rw [this])
theorem atv_at (xs:List UInt8) (shares:List (List UInt8)) (d j:Nat) (hn:xs.Nodup) (hj:j<xs.length) (hd:(shares.getD j []).length=d):atv xs shares d (co xs j)=shares.getD j []:=by
 refine zcc (by unfold atv;rw [List.length_map,List.length_range,hd]) fun i=>?_
 unfold atv
 rw [zde]
 by_cases hi:i<d
 ·rw [if_pos hi,sm_one _ j _ (fun k hk hne=>by
   unfold wt
   rw [pe_zero xs k j (Ne.symm hne) _ hj,zero_mul,zero_mul]),if_pos hj]
  unfold wt
  rw [mul_inv (pe_ne hn hj _ (Nat.le_refl _)),one_mul]
 ·rw [if_neg hi,co_ge (by omega)]
def pc (parts:List (List UInt8)) (x:Nat):List UInt8:=atv (plc parts.length) parts (parts.getD 0 []).length (UInt8.ofNat x)
theorem Piece_ok (parts:List (List UInt8)) (x:Nat) (h0:parts.length≠0) (h1:parts.length<=255) (hx0:1<=x) (hx1:x<=255) (hU:(parts.any fun r=>!decide (r.length=(parts.getD 0 []).length))=false) (hd:(parts.getD 0 []).length<=most) :
  zgi true parts (x:Int)=some (pc parts x,0):=by
 unfold zgi
 have hr:∀ r∈parts,r.length=(parts.getD 0 []).length:=by
  rw [List.any_eq_false] at hU
  intro r hr;simpa using hU r hr
 have h2:=h257
 have pl:=zdd parts.length
 rw [if_neg (by simp),member_eq,obs,if_neg (by simp;omega),member_eq,obs,if_neg (by simp;omega),cunlike_eq parts (by omega),hU,obs,if_neg (by decide)]
 by_cases hle:x<=parts.length
 ·have hlt:x - 1<parts.length:=by omega
  rw [if_pos (by omega),wI_pred x hx0 (by omega),zci hlt,obs]
  unfold zae
  rw [zel _ (by rw [hr _ (zfm hlt)];exact hd),obs]
  have:=atv_at (plc parts.length) parts (parts.getD 0 []).length (x - 1) (plc_nodup _ h1) (by omega) (hr _ (zfm hlt))
  rw [co_plc _ _ hlt,show x - 1+1=x by omega] at this
  unfold pc
  rw [this]
 ·rw [if_neg (by omega),places_eq _ h1,obs,zgj,At_ok _ parts _ _ pl (by omega) (by omega) (plc_nodup _ h1) hr hd]
  rfl
theorem Encode_ok (parts:List (List UInt8)) (n:Nat) (h0:parts.length≠0) (hn:parts.length<=n) (h1:n<=255) (hU:(parts.any fun r=>!decide (r.length=(parts.getD 0 []).length))=false) (hd:(parts.getD 0 []).length<=most) :
  zgs true (n:Int) parts=some ((List.range n).map fun i=>pc parts (i+1),0):=by
 unfold zgs
 have h2:=h257
 rw [if_neg (by simp),if_neg (by omega),if_neg (by omega),if_neg (by omega),cunlike_eq parts (by omega),hU,obs,if_neg (by decide)]
 have:iterC (fun s8:List (List UInt8)×Int=>(if s8.2<(n:Int) then ((zgi true parts (wI (s8.2+1))).bind fun r11=>(if r11.2=0 then ((appL s8.1 (([r11.1]:List (List UInt8)))).bind fun c16=>some (.inl (c16,(wI (s8.2+1))))) else some (.inr (Sum.inr (α:=List (List UInt8)) (([]:List (List UInt8)),r11.2))))) else some (.inr (.inl s8.1)))) (([]:List (List UInt8)),0)=some (.inl ((List.range n).map fun i=>pc parts (i+1))):=by
  refine zas (fun i=>((List.range i).map fun i=>pc parts (i+1),(i:Int))) n _ rfl ?_ ?_
  ·intro i hi
   simp only
   rw [if_pos (by omega),zau i (by omega),Piece_ok parts (i+1) h0 (by omega) (by omega) (by omega) hU hd,obs,if_pos rfl]
   unfold appL
   rw [if_pos (by simp;omega),obs,List.range_succ,List.map_append]
   rfl
  ·simp
 rw [this,obs,Sum.elim_inl]
end Gk

/- Chapter 9: bytes that are cut and glued; the law CodeCuts. No condition. -/
namespace Gk
open Gf
def psz (n t:Nat):Nat:=n / t+(if 0<n % t then 1 else 0)
theorem psz_spec (n t:Nat) (h:0<t):n<=psz n t * t/\∀ k,k<psz n t->k * t<n:=by
 have h1:=Nat.div_add_mod n t
 have h2:=Nat.mod_lt n h
 unfold psz
 rw [Nat.mul_comm] at h1
 constructor
 ·rw [Nat.add_mul]
  split
  ·rw [Nat.one_mul];omega
  ·rw [Nat.zero_mul];omega
 ·intro k hk
  split at hk
  ·have:=Nat.mul_le_mul_right t (show k<=n / t by omega)
   omega
  ·have:=Nat.mul_le_mul_right t (show k+1<=n / t by omega)
   rw [Nat.add_mul,Nat.one_mul] at this
   omega
theorem PartSize_eq (n t:Nat) (h0:1<=t) (h1:t<=255) (hn:n<=most):zdo (n:Int) (t:Int)=some (psz n t:Int):=by
 unfold zdo psz
 have hmo:=za8
 have hdiv:=Nat.div_le_self n t
 rw [member_eq,decide_eq_true (by omega),obs,if_neg (by decide),if_neg (by omega),zix _ _ (by omega) (by omega),obs,zfn _ _ (by omega),obs]
 by_cases h:0<n % t
 ·rw [if_pos (by omega),if_pos h,zau _ (by omega)]
 ·rw [if_neg (by omega),if_neg h];rfl
def cutR (b:List UInt8) (t N:Nat):List (List UInt8):=(List.range t).map fun i=>(List.range N).map fun k=>co b (i * N+k)
theorem cutR_len (b:List UInt8) (t N:Nat):(cutR b t N).length=t:=by simp [cutR]
theorem cutR_flat (b:List UInt8) (N:Nat):∀ t,(cutR b t N).flatten=(List.range (t * N)).map (co b)
 | 0=>by simp [cutR]
 | t+1=>by
  have e:cutR b (t+1) N=cutR b t N ++ [(List.range N).map fun k=>co b (t * N+k)]:=by unfold cutR;rw [List.range_succ,List.map_append];rfl
  rw [e,List.flatten_append,cutR_flat b N t,Nat.add_mul,Nat.one_mul,List.range_add,List.map_append]
  simp [Function.comp]
theorem Cut_ok (b:List UInt8) (t:Nat) (h0:1<=t) (h1:t<=255) (hb:b.length<=2000):code_Cut b (t:Int)=some (cutR b t (psz b.length t),0):=by
 unfold code_Cut
 have hmo:=h257
 have hm9:100000<=most:=by decide
 obtain ⟨p1,p2⟩:=psz_spec b.length t (by omega)
 have hN:psz b.length t * t<=3000:=by
  by_cases h:psz b.length t=0
  ·rw [h];omega
  ·have:=p2 (psz b.length t - 1) (by omega)
   have e:psz b.length t=(psz b.length t - 1)+1:=by omega
   rw [e,Nat.add_mul,Nat.one_mul];omega
 rw [member_eq,decide_eq_true (by omega),obs,if_neg (by decide),PartSize_eq _ _ h0 h1 (by omega),obs]
 generalize psz b.length t=N at p1 p2 hN ⊢
 have hNt:N<=N * t:=Nat.le_mul_of_pos_right _ (by omega)
 have wm:∀ i,i<=t->wI ((i:Int) * (N:Int))=((i * N:Nat):Int):=fun i hi=>by
  have:=Nat.mul_le_mul_right N hi
  rw [Nat.mul_comm t N] at this
  rw [← Int.natCast_mul];exact wI_nat (by omega)
 rw [show wI ((N:Int) * (t:Int))=((N * t:Nat):Int) by rw [← Int.natCast_mul];exact wI_nat (by omega),zcg _ _ (by omega),obs]
 refine zbh (zas (fun i=>(cutR b i N,(i:Int))) t (cutR b t N) rfl ?_ (by simp)) rfl
 intro i hi
 have hle:=Nat.mul_le_mul_right N (show i+1<=t by omega)
 rw [Nat.mul_comm t N] at hle
 have hi1:(i+1) * N=i * N+N:=by rw [Nat.add_mul,Nat.one_mul]
 have hcl:(copyL (List.replicate (N * t) (0:UInt8)) 0 b).length=N * t:=by
  have:=zgq (List.replicate (N * t) (0:UInt8)) 0 b (Nat.zero_le _)
  rwa [List.length_replicate] at this
 have hcc:∀ j,co (copyL (List.replicate (N * t) (0:UInt8)) 0 b) j=co b j:=fun j=>by
  have:=co_copyL (List.replicate (N * t) (0:UInt8)) 0 b (by rw [List.length_replicate];omega) j
  rw [show ((0:Nat):Int)=0 from rfl] at this
  rw [this,co_rep]
  split
  ·rfl
  ·rw [co_ge (by omega)]
 have hrow:((copyL (List.replicate (N * t) (0:UInt8)) 0 b).take ((i+1) * N)).drop (i * N)=(List.range N).map fun k=>co b (i * N+k):=by
  refine zcc (by rw [List.length_drop,List.length_take,hcl];simp;omega) fun k=>?_
  rw [co_drop,co_take,zde]
  by_cases hk:k<N
  ·rw [if_pos (by omega),if_pos hk,hcc]
  ·rw [if_neg (by omega),if_neg hk]
 simp only
 rw [if_pos (by omega),wm i (by omega),zau i (by omega),wm (i+1) (by omega),zdj _ _ _ (by omega) (by omega),obs,hrow]
 unfold zae
 rw [zel _ (by simp;omega),obs,zen _ _ (by rw [cutR_len];simp;omega) rfl,obs]
 unfold cutR
 rw [List.range_succ,List.map_append]
 rfl
theorem Glue_ok (l:List (List UInt8)) (n:Nat) (h:l.flatten.length<=most) (hl:l.length<=most) (hn:n<=l.flatten.length):zid l (n:Int)=some (l.flatten.take n,0):=by
 unfold zid
 rw [Concat_eq l h hl,obs,if_neg (by omega),if_neg (by omega)]
 unfold subL3
 rw [if_pos (by omega)]
 simp
end Gk

/- Structs of whole numbers, as values and behind pointers. No condition. -/
namespace Gk
open Go Go.RowKit
structure TyG (P:Program) (t e:TypeId) (n:Nat):Prop where
 agg:∀ w,(isAgg t).run P w=.ok true w
 size:∀ w,(Go.sizeOf t).run P w=.ok n w
 esz:∀ w,(Go.sizeOf e).run P w=.ok 1 w
 eagg:∀ w,(isAgg e).run P w=.ok false w
section
variable {P : Program} {o : Oper} {f : Nat → Value} {w : World} {x y : Operand} {t e T : TypeId} {g m n j : Nat} {cs : Array Value} {u v : Value} {α : Type} {enc : α → Value} {l l' : List α} {i : Int} {a b : α}
theorem run_loadSegG (A:TyG P t e n) (h:Blk w g T cs) {us:List Value} (hs:Seg cs m us) (hl:us.length=n):(loadVar t ⟨g,m,none⟩).run P w=.ok (.agg us.toArray) w:=by
 have:=run_loadCells_list (P:=P) w ⟨g,m,none⟩ us (fun j v hj=>by
  have hlt:j<us.length:=(List.getElem?_eq_some_iff.1 hj).1
  rw [zbz,h.cell,hs j hlt];exact hj)
 rw [hl] at this
 simp [loadVar,A.agg,A.size,this]
theorem zet (ho:o.op=.load t x) (A:TyG P t e n) (hx:ev f x=.pointer (some ⟨g,m,none⟩)) (h:Blk w g T cs) (hs:Seg cs m (l.map enc)) (hl:l.length=n):Qt P o f w (ag enc l):=by
 intro w' hE
 have:=run_loadSegG (w:=w') A (h.ext hE) hs (by simpa using hl)
 simp [execOp,ho,hx,Instr.loadAt,Instr.sureAddr,this,ag,ac]
theorem stp_storeG (L1 L2:List Value) (ho:o.op=.store t x y) (A:TyG P t e n) (hx:ev f x=bp g) (hy:ev f y=ag enc l') (hl:l.length=n) (hl':l'.length=n) (h:Blk w g T (ac enc l)) (hc:∀ x,(enc x).oneCell'=true)
  {K:Value->World->Prop} (hk:∀ w',Blk w' g T (ac enc l')->Gr w w' (bp g)->Lift w w' (L1 ++ bp g :: L2) (L1 ++ bp g :: L2)->K undef w'):Stp P o f w K:=by
 have hrun:=run_storeCells_at (P:=P) g 0 T (l'.map enc) 0 (ac enc l) w h (by simp [ac];omega) (fun v hv=>by obtain ⟨x,_,rfl⟩:=List.mem_map.1 hv;exact hc x)
 have e0:spl (ac enc l) 0 (l'.map enc)=ac enc l':=spl_all (by rw [ziq];omega)
 have hb:Blk (w.setRow g (spl (ac enc l) 0 (l'.map enc))) g T (spl (ac enc l) 0 (l'.map enc)):=setRow_heap w g _ _ T _ h
 have hg:w.grownBy (w.setRow g (spl (ac enc l) 0 (l'.map enc))) (some g):=⟨rfl,rfl,rfl,by simp [World.setRow],fun k _ hk=>setRow_other w g k _ (fun e=>hk (by rw [e]))⟩
 have hgr:Gr w (w.setRow g (spl (ac enc l) 0 (l'.map enc))) (bp g):=Gr.of hg
 refine zg9 (w':=w.setRow g (spl (ac enc l) 0 (l'.map enc))) ?_ (hk _ (by rw [e0] at hb;rw [e0];exact hb) hgr (Lift.own L1 L2 hgr (Nx.refl _ _)))
 have hsz:(ac enc l').size=n:=by rw [ziq];exact hl'
 simp only [Nat.add_zero] at hrun
 have hrun':(storeCells ⟨g,0,none⟩ (ac enc l').toList).run P w=.ok () (w.setRow g (spl (ac enc l) 0 (l'.map enc))):=by simpa [ac,spl] using hrun
 simp [execOp,ho,hx,hy,Instr.storeAt,Instr.sureAddr,storeVar,ag,Value.cells,A.size,hsz,hrun']
theorem zcu (ho:o.op=.fieldAddr t x j) (hf:∀ (a:Addr) (w:World),(Instr.fieldAt t (.pointer (some a)) j).run P w=.ok (.pointer (some (a.add j))) w) (hx:ev f x=bp g):Qa P o f (bpo g (0+(j:Int).toNat)):=by
 intro w'
 simp [execOp,ho,hx,hf,zbz]
theorem zbg (ho:o.op=.load e x) (A:TyG P t e n) (hx:ev f x=bpo g (m+i.toNat)) (h:Blk w g T cs) (hs:Seg cs m (l.map enc)) (hi:idx l i=some a):Qt P o f w (enc a):=by
 obtain ⟨h0,h1,h2⟩:=zbv.1 hi
 refine zal ho A.eagg hx h ?_
 rw [hs i.toNat (by simpa using h1)]
 simp [h1,h2]
theorem stp_storeXG (L1 L2:List Value) (ho:o.op=.store e x y) (A:TyG P t e n) (hx:ev f x=bpo g (0+i.toNat)) (hy:ev f y=enc b) (h:Blk w g T (ac enc l)) (hi:idx l i=some a) (hc:(enc b).oneCell'=true)
  {K:Value->World->Prop} (hk:∀ w',Blk w' g T (ac enc (l.set i.toNat b))->Gr w w' (bp g)->Lift w w' (L1 ++ bp g :: L2) (L1 ++ bp g :: L2)->K undef w'):Stp P o f w K:=by
 obtain ⟨h0,h1,h2⟩:=zbv.1 hi
 exact zcv ho A.esz hx hy h (by rw [ziq];omega) hc fun w' hB hg=>hk w' (by rw [Nat.zero_add,ac_set] at hB;exact hB) (Gr.of hg) (Lift.own L1 L2 (Gr.of hg) (Nx.refl _ _))
theorem bs2 {i j:Nat} {a b a' b':Value} (h:a=a') (k:b=b'):([(i,a),(j,b)]:List (Nat×Value)).toArray=#[(i,a'),(j,b')]:=by rw [h,k]
theorem bs3 {i j m:Nat} {a b c a' b' c':Value} (h:a=a') (k:b=b') (q:c=c'):([(i,a),(j,b),(m,c)]:List (Nat×Value)).toArray=#[(i,a'),(j,b'),(m,c')]:=by rw [h,k,q]
theorem q_buildS {parts:Array (Nat×Operand)} (ho:o.op=.build t parts) {ps:Array (Nat×Value)} (hp:(parts.map fun p=>(p.1,ev f p.2))=ps) (h:∀ w,(Instr.build t ps).run P w=.ok v w):Qa P o f v:=by
 intro w'
 have:(parts.map fun (i,x)=>(i,ev f x))=ps:=hp
 simp [execOp,ho,this,h]
end
section
variable {P : Program} {fn : Func} {n : Nat} {R : Ending → World → Prop} {f : Nat → Value} {w : World} {t e T : TypeId} {a g m : Nat} {α : Type} {enc : α → Value} {l : List α}
theorem rtcG1 (A:TyG P T e m) (hr:fn.results=#[.cell a T]) (ha:Nat.blt a n=true) (hv:f a=bp g) (hB:Blk w g t (ac enc l)) (hl:l.length=m) (hm:f n=undef) (h:R (.returned (ag enc l)) w):Rt P fn n R .ret f w:=by
 have hrun:=run_loadSegG A hB (zaj enc l) (by simpa using hl)
 refine .inl ⟨by rw [hm];rfl,ag enc l,?_,h⟩
 have hg:(fr n f).tmps.getD a undef=bp g:=by rw [zdz n f a ha,hv]
 simp [results,hr,← Array.getD_eq_getD_getElem?,hg,asAddr,hrun,ag,ac]
end
end Gk

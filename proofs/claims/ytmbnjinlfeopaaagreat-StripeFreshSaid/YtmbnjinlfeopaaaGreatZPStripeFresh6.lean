/- Parts Nk, Hs, Fs, F17, L17, Qk, Fh, LAa, Fg, Rc, GmI, GmJ, F10r, Sx, F10p, F10q, LAr, LAf, Ms0, Pa, Pe, Nd0, Pg, LAg, Pq, Px, one behind the other. What is proved: said at the head of each part. No condition beside those said there. -/
import Derived.Test.YtmbnjinlfeopaaaGreatRows
import Derived.Orders
import Derived.Deep.Draws
import Derived.Laws.World
import Derived.KernelRfl
import Derived.OrdersIn
import Derived.TacticsIn
import Derived.RangeFuncCalls
import Derived.Deep.LoopGhost
import Derived.Tactics
import Derived.Sort.LoopGhostIn
import Derived.RangeFuncLeaves
import Derived.RangeFuncNested
import Derived.RangeFuncRecord
import Derived.Laws.Sem
import Derived.OwnWalk
import Derived.RangeFuncWrites
import Derived.Laws.IdiomCopy
import Derived.WalkKit
import Derived.ProofKit
import Derived.OpenShut
import Derived.ChangeOld
import Derived.Below
import Derived.Test.YtmbnjinlfeopaaaGreatProg
import Derived.MapKept
import Derived.Lib.AppendZerosOnto
import Derived.Laws.CopyRow
import Derived.Laws.Cells
import Derived.Lib.SlBytesConst
import Derived.Test.YtmbnjinlfeopaaaGreatZPStripeFresh1
import Derived.Test.YtmbnjinlfeopaaaGreatZPStripeFresh2
import Derived.Test.YtmbnjinlfeopaaaGreatZPStripeFresh3
import Derived.Test.YtmbnjinlfeopaaaGreatZPStripeFresh4
import Derived.Test.YtmbnjinlfeopaaaGreatZPStripeFresh5
set_option maxRecDepth 100000
set_option maxHeartbeats 8000000
set_option linter.unusedVariables false
set_option linter.unusedSimpArgs false
/- Chapter 9: bytes that are cut and glued; the law CodeCuts. No condition. -/
namespace Gk
open Gf
def psz (n t:Nat):Nat:=n / t+(if 0<n % t then 1 else 0)
theorem psz_spec (n t:Nat) (h:0<t):n<=psz n t * t/\∀ k,k<psz n t->k * t<n:=by
 have h1:=Nat.div_add_mod n t
 have h2:=Nat.mod_lt n h
 unfold psz
 rw [Nat.mul_comm] at h1
 constructor
 ·rw [Nat.add_mul]
  split
  ·rw [Nat.one_mul];omega
  ·rw [Nat.zero_mul];omega
 ·intro k hk
  split at hk
  ·have:=Nat.mul_le_mul_right t (show k<=n / t by omega)
   omega
  ·have:=Nat.mul_le_mul_right t (show k+1<=n / t by omega)
   rw [Nat.add_mul,Nat.one_mul] at this
   omega
theorem PartSize_eq (n t:Nat) (h0:1<=t) (h1:t<=255) (hn:n<=most):zd4 (n:Int) (t:Int)=some (psz n t:Int):=by
 unfold zd4 psz
 have hmo:=zbb
 have hdiv:=Nat.div_le_self n t
 rw [member_eq,decide_eq_true (by omega),obs,if_neg (by decide),if_neg (by omega),zhh _ _ (by omega) (by omega),obs,zch _ _ (by omega),obs]
 by_cases h:0<n % t
 ·rw [if_pos (by omega),if_pos h,zas _ (by omega)]
 ·rw [if_neg (by omega),if_neg h];rfl
def cutR (b:List UInt8) (t N:Nat):List (List UInt8):=(List.range t).map fun i=>(List.range N).map fun k=>co b (i * N+k)
theorem zkh (b:List UInt8) (t N:Nat):(cutR b t N).length=t:=by simp [cutR]
theorem cutR_flat (b:List UInt8) (N:Nat):∀ t,(cutR b t N).flatten=(List.range (t * N)).map (co b)
 | 0=>by simp [cutR]
 | t+1=>by
  have e:cutR b (t+1) N=cutR b t N ++ [(List.range N).map fun k=>co b (t * N+k)]:=by unfold cutR;rw [List.range_succ,List.map_append];rfl
  rw [e,List.flatten_append,cutR_flat b N t,Nat.add_mul,Nat.one_mul,List.range_add,List.map_append]
  simp [Function.comp]
theorem Cut_ok (b:List UInt8) (t:Nat) (h0:1<=t) (h1:t<=255) (hb:b.length<=2000):code_Cut b (t:Int)=some (cutR b t (psz b.length t),0):=by
 unfold code_Cut
 have hmo:=h257
 have hm9:100000<=most:=by decide
 obtain ⟨p1,p2⟩:=psz_spec b.length t (by omega)
 have hN:psz b.length t * t<=3000:=by
  by_cases h:psz b.length t=0
  ·rw [h];omega
  ·have:=p2 (psz b.length t - 1) (by omega)
   have e:psz b.length t=(psz b.length t - 1)+1:=by omega
   rw [e,Nat.add_mul,Nat.one_mul];omega
 rw [member_eq,decide_eq_true (by omega),obs,if_neg (by decide),PartSize_eq _ _ h0 h1 (by omega),obs]
 generalize psz b.length t=N at p1 p2 hN ⊢
 have hNt:N<=N * t:=Nat.le_mul_of_pos_right _ (by omega)
 have wm:∀ i,i<=t->wI ((i:Int) * (N:Int))=((i * N:Nat):Int):=fun i hi=>by
  have:=Nat.mul_le_mul_right N hi
  rw [Nat.mul_comm t N] at this
  rw [← Int.natCast_mul];exact wI_nat (by omega)
 rw [show wI ((N:Int) * (t:Int))=((N * t:Nat):Int) by rw [← Int.natCast_mul];exact wI_nat (by omega),zbj _ _ (by omega),obs]
 refine zay (zal (fun i=>(cutR b i N,(i:Int))) t (cutR b t N) rfl ?_ (by simp)) rfl
 intro i hi
 have hle:=Nat.mul_le_mul_right N (show i+1<=t by omega)
 rw [Nat.mul_comm t N] at hle
 have hi1:(i+1) * N=i * N+N:=by rw [Nat.add_mul,Nat.one_mul]
 have hcl:(copyL (List.replicate (N * t) (0:UInt8)) 0 b).length=N * t:=by
  have:=zh3 (List.replicate (N * t) (0:UInt8)) 0 b (Nat.zero_le _)
  rwa [List.length_replicate] at this
 have hcc:∀ j,co (copyL (List.replicate (N * t) (0:UInt8)) 0 b) j=co b j:=fun j=>by
  have:=co_copyL (List.replicate (N * t) (0:UInt8)) 0 b (by rw [List.length_replicate];omega) j
  rw [show ((0:Nat):Int)=0 from rfl] at this
  rw [this,co_rep]
  split
  ·rfl
  ·rw [co_ge (by omega)]
 have hrow:((copyL (List.replicate (N * t) (0:UInt8)) 0 b).take ((i+1) * N)).drop (i * N)=(List.range N).map fun k=>co b (i * N+k):=by
  refine zb2 (by rw [List.length_drop,List.length_take,hcl];simp;omega) fun k=>?_
  rw [co_drop,zkc,zc3]
  by_cases hk:k<N
  ·rw [if_pos (by omega),if_pos hk,hcc]
  ·rw [if_neg (by omega),if_neg hk]
 simp only
 rw [if_pos (by omega),wm i (by omega),zas i (by omega),wm (i+1) (by omega),zd3 _ _ _ (by omega) (by omega),obs,hrow]
 unfold zaj
 rw [zfv _ (by simp;omega),obs,zdz _ _ (by rw [zkh];simp;omega) rfl,obs]
 unfold cutR
 rw [List.range_succ,List.map_append]
 rfl
theorem Glue_ok (l:List (List UInt8)) (n:Nat) (h:l.flatten.length<=most) (hl:l.length<=most) (hn:n<=l.flatten.length):zi0 l (n:Int)=some (l.flatten.take n,0):=by
 unfold zi0
 rw [Concat_eq l h hl,obs,if_neg (by omega),if_neg (by omega)]
 unfold subL3
 rw [if_pos (by omega)]
 simp
theorem refCut_eq (b:List UInt8) (t:Nat) (h0:1<=t) (h1:t<=255) (hb:b.length<=2000):ref09_Cut b (t:Int)=some (cutR b t (psz b.length t)):=by
 unfold ref09_Cut
 have hmo:=h257
 have hm9:100000<=most:=by decide
 obtain ⟨p1,p2⟩:=psz_spec b.length t (by omega)
 generalize hNe:psz b.length t=N at p1 p2 ⊢
 have hN:N * t<=3000:=by
  by_cases h:N=0
  ·rw [h];omega
  ·have:=p2 (N - 1) (by omega)
   have e:N=(N - 1)+1:=by omega
   rw [e,Nat.add_mul,Nat.one_mul];omega
 have hNt:N<=N * t:=Nat.le_mul_of_pos_right _ (by omega)
 refine zay (zal (fun i=>(i:Int)) N (N:Int) rfl ?_ ?_) ?_
 ·intro i hi
  have:=p2 i hi
  rw [show wI ((i:Int) * (t:Int))=((i * t:Nat):Int) by rw [← Int.natCast_mul];exact wI_nat (by omega),if_pos (by omega),zas i (by omega)]
 ·rw [show wI ((N:Int) * (t:Int))=((N * t:Nat):Int) by rw [← Int.natCast_mul];exact wI_nat (by omega),if_neg (by omega)]
 rw [zbj _ _ (by omega),obs]
 refine zay (rows_loop (List.replicate t ([]:List UInt8)) t (by simp) (fun i=>(List.range N).map fun k=>co b (i * N+k)) (fun i hi=>?_) (fun s=>by simp)) rfl
 simp only
 have hU:=zih (List.replicate t ([]:List UInt8)) (fun i=>(List.range N).map fun k=>co b (i * N+k)) i
 have hG:=zjw (List.replicate t ([]:List UInt8)) (fun i=>(List.range N).map fun k=>co b (i * N+k)) i i (by simpa using hi)
 rw [if_neg (by omega),getD_rep _ hi] at hG
 rw [List.length_replicate] at hU
 generalize updR (List.replicate t ([]:List UInt8)) (fun i=>(List.range N).map fun k=>co b (i * N+k)) i=s at hU hG ⊢
 have hle:=Nat.mul_le_mul_right N (show i+1<=t by omega)
 rw [Nat.mul_comm t N,Nat.add_mul,Nat.one_mul] at hle
 rw [if_pos (by rw [List.length_replicate];omega),show wI ((i:Int) * (N:Int))=((i * N:Nat):Int) by rw [← Int.natCast_mul];exact wI_nat (by omega)]
 refine zay (zal (fun k=>(s.set i ((List.range k).map fun k=>co b (i * N+k)),(k:Int))) N (s.set i ((List.range N).map fun k=>co b (i * N+k))) ?_ ?_ (by simp)) (by rw [zas i (by omega)])
 ·congr 1
  have:=set_getD s i
  rw [hG] at this
  exact this.symm
 ·intro k hk
  simp only
  rw [if_pos (by omega),zg7 _ _ (by omega)]
  have hx:((if ((i * N+k:Nat):Int)<(b.length:Int) then ((idx b ((i * N+k:Nat):Int)).bind fun c19=>some c19) else some (0:UInt8)))=some (co b (i * N+k)):=by
   by_cases hlt:i * N+k<b.length
   ·rw [if_pos (by omega),za4 hlt];rfl
   ·rw [if_neg (by omega),co_ge (by omega)]
  rw [hx,obs,idx_set (by omega),obs,zdz _ _ (by simp;omega) rfl,obs,Int.toNat_natCast,List.set_set,zas k (by omega),List.range_succ,List.map_append]
  rfl
end Gk

/- Structs of whole numbers, as values and behind pointers. No condition. -/
namespace Gk
open Go Go.RowKit
structure TyG (P:Program) (t e:TypeId) (n:Nat):Prop where
 agg:∀ w,(isAgg t).run P w=.ok true w
 size:∀ w,(Go.sizeOf t).run P w=.ok n w
 esz:∀ w,(Go.sizeOf e).run P w=.ok 1 w
 eagg:∀ w,(isAgg e).run P w=.ok false w
section
variable {P : Program} {o : Oper} {f : Nat → Value} {w : World} {x y : Operand} {t e T : TypeId} {g m n j : Nat} {cs : Array Value} {u v : Value} {α : Type} {enc : α → Value} {l l' : List α} {i : Int} {a b : α}
theorem run_loadSegG (A:TyG P t e n) (h:Blk w g T cs) {us:List Value} (hs:Seg cs m us) (hl:us.length=n):(loadVar t ⟨g,m,none⟩).run P w=.ok (.agg us.toArray) w:=by
 have:=run_loadCells_list (P:=P) w ⟨g,m,none⟩ us (fun j v hj=>by
  have hlt:j<us.length:=(List.getElem?_eq_some_iff.1 hj).1
  rw [zcg,h.cell,hs j hlt];exact hj)
 rw [hl] at this
 simp [loadVar,A.agg,A.size,this]
theorem zdd (ho:o.op=.load t x) (A:TyG P t e n) (hx:ev f x=.pointer (some ⟨g,m,none⟩)) (h:Blk w g T cs) (hs:Seg cs m (l.map enc)) (hl:l.length=n):Qt P o f w (ag enc l):=by
 intro w' hE
 have:=run_loadSegG (w:=w') A (h.ext hE) hs (by simpa using hl)
 simp [execOp,ho,hx,Instr.loadAt,Instr.sureAddr,this,ag,ac]
theorem stp_storeG (L1 L2:List Value) (ho:o.op=.store t x y) (A:TyG P t e n) (hx:ev f x=bp g) (hy:ev f y=ag enc l') (hl:l.length=n) (hl':l'.length=n) (h:Blk w g T (ac enc l)) (hc:∀ x,(enc x).oneCell'=true)
  {K:Value->World->Prop} (hk:∀ w',Blk w' g T (ac enc l')->Gr w w' (bp g)->Lift w w' (L1 ++ bp g :: L2) (L1 ++ bp g :: L2)->K undef w'):Stp P o f w K:=by
 have hrun:=run_storeCells_at (P:=P) g 0 T (l'.map enc) 0 (ac enc l) w h (by simp [ac];omega) (fun v hv=>by obtain ⟨x,_,rfl⟩:=List.mem_map.1 hv;exact hc x)
 have e0:spl (ac enc l) 0 (l'.map enc)=ac enc l':=spl_all (by rw [zkf];omega)
 have hb:Blk (w.setRow g (spl (ac enc l) 0 (l'.map enc))) g T (spl (ac enc l) 0 (l'.map enc)):=setRow_heap w g _ _ T _ h
 have hg:w.grownBy (w.setRow g (spl (ac enc l) 0 (l'.map enc))) (some g):=⟨rfl,rfl,rfl,by simp [World.setRow],fun k _ hk=>setRow_other w g k _ (fun e=>hk (by rw [e]))⟩
 have hgr:Gr w (w.setRow g (spl (ac enc l) 0 (l'.map enc))) (bp g):=Gr.of hg
 refine zh6 (w':=w.setRow g (spl (ac enc l) 0 (l'.map enc))) ?_ (hk _ (by rw [e0] at hb;rw [e0];exact hb) hgr (Lift.own L1 L2 hgr (Nx.refl _ _)))
 have hsz:(ac enc l').size=n:=by rw [zkf];exact hl'
 simp only [Nat.add_zero] at hrun
 have hrun':(storeCells ⟨g,0,none⟩ (ac enc l').toList).run P w=.ok () (w.setRow g (spl (ac enc l) 0 (l'.map enc))):=by simpa [ac,spl] using hrun
 simp [execOp,ho,hx,hy,Instr.storeAt,Instr.sureAddr,storeVar,ag,Value.cells,A.size,hsz,hrun']
theorem zcp (ho:o.op=.fieldAddr t x j) (hf:∀ (a:Addr) (w:World),(Instr.fieldAt t (.pointer (some a)) j).run P w=.ok (.pointer (some (a.add j))) w) (hx:ev f x=bp g):Qa P o f (bpo g (0+(j:Int).toNat)):=by
 intro w'
 simp [execOp,ho,hx,hf,zcg]
theorem zbh (ho:o.op=.load e x) (A:TyG P t e n) (hx:ev f x=bpo g (m+i.toNat)) (h:Blk w g T cs) (hs:Seg cs m (l.map enc)) (hi:idx l i=some a):Qt P o f w (enc a):=by
 obtain ⟨h0,h1,h2⟩:=zb5.1 hi
 refine zan ho A.eagg hx h ?_
 rw [hs i.toNat (by simpa using h1)]
 simp [h1,h2]
theorem stp_storeXG (L1 L2:List Value) (ho:o.op=.store e x y) (A:TyG P t e n) (hx:ev f x=bpo g (0+i.toNat)) (hy:ev f y=enc b) (h:Blk w g T (ac enc l)) (hi:idx l i=some a) (hc:(enc b).oneCell'=true)
  {K:Value->World->Prop} (hk:∀ w',Blk w' g T (ac enc (l.set i.toNat b))->Gr w w' (bp g)->Lift w w' (L1 ++ bp g :: L2) (L1 ++ bp g :: L2)->K undef w'):Stp P o f w K:=by
 obtain ⟨h0,h1,h2⟩:=zb5.1 hi
 exact zdg ho A.esz hx hy h (by rw [zkf];omega) hc fun w' hB hg=>hk w' (by rw [Nat.zero_add,ac_set] at hB;exact hB) (Gr.of hg) (Lift.own L1 L2 (Gr.of hg) (Nx.refl _ _))
theorem bs2 {i j:Nat} {a b a' b':Value} (h:a=a') (k:b=b'):([(i,a),(j,b)]:List (Nat×Value)).toArray=#[(i,a'),(j,b')]:=by rw [h,k]
theorem bs3 {i j m:Nat} {a b c a' b' c':Value} (h:a=a') (k:b=b') (q:c=c'):([(i,a),(j,b),(m,c)]:List (Nat×Value)).toArray=#[(i,a'),(j,b'),(m,c')]:=by rw [h,k,q]
theorem q_buildS {parts:Array (Nat×Operand)} (ho:o.op=.build t parts) {ps:Array (Nat×Value)} (hp:(parts.map fun p=>(p.1,ev f p.2))=ps) (h:∀ w,(Instr.build t ps).run P w=.ok v w):Qa P o f v:=by
 intro w'
 have:(parts.map fun (i,x)=>(i,ev f x))=ps:=hp
 simp [execOp,ho,this,h]
end
section
variable {P : Program} {fn : Func} {n : Nat} {R : Ending → World → Prop} {f : Nat → Value} {w : World} {t e T : TypeId} {a g m : Nat} {α : Type} {enc : α → Value} {l : List α}
theorem rtcG1 (A:TyG P T e m) (hr:fn.results=#[.cell a T]) (ha:Nat.blt a n=true) (hv:f a=bp g) (hB:Blk w g t (ac enc l)) (hl:l.length=m) (hm:f n=undef) (h:R (.returned (ag enc l)) w):Rt P fn n R .ret f w:=by
 have hrun:=run_loadSegG A hB (zaf enc l) (by simpa using hl)
 refine .inl ⟨by rw [hm];rfl,ag enc l,?_,h⟩
 have hg:(fr n f).tmps.getD a undef=bp g:=by rw [zeo n f a ha,hv]
 simp [results,hr,← Array.getD_eq_getD_getElem?,hg,asAddr,hrun,ag,ac]
end
end Gk

/- This seat's struct of whole numbers: Shape. No condition. -/
namespace Gk
open Go Go.Proofs Go.RowKit
theorem G25:TyG Tryz.prog 25 3 4:=⟨Tryz.isAgg25,Tryz.sizeOf25,Tryz.sizeOf3,Tryz.isAgg3⟩
theorem Z25:∀ w,(zeroValue 25).run Tryz.prog w=.ok (ag i64 (List.replicate 4 (0:Int))) w:=fun w=>by rw [Tryz.zeroValue25];rfl
theorem fieldS0 (a:Addr) (w:World):(Instr.fieldAt 25 (.pointer (some a)) 0).run Tryz.prog w=.ok (.pointer (some (a.add 0))) w:=by simp [Instr.fieldAt,Instr.sureAddr,fieldPlace]
theorem zf2 (a:Addr) (w:World):(Instr.fieldAt 25 (.pointer (some a)) 1).run Tryz.prog w=.ok (.pointer (some (a.add 1))) w:=by simp [Instr.fieldAt,Instr.sureAddr,fieldPlace]
theorem zic (a:Addr) (w:World):(Instr.fieldAt 25 (.pointer (some a)) 2).run Tryz.prog w=.ok (.pointer (some (a.add 2))) w:=by simp [Instr.fieldAt,Instr.sureAddr,fieldPlace]
theorem fieldS3 (a:Addr) (w:World):(Instr.fieldAt 25 (.pointer (some a)) 3).run Tryz.prog w=.ok (.pointer (some (a.add 3))) w:=by simp [Instr.fieldAt,Instr.sureAddr,fieldPlace]
theorem buildS_0_2_3 (a b c:Int):∀ w,(Instr.build 25 #[(0,i64 a),(2,i64 b),(3,i64 c)]).run Tryz.prog w=.ok (ag i64 [a,0,b,c]) w:=fun w=>by
 unfold Instr.build
 simp only [Sem.run_bind,Z25,Result.andThen_ok,run_underlying Tryz.underlying25]
 simp [Tryz.sizeOf3,Instr.fill,Value.cells,ag,ac,i64,List.replicate]
theorem buildS_1_2 (a b:Int):∀ w,(Instr.build 25 #[(1,i64 a),(2,i64 b)]).run Tryz.prog w=.ok (ag i64 [0,a,b,0]) w:=fun w=>by
 unfold Instr.build
 simp only [Sem.run_bind,Z25,Result.andThen_ok,run_underlying Tryz.underlying25]
 simp [Tryz.sizeOf3,Instr.fill,Value.cells,ag,ac,i64,List.replicate]
end Gk

/- Printed by gen.py: for each Go function a pure function, and that the Go code comes to it. No condition beside the equation that says what the pure function gives. -/
namespace Gk
open Go Go.Proofs
noncomputable def zbx (a:List Int):Option Bool :=
((idx a 0).bind fun c =>
(if 0<=c then
(if c<2 then
((idx a 1).bind fun d =>
(if 1<=d then
((idx a 2).bind fun e =>
(if d<=e then
(if e<=255 then
((idx a 3).bind fun b =>
(if 0<=b then some (decide (b<=127))
else some false))
else some false)
else some false))
else some false))
else some false)
else some false))
theorem zcy (e:List Int) (w:Bool) (w0:World) (a:zbx e=some w) :
  Calls Tryz.prog 20 [ag i64 e].toArray w0 (fun x A=>x=.returned (.bool w)/\Ext w0 A):=by
 have z:Ext w0 w0:=Ext.refl w0;unfold zbx at a;refine zai (n:=38) Tryz.func20 V V V<|W_sr<|wls V V (zb9 (v:=ag i64 e) (cs:=ac i64 e) [] V V V ?_);intro C F b E y D;have B:=zaa y;have c:=z.trans B;refine av (.bool false) V V<|wnt<|W_sr<|bse a fun h s a=>wa V (zcp (j:=0) V fieldS0 V)<|wq V (zbh (m:=0) V G25 V b (zaf _ _) s)<|wa V (q_geI V V V)<|wlb V V (zbd (v:=(.bool (decide (0<=h)))) V V) (fun o=>?_) (fun o=>?_)
 ·replace a:=ifp o a;refine wa V (zcp (j:=0) V fieldS0 V)<|wq V (zbh (m:=0) V G25 V b (zaf _ _) s)<|wa V (q_ltI V V V)<|wa V (zaw (v:=(.bool (decide (h<2)))) V V V)<|wlb V V (zbd (v:=(.bool (decide (h<2)))) V V) (fun p=>?_) (fun p=>?_)
  ·replace a:=ifp p a;obtain ⟨f,t,a⟩:=bsi a;refine wa V (zcp (j:=1) V zf2 V)<|wq V (zbh (m:=0) V G25 V b (zaf _ _) t)<|wa V (q_geI V V V)<|wa V (zaw (v:=(.bool (decide (1<=f)))) V V V)<|wlb V V (zbd (v:=(.bool (decide (1<=f)))) V V) (fun q=>?_) (fun q=>?_)
   ·replace a:=ifp q a;refine wa V (zcp (j:=1) V zf2 V)<|wq V (zbh (m:=0) V G25 V b (zaf _ _) t)<|bse a fun g u a=>wa V (zcp (j:=2) V zic V)<|wq V (zbh (m:=0) V G25 V b (zaf _ _) u)<|wa V (q_leI V V V)<|wa V (zaw (v:=(.bool (decide (f<=g)))) V V V)<|wlb V V (zbd (v:=(.bool (decide (f<=g)))) V V) (fun i=>?_) (fun i=>?_)
    ·replace a:=ifp i a;refine wa V (zcp (j:=2) V zic V)<|wq V (zbh (m:=0) V G25 V b (zaf _ _) u)<|wa V (q_leI V V V)<|wa V (zaw (v:=(.bool (decide (g<=255)))) V V V)<|wlb V V (zbd (v:=(.bool (decide (g<=255)))) V V) (fun k=>?_) (fun k=>?_)
     ·replace a:=ifp k a;obtain ⟨d,r,a⟩:=bsi a;refine wa V (zcp (j:=3) V fieldS3 V)<|wq V (zbh (m:=0) V G25 V b (zaf _ _) r)<|wa V (q_geI V V V)<|wa V (zaw (v:=(.bool (decide (0<=d)))) V V V)<|wlb V V (zbd (v:=(.bool (decide (0<=d)))) V V) (fun l=>?_) (fun l=>?_)
      ·replace a:=ifp l a;refine wa V (zcp (j:=3) V fieldS3 V)<|wq V (zbh (m:=0) V G25 V b (zaf _ _) r)<|wa V (q_leI V V V)<|wa V (zaw (v:=(.bool (decide (d<=127)))) V V V)<|av (.bool (decide (d<=127))) V V<|wnt<|W_ret<|?_;obtain rfl:=osi a;refine rt1 (.bool (decide (d<=127))) V V V V ?_;exact ⟨rfl,c⟩
      replace a:=ifn l a;refine wk V<|wk V<|wk V<|wa V (zaq (v:=(.bool false)) V V V)<|av (.bool false) V V<|wnt<|W_ret<|?_;obtain rfl:=osi a;refine rt1 (.bool false) V V V V ?_;exact ⟨rfl,c⟩
     replace a:=ifn k a;refine wk V<|wk V<|wk V<|wa V (zaq (v:=(.bool false)) V V V)<|mv (.bool false) V V<|wk V<|wk V<|wk V<|wa V (zaq (v:=(.bool false)) V V V)<|av (.bool false) V V<|wnt<|W_ret<|?_;obtain rfl:=osi a;refine rt1 (.bool false) V V V V ?_;exact ⟨rfl,c⟩
    replace a:=ifn i a;refine wk V<|wk V<|wk V<|wa V (zaq (v:=(.bool false)) V V V)<|mv (.bool false) V V<|wk V<|wk V<|wk V<|?_;refine wa V (zaq (v:=(.bool false)) V V V)<|mv (.bool false) V V<|wk V<|wk V<|wk V<|wa V (zaq (v:=(.bool false)) V V V)<|av (.bool false) V V<|wnt<|W_ret ?_;obtain rfl:=osi a;refine rt1 (.bool false) V V V V ?_;exact ⟨rfl,c⟩
   replace a:=ifn q a;refine wk V<|wk V<|wk V<|wk V<|wk V<|wa V (zaq (v:=(.bool false)) V V V)<|mv (.bool false) V V<|wk V<|?_;refine wk V<|wk V<|wa V (zaq (v:=(.bool false)) V V V)<|mv (.bool false) V V<|wk V<|wk V<|wk V<|wa V (zaq (v:=(.bool false)) V V V)<|?_;refine mv (.bool false) V V<|wk V<|wk V<|wk V<|wa V (zaq (v:=(.bool false)) V V V)<|av (.bool false) V V<|wnt<|W_ret<|?_;obtain rfl:=osi a;refine rt1 (.bool false) V V V V ?_;exact ⟨rfl,c⟩
  replace a:=ifn p a;refine wk V<|wk V<|wk V<|wa V (zaq (v:=(.bool false)) V V V)<|mv (.bool false) V V<|wk V<|wk V<|wk V<|?_;refine wk V<|wk V<|wa V (zaq (v:=(.bool false)) V V V)<|mv (.bool false) V V<|wk V<|wk V<|wk V<|wa V (zaq (v:=(.bool false)) V V V)<|?_;refine mv (.bool false) V V<|wk V<|wk V<|wk V<|wa V (zaq (v:=(.bool false)) V V V)<|mv (.bool false) V V<|wk V<|wk V<|wk V<|wa V (zaq (v:=(.bool false)) V V V)<|av (.bool false) V V<|wnt<|W_ret<|?_;obtain rfl:=osi a;refine rt1 (.bool false) V V V V ?_;exact ⟨rfl,c⟩
 replace a:=ifn o a;refine wk V<|wk V<|wk V<|wa V (zaq (v:=(.bool false)) V V V)<|mv (.bool false) V V<|wk V<|wk V<|wk V<|?_;refine wa V (zaq (v:=(.bool false)) V V V)<|mv (.bool false) V V<|wk V<|wk V<|wk V<|wk V<|wk V<|wa V (zaq (v:=(.bool false)) V V V)<|?_;refine mv (.bool false) V V<|wk V<|wk V<|wk V<|wa V (zaq (v:=(.bool false)) V V V)<|mv (.bool false) V V<|wk V<|wk V<|?_;refine wk V<|wa V (zaq (v:=(.bool false)) V V V)<|mv (.bool false) V V<|wk V<|wk V<|wk V<|wa V (zaq (v:=(.bool false)) V V V)<|av (.bool false) V V<|wnt<|W_ret<|?_;obtain rfl:=osi a;refine rt1 (.bool false) V V V V ?_;exact ⟨rfl,c⟩
noncomputable def zcf (a:List Int):Option Int :=
((lenA 4 a).bind fun f =>
((zbx a).bind fun e =>
(if (!e)=true then some 0
else
((idx a 0).bind fun c =>
(if c=0 then some 440
else
((idx a 1).bind fun b =>
((zd4 473 b).bind fun d => some d)))))))
theorem zev (b:List Int) (h:Int) (w0:World) (a:zcf b=some h) :
  Calls Tryz.prog 21 [ag i64 b].toArray w0 (fun o z=>o=.returned (i64 h)/\Ext w0 z):=by
 have s:Ext w0 w0:=Ext.refl w0;unfold zcf at a;refine zai (n:=14) Tryz.func21 V V V<|W_sr<|wls V V (zb9 (v:=ag i64 b) (cs:=ac i64 b) [] V V V ?_);intro D G c F r E;have A:=zaa r;have q:=s.trans A;refine av (i64 0) V V<|wnt<|W_seq<|zac<|W_sr<|bse a fun C u a=>wq V (zdd (m:=0) V G25 V c (zaf _ _) (zad u)) ?_;obtain ⟨i,y,a⟩:=bsi a;refine wls V V (zab (vs:=[ag i64 b]) Tryz.func20 V V V (ar1 V) (zcy b  i _  y) ?_);rintro _ I ⟨rfl,k⟩;refine ⟨_,rfl,?_⟩;replace c:=c.ext k;have d:=q.trans k;refine wa V (q_not V V)<|av (.bool (!i)) V V<|wnt<|zam _ V V (fun e=>?_) (fun e=>?_)
 ·replace a:=(if_pos e).symm.trans a;refine W_sr<|av (i64 0) V V<|wnt<|W_ret<|bk_r<|th_r<|?_;obtain rfl:=osi a;refine rt1 (i64 0) V V V V ?_;exact ⟨rfl,d⟩
 replace a:=(if_neg (ne_true_of_eq_false e)).symm.trans a;refine W_sr<|bse a fun l w a=>wa V (zcp (j:=0) V fieldS0 V)<|wq V (zbh (m:=0) V G25 V c (zaf _ _) w)<|wa V (q_eqI V V V)<|av (.bool (decide (l=0))) V V<|wnt<|wci a V V (fun a=>?_) (fun a=>?_)
 ·refine W_sr<|av (i64 440) V V<|wnt<|W_ret<|bk_r<|th_r<|?_;obtain rfl:=osi a;refine rt1 (i64 440) V V V V ?_;exact ⟨rfl,d⟩
 refine zae<|bk_n<|W_th<|W_sr<|bse a fun g t a=>wa V (zcp (j:=1) V zf2 V)<|wq V (zbh (m:=0) V G25 V c (zaf _ _) t)<|?_;obtain ⟨f,x,a⟩:=bsi a;refine wls V V (zab (vs:=[i64 473,i64 g]) Tryz.func50 V V V (ar2 V V) (zh2 473 g  f _  x) ?_);rintro _ H ⟨rfl,B⟩;refine ⟨_,rfl,?_⟩;have p:=d.trans B;refine av (i64 f) V V<|wnt<|W_ret<|?_;obtain rfl:=osi a;refine rt1 (i64 f) V V V V ?_;exact ⟨rfl,p⟩
noncomputable def zc4 (a:List Int):Option Int :=
((lenA 4 a).bind fun f =>
((zbx a).bind fun e =>
(if (!e)=true then some 0
else
((idx a 0).bind fun c =>
(if c=0 then
((idx a 1).bind fun b =>
((zc6 b 440).bind fun d => some d))
else some 32)))))
theorem zf4 (b:List Int) (h:Int) (w0:World) (a:zc4 b=some h) :
  Calls Tryz.prog 22 [ag i64 b].toArray w0 (fun o z=>o=.returned (i64 h)/\Ext w0 z):=by
 have s:Ext w0 w0:=Ext.refl w0;unfold zc4 at a;refine zai (n:=14) Tryz.func22 V V V<|W_sr<|wls V V (zb9 (v:=ag i64 b) (cs:=ac i64 b) [] V V V ?_);intro D G c F r E;have A:=zaa r;have q:=s.trans A;refine av (i64 0) V V<|wnt<|W_seq<|zac<|W_sr<|bse a fun C u a=>wq V (zdd (m:=0) V G25 V c (zaf _ _) (zad u)) ?_;obtain ⟨i,y,a⟩:=bsi a;refine wls V V (zab (vs:=[ag i64 b]) Tryz.func20 V V V (ar1 V) (zcy b  i _  y) ?_);rintro _ I ⟨rfl,k⟩;refine ⟨_,rfl,?_⟩;replace c:=c.ext k;have d:=q.trans k;refine wa V (q_not V V)<|av (.bool (!i)) V V<|wnt<|zam _ V V (fun e=>?_) (fun e=>?_)
 ·replace a:=(if_pos e).symm.trans a;refine W_sr<|av (i64 0) V V<|wnt<|W_ret<|bk_r<|th_r<|?_;obtain rfl:=osi a;refine rt1 (i64 0) V V V V ?_;exact ⟨rfl,d⟩
 replace a:=(if_neg (ne_true_of_eq_false e)).symm.trans a;refine W_sr<|bse a fun l w a=>wa V (zcp (j:=0) V fieldS0 V)<|wq V (zbh (m:=0) V G25 V c (zaf _ _) w)<|wa V (q_eqI V V V)<|av (.bool (decide (l=0))) V V<|wnt<|wci a V V (fun a=>?_) (fun a=>?_)
 ·refine W_sr<|bse a fun g t a=>wa V (zcp (j:=1) V zf2 V)<|wq V (zbh (m:=0) V G25 V c (zaf _ _) t)<|?_;obtain ⟨f,x,a⟩:=bsi a;refine wls V V (zab (vs:=[i64 g,i64 440]) Tryz.func51 V V V (ar2 V V) (zgw g 440  f _  x) ?_);rintro _ H ⟨rfl,B⟩;refine ⟨_,rfl,?_⟩;have p:=d.trans B;refine av (i64 f) V V<|wnt<|W_ret<|bk_r<|th_r<|?_;obtain rfl:=osi a;refine rt1 (i64 f) V V V V ?_;exact ⟨rfl,p⟩
 refine zae<|bk_n<|W_th<|W_sr<|av (i64 32) V V<|wnt<|W_ret<|?_;obtain rfl:=osi a;refine rt1 (i64 32) V V V V ?_;exact ⟨rfl,d⟩
noncomputable def zcn (b:List Int):Option (List UInt8) :=
((idx b 2).bind fun d =>
((iterC (fun a:List UInt8×Int =>
(if a.2<d then
((appL a.1 ([UInt8.ofInt (wI (a.2+1))]:List UInt8)).bind fun c => some (.inl (c,wI (a.2+1))))
else some (.inr a.1))) (([]:List UInt8),0)).bind fun e => some e))
theorem ze7 (h:List Int) (z:List UInt8) (w0:World) (d:zcn h=some z) :
  Calls Tryz.prog 26 [ag i64 h].toArray w0 (fun I F=>∃ s:Value,I=.returned s/\Ext w0 F/\Nw w0 s/\OwK (Sc u8) F [] 5 s z):=by
 have P:Ext w0 w0:=Ext.refl w0;unfold zcn at d;refine zai (n:=18) Tryz.func26 V V V<|W_sr<|wls V V (zb9 (v:=ag i64 h) (cs:=ac i64 h) [] V V V ?_);intro aB aG a2 aF N aC;have a8:=zaa N;have K:=P.trans a8;refine av (.slice none 0 0) V V<|wnt<|W_sr<|av (.slice none 0 0) V V<|wnt<|W_seq<|W_seq<|W_rg<|bse d fun H T d=>wa V (zcp (j:=2) V zic V)<|wq V (zbh (m:=0) V G25 V a2 (zaf _ _) T)<|mv (i64 0) V V<|wnt<|?_;obtain ⟨a9,G,d⟩:=bsi d;refine W_mid (fun c g=>∃ o:Value,c 3=o/\c 18=undef/\Ext w0 g/\OwK (Sc u8) g [o] 5 o a9/\Nw w0 o) ?_ ?_
 ·refine zac<|zau (fun a c g=>∃ i:Value,c 3=i/\c 6=i64 H/\c 7=i64 a.2/\c 18=undef/\Ext w0 g/\OwK (Sc u8) g [i] 5 i a.1/\Nw w0 i) G ?_ ?_
  ·exact ⟨.slice none 0 0,rfl,rfl,rfl,rfl,K,OwK.nil _ _ _ _,Nw.nil _⟩
  rintro a _ _ aJ ⟨f,B,C,r,A,x,e,q⟩ b W;refine W_sr<|wa V (q_ltI V r C)<|wnt<|W_seq<|wci b V V (fun b=>?_) (fun b=>?_)
  ·refine zae<|W_th<|W_seq<|zac<|W_sr<|mv (i64 a.2) V r<|av (i64 a.2) V V<|wnt<|W_rg<|mv f V B<|mv (i64 a.2) V V<|wa V (zak V V V)<|wa V (zey V V V V)<|wls V V (zaz (L:=[f]) (R:=Sc u8) [u8 (UInt8.ofInt (wI (a.2+1)))] ([UInt8.ofInt (wI (a.2+1))]:List UInt8) V T22 V (by exact ⟨rfl,rfl,trivial⟩) V (litC u8 zbi (us:=[u8 (UInt8.ofInt (wI (a.2+1)))]) (l:=([UInt8.ofInt (wI (a.2+1))]:List UInt8)) V) V (litS u8 (us:=[u8 (UInt8.ofInt (wI (a.2+1)))]) (l:=([UInt8.ofInt (wI (a.2+1))]:List UInt8)) V) ?_);intro E a7 a4 Z O aE;have t:=zaa O;have i8:By a7 [f] E ([UInt8.ofInt (wI (a.2+1))]:List UInt8):=OwK.slk (Sc.stab _) _ a4 (fun y U=>(Old.cons (Old.nil _) e.lt) y (Z y U)) (fun _ p=>p.2);replace e:=e.extL (Sc.stab _) t (le_ t);have w:=x.trans t;obtain ⟨aA,S,b⟩:=bsi b;refine wls V V (zav (R:=Sc u8) (v:=f) (u:=E) (Sc.stab _) [] [] V T22 V V e i8 (fun _ _ p=>p) S oc_u8 ?_);intro D aH a3 M a0 aD;have J:=w.grown M q;have Y:=Nw.nxt w q a0;refine av D V V<|zag<|bk_n<|W_th<|W_rg<|wa V (zak V r V)<|mv (i64 (wI (a.2+1))) V V<|zag<|?_;obtain rfl:=osi b;exact ⟨_,rfl,D,rfl,C,rfl,A,J,a3,Y⟩
  refine zar<|th_x<|?_;obtain rfl:=osi b;obtain rfl:=W _ rfl;refine th_x<|bk_x<|?_;exact ⟨f,B,A,x,e,q⟩
 rintro _ aI ⟨k,a6,a5,Q,a1,X⟩;refine W_th<|W_sr<|mv k V a6<|av k V V<|wnt<|W_ret<|?_;obtain rfl:=osi d;refine rt1 k V V V a5 ?_;exact ⟨k,rfl,Q,X,a1.weak (Sc.stab _) (fun _ _=>trivial)⟩
noncomputable def zcx (a:List Int) (b:Bool) (c:List UInt8):Option Int :=
(if (!b)=true then some 1
else
((lenA 4 a).bind fun f =>
((zbx a).bind fun e =>
(if (!e)=true then some 2
else
((lenA 4 a).bind fun g =>
((zc4 a).bind fun d =>
(if (c.length:Int)=d then some 0
else some 3)))))))
theorem zfl (b:List Int) (d:Bool) (e:List UInt8) (k:Value) (l:Value) (p:Int) (w0:World) (z:Fd w0 [] k d) (A:By w0 [] l e) (a:zcx b d e=some p) :
  Calls Tryz.prog 24 [ag i64 b,k,l].toArray w0 (fun t D=>t=.returned (i64 p)/\Ext w0 D):=by
 have w:Ext w0 w0:=Ext.refl w0;unfold zcx at a;refine zai (n:=20) Tryz.func24 V V V<|W_sr<|wls V V (zb9 (v:=ag i64 b) (cs:=ac i64 b) [] V V V ?_);intro I L c K u J;have E:=zaa u;have f:=w.trans E;refine av (i64 0) V V<|wnt<|W_seq<|zac<|W_sr<|mv k V V<|wa V (q_eqF V V V V (z.lift (le_ f)))<|av (.bool (!d)) V V<|wnt<|zam _ V V (fun i=>?_) (fun i=>?_)
 ·replace a:=(if_pos i).symm.trans a;refine W_sr<|av (i64 1) V V<|wnt<|W_ret<|bk_r<|th_r<|?_;obtain rfl:=osi a;refine rt1 (i64 1) V V V V ?_;exact ⟨rfl,f⟩
 replace a:=(if_neg (ne_true_of_eq_false i)).symm.trans a;refine W_sr<|bse a fun G x a=>wq V (zdd (m:=0) V G25 V c (zaf _ _) (zad x)) ?_;obtain ⟨r,C,a⟩:=bsi a;refine wls V V (zab (vs:=[ag i64 b]) Tryz.func20 V V V (ar1 V) (zcy b  r _  C) ?_);rintro _ N ⟨rfl,s⟩;refine ⟨_,rfl,?_⟩;replace c:=c.ext s;have g:=f.trans s;refine wa V (q_not V V)<|av (.bool (!r)) V V<|wnt<|zam _ V V (fun j=>?_) (fun j=>?_)
 ·replace a:=(if_pos j).symm.trans a;refine W_sr<|av (i64 2) V V<|wnt<|W_ret<|bk_r<|th_r<|?_;obtain rfl:=osi a;refine rt1 (i64 2) V V V V ?_;exact ⟨rfl,g⟩
 replace a:=(if_neg (ne_true_of_eq_false j)).symm.trans a;refine W_sr<|mv l V V<|wa V (q_len V T22.sl V (A.lift (le_ g)))<|bse a fun H y a=>wq V (zdd (m:=0) V G25 V c (zaf _ _) (zad y)) ?_;obtain ⟨q,B,a⟩:=bsi a;refine wls V V (zab (vs:=[ag i64 b]) Tryz.func22 V V V (ar1 V) (zf4 b  q _  B) ?_);rintro _ M ⟨rfl,F⟩;refine ⟨_,rfl,?_⟩;have o:=g.trans F;refine wa V (q_neI V V V)<|av (.bool (!decide ((e.length:Int)=q))) V V<|wnt<|zam _ V V (fun h=>?_) (fun h=>?_)
 ·replace a:=(if_neg (zbf h)).symm.trans a;refine W_sr<|av (i64 3) V V<|wnt<|W_ret<|bk_r<|th_r<|?_;obtain rfl:=osi a;refine rt1 (i64 3) V V V V ?_;exact ⟨rfl,o⟩
 replace a:=(if_pos (zbg h)).symm.trans a;refine zae<|bk_n<|W_th<|W_sr<|av (i64 0) V V<|wnt<|W_ret<|?_;obtain rfl:=osi a;refine rt1 (i64 0) V V V V ?_;exact ⟨rfl,o⟩
noncomputable def zbr (a:List Int) (b:Bool) (c:List UInt8) (d:List UInt8):Option (List (List UInt8)×Int) :=
((lenA 4 a).bind fun q =>
((zcx a b d).bind fun i =>
(if i=0 then
(if (c.length:Int)=440 then
((idx a 0).bind fun m =>
(if m=0 then
((idx a 1).bind fun j =>
((lenA 4 a).bind fun p =>
((zcn a).bind fun n =>
((zfn b j c d n).bind fun g => some (g.1,g.2)))))
else
((aont_Wrap b d c).bind fun e =>
(if e.2=0 then
((idx a 1).bind fun k =>
((za0 ([([(1:UInt8)]:List UInt8),e.1]:List (List UInt8))).bind fun o =>
((code_Cut o k).bind fun f =>
(if f.2=0 then
((idx a 2).bind fun l =>
((zhy b l f.1).bind fun h => some (h.1,h.2)))
else some (([]:List (List UInt8)),f.2)))))
else some (([]:List (List UInt8)),e.2)))))
else some (([]:List (List UInt8)),3))
else some (([]:List (List UInt8)),i))))
theorem zcq (s:List Int) (t:Bool) (E:List UInt8) (A:List UInt8) (g:Value) (q:Value) (k:Value) (X:List (List UInt8)×Int) (w0:World) (c:List Value) (p:Old w0 c) (F:Fd w0 [] g t) (U:By w0 [] q E) (W:By w0 [] k A) (a:zbr s t E A=some X) :
  Calls Tryz.prog 9 [ag i64 s,g,q,k].toArray w0 (fun aP aI=>∃ J:Value,aP=.returned (.tuple #[J,i64 X.2])/\Ext w0 aI/\Nw w0 J/\OwK By aI (J::c) 22 J X.1):=by
 have aT:Ext w0 w0:=Ext.refl w0;unfold zbr at a;refine zai (n:=67) Tryz.func9 V V V<|W_sr<|wls V V (zb9 (v:=ag i64 s) (cs:=ac i64 s) c V V V ?_);intro e cE b cD aS cA;have c4:=zaa aS;have N:=aT.trans c4;refine av (.slice none 0 0) V V<|av (i64 0) V V<|wnt<|W_seq<|W_sr<|bse a fun c8 aY a=>wq V (zdd (m:=0) V G25 V b (zaf _ _) (zad aY))<|mv g V V<|mv k V V<|?_;obtain ⟨x,b6,a⟩:=bsi a;refine wls V V (zab (vs:=[ag i64 s,g,k]) Tryz.func24 V V V (ar3 V V V) (zfl s t A g k x _ (F.lift (le_ N)) (W.lift (le_ N)) b6) ?_);rintro _ c2 ⟨rfl,aO⟩;refine ⟨_,rfl,?_⟩;replace b:=b.ext aO;have o:=N.trans aO;refine av (i64 x) V V<|wnt<|W_sr<|mv (i64 x) V V<|wa V (q_neI V V V)<|wnt<|zam _ V V (fun S=>?_) (fun S=>?_)
 ·replace a:=(if_neg (zbf S)).symm.trans a;refine W_sr<|mv (i64 x) V V<|av (.slice none 0 0) V V<|av (i64 x) V V<|wnt<|W_ret<|th_r<|?_;obtain rfl:=osi a;refine rt2 (.slice none 0 0) (i64 x) V V V V V V ?_;exact ⟨.slice none 0 0,rfl,o,Nw.nil _,OwK.nil _ _ _ _⟩
 replace a:=(if_pos (zbg S)).symm.trans a;refine zae<|W_th<|W_seq<|W_sr<|mv q V V<|wa V (q_len V T22.sl V (U.lift (le_ o)))<|wa V (q_neI V V V)<|wnt<|zam _ V V (fun T=>?_) (fun T=>?_)
 ·replace a:=(if_neg (zbf T)).symm.trans a;refine W_sr<|av (.slice none 0 0) V V<|av (i64 3) V V<|wnt<|W_ret<|th_r<|?_;obtain rfl:=osi a;refine rt2 (.slice none 0 0) (i64 3) V V V V V V ?_;exact ⟨.slice none 0 0,rfl,o,Nw.nil _,OwK.nil _ _ _ _⟩
 replace a:=(if_pos (zbg T)).symm.trans a;refine zae<|W_th<|W_seq<|W_sr<|bse a fun c9 aZ a=>wa V (zcp (j:=0) V fieldS0 V)<|wq V (zbh (m:=0) V G25 V b (zaf _ _) aZ)<|wa V (q_eqI V V V)<|wnt<|wci a V V (fun a=>?_) (fun a=>?_)
 ·refine W_seq<|zba [2,5] [(0,0),(1,0),(2,1),(3,0),(4,0),(5,1),(6,2),(7,2),(8,0),(9,0),(10,0),(11,0)] mixed (by kernel_rfl) (by kernel_rfl) (by kernel_rfl) (by kernel_rfl) ?_;have aK:=Ext.drew c2;replace b:=b.ext aK;have a9:=o.trans aK;refine sv g V V V ?_;obtain ⟨a6,aU,a⟩:=bsi a;refine sa V V (zcp (j:=1) V zf2 V)<|sq V V (zbh (m:=0) V G25 V b (zaf _ _) aU)<|sv q V V V<|sv k V V V<|bse a fun c7 aV a=>sq V V (zdd (m:=0) V G25 V b (zaf _ _) (zad aV)) ?_;obtain ⟨Y,b0,a⟩:=bsi a;refine wss V V V (zab (vs:=[ag i64 s]) Tryz.func26 V V V (ar1 V) (ze7 s  Y _  b0) ?_);rintro _ bW ⟨K,rfl,a2,bB,bL⟩;refine ⟨_,rfl,a2,?_⟩;have b7:By bW (bp e::c) K Y:=OwK.slk (Sc.stab _) _ (OwK.scal bL (K::(bp e::c))) (fun f i=>(Old.cons (p.ext a9) b.ltB) f (bB f i)) (fun _ d=>d.2);replace b:=b.ext a2;have u:=a9.trans a2;obtain ⟨H,b1,a⟩:=bsi a;refine wsc V (by kernel_rfl) V V (zab (vs:=[g,i64 a6,q,k,K]) Tryz.func25 V V V (ar5 V V V V V) (zim t a6 E A Y g q k K H _ (bp e::c) (Old.cons (p.ext u) b.ltB) (F.lift (le_ u)) (U.lift (le_ u)) (W.lift (le_ u)) (b7.lift (Lift.sub (L':=[]) (fun _ _=>trivial))) b1) ?_);rintro _ bX ⟨C,rfl,c5,bC,bN⟩;refine ⟨_,rfl,?_⟩;have bM:OwK By bX (C::(bp e::c)) 22 C H.1:=bN;have bD:=Nw.ext u bC;have aQ:=u.trans c5;refine sa V V (zah V V V)<|sa V V (zah V V V)<|sa V V (zat (v:=C) V V)<|sa V V (zat (v:=i64 H.2) V V)<|za1<|W_th<|W_ret<|th_r<|?_;obtain rfl:=osi a;refine rt2 C (i64 H.2) V V V V V V ?_;exact ⟨C,rfl,aQ,bD,bM.weak (SlK.stab (Sc.stab _)) (fun _ d=>⟨d.1,d.2.2⟩)⟩
 refine zae<|W_th<|W_sr<|mv g V V<|mv k V V<|mv q V V<|?_;obtain ⟨h,b2,a⟩:=bsi a;refine wls V V (zab (vs:=[g,k,q]) Tryz.func27 V V V (ar3 V V V) (aont_Wrap_calls t A E g k q h _ (F.lift (le_ o)) (W.lift (le_ o)) (U.lift (le_ o)) b2) ?_);rintro _ aJ ⟨y,rfl,aL,bE,bO⟩;refine ⟨_,rfl,?_⟩;have G:By aJ (bp e::c) y h.1:=OwK.slk (Sc.stab _) _ (OwK.scal bO (y::(bp e::c))) (fun f i=>(Old.cons (p.ext o) b.ltB) f (bE f i)) (fun _ d=>d.2);replace b:=b.ext aL;have aA:=o.trans aL;refine mv (.tuple #[y,i64 h.2]) V V<|wa V (zah V V V)<|wa V (zah V V V)<|av y V V<|av (i64 h.2) V V<|wnt<|W_seq<|W_seq<|W_rg<|mv (i64 h.2) V V<|wa V (q_neI V V V)<|wnt<|zam _ V V (fun P=>?_) (fun P=>?_)
 ·replace a:=(if_neg (zbf P)).symm.trans a;refine W_sr<|mv (i64 h.2) V V<|av (.slice none 0 0) V V<|av (i64 h.2) V V<|wnt<|W_ret<|th_r<|?_;obtain rfl:=osi a;refine rt2 (.slice none 0 0) (i64 h.2) V V V V V V ?_;exact ⟨.slice none 0 0,rfl,aA,Nw.nil _,OwK.nil _ _ _ _⟩
 replace a:=(if_pos (zbg P)).symm.trans a;refine zae<|W_th<|W_seq<|zba [5] [(1,0),(4,0),(5,1),(0,2),(2,2),(3,2),(6,2),(7,0),(8,0),(9,0),(10,0),(11,0)] mixed (by kernel_rfl) (by kernel_rfl) (by kernel_rfl) (by kernel_rfl) ?_;have a3:=Ext.drew aJ;replace b:=b.ext a3;have aB:=aA.trans a3;refine sv y V V V ?_;obtain ⟨a7,aW,a⟩:=bsi a;refine sa V V (zcp (j:=1) V zf2 V)<|sq V V (zbh (m:=0) V G25 V b (zaf _ _) aW)<|wss V V V (zaz (L:=(bp e::c)) (R:=Sc u8) [u8 1] ([(1:UInt8)]:List UInt8) V T22 V (by exact ⟨rfl,cst8 (1:UInt8) V,trivial⟩) V (litC u8 zbi (us:=[u8 1]) (l:=([(1:UInt8)]:List UInt8)) V) V (litS u8 (us:=[u8 1]) (l:=([(1:UInt8)]:List UInt8)) V) ?_);intro aH a1 bP bF aE cB;refine ⟨zaa aE,?_⟩;have a4:=zaa aE;have aG:By a1 (bp e::c) aH ([(1:UInt8)]:List UInt8):=OwK.slk (Sc.stab _) _ bP (fun f i=>(Old.cons (p.ext aB) b.ltB) f (bF f i)) (fun _ d=>d.2);replace G:=(G.lift (le_ a3)).lift (le_ a4);replace b:=b.ext a4;have aC:=aB.trans a4;refine wss V V V (zaz (L:=(bp e::c)) (R:=By) [aH,y] ([([(1:UInt8)]:List UInt8),h.1]:List (List UInt8)) V T29 V (by exact ⟨rfl,rfl,rfl,rfl,trivial⟩) V (LitR.cells (R:=By) (w:=a1) (L:=(bp e::c)) (l:=([([(1:UInt8)]:List UInt8),h.1]:List (List UInt8))) (LitR.cons aG (LitR.cons G LitR.nil)) (fun bV c3 d=>zb4 bV c3 d)) V (LitR.all (R:=By) (w:=a1) (L:=(bp e::c)) (l:=([([(1:UInt8)]:List UInt8),h.1]:List (List UInt8))) (SlK.stab (Sc.stab _)) (LitR.cons aG (LitR.cons G LitR.nil))) ?_);intro a0 bY bQ bG aF cC;refine ⟨zaa aF,?_⟩;have aM:=zaa aF;have b8:Rw bY (bp e::c) a0 ([([(1:UInt8)]:List UInt8),h.1]:List (List UInt8)):=OwK.slk (SlK.stab (Sc.stab _)) _ bQ (fun f i=>(Old.cons (p.ext aC) b.ltB) f (bG f i)) (fun _ d=>d.2);replace b:=b.ext aM;have aD:=aC.trans aM;obtain ⟨Z,b3,a⟩:=bsi a;refine wss V V V (zab (vs:=[a0]) Tryz.func29 V V V (ar1 V) (za7 ([([(1:UInt8)]:List UInt8),h.1]:List (List UInt8)) a0 Z _ (b8.lift (Lift.sub (L':=[]) (fun _ _=>trivial))) b3) ?_);rintro _ bZ ⟨M,rfl,a5,bH,bR⟩;refine ⟨_,rfl,a5,?_⟩;have b9:By bZ (bp e::c) M Z:=OwK.slk (Sc.stab _) _ (OwK.scal bR (M::(bp e::c))) (fun f i=>(Old.cons (p.ext aD) b.ltB) f (bH f i)) (fun _ d=>d.2)
 replace b:=b.ext a5;have O:=aD.trans a5;obtain ⟨r,b4,a⟩:=bsi a;refine wsc V (by kernel_rfl) V V (zab (vs:=[M,i64 a7]) Tryz.func28 V V V (ar2 V V) (code_Cut_calls Z a7 M r _ (bp e::c) (Old.cons (p.ext O) b.ltB) (b9.lift (Lift.sub (L':=[]) (fun _ _=>trivial))) b4) ?_);rintro _ c0 ⟨z,rfl,aN,bI,bS⟩;refine ⟨_,rfl,?_⟩;have bA:Rw c0 (bp e::c) z r.1:=OwK.slk (SlK.stab (Sc.stab _)) _ bS (fun f i=>(Old.cons (p.ext O) b.ltB) f (bI f i)) (fun _ d=>d.2);replace b:=b.ext aN;have B:=O.trans aN;refine sv (.tuple #[z,i64 r.2]) V V V<|sa V V (zah V V V)<|sa V V (zah V V V)<|sa V V (zat (v:=z) V V)<|sa V V (zat (v:=i64 r.2) V V)<|za1<|W_th<|W_seq<|W_sr<|mv (i64 r.2) V V<|wa V (q_neI V V V)<|wnt<|zam _ V V (fun Q=>?_) (fun Q=>?_)
 ·replace a:=(if_neg (zbf Q)).symm.trans a;refine W_sr<|mv (i64 r.2) V V<|av (.slice none 0 0) V V<|av (i64 r.2) V V<|wnt<|W_ret<|th_r<|?_;obtain rfl:=osi a;refine rt2 (.slice none 0 0) (i64 r.2) V V V V V V ?_;exact ⟨.slice none 0 0,rfl,B,Nw.nil _,OwK.nil _ _ _ _⟩
 replace a:=(if_pos (zbg Q)).symm.trans a;refine zae<|W_th<|W_sr<|mv g V V<|bse a fun a8 aX a=>wa V (zcp (j:=2) V zic V)<|wq V (zbh (m:=0) V G25 V b (zaf _ _) aX)<|mv z V V<|?_;obtain ⟨I,b5,a⟩:=bsi a;refine wls V V (zab (vs:=[g,i64 a8,z]) Tryz.func30 V V V (ar3 V V V) (code_Encode_calls t a8 r.1 g z I _ (bp e::c) (Old.cons (p.ext B) b.ltB) (F.lift (le_ B)) (bA.lift (Lift.sub (L':=[]) (fun _ _=>trivial))) b5) ?_);rintro _ c1 ⟨D,rfl,c6,bJ,bU⟩;refine ⟨_,rfl,?_⟩;have bT:OwK By c1 (D::(bp e::c)) 22 D I.1:=bU;have bK:=Nw.ext B bJ;have aR:=B.trans c6;refine wa V (zah V V V)<|wa V (zah V V V)<|av D V V<|av (i64 I.2) V V<|wnt<|W_ret<|?_;obtain rfl:=osi a;refine rt2 D (i64 I.2) V V V V V V ?_;exact ⟨D,rfl,aR,bK,bT.weak (SlK.stab (Sc.stab _)) (fun _ d=>⟨d.1,d.2.2⟩)⟩
end Gk

/- Printed by gen.py: for each Go function a pure function, and that the Go code comes to it. No condition beside the equation that says what the pure function gives. -/
namespace Gk
open Go Go.Proofs
noncomputable def zfg (b:List UInt8):Option (List UInt8) :=
((makeL 440 (0:UInt8)).bind fun c =>
((iterC (fun a:List UInt8×Int =>
(if a.2<(c.length:Int) then
(if 0<(b.length:Int) then
((remI a.2 (b.length:Int)).bind fun d =>
((idx b d).bind fun e =>
((divI a.2 (b.length:Int)).bind fun f =>
((idx a.1 a.2).bind fun h => some (.inl (a.1.set (a.2:Int).toNat (e+(UInt8.ofInt f)),wI (a.2+1)))))))
else some (.inl (a.1,wI (a.2+1))))
else some (.inr a.1))) (c,0)).bind fun g => some g))
theorem zet (v:List UInt8) (e:Value) (C:List UInt8) (w0:World) (j:By w0 [] e v) (f:zfg v=some C) :
  Calls Tryz.prog 10 [e].toArray w0 (fun G D=>∃ s:Value,G=.returned s/\Ext w0 D/\Nw w0 s/\OwK (Sc u8) D [] 5 s C):=by
 have y:Ext w0 w0:=Ext.refl w0;unfold zfg at f;refine zai (n:=32) Tryz.func10 V V V<|W_sr<|av (.slice none 0 0) V V<|wnt<|W_sr<|?_;obtain ⟨F,N,f⟩:=bsi f;refine wls V V (zb3 (L:=[]) (R:=Sc u8) V T22 V V N (fun _ _=>rfl) ?_);intro b a7 B T J a5;have a1:=zaa J;have U:=Nw.ext y T;have I:=y.trans a1;refine av b V V<|wnt<|W_seq<|W_sr<|mv b V V<|wa V (q_len V T22.sl V (B.rd (Sc.stab _)))<|mv (i64 0) V V<|wnt ?_;obtain ⟨a2,E,f⟩:=bsi f;refine W_mid (fun d k=>d 3=b/\d 32=undef/\Ext w0 k/\OwK (Sc u8) k [b] 5 b a2/\Nw w0 b) ?_ ?_
 ·refine zac<|zau (fun c d k=>d 0=e/\d 3=b/\d 7=i64 (F.length:Int)/\d 8=i64 c.2/\d 32=undef/\Ext w0 k/\OwK (Sc u8) k [b] 5 b c.1/\Nw w0 b) E ?_ ?_
  ·exact ⟨rfl,rfl,rfl,rfl,rfl,I,B,U⟩
  rintro c _ _ a0 ⟨h,o,r,p,q,l,g,m⟩ a Q;refine W_sr<|wa V (q_ltI V p r)<|wnt<|W_seq<|wci a V V (fun a=>?_) (fun a=>?_)
  ·refine zae<|W_th<|W_seq<|zac<|W_sr<|mv (i64 c.2) V p<|av (i64 c.2) V V<|wnt<|W_sr<|mv e V h<|wa V (q_len V T22.sl V (j.lift (le_ l)))<|wa V (q_gtI V V V)<|wnt<|wci a V V (fun a=>?_) (fun a=>?_)
   ·refine zba [8] [(0,0),(1,0),(2,0),(3,0),(4,0),(5,0),(6,0),(7,0),(8,1),(9,0),(10,0),(11,0),(12,0),(13,0),(14,0),(15,0),(16,2)] mixed (by kernel_rfl) (by kernel_rfl) (by kernel_rfl) (by kernel_rfl) ?_;have t:=Ext.drew a0;replace g:=g.extL (Sc.stab _) t (le_ t);have i:=l.trans t;refine sv b V V o<|sv (i64 c.2) V V V<|sv e V V h<|sv (i64 c.2) V V V<|sv e V V h<|sa V V (q_len V T22.sl V (j.lift (le_ i)))<|bse a fun a3 O a=>sa V V (zdm V V V O) ?_;obtain ⟨w,z,a⟩:=bsi a;refine sa V V (q_adr V T22 V V (j.lift (le_ i)) z)<|sq V V (zao V T22 V (j.lift (le_ i)) z)<|sv (i64 c.2) V V V<|sv e V V h<|sa V V (q_len V T22.sl V (j.lift (le_ i)))<|bse a fun x P a=>sa V V (q_divI V V V P)<|sa V V (zey V V V V)<|sa V V (q_add8 V V V)<|bse a fun a4 A a=>sa V V (q_adr V T22 V V (g.rd (Sc.stab _)) A)<|wsn V (by kernel_rfl) V V (zci (R:=Sc u8) (u:=u8 (w+(UInt8.ofInt x))) (Sc.stab _) [] [] V T22 V V g (zf6 (w+(UInt8.ofInt x)) A) V V ?_);intro a8 X K a6;have H:=i.grown K m;refine za1<|bk_n<|W_th<|W_rg<|wa V (zak V p V)<|mv (i64 (wI (c.2+1))) V V<|zag<|?_;obtain rfl:=osi a;exact ⟨_,rfl,h,o,r,rfl,q,H,X,m⟩
   refine zae<|bk_n<|W_th<|W_rg<|wa V (zak V p V)<|mv (i64 (wI (c.2+1))) V V<|zag<|?_;obtain rfl:=osi a;exact ⟨_,rfl,h,o,r,rfl,q,l,g,m⟩
  refine zar<|th_x<|?_;obtain rfl:=osi a;obtain rfl:=Q _ rfl;refine th_x<|bk_x<|?_;exact ⟨o,q,l,g,m⟩
 rintro _ a9 ⟨Z,Y,M,W,S⟩;refine W_th<|W_sr<|mv b V Z<|av b V V<|wnt<|W_ret<|?_;obtain rfl:=osi f;refine rt1 b V V V Y ?_;exact ⟨b,rfl,M,S,W.weak (Sc.stab _) (fun _ _=>trivial)⟩
noncomputable def zfq (c:List Int) (b:List UInt8):Option (List UInt8) :=
((lenA 4 c).bind fun k =>
((zc4 c).bind fun h =>
((makeL h (0:UInt8)).bind fun d =>
((iterC (fun a:List UInt8×Int =>
(if a.2<(d.length:Int) then
(if 0<(b.length:Int) then
((remI a.2 (b.length:Int)).bind fun e =>
((idx b e).bind fun f =>
((divI (wI (a.2 * 31)) (b.length:Int)).bind fun g =>
((idx a.1 a.2).bind fun j => some (.inl (a.1.set (a.2:Int).toNat (f^^^(UInt8.ofInt g)),wI (a.2+1)))))))
else some (.inl (a.1,wI (a.2+1))))
else some (.inr a.1))) (d,0)).bind fun i => some i))))
theorem zir (g:List Int) (y:List UInt8) (f:Value) (F:List UInt8) (w0:World) (k:By w0 [] f y) (c:zfq g y=some F) :
  Calls Tryz.prog 11 [ag i64 g,f].toArray w0 (fun J G=>∃ w:Value,J=.returned w/\Ext w0 G/\Nw w0 w/\OwK (Sc u8) G [] 5 w F):=by
 have U:Ext w0 w0:=Ext.refl w0;unfold zfq at c;refine zai (n:=37) Tryz.func11 V V V<|W_sr<|wls V V (zb9 (v:=ag i64 g) (cs:=ac i64 g) [] V V V ?_);intro O aO a7 aN P aK;have aD:=zaa P;have K:=U.trans aD;refine av (.slice none 0 0) V V<|wnt<|W_sr<|bse c fun aJ Z c=>wq V (zdd (m:=0) V G25 V a7 (zaf _ _) (zad Z)) ?_;obtain ⟨a9,a2,c⟩:=bsi c;refine wls V V (zab (vs:=[ag i64 g]) Tryz.func22 V V V (ar1 V) (zf4 g  a9 _  a2) ?_);rintro _ aR ⟨rfl,aF⟩;refine ⟨_,rfl,?_⟩;have B:=K.trans aF;obtain ⟨I,a0,c⟩:=bsi c;refine wls V V (zb3 (L:=[bp O]) (R:=Sc u8) V T22 V V a0 (fun _ _=>rfl) ?_);intro b aS E a5 S aM;have aG:=zaa S;have a4:=Nw.ext B a5;have N:=B.trans aG;refine av b V V<|wnt<|W_seq<|W_sr<|mv b V V<|wa V (q_len V T22.sl V (E.rd (Sc.stab _)))<|mv (i64 0) V V<|wnt ?_;obtain ⟨aE,H,c⟩:=bsi c;refine W_mid (fun e l=>e 5=b/\e 37=undef/\Ext w0 l/\OwK (Sc u8) l [b] 5 b aE/\Nw w0 b) ?_ ?_
 ·refine zac<|zau (fun d e l=>e 1=f/\e 5=b/\e 11=i64 (I.length:Int)/\e 12=i64 d.2/\e 37=undef/\Ext w0 l/\OwK (Sc u8) l [b] 5 b d.1/\Nw w0 b) H ?_ ?_
  ·exact ⟨rfl,rfl,rfl,rfl,rfl,N,E.weak (Sc.stab _) (fun _ T=>⟨T.1,trivial⟩),a4⟩
  rintro d _ _ aC ⟨i,r,s,q,t,o,h,p⟩ a a1;refine W_sr<|wa V (q_ltI V q s)<|wnt<|W_seq<|wci a V V (fun a=>?_) (fun a=>?_)
  ·refine zae<|W_th<|W_seq<|zac<|W_sr<|mv (i64 d.2) V q<|av (i64 d.2) V V<|wnt<|W_sr<|mv f V i<|wa V (q_len V T22.sl V (k.lift (le_ o)))<|wa V (q_gtI V V V)<|wnt<|wci a V V (fun a=>?_) (fun a=>?_)
   ·refine zba [8] [(0,0),(1,0),(2,0),(3,0),(4,0),(5,0),(6,0),(7,0),(8,1),(9,0),(10,0),(11,0),(12,0),(13,0),(14,0),(15,0),(16,0),(17,2)] mixed (by kernel_rfl) (by kernel_rfl) (by kernel_rfl) (by kernel_rfl) ?_;have x:=Ext.drew aC;replace h:=h.extL (Sc.stab _) x (le_ x);have j:=o.trans x;refine sv b V V r<|sv (i64 d.2) V V V<|sv f V V i<|sv (i64 d.2) V V V<|sv f V V i<|sa V V (q_len V T22.sl V (k.lift (le_ j)))<|bse a fun aH X a=>sa V V (zdm V V V X) ?_;obtain ⟨z,C,a⟩:=bsi a;refine sa V V (q_adr V T22 V V (k.lift (le_ j)) C)<|sq V V (zao V T22 V (k.lift (le_ j)) C)<|sv (i64 d.2) V V V<|sa V V (zco V V V)<|sv f V V i<|sa V V (q_len V T22.sl V (k.lift (le_ j)))<|bse a fun A Y a=>sa V V (q_divI V V V Y)<|sa V V (zey V V V V)<|sa V V (zdb V V V)<|bse a fun aI D a=>sa V V (q_adr V T22 V V (h.rd (Sc.stab _)) D)<|wsn V (by kernel_rfl) V V (zci (R:=Sc u8) (u:=u8 (z^^^(UInt8.ofInt A))) (Sc.stab _) [] [] V T22 V V h (zf6 (z^^^(UInt8.ofInt A)) D) V V ?_);intro aP a8 Q aL;have M:=j.grown Q p;refine za1<|bk_n<|W_th<|W_rg<|wa V (zak V q V)<|mv (i64 (wI (d.2+1))) V V<|zag<|?_;obtain rfl:=osi a;exact ⟨_,rfl,i,r,s,rfl,t,M,a8,p⟩
   refine zae<|bk_n<|W_th<|W_rg<|wa V (zak V q V)<|mv (i64 (wI (d.2+1))) V V<|zag<|?_;obtain rfl:=osi a;exact ⟨_,rfl,i,r,s,rfl,t,o,h,p⟩
  refine zar<|th_x<|?_;obtain rfl:=osi a;obtain rfl:=a1 _ rfl;refine th_x<|bk_x<|?_;exact ⟨r,t,o,h,p⟩
 rintro _ aQ ⟨aB,aA,W,a6,a3⟩;refine W_th<|W_sr<|mv b V aB<|av b V V<|wnt<|W_ret<|?_;obtain rfl:=osi c;refine rt1 b V V V aA ?_;exact ⟨b,rfl,W,a3,a6.weak (Sc.stab _) (fun _ _=>trivial)⟩
noncomputable def law17_Of (a:Int) (e:Int) (b:Int) (c:Int):Option (List Int) :=
((lenA 4 (List.replicate 4 (0:Int))).bind fun l =>
((lenA 4 ([wI (((UInt64.ofInt a) % (2:UInt64)).toNat:Int),0,wI (1+(wI (((UInt64.ofInt b) % (7:UInt64)).toNat:Int))),wI (((UInt64.ofInt c) % (4:UInt64)).toNat:Int)]:List Int)).bind fun f =>
((idx ([wI (((UInt64.ofInt a) % (2:UInt64)).toNat:Int),0,wI (1+(wI (((UInt64.ofInt b) % (7:UInt64)).toNat:Int))),wI (((UInt64.ofInt c) % (4:UInt64)).toNat:Int)]:List Int) 2).bind fun d =>
((nz (UInt64.ofInt d)).bind fun g =>
((idx ([wI (((UInt64.ofInt a) % (2:UInt64)).toNat:Int),0,wI (1+(wI (((UInt64.ofInt b) % (7:UInt64)).toNat:Int))),wI (((UInt64.ofInt c) % (4:UInt64)).toNat:Int)]:List Int) 1).bind fun h =>
((lenA 4 (([wI (((UInt64.ofInt a) % (2:UInt64)).toNat:Int),0,wI (1+(wI (((UInt64.ofInt b) % (7:UInt64)).toNat:Int))),wI (((UInt64.ofInt c) % (4:UInt64)).toNat:Int)]:List Int).set (1:Int).toNat (wI (1+(wI (((UInt64.ofInt e) % (UInt64.ofInt d)).toNat:Int)))))).bind fun i =>
((lenA 4 (List.replicate 4 (0:Int))).bind fun j =>
((lenA 4 (([wI (((UInt64.ofInt a) % (2:UInt64)).toNat:Int),0,wI (1+(wI (((UInt64.ofInt b) % (7:UInt64)).toNat:Int))),wI (((UInt64.ofInt c) % (4:UInt64)).toNat:Int)]:List Int).set (1:Int).toNat (wI (1+(wI (((UInt64.ofInt e) % (UInt64.ofInt d)).toNat:Int)))))).bind fun k => some (([wI (((UInt64.ofInt a) % (2:UInt64)).toNat:Int),0,wI (1+(wI (((UInt64.ofInt b) % (7:UInt64)).toNat:Int))),wI (((UInt64.ofInt c) % (4:UInt64)).toNat:Int)]:List Int).set (1:Int).toNat (wI (1+(wI (((UInt64.ofInt e) % (UInt64.ofInt d)).toNat:Int)))))))))))))
theorem law17_Of_calls (d:Int) (g:Int) (e:Int) (f:Int) (v:List Int) (w0:World) (a:law17_Of d g e f=some v) :
  Calls Tryz.prog 7 [i64 d,i64 g,i64 e,i64 f].toArray w0 (fun y S=>y=.returned (ag i64 v)/\Ext w0 S):=by
 have p:Ext w0 w0:=Ext.refl w0;unfold law17_Of at a;refine zai (n:=34) Tryz.func7 V V V<|W_sr<|wls V V (sal i64 (List.replicate 4 (0:Int)) [] V Z25 ?_);intro h a7 c N E a2;have T:=zaa E;have O:=Nw.ext p N;have i:=p.trans T;refine wnt<|W_sr<|mv (i64 d) V V<|wa V (zgi V V V V)<|wa V (q_rem64 V V (cst64 (2:UInt64) V) (by decide))<|wa V (q_cvtI64 V V V V)<|mv (i64 e) V V<|?_;refine wa V (zgi V V V V)<|wa V (q_rem64 V V (cst64 (7:UInt64) V) (by decide))<|wa V (q_cvtI64 V V V V)<|wa V (zak V V V)<|mv (i64 f) V V<|wa V (zgi V V V V)<|wa V (q_rem64 V V (cst64 (4:UInt64) V) (by decide))<|wa V (q_cvtI64 V V V V)<|?_;refine wa V (q_buildS (ps:=#[(0,i64 (wI (((UInt64.ofInt d) % (2:UInt64)).toNat:Int))),(2,i64 (wI (1+(wI (((UInt64.ofInt e) % (7:UInt64)).toNat:Int))))),(3,i64 (wI (((UInt64.ofInt f) % (4:UInt64)).toNat:Int)))]) V (by simp only [List.map_toArray,List.map_cons,List.map_nil];exact bs3 V V V) (buildS_0_2_3 (wI (((UInt64.ofInt d) % (2:UInt64)).toNat:Int)) (wI (1+(wI (((UInt64.ofInt e) % (7:UInt64)).toNat:Int)))) (wI (((UInt64.ofInt f) % (4:UInt64)).toNat:Int)))) ?_
 refine wls V V (sal i64 (List.replicate 4 (0:Int)) [bp h] V Z25 ?_);intro l aA R r F a5;have w:=zaa F;have u:Nq (bp h) (bp l):=c.nq r;have s:=Nw.ext i r;have C:=i.trans w;obtain ⟨a1,M,a⟩:=bsi a;obtain ⟨U,G,a⟩:=bsi a;refine wln V V (stp_storeG [] [bp h] V G25 V V (zad M) (zad G) R one_i64 ?_);intro aB t o a6;replace c:=(c.ext w).other o u;have z:=C.grown o s;refine wnt<|W_sr<|mv (i64 g) V V<|wa V (zgi V V V V)<|bse a fun x H a=>wa V (zcp (j:=2) V zic V)<|wq V (zbh (m:=0) V G25 V t (zaf _ _) H)<|wa V (zgi V V V V)<|bse a fun W I a=>wa V (q_rem64 V V V (nz_ne I))<|wa V (q_cvtI64 V V V V)<|wa V (zak V V V)<|bse a fun X J a=>wa V (zcp (j:=1) V zf2 V)<|wln V V (stp_storeXG (b:=wI (1+(wI (((UInt64.ofInt g) % (UInt64.ofInt x)).toNat:Int)))) [] [bp h] V G25 V V t J (one_i64 _) ?_);intro a8 P k a3;replace c:=c.other k u;have A:=z.grown k s;refine wnt<|W_sr<|bse a fun Y q a=>wq V (zdd (m:=0) V G25 V P (zaf _ _) (zad q)) ?_;obtain ⟨Z,K,a⟩:=bsi a;refine wln V V (stp_storeG [bp l] [] V G25 V V (zad K) (zad q) c one_i64 ?_);intro a9 Q D a4;have B:=A.grown D O;refine wnt<|W_ret<|?_;obtain ⟨a0,L,a⟩:=bsi a;obtain rfl:=osi a;refine rtcG1 G25 V V V Q (zad L) V ?_;exact ⟨rfl,B⟩
noncomputable def zd2 :Option Bool :=
((lenA 4 (List.replicate 4 (0:Int))).bind fun h =>
((lenA 4 ([0,1,2,0]:List Int)).bind fun i =>
(((lenA 4 ([0,1,2,0]:List Int)).bind fun g =>
((field_New).bind fun d =>
((zfg ([(1:UInt8),(2:UInt8)]:List UInt8)).bind fun e =>
((zbr ([0,1,2,0]:List Int) d e ([]:List UInt8)).bind fun b => some (b.1,b.2))))).bind fun a =>
(if a.2=0 then
(if (a.1.length:Int)=2 then
((idx a.1 1).bind fun c =>
((zfg ([(1:UInt8),(2:UInt8)]:List UInt8)).bind fun f => some (decide (c=f))))
else some false)
else some false))))
theorem zdw  (a5:Bool) (w0:World) (c:zd2=some a5) :
  Calls Tryz.prog 6 [].toArray w0 (fun aI bC=>aI=.returned (.bool a5)/\Ext w0 bC):=by
 have a3:Ext w0 w0:=Ext.refl w0;unfold zd2 at c;refine zai (n:=30) Tryz.func6 V V V<|W_sr<|av (.bool false) V V<|wnt<|W_sr<|wa V (q_buildS (ps:=#[(1,i64 1),(2,i64 2)]) V (by simp only [List.map_toArray,List.map_cons,List.map_nil];exact bs2 V V) (buildS_1_2 1 2))<|?_
 refine wls V V (sal i64 (List.replicate 4 (0:Int)) [] V Z25 ?_);intro g bS b6 b0 aN bM;have bH:=zaa aN;have b5:=Nw.ext a3 b0;have aJ:=a3.trans bH;obtain ⟨bK,aR,c⟩:=bsi c;obtain ⟨bL,aS,c⟩:=bsi c;refine wln V V (stp_storeG [] [] V G25 V V (zad aR) (zad aS) b6 one_i64 ?_);intro bG a aO bQ;have aM:=aJ.grown aO b5;refine wnt<|W_seq<|?_;obtain ⟨t,e,c⟩:=bsi c;refine W_mid (fun E aC=>∃ aB:Value,E 2=aB/\E 3=i64 t.2/\E 30=undef/\Ext w0 aC/\Rw aC [] aB t.1) ?_ ?_
 ·refine W_draw2 [0] [(0,1)] 1 2 [(2,2),(3,2),(4,2),(5,0),(6,0),(7,0),(8,0),(9,0)] [(1,2),(3,2),(4,2),(5,0),(6,0),(7,0),(8,0),(9,0)] mixed (by kernel_rfl) (by kernel_rfl) (by kernel_rfl) (by kernel_rfl) ?_;have aH:=Ext.drew bG;replace a:=a.ext aH;have Z:=aM.trans aH;obtain ⟨bJ,aQ,e⟩:=bsi e;refine sq V V (zdd (m:=0) V G25 V a (zaf _ _) (zad aQ))<|za1 ⟨?_,?_⟩
  ·obtain ⟨a6,aT,e⟩:=bsi e;refine wss V V V (zab (vs:=[]) Tryz.func8 V V V (ar0) (zh5   a6 _ [bp g] (Old.cons (Old.nil _) a.ltB)  aT) ?_);rintro _ aD ⟨q,rfl,s,w⟩;refine ⟨_,rfl,s,?_⟩;replace a:=a.ext s;have z:=Z.trans s;refine wss V V V (zaz (L:=[bp g]) (R:=Sc u8) [u8 1,u8 2] ([(1:UInt8),(2:UInt8)]:List UInt8) V T22 V (by exact ⟨rfl,cst8 (1:UInt8) V,rfl,cst8 (2:UInt8) V,trivial⟩) V (litC u8 zbi (us:=[u8 1,u8 2]) (l:=([(1:UInt8),(2:UInt8)]:List UInt8)) V) V (litS u8 (us:=[u8 1,u8 2]) (l:=([(1:UInt8),(2:UInt8)]:List UInt8)) V) ?_);intro r aE b8 b2 a1 bO;refine ⟨zaa a1,?_⟩;have o:=zaa a1;have aW:By aE [bp g] r ([(1:UInt8),(2:UInt8)]:List UInt8):=OwK.slk (Sc.stab _) _ b8 (fun b f=>(Old.cons (Old.nil _) a.ltB) b (b2 b f)) (fun _ d=>d.2);replace w:=w.lift (le_ o);replace a:=a.ext o;have A:=z.trans o;obtain ⟨p,H,e⟩:=bsi e;refine wss V V V (zab (vs:=[r]) Tryz.func10 V V V (ar1 V) (zet ([(1:UInt8),(2:UInt8)]:List UInt8) r p _ (aW.lift (Lift.sub (L':=[]) (fun _ _=>trivial))) H) ?_);rintro _ W ⟨i,rfl,k,O,Q⟩;refine ⟨_,rfl,k,?_⟩;have M:By W [bp g] i p:=OwK.slk (Sc.stab _) _ (OwK.scal Q (i::[bp g])) (fun b f=>(Old.cons (Old.nil _) a.ltB) b (O b f)) (fun _ d=>d.2);replace w:=w.lift (le_ k);replace a:=a.ext k;have B:=A.trans k;obtain ⟨h,I,e⟩:=bsi e;refine wsc V (by kernel_rfl) V V (zab (vs:=[ag i64 ([0,1,2,0]:List Int),q,i,.slice none 0 0]) Tryz.func9 V V V (ar4 V V V V) (zcq ([0,1,2,0]:List Int) a6 p ([]:List UInt8) q i (.slice none 0 0) h _ [bp g] (Old.cons (Old.nil _) a.ltB) (w.lift (Lift.sub (L':=[]) (fun _ _=>trivial))) (M.lift (Lift.sub (L':=[]) (fun _ _=>trivial))) (SlK.nil _ _ _) I) ?_);rintro _ X ⟨j,rfl,Y,P,S⟩;refine ⟨_,rfl,?_⟩;have N:Rw X [bp g] j h.1:=OwK.slk (SlK.stab (Sc.stab _)) _ S (fun b f=>(Old.cons (Old.nil _) a.ltB) b (P b f)) (fun _ d=>d.2);have C:=B.trans Y;refine sv (.tuple #[j,i64 h.2]) V V V<|sa V V (zah V V V)<|sa V V (zah V V V)<|sa V V (zat (v:=j) V V)<|sa V V (zat (v:=i64 h.2) V V)<|?_
   refine za1 ?_;obtain rfl:=osi e;exact ⟨j,rfl,rfl,rfl,C,N.lift (Lift.sub (fun _ d=>trivial))⟩
  refine wss V V V (zaz (L:=[bp g]) (R:=Sc u8) [u8 1,u8 2] ([(1:UInt8),(2:UInt8)]:List UInt8) V T22 V (by exact ⟨rfl,cst8 (1:UInt8) V,rfl,cst8 (2:UInt8) V,trivial⟩) V (litC u8 zbi (us:=[u8 1,u8 2]) (l:=([(1:UInt8),(2:UInt8)]:List UInt8)) V) V (litS u8 (us:=[u8 1,u8 2]) (l:=([(1:UInt8),(2:UInt8)]:List UInt8)) V) ?_);intro q aD b7 b1 a0 bN;refine ⟨zaa a0,?_⟩;have s:=zaa a0;have J:By aD [bp g] q ([(1:UInt8),(2:UInt8)]:List UInt8):=OwK.slk (Sc.stab _) _ b7 (fun b f=>(Old.cons (Old.nil _) a.ltB) b (b1 b f)) (fun _ d=>d.2);replace a:=a.ext s;have z:=Z.trans s;obtain ⟨a7,aU,e⟩:=bsi e;refine wss V V V (zab (vs:=[]) Tryz.func8 V V V (ar0) (zh5   a7 _ [bp g] (Old.cons (Old.nil _) a.ltB)  aU) ?_);rintro _ aE ⟨r,rfl,o,K⟩;refine ⟨_,rfl,o,?_⟩;replace J:=J.lift (le_ o);replace a:=a.ext o;have A:=z.trans o;obtain ⟨p,H,e⟩:=bsi e;refine wss V V V (zab (vs:=[q]) Tryz.func10 V V V (ar1 V) (zet ([(1:UInt8),(2:UInt8)]:List UInt8) q p _ (J.lift (Lift.sub (L':=[]) (fun _ _=>trivial))) H) ?_);rintro _ W ⟨i,rfl,k,O,Q⟩;refine ⟨_,rfl,k,?_⟩;have M:By W [bp g] i p:=OwK.slk (Sc.stab _) _ (OwK.scal Q (i::[bp g])) (fun b f=>(Old.cons (Old.nil _) a.ltB) b (O b f)) (fun _ d=>d.2);replace K:=K.lift (le_ k);replace a:=a.ext k;have B:=A.trans k;obtain ⟨h,I,e⟩:=bsi e;refine wsc V (by kernel_rfl) V V (zab (vs:=[ag i64 ([0,1,2,0]:List Int),r,i,.slice none 0 0]) Tryz.func9 V V V (ar4 V V V V) (zcq ([0,1,2,0]:List Int) a7 p ([]:List UInt8) r i (.slice none 0 0) h _ [bp g] (Old.cons (Old.nil _) a.ltB) (K.lift (Lift.sub (L':=[]) (fun _ _=>trivial))) (M.lift (Lift.sub (L':=[]) (fun _ _=>trivial))) (SlK.nil _ _ _) I) ?_);rintro _ X ⟨j,rfl,Y,P,S⟩;refine ⟨_,rfl,?_⟩;have N:Rw X [bp g] j h.1:=OwK.slk (SlK.stab (Sc.stab _)) _ S (fun b f=>(Old.cons (Old.nil _) a.ltB) b (P b f)) (fun _ d=>d.2);have C:=B.trans Y;refine sv (.tuple #[j,i64 h.2]) V V V<|sa V V (zah V V V)<|sa V V (zah V V V)<|sa V V (zat (v:=j) V V)<|sa V V (zat (v:=i64 h.2) V V)<|za1 ?_
  obtain rfl:=osi e;exact ⟨j,rfl,rfl,rfl,C,N.lift (Lift.sub (fun _ d=>trivial))⟩
 rintro _ bD ⟨aA,a8,bB,T,aP,u⟩;refine W_th<|W_seq<|zba [10,11,14] [(0,0),(1,0),(2,0),(3,0),(4,0),(5,0),(6,0),(7,0),(8,0),(9,0),(10,1),(11,1),(12,2),(13,2),(14,1),(15,0),(16,0),(17,0)] mixed (by kernel_rfl) (by kernel_rfl) (by kernel_rfl) (by kernel_rfl) ?_;have aF:=Ext.drew bD;replace u:=u.lift (le_ aF);have D:=aP.trans aF;refine sv (i64 t.2) V V bB<|sa V V (q_eqI V V V)<|wsb V V V (zbd (v:=(.bool (decide (t.2=0)))) V V) (fun F=>?_) (fun F=>?_)
 ·replace c:=ifp F c;refine sv aA V V a8<|sa V V (q_len V T29.sl V u)<|sa V V (q_eqI V V V)<|sa V V (zaw (v:=(.bool (decide ((t.1.length:Int)=2)))) V V V)<|wsb V V V (zbd (v:=(.bool (decide ((t.1.length:Int)=2)))) V V) (fun G=>?_) (fun G=>?_)
  ·replace c:=ifp G c;refine sv aA V V a8 ?_;obtain ⟨y,a4,c⟩:=bsi c;refine sa V V (q_adr V T29 V V u a4)<|zhf V V V V T29 V u a4 (Ext.refl _) (fun bR aX=>?_);refine sq V V (q_str V T22 V V V aX)<|wss V V V (zaz (L:=[]) (R:=Sc u8) [u8 1,u8 2] ([(1:UInt8),(2:UInt8)]:List UInt8) V T22 V (by exact ⟨rfl,cst8 (1:UInt8) V,rfl,cst8 (2:UInt8) V,trivial⟩) V (litC u8 zbi (us:=[u8 1,u8 2]) (l:=([(1:UInt8),(2:UInt8)]:List UInt8)) V) V (litS u8 (us:=[u8 1,u8 2]) (l:=([(1:UInt8),(2:UInt8)]:List UInt8)) V) ?_);intro U bE b9 b3 a2 bP;refine ⟨zaa a2,?_⟩;have bI:=zaa a2;have aY:By bE [] U ([(1:UInt8),(2:UInt8)]:List UInt8):=OwK.slk (Sc.stab _) _ b9 (fun b f=>(Old.nil _) b (b3 b f)) (fun _ d=>d.2);have aK:=D.trans bI;obtain ⟨x,aV,c⟩:=bsi c;refine wss V V V (zab (vs:=[U]) Tryz.func10 V V V (ar1 V) (zet ([(1:UInt8),(2:UInt8)]:List UInt8) U x _ (aY.lift (Lift.sub (L':=[]) (fun _ _=>trivial))) aV) ?_);rintro _ bF ⟨a9,rfl,aG,b4,bA⟩;refine ⟨_,rfl,aG,?_⟩;have aZ:By bF [] a9 x:=OwK.slk (Sc.stab _) _ (OwK.scal bA (a9::[])) (fun b f=>(Old.nil _) b (b4 b f)) (fun _ d=>d.2);have aL:=aK.trans aG;refine sq V V (q_str V T22 V V V aZ)<|sa V V (q_eqS V V V)<|sa V V (zaw (v:=(.bool (decide (y=x)))) V V V)<|sa V V (zat (v:=(.bool (decide (y=x)))) V V)<|za1<|W_th<|W_ret<|?_;obtain rfl:=osi c;refine rt1 (.bool (decide (y=x))) V V V T ?_;exact ⟨rfl,aL⟩
  replace c:=ifn G c;refine wsk V V V<|wsk V V V<|wsk V V V<|wsk V V V<|wsk V V V<|wsk V V V<|wsk V V V<|wsk V V V<|sa V V (zaq (v:=(.bool false)) V V V)<|sa V V (zat (v:=(.bool false)) V V)<|za1<|W_th<|W_ret<|?_;obtain rfl:=osi c;refine rt1 (.bool false) V V V T ?_;exact ⟨rfl,D⟩
 replace c:=ifn F c;refine wsk V V V<|wsk V V V<|wsk V V V<|sa V V (zaq (v:=(.bool false)) V V V)<|sv (.bool false) V V V<|wsk V V V<|wsk V V V<|wsk V V V<|wsk V V V<|wsk V V V<|wsk V V V<|wsk V V V<|wsk V V V<|sa V V (zaq (v:=(.bool false)) V V V)<|sa V V (zat (v:=(.bool false)) V V)<|?_;refine za1<|W_th<|W_ret<|?_;obtain rfl:=osi c;refine rt1 (.bool false) V V V T ?_;exact ⟨rfl,D⟩
noncomputable def zgf (b:List (List UInt8)) (c:List (List UInt8)):Option Bool :=
(if (b.length:Int)=(c.length:Int) then
((iterC (fun a:Int =>
(if a<(b.length:Int) then
((idx b a).bind fun d =>
((idx c a).bind fun e =>
(if d=e then some (.inl (wI (a+1)))
else some (.inr (.inr false)))))
else some (.inr (.inl ())))) 0).bind (Sum.elim (fun g => some true) (fun f=>some f)))
else some false)
theorem zg2 (j:List (List UInt8)) (r:List (List UInt8)) (f:Value) (h:Value) (w:Bool) (w0:World) (i:Rw w0 [] f j) (m:Rw w0 [] h r) (b:zgf j r=some w) :
  Calls Tryz.prog 18 [f,h].toArray w0 (fun C H=>C=.returned (.bool w)/\Ext w0 H):=by
 have g:Ext w0 w0:=Ext.refl w0;unfold zgf at b;refine zai (n:=28) Tryz.func18 V V V<|W_sr<|av (.bool false) V V<|wnt<|W_seq<|W_sr<|mv f V V<|wa V (q_len V T29.sl V (i.lift (le_ g)))<|mv h V V<|wa V (q_len V T29.sl V (m.lift (le_ g)))<|wa V (q_neI V V V)<|wnt<|zam _ V V (fun k=>?_) (fun k=>?_)
 ·replace b:=(if_neg (zbf k)).symm.trans b;refine W_sr<|av (.bool false) V V<|wnt<|W_ret<|th_r<|?_;obtain rfl:=osi b;refine rt1 (.bool false) V V V V ?_;exact ⟨rfl,g⟩
 replace b:=(if_pos (zbg k)).symm.trans b;refine zae<|W_th<|W_seq<|W_sr<|mv f V V<|wa V (q_len V T29.sl V (i.lift (le_ g)))<|mv (i64 0) V V<|wnt ?_;obtain ⟨J,B,b⟩:=bsi b;refine W_mid (fun d q=>∃ A,J=.inl A/\d 28=undef/\Ext w0 q) ?_ ?_
 ·refine zac<|zau (fun e d q=>d 0=f/\d 1=h/\d 12=i64 (j.length:Int)/\d 13=i64 e/\d 28=undef/\Ext w0 q) B ?_ ?_
  ·exact ⟨rfl,rfl,rfl,rfl,rfl,g⟩
  rintro e _ _ I ⟨x,z,y,o,p,s⟩ a v;refine W_sr<|wa V (q_ltI V o y)<|wnt<|W_seq<|wci a V V (fun a=>?_) (fun a=>?_)
  ·refine zae<|W_th<|W_seq<|zac<|W_sr<|mv (i64 e) V o<|av (i64 e) V V<|wnt<|W_seq<|zba [3,4,8,9] [(0,0),(1,0),(2,0),(3,1),(4,1),(5,0),(6,0),(7,0),(8,1),(9,1),(10,0)] mixed (by kernel_rfl) (by kernel_rfl) (by kernel_rfl) (by kernel_rfl) ?_;have K:=Ext.drew I;have c:=s.trans K;refine sv f V V x<|sv (i64 e) V V V<|bse a fun L t a=>sa V V (q_adr V T29 V V (i.lift (le_ c)) t)<|zhf V V V V T29 V i t c (fun O F=>?_);refine sq V V (q_str V T22 V V V (F.lift (le_ c)))<|sv h V V z<|sv (i64 e) V V V<|bse a fun M u a=>sa V V (q_adr V T29 V V (m.lift (le_ c)) u)<|zhf V V V V T29 V m u c (fun N E=>?_);refine sq V V (q_str V T22 V V V (E.lift (le_ c)))<|sa V V (q_neS V V V)<|za1<|W_th<|zam _ V V (fun l=>?_) (fun l=>?_)
   ·replace a:=(if_neg (zbf l)).symm.trans a;refine W_sr<|av (.bool false) V V<|wnt<|W_ret<|bk_r<|th_r<|?_;obtain rfl:=osi a;obtain rfl:=v _ rfl;simp only [Sum.elim_inr] at b;refine th_r<|bk_r<|th_r<|th_r<|?_;obtain rfl:=osi b;refine rt1 (.bool false) V V V p ?_;exact ⟨rfl,c⟩
   replace a:=(if_pos (zbg l)).symm.trans a;refine zae<|bk_n<|W_th<|W_rg<|wa V (zak V o V)<|mv (i64 (wI (e+1))) V V<|zag<|?_;obtain rfl:=osi a;exact ⟨_,rfl,x,z,y,rfl,p,c⟩
  refine zar<|th_x<|?_;obtain rfl:=osi a;obtain rfl:=v _ rfl;refine th_x<|bk_x<|?_;exact ⟨_,rfl,p,s⟩
 rintro _ P ⟨A,rfl,G,D⟩;simp only [Sum.elim_inl] at b;refine W_th<|W_sr<|av (.bool true) V V<|wnt<|W_ret<|?_;obtain rfl:=osi b;refine rt1 (.bool true) V V V G ?_;exact ⟨rfl,D⟩
noncomputable def zf3 (d:List UInt8) (c:List UInt8):Option (List UInt8) :=
((iterC (fun a:List UInt8×List UInt8×Int =>
(if a.2.2<(d.length:Int) then
((idx d a.2.2).bind fun r =>
(((remI a.2.2 16).bind fun g =>
(if g=0 then
((divI a.2.2 16).bind fun h =>
((makeL 8 (0:UInt8)).bind fun i =>
((zjy (UInt64.ofInt h) 8).bind fun s =>
((appL i s).bind fun j =>
((zd5 c j).bind fun t => some t)))))
else some a.2.1)).bind fun e =>
((remI a.2.2 16).bind fun k =>
((idx e k).bind fun l =>
((appL a.1 ([(r^^^l)]:List UInt8)).bind fun m => some (.inl (m,e,wI (a.2.2+1))))))))
else some (.inr a.1))) (([]:List UInt8),([]:List UInt8),0)).bind fun f =>
((ref07_Sum f).bind fun u =>
((iterC (fun b:List UInt8×Int =>
(if b.2<(c.length:Int) then
((idx c b.2).bind fun n =>
((idx u b.2).bind fun o =>
((appL b.1 ([(n^^^o)]:List UInt8)).bind fun p => some (.inl (p,wI (b.2+1))))))
else some (.inr b.1))) (f,0)).bind fun v =>
((appL ([(1:UInt8)]:List UInt8) v).bind fun q => some q))))
theorem ref17_Package_calls (Y:List UInt8) (E:List UInt8) (P:Value) (k:Value) (bM:List UInt8) (w0:World) (aM:By w0 [] P Y) (I:By w0 [] k E) (o:zf3 Y E=some bM) :
  Calls Tryz.prog 47 [P,k].toArray w0 (fun c9 c4=>∃ aX:Value,c9=.returned aX/\Ext w0 c4/\Nw w0 aX/\OwK (Sc u8) c4 [] 5 aX bM):=by
 have bC:Ext w0 w0:=Ext.refl w0;unfold zf3 at o;refine zai (n:=65) Tryz.func47 V V V<|W_sr<|av (.slice none 0 0) V V<|wnt<|W_sr<|wls V V (zaz (L:=[]) (R:=Sc u8) [] ([]:List UInt8) V T22 V (by exact trivial) V (litC u8 zbi (us:=[]) (l:=([]:List UInt8)) V) V (litS u8 (us:=[]) (l:=([]:List UInt8)) V) ?_);intro aB fB a4 dD cH f2;have eT:=zaa cH;have dI:=Nw.ext bC dD;have cB:=bC.trans eT;refine wls V V (zaz (L:=[aB]) (R:=Sc u8) [] ([]:List UInt8) V T22 V (by exact trivial) V (litC u8 zbi (us:=[]) (l:=([]:List UInt8)) V) V (litS u8 (us:=[]) (l:=([]:List UInt8)) V) ?_);intro aZ eP dZ dL cM f6;have b3:=zaa cM;have d7:By eP [aB] aZ ([]:List UInt8):=OwK.slk (Sc.stab _) _ dZ (fun e i=>(Old.cons (Old.nil _) a4.lt) e (dL e i)) (fun _ b=>b.2);replace a4:=a4.extL (Sc.stab _) b3 (le_ b3);have bA:=cB.trans b3;refine av aB V V<|av aZ V V<|wnt<|W_seq<|W_sr<|mv P V V<|wa V (q_len V T22.sl V (aM.lift (le_ bA)))<|mv (i64 0) V V<|wnt<|?_;obtain ⟨c6,c8,o⟩:=bsi o;refine W_mid (fun a g=>∃ aE:Value,a 1=k/\a 5=aE/\a 65=undef/\Ext w0 g/\OwK (Sc u8) g [aE] 5 aE c6/\Nw w0 aE) ?_ ?_
 ·refine zac<|zau (fun j a g=>∃ T:Value,∃ c3:Value,a 1=k/\a 5=T/\a 6=c3/\a 14=P/\a 15=i64 (Y.length:Int)/\a 16=i64 j.2.2/\a 65=undef/\Ext w0 g/\OwK (Sc u8) g [T] 5 T j.1/\Nw w0 T/\By g [T] c3 j.2.1) c8 ?_ ?_
  ·exact ⟨aB,aZ,rfl,rfl,rfl,rfl,rfl,rfl,rfl,bA,a4,dI,d7⟩
  rintro j _ _ eS ⟨f,eL,S,a9,eH,a6,a7,B,aA,H,d,a1,d4⟩ h d3;refine W_sr<|wa V (q_ltI V B a7)<|wnt<|W_seq<|wci h V V (fun h=>?_) (fun h=>?_)
  ·refine zae<|W_th<|W_seq<|zac<|W_sr<|mv (i64 j.2.2) V B<|bse h fun p bI h=>wa V (q_adr V T22 a6 B (aM.lift (le_ H)) bI)<|wq V (zao V T22 V (aM.lift (le_ H)) bI)<|av (i64 j.2.2) V V<|av (u8 p) V V<|wnt<|W_seq<|?_;obtain ⟨eU,c,h⟩:=bsi h;refine W_mid (fun a g=>∃ c2:Value,a 1=k/\a 5=f/\a 6=c2/\a 7=i64 j.2.2/\a 8=u8 p/\a 14=P/\a 15=i64 (Y.length:Int)/\a 16=i64 j.2.2/\a 65=undef/\Ext w0 g/\OwK (Sc u8) g [f] 5 f j.1/\Nw w0 f/\By g [f] c2 eU) ?_ ?_
   ·refine W_sr<|mv (i64 j.2.2) V V<|bse c fun eW cT c=>wa V (zdm V V V cT)<|wa V (q_eqI V V V)<|wnt<|wci c V V (fun c=>?_) (fun c=>?_)
    ·refine W_draw2 [] [(0,0),(2,0),(3,0),(4,0)] 1 5 [(5,2),(6,2),(7,2),(8,0)] [(1,2),(6,2),(7,2),(8,0)] mixed (by kernel_rfl) (by kernel_rfl) (by kernel_rfl) (by kernel_rfl) ?_;have b2:=Ext.drew eS;replace d:=d.extL (Sc.stab _) b2 (le_ b2);have aJ:=H.trans b2;refine sv k V V S<|sv (i64 j.2.2) V V V<|bse c fun Z cU c=>sa V V (q_divI V V V cU)<|sa V V (zgi V V V V)<|?_;obtain ⟨eX,bE,c⟩:=bsi c;refine za1 ⟨?_,?_⟩
     ·refine wsc V (by kernel_rfl) V V (zb3 (L:=[f]) (R:=Sc u8) V T22 V V bE (fun _ _=>rfl) ?_);intro r c5 a5 aS cI f3;have z:=zaa cI;have e5:Nq f r:=d.nq aS;replace d:=d.extL (Sc.stab _) z (Lift.call _ z aS);have dF:=Nw.ext aJ aS;have cA:=aJ.trans z;obtain ⟨bO,d0,c⟩:=bsi c;refine wsc V (by kernel_rfl) V V (zab (vs:=[u64 (UInt64.ofInt Z),i64 8]) Tryz.func76 V V V (ar2 V V) (ref01_Put_calls (UInt64.ofInt Z) 8  bO _  d0) ?_);rintro _ eM ⟨aY,rfl,X,dG,dW⟩;refine ⟨_,rfl,?_⟩;have d5:By eM [r,f] aY bO:=OwK.slk (Sc.stab _) _ (OwK.scal dW (aY::[r,f])) (fun e i=>(Old.cons (Old.cons (Old.nil _) d.lt) a5.lt) e (dG e i)) (fun _ b=>b.2);replace a5:=a5.extL (Sc.stab _) X (le_ X);have cD:=cA.trans X;obtain ⟨aI,aL,c⟩:=bsi c;refine wsc V (by kernel_rfl) V V (zav (R:=Sc u8) (v:=r) (u:=aY) (Sc.stab _) [] [f] V T22 V V a5 d5 (fun _ _ b=>b) aL oc_u8 ?_);intro x eN O G dQ aQ;replace d:=(d.extL (Sc.stab _) X (le_ X)).other (Sc.stab _) G e5 aQ;have F:=cD.grown G dF;obtain ⟨Q,aN,c⟩:=bsi c;refine wsc V (by kernel_rfl) V V (zab (vs:=[k,x]) Tryz.func75 V V V (ar2 V V) (zia E aI k x Q _ (I.lift (le_ F)) (O.rd (Sc.stab _)) aN) ?_);rintro _ b1 ⟨y,rfl,A,aT,aV⟩;refine ⟨_,rfl,?_⟩;have aP:By b1 [x,f] y Q:=SlK.avail aV _ (fun e i=>(Old.cons (Old.cons (Old.nil _) d.lt) O.lt) e (aT e i));replace d:=d.extL (Sc.stab _) A (le_ A);have aK:=F.trans A;refine sa V V (zat (v:=y) V V)<|za1 ?_;obtain rfl:=osi c;exact ⟨y,S,a9,rfl,rfl,rfl,a6,a7,B,aA,aK,d.weak (Sc.stab _) (fun _ b=>⟨b.2.1,trivial⟩),a1,aP.lift (Lift.sub (fun _ b=>⟨b.2.1,trivial⟩))⟩
     obtain ⟨bN,cZ,c⟩:=bsi c;refine wsc V (by kernel_rfl) V V (zab (vs:=[u64 (UInt64.ofInt Z),i64 8]) Tryz.func76 V V V (ar2 V V) (ref01_Put_calls (UInt64.ofInt Z) 8  bN _  cZ) ?_);rintro _ c5 ⟨r,rfl,z,dE,dU⟩;refine ⟨_,rfl,?_⟩;have aO:By c5 [f] r bN:=OwK.slk (Sc.stab _) _ (OwK.scal dU (r::[f])) (fun e i=>(Old.cons (Old.nil _) d.lt) e (dE e i)) (fun _ b=>b.2);replace d:=d.extL (Sc.stab _) z (le_ z);have b6:=aJ.trans z;refine wsc V (by kernel_rfl) V V (zb3 (L:=[f]) (R:=Sc u8) V T22 V V bE (fun _ _=>rfl) ?_);intro bW fC dV a2 cJ f4;have aF:=zaa cJ;have e6:Nq f bW:=d.nq a2;replace aO:=aO.lift (Lift.call _ aF a2);have dH:=Nw.ext b6 a2;have cC:=b6.trans aF;obtain ⟨aI,aL,c⟩:=bsi c;refine wsc V (by kernel_rfl) V V (zav (R:=Sc u8) (v:=bW) (u:=r) (Sc.stab _) [] [f] V T22 V V dV aO (fun _ _ b=>b) aL oc_u8 ?_);intro x eN O G dQ aQ;replace d:=(d.extL (Sc.stab _) aF (Lift.call _ aF a2)).other (Sc.stab _) G e6 aQ;have F:=cC.grown G dH;obtain ⟨Q,aN,c⟩:=bsi c;refine wsc V (by kernel_rfl) V V (zab (vs:=[k,x]) Tryz.func75 V V V (ar2 V V) (zia E aI k x Q _ (I.lift (le_ F)) (O.rd (Sc.stab _)) aN) ?_);rintro _ b1 ⟨y,rfl,A,aT,aV⟩;refine ⟨_,rfl,?_⟩;have aP:By b1 [x,f] y Q:=SlK.avail aV _ (fun e i=>(Old.cons (Old.cons (Old.nil _) d.lt) O.lt) e (aT e i));replace d:=d.extL (Sc.stab _) A (le_ A);have aK:=F.trans A;refine sa V V (zat (v:=y) V V)<|za1 ?_;obtain rfl:=osi c;exact ⟨y,S,a9,rfl,rfl,rfl,a6,a7,B,aA,aK,d.weak (Sc.stab _) (fun _ b=>⟨b.2.1,trivial⟩),a1,aP.lift (Lift.sub (fun _ b=>⟨b.2.1,trivial⟩))⟩
    refine zae ?_;obtain rfl:=osi c;exact ⟨eL,S,a9,eH,rfl,rfl,a6,a7,B,aA,H,d,a1,d4⟩
   rintro _ fD ⟨c1,eA,eC,bU,eI,eJ,e7,e8,e9,eE,cR,a3,bJ,J⟩;refine W_th<|W_rg<|mv f V eC<|mv (u8 p) V eJ<|mv c1 V bU<|mv (i64 j.2.2) V eI<|bse h fun eY cV h=>wa V (zdm V V V cV) ?_;obtain ⟨s,bF,h⟩:=bsi h;refine wa V (q_adr V T22 V V J bF)<|wq V (zao V T22 V J bF)<|wa V (zdb V V V)<|wls V V (zaz (L:=[f]) (R:=Sc u8) [u8 (p^^^s)] ([(p^^^s)]:List UInt8) V T22 V (by exact ⟨rfl,rfl,trivial⟩) V (litC u8 zbi (us:=[u8 (p^^^s)]) (l:=([(p^^^s)]:List UInt8)) V) V (litS u8 (us:=[u8 (p^^^s)]) (l:=([(p^^^s)]:List UInt8)) V) ?_);intro bX eO dX dJ cK f5;have aG:=zaa cK;have d6:By eO [f] bX ([(p^^^s)]:List UInt8):=OwK.slk (Sc.stab _) _ dX (fun e i=>(Old.cons (Old.nil _) a3.lt) e (dJ e i)) (fun _ b=>b.2);replace a3:=a3.extL (Sc.stab _) aG (le_ aG);have b7:=cR.trans aG;obtain ⟨eZ,cW,h⟩:=bsi h;refine wls V V (zav (R:=Sc u8) (v:=f) (u:=bX) (Sc.stab _) [] [] V T22 V V a3 d6 (fun _ _ b=>b) cW oc_u8 ?_);intro bY fE dY cL dR dA;replace J:=(J.lift (le_ aG)).lift dA;have cE:=b7.grown cL bJ;have dK:=Nw.nxt b7 bJ dR;refine av bY V V<|zag<|bk_n<|W_th<|W_rg<|wa V (zak V e9 V)<|mv (i64 (wI (j.2.2+1))) V V<|zag<|?_;obtain rfl:=osi h;exact ⟨_,rfl,bY,c1,eA,rfl,bU,e7,e8,rfl,eE,cE,dY,dK,J⟩
  refine zar<|th_x<|?_;obtain rfl:=osi h;obtain rfl:=d3 _ rfl;refine th_x<|bk_x<|?_;exact ⟨f,S,a9,aA,H,d,a1⟩
 rintro _ fF ⟨D,eB,bR,eF,cS,M,dC⟩;refine W_th<|W_sr<|mv D V bR<|?_;obtain ⟨aW,d1,o⟩:=bsi o;refine wls V V (zab (vs:=[D]) Tryz.func77 V V V (ar1 V) (ref07_Sum_calls c6 D aW _ (M.rd (Sc.stab _)) d1) ?_);rintro _ eQ ⟨C,rfl,b4,dM,e0⟩;refine ⟨_,rfl,?_⟩;have d8:By eQ [D] C aW:=OwK.slk (Sc.stab _) _ (OwK.scal e0 (C::[D])) (fun e i=>(Old.cons (Old.nil _) M.lt) e (dM e i)) (fun _ b=>b.2);replace M:=M.extL (Sc.stab _) b4 (le_ b4);have b8:=cS.trans b4;refine av C V V<|wnt<|W_seq<|W_sr<|mv k V eB<|wa V (q_len V T22.sl V (I.lift (le_ b8)))<|mv (i64 0) V V<|wnt ?_;obtain ⟨eV,c7,o⟩:=bsi o;refine W_mid (fun a g=>∃ aD:Value,a 5=aD/\a 65=undef/\Ext w0 g/\OwK (Sc u8) g [aD] 5 aD eV/\Nw w0 aD) ?_ ?_
 ·refine zac<|zau (fun w a g=>∃ W:Value,a 5=W/\a 9=C/\a 45=k/\a 46=i64 (E.length:Int)/\a 47=i64 w.2/\a 65=undef/\Ext w0 g/\OwK (Sc u8) g [W] 5 W w.1/\Nw w0 W/\By g [W] C aW) c7 ?_ ?_
  ·exact ⟨D,bR,rfl,rfl,rfl,rfl,eF,b8,M,dC,d8⟩
  rintro w _ _ fG ⟨U,bS,bV,bP,bQ,a8,bT,a0,N,aR,K⟩ m d2;refine W_sr<|wa V (q_ltI V a8 bQ)<|wnt<|W_seq<|wci m V V (fun m=>?_) (fun m=>?_)
  ·refine zae<|W_th<|W_seq<|zac<|W_sr<|mv (i64 w.2) V a8<|bse m fun q bG m=>wa V (q_adr V T22 bP a8 (I.lift (le_ a0)) bG)<|wq V (zao V T22 V (I.lift (le_ a0)) bG)<|av (i64 w.2) V V<|av (u8 q) V V<|wnt<|W_rg<|mv U V bS<|mv (u8 q) V V<|?_;refine mv C V bV<|mv (i64 w.2) V V<|bse m fun t bH m=>wa V (q_adr V T22 V V K bH)<|wq V (zao V T22 V K bH)<|wa V (zdb V V V)<|wls V V (zaz (L:=[U]) (R:=Sc u8) [u8 (q^^^t)] ([(q^^^t)]:List UInt8) V T22 V (by exact ⟨rfl,rfl,trivial⟩) V (litC u8 zbi (us:=[u8 (q^^^t)]) (l:=([(q^^^t)]:List UInt8)) V) V (litS u8 (us:=[u8 (q^^^t)]) (l:=([(q^^^t)]:List UInt8)) V) ?_);intro bZ eR e1 dN cN f7;have aH:=zaa cN;have d9:By eR [U] bZ ([(q^^^t)]:List UInt8):=OwK.slk (Sc.stab _) _ e1 (fun e i=>(Old.cons (Old.nil _) N.lt) e (dN e i)) (fun _ b=>b.2);replace N:=N.extL (Sc.stab _) aH (le_ aH);have b9:=a0.trans aH;obtain ⟨f0,cX,m⟩:=bsi m;refine wls V V (zav (R:=Sc u8) (v:=U) (u:=bZ) (Sc.stab _) [] [] V T22 V V N d9 (fun _ _ b=>b) cX oc_u8 ?_);intro c0 fH e2 cO dS dB;replace K:=(K.lift (le_ aH)).lift dB;have cF:=b9.grown cO aR;have dO:=Nw.nxt b9 aR dS;refine av c0 V V<|zag<|bk_n<|W_th<|W_rg<|wa V (zak V a8 V)<|mv (i64 (wI (w.2+1))) V V<|zag<|?_;obtain rfl:=osi m;exact ⟨_,rfl,c0,rfl,bV,bP,bQ,rfl,bT,cF,e2,dO,K⟩
  refine zar<|th_x<|?_;obtain rfl:=osi m;obtain rfl:=d2 _ rfl;refine th_x<|bk_x<|?_;exact ⟨U,bS,bT,a0,N,aR⟩
 rintro _ fI ⟨aC,eD,eG,bD,aU,fA⟩;refine W_th<|W_sr<|wls V V (zaz (L:=[aC]) (R:=Sc u8) [u8 1] ([(1:UInt8)]:List UInt8) V T22 V (by exact ⟨rfl,cst8 (1:UInt8) V,trivial⟩) V (litC u8 zbi (us:=[u8 1]) (l:=([(1:UInt8)]:List UInt8)) V) V (litS u8 (us:=[u8 1]) (l:=([(1:UInt8)]:List UInt8)) V) ?_);intro eK fJ e3 bK cP f8;have b5:=zaa cP;replace aU:=aU.extL (Sc.stab _) b5 (Lift.call _ b5 bK);have bL:=Nw.ext bD bK;have bB:=bD.trans b5;refine mv aC V eD ?_;obtain ⟨f1,cY,o⟩:=bsi o;refine wls V V (zav (R:=Sc u8) (v:=eK) (u:=aC) (Sc.stab _) [] [aC] V T22 V V e3 (aU.rd (Sc.stab _)) (fun _ _ b=>b) cY oc_u8 ?_);intro b0 fK e4 cQ dT f9;have cG:=bB.grown cQ bL;have dP:=Nw.nxt bB bL dT;refine av b0 V V<|wnt<|W_ret<|?_;obtain rfl:=osi o;refine rt1 b0 V V V eG ?_;exact ⟨b0,rfl,cG,dP,e4.weak (Sc.stab _) (fun _ _=>trivial)⟩
noncomputable def zhl (a:Int) (b:Int) (e:Int) (c:List UInt8) (d:List UInt8):Option (List (List UInt8)) :=
((if a=1 then
((zf3 c d).bind fun k =>
((ref09_Cut k b).bind fun h => some h))
else some ([]:List (List UInt8))).bind fun m =>
((iterC (fun s13:List (List UInt8)×Int =>
(if s13.2<=e then
(if a=0 then
((zfd b c d (UInt8.ofInt s13.2)).bind fun i =>
((appL s13.1 ([i]:List (List UInt8))).bind fun f => some (.inl (f,wI (s13.2+1)))))
else
((zfc m s13.2).bind fun j =>
((appL s13.1 ([j]:List (List UInt8))).bind fun g => some (.inl (g,wI (s13.2+1))))))
else some (.inr s13.1))) (([]:List (List UInt8)),1)).bind fun l => some l))
theorem ref17_Rows_calls (z:Int) (o:Int) (C:Int) (I:List UInt8) (J:List UInt8) (p:Value) (q:Value) (aQ:List (List UInt8)) (w0:World) (a:List Value) (s:Old w0 a) (aL:By w0 [] p I) (aM:By w0 [] q J) (y:zhl z o C I J=some aQ) :
  Calls Tryz.prog 19 [i64 z,i64 o,i64 C,p,q].toArray w0 (fun b0 aX=>∃ K:Value,b0=.returned K/\Ext w0 aX/\Nw w0 K/\OwK By aX (K::a) 22 K aQ):=by
 have aK:Ext w0 w0:=Ext.refl w0;unfold zhl at y;refine zai (n:=46) Tryz.func19 V V V<|W_sr<|av (.slice none 0 0) V V<|wnt<|W_sr<|wls V V (zaz (L:=a) (R:=By) [] ([]:List (List UInt8)) V T29 V (by exact trivial) V (LitR.cells (R:=By) (w:=w0) (L:=a) (l:=([]:List (List UInt8))) LitR.nil (fun u x b=>zb4 u x b)) V (LitR.all (R:=By) (w:=w0) (L:=a) (l:=([]:List (List UInt8))) (SlK.stab (Sc.stab _)) LitR.nil) ?_);intro h aY k bT b4 cZ;have cV:=zaa b4;have aP:=Nw.ext aK bT;have aG:=aK.trans cV;refine av h V V<|wnt<|W_sr<|wls V V (zaz (L:=(h::a)) (R:=By) [] ([]:List (List UInt8)) V T29 V (by exact trivial) V (LitR.cells (R:=By) (w:=aY) (L:=(h::a)) (l:=([]:List (List UInt8))) LitR.nil (fun u x b=>zb4 u x b)) V (LitR.all (R:=By) (w:=aY) (L:=(h::a)) (l:=([]:List (List UInt8))) (SlK.stab (Sc.stab _)) LitR.nil) ?_);intro a8 cT cE c1 b9 d2;have aC:=zaa b9;have bN:Rw cT (h::a) a8 ([]:List (List UInt8)):=OwK.slk (SlK.stab (Sc.stab _)) _ cE (fun d j=>(Old.cons (s.ext aG) k.lt) d (c1 d j)) (fun _ b=>b.2);replace k:=k.extL (SlK.stab (Sc.stab _)) aC (le_ aC);have D:=aG.trans aC;refine av a8 V V<|wnt<|W_seq<|?_;obtain ⟨aD,r,y⟩:=bsi y;refine W_mid (fun c w=>∃ aS:Value,c 0=i64 z/\c 1=i64 o/\c 2=i64 C/\c 3=p/\c 4=q/\c 11=h/\c 12=aS/\c 46=undef/\Ext w0 w/\OwK By w (h::a) 22 h ([]:List (List UInt8))/\Nw w0 h/\Rw w (h::a) aS aD) ?_ ?_
 ·refine W_sr<|mv (i64 z) V V<|wa V (q_eqI V V V)<|wnt<|wci r V V (fun r=>?_) (fun r=>?_)
  ·refine W_rg<|mv p V V<|mv q V V<|?_;obtain ⟨W,bI,r⟩:=bsi r;refine wls V V (zab (vs:=[p,q]) Tryz.func47 V V V (ar2 V V) (ref17_Package_calls I J p q W _ (aL.lift (le_ D)) (aM.lift (le_ D)) bI) ?_);rintro _ cU ⟨O,rfl,aE,c2,cF⟩;refine ⟨_,rfl,?_⟩;have bO:By cU (h::a) O W:=OwK.slk (Sc.stab _) _ (OwK.scal cF (O::(h::a))) (fun d j=>(Old.cons (s.ext D) k.lt) d (c2 d j)) (fun _ b=>b.2);replace k:=k.extL (SlK.stab (Sc.stab _)) aE (le_ aE);have U:=D.trans aE;refine mv (i64 o) V V ?_;obtain ⟨aR,bE,r⟩:=bsi r;refine wls V V (zab (vs:=[O,i64 o]) Tryz.func46 V V V (ar2 V V) (ref09_Cut_calls W o O aR _ (h::a) (Old.cons (s.ext U) k.lt) (bO.lift (Lift.sub (L':=[]) (fun _ _=>trivial))) bE) ?_);rintro _ cQ ⟨a5,rfl,aB,bU,c7⟩;refine ⟨_,rfl,?_⟩;have bK:Rw cQ (h::a) a5 aR:=OwK.slk (SlK.stab (Sc.stab _)) _ c7 (fun d j=>(Old.cons (s.ext U) k.lt) d (bU d j)) (fun _ b=>b.2);replace k:=k.extL (SlK.stab (Sc.stab _)) aB (le_ aB);have b1:=U.trans aB;refine av a5 V V<|zag<|?_;obtain rfl:=osi r;exact ⟨a5,rfl,rfl,rfl,rfl,rfl,rfl,rfl,rfl,b1,k,aP,bK⟩
  refine zae ?_;obtain rfl:=osi r;exact ⟨a8,rfl,rfl,rfl,rfl,rfl,rfl,rfl,rfl,D,k,aP,bN⟩
 rintro _ d3 ⟨H,cG,cK,cL,cM,cP,cH,cJ,cN,bA,c5,bR,bJ⟩;refine W_th<|W_seq<|W_sr<|av (i64 1) V V<|wnt<|?_;obtain ⟨cW,aZ,y⟩:=bsi y;refine W_mid (fun c w=>∃ N:Value,c 11=N/\c 46=undef/\Ext w0 w/\OwK By w (N::a) 22 N cW/\Nw w0 N) ?_ ?_
 ·refine zac<|zau (fun i c w=>∃ G:Value,c 0=i64 z/\c 1=i64 o/\c 2=i64 C/\c 3=p/\c 4=q/\c 11=G/\c 12=H/\c 13=i64 i.2/\c 46=undef/\Ext w0 w/\OwK By w (G::a) 22 G i.1/\Nw w0 G/\Rw w (G::a) H aD) aZ ?_ ?_
  ·exact ⟨h,cG,cK,cL,cM,cP,cH,cJ,rfl,cN,bA,c5,bR,bJ⟩
  rintro i _ _ d4 ⟨f,X,a0,a1,a2,a4,Y,Z,F,a3,t,g,E,m⟩ e bF;refine W_seq<|W_sr<|mv (i64 i.2) V F<|mv (i64 C) V a1<|wa V (q_leI V V V)<|wnt<|wci e V V (fun e=>?_) (fun e=>?_)
  ·refine zae<|W_th<|W_seq<|zac<|W_sr<|mv (i64 z) V X<|wa V (q_eqI V V V)<|wnt<|wci e V V (fun e=>?_) (fun e=>?_)
   ·refine W_rg<|mv f V Y<|mv (i64 o) V a0<|mv p V a2<|mv q V a4<|mv (i64 i.2) V F<|wa V (zey V V V V)<|?_;obtain ⟨A,bG,e⟩:=bsi e;refine wls V V (zab (vs:=[i64 o,p,q,u8 (UInt8.ofInt i.2)]) Tryz.func48 V V V (ar4 V V V V) (ref08_Share_calls o I J (UInt8.ofInt i.2) p q A _ (aL.lift (le_ t)) (aM.lift (le_ t)) bG) ?_);rintro _ a9 ⟨a6,rfl,P,bV,c8⟩;refine ⟨_,rfl,?_⟩;have aN:By a9 (f::a) a6 A:=OwK.slk (Sc.stab _) _ (OwK.scal c8 (a6::(f::a))) (fun d j=>(Old.cons (s.ext t) g.lt) d (bV d j)) (fun _ b=>b.2);replace g:=g.extL (SlK.stab (Sc.stab _)) P (le_ P);have aF:=t.trans P;refine wls V V (zaz (L:=(f::a)) (R:=By) [a6] ([A]:List (List UInt8)) V T29 V (by exact ⟨rfl,rfl,trivial⟩) V (LitR.cells (R:=By) (w:=a9) (L:=(f::a)) (l:=([A]:List (List UInt8))) (LitR.cons aN LitR.nil) (fun u x b=>zb4 u x b)) V (LitR.all (R:=By) (w:=a9) (L:=(f::a)) (l:=([A]:List (List UInt8))) (SlK.stab (Sc.stab _)) (LitR.cons aN LitR.nil)) ?_);intro aT cR c9 bW b5 d0;have Q:=zaa b5;have bL:Rw cR (f::a) aT ([A]:List (List UInt8)):=OwK.slk (SlK.stab (Sc.stab _)) _ c9 (fun d j=>(Old.cons (s.ext aF) g.lt) d (bW d j)) (fun _ b=>b.2);replace m:=(m.lift (le_ P)).lift (le_ Q);replace g:=g.extL (SlK.stab (Sc.stab _)) Q (le_ Q);have aH:=aF.trans Q;obtain ⟨cX,bC,e⟩:=bsi e;refine wls V V (zav (R:=By) (v:=f) (u:=aT) (SlK.stab (Sc.stab _)) [] a V T29 V V g bL (fun _ _ b=>b) bC oc_sl ?_);intro aU d5 cA b6 c3 bP;replace m:=m.lift bP;have b2:=aH.grown b6 E;have bX:=Nw.nxt aH E c3;refine av aU V V<|zag<|bk_n<|W_th<|W_rg<|mv (i64 i.2) V F<|wa V (zak V V V)<|av (i64 (wI (i.2+1))) V V<|zag ?_;obtain rfl:=osi e;exact ⟨_,rfl,aU,X,a0,a1,a2,a4,rfl,Z,rfl,a3,b2,cA,bX,m⟩
   refine W_rg<|mv f V Y<|mv H V Z<|mv (i64 i.2) V F<|?_;obtain ⟨B,bH,e⟩:=bsi e;refine wls V V (zab (vs:=[H,i64 i.2]) Tryz.func49 V V V (ar2 V V) (ref09_Piece_calls aD i.2 H B _ (m.lift (Lift.sub (L':=[]) (fun _ _=>trivial))) bH) ?_);rintro _ aA ⟨a7,rfl,S,bY,cB⟩;refine ⟨_,rfl,?_⟩;have aO:By aA (f::a) a7 B:=OwK.slk (Sc.stab _) _ (OwK.scal cB (a7::(f::a))) (fun d j=>(Old.cons (s.ext t) g.lt) d (bY d j)) (fun _ b=>b.2);replace g:=g.extL (SlK.stab (Sc.stab _)) S (le_ S);have aI:=t.trans S;refine wls V V (zaz (L:=(f::a)) (R:=By) [a7] ([B]:List (List UInt8)) V T29 V (by exact ⟨rfl,rfl,trivial⟩) V (LitR.cells (R:=By) (w:=aA) (L:=(f::a)) (l:=([B]:List (List UInt8))) (LitR.cons aO LitR.nil) (fun u x b=>zb4 u x b)) V (LitR.all (R:=By) (w:=aA) (L:=(f::a)) (l:=([B]:List (List UInt8))) (SlK.stab (Sc.stab _)) (LitR.cons aO LitR.nil)) ?_);intro aV cS cC bZ b7 d1;have T:=zaa b7;have bM:Rw cS (f::a) aV ([B]:List (List UInt8)):=OwK.slk (SlK.stab (Sc.stab _)) _ cC (fun d j=>(Old.cons (s.ext aI) g.lt) d (bZ d j)) (fun _ b=>b.2);replace m:=(m.lift (le_ S)).lift (le_ T);replace g:=g.extL (SlK.stab (Sc.stab _)) T (le_ T);have aJ:=aI.trans T;obtain ⟨cY,bD,e⟩:=bsi e;refine wls V V (zav (R:=By) (v:=f) (u:=aV) (SlK.stab (Sc.stab _)) [] a V T29 V V g bM (fun _ _ b=>b) bD oc_sl ?_);intro aW d6 cD b8 c4 bQ;replace m:=m.lift bQ;have b3:=aJ.grown b8 E;have c0:=Nw.nxt aJ E c4;refine av aW V V<|zag<|bk_n<|W_th<|W_rg<|mv (i64 i.2) V F<|wa V (zak V V V)<|av (i64 (wI (i.2+1))) V V<|zag ?_;obtain rfl:=osi e;exact ⟨_,rfl,aW,X,a0,a1,a2,a4,rfl,Z,rfl,a3,b3,cD,c0,m⟩
  refine zar<|th_x<|?_;obtain rfl:=osi e;obtain rfl:=bF _ rfl;refine th_x<|bk_x<|?_;exact ⟨f,Y,a3,t,g,E⟩
 rintro _ d7 ⟨M,cI,cO,bB,c6,bS⟩;refine W_th<|W_sr<|mv M V cI<|av M V V<|wnt<|W_ret<|?_;obtain rfl:=osi y;refine rt1 M V V V cO ?_;exact ⟨M,rfl,bB,bS,c6.weak (SlK.stab (Sc.stab _)) (fun _ b=>⟨b.1,b.2⟩)⟩
end Gk

/- Chapter 17: how a block is spread, in plain Lean. No condition. -/
namespace Gk
open Gf
theorem runsN {n:Nat} {body:List UInt8×Int->Option ((List UInt8×Int)⊕List UInt8)} (hs:∀ (s:List UInt8) (i:Nat),i<n->s.length=n->∃ s':List UInt8,s'.length=n/\body (s,(i:Int))=some (.inl (s',((i+1:Nat):Int))))
  (he:∀ s:List UInt8,s.length=n->body (s,(n:Int))=some (.inr s)) (z:List UInt8) (hz:z.length=n):∃ r,iterC body (z,0)=some r/\r.length=n:=by
 have key:∀ k,k<=n->∀ s:List UInt8,s.length=n->∃ r,iterC body (s,((n - k:Nat):Int))=some r/\r.length=n:=by
  intro k
  induction k with
  | zero =>
   intro _ s hl
   refine ⟨s,?_,hl⟩
   rw [zbq,Nat.sub_zero,he s hl];rfl
  | succ k ih =>
   intro hk s hl
   obtain ⟨s',hl',h⟩:=hs s (n - (k+1)) (by omega) hl
   obtain ⟨r,h1,h2⟩:=ih (by omega) s' hl'
   refine ⟨r,?_,h2⟩
   rw [zbq,h,show n - (k+1)+1=n - k by omega];exact h1
 have:=key n (Nat.le_refl n) z hz
 rw [Nat.sub_self] at this
 exact this
theorem Block_ok (b:List UInt8) (h:b.length<=500):∃ L,zfg b=some L/\L.length=440:=by
 have hm:(1000:Nat)<=most:=by decide
 unfold zfg
 rw [show makeL 440 (0:UInt8)=some (List.replicate 440 0) from zbj 440 _ (by omega),obs,List.length_replicate]
 obtain ⟨r,h1,h2⟩:=runsN (n:=440) (body:=fun s4:List UInt8×Int =>
   (if s4.2<((440:Nat):Int) then
   (if 0<(b.length:Int) then
   ((remI s4.2 ((b.length:Int))).bind fun c10 =>
   ((idx b c10).bind fun c11 =>
   ((divI s4.2 ((b.length:Int))).bind fun c12 =>
   ((idx s4.1 s4.2).bind fun c13 =>
   some (.inl ((s4.1.set (s4.2:Int).toNat ((c11+(UInt8.ofInt c12)))),(wI (s4.2+1))))))))
   else
   some (.inl (s4.1,(wI (s4.2+1)))))
   else
   some (.inr s4.1))) (fun s i hi hl=>by
  dsimp only
  rw [if_pos (by omega)]
  by_cases h0:0<b.length
  ·have hlt:i % b.length<b.length:=Nat.mod_lt _ h0
   rw [if_pos (by omega),zch _ _ h0,obs,za4 hlt,obs,zhh _ _ h0 (by omega),obs,za4 (by omega),obs,zas _ (by omega),Int.toNat_natCast]
   exact ⟨_,by rw [List.length_set];exact hl,rfl⟩
  ·rw [if_neg (by omega),zas _ (by omega)]
   exact ⟨_,hl,rfl⟩) (fun s hl=>by
  dsimp only
  rw [if_neg (by omega)]) (List.replicate 440 0) List.length_replicate
 exact ⟨r,by rw [h1,obs],h2⟩
def shp (m t n c:Nat):List Int:=[(m:Int),(t:Int),(n:Int),(c:Int)]
structure OkS (m t n c:Nat):Prop where
 m2:m=0∨m=1
 t1:1<=t
 tn:t<=n
 n255:n<=255
 c127:c<=127
section
variable {m t n c : Nat}
theorem Right_ok (h:OkS m t n c):zbx (shp m t n c)=some true:=by
 obtain ⟨h1,h2,h3,h4,h5⟩:=h
 unfold zbx shp
 rw [show idx [(m:Int),(t:Int),(n:Int),(c:Int)] 0=some (m:Int) by rfl,show idx [(m:Int),(t:Int),(n:Int),(c:Int)] 1=some (t:Int) by rfl,show idx [(m:Int),(t:Int),(n:Int),(c:Int)] 2=some (n:Int) by rfl,show idx [(m:Int),(t:Int),(n:Int),(c:Int)] 3=some (c:Int) by rfl]
 simp only [obs]
 rw [if_pos (by omega),if_pos (by omega),if_pos (by omega),if_pos (by omega),if_pos (by omega),if_pos (by omega),decide_eq_true (by omega)]
theorem lenS:lenA 4 (shp m t n c)=some ():=rfl
theorem ixS0:idx (shp m t n c) 0=some (m:Int):=rfl
theorem ixS1:idx (shp m t n c) 1=some (t:Int):=rfl
theorem ixS2:idx (shp m t n c) 2=some (n:Int):=rfl
def rowSz (m t:Nat):Nat:=if m=0 then 440 else psz 473 t
def needS (m t:Nat):Nat:=if m=0 then (t - 1) * 440 else 32
theorem RowSize_ok (h:OkS m t n c):zcf (shp m t n c)=some (rowSz m t:Int):=by
 have hm:(1000:Nat)<=most:=by decide
 unfold zcf rowSz
 rw [lenS,obs,Right_ok h,obs,if_neg (by simp),ixS0,obs,ixS1,obs]
 rcases h.m2 with rfl | rfl
 ·rw [if_pos (by rfl),if_pos (by rfl)];rfl
 ·rw [if_neg (by omega),if_neg (by omega),show zd4 473 (t:Int)=some (psz 473 t:Int) from PartSize_eq 473 t h.t1 (by have:=h.tn;have:=h.n255;omega) (by omega),obs]
theorem Need_ok (h:OkS m t n c):zc4 (shp m t n c)=some (needS m t:Int):=by
 have hm:(1000:Nat)<=most:=by decide
 unfold zc4 needS
 have:=h.t1;have:=h.tn;have:=h.n255
 rw [lenS,obs,Right_ok h,obs,if_neg (by simp),ixS0,obs,ixS1,obs]
 rcases h.m2 with rfl | rfl
 ·obtain ⟨q,rfl⟩:∃ q,t=q+1:=⟨t - 1,by omega⟩
  rw [if_pos (by rfl),if_pos (by rfl),show zc6 ((q+1:Nat):Int) 440=some ((q * 440:Nat):Int) from MaskSize_eq q 440 (by omega) (by omega),obs,Nat.add_sub_cancel]
 ·rw [if_neg (by omega),if_neg (by omega)];rfl
theorem placesS (h:OkS m t n c):zcn (shp m t n c)=some (plc n):=by
 have hm:(1000:Nat)<=most:=by decide
 have:=h.n255
 unfold zcn
 rw [ixS2,obs]
 refine zay (x:=plc n) (zal (fun i=>(plc i,(i:Int))) n _ rfl ?_ ?_) rfl
 ·intro i hi
  dsimp only
  rw [if_pos (by omega),zas _ (by omega),zfr,zdz _ _ (by rw [zca,List.length_singleton];omega) rfl,obs]
  rw [show plc (i+1)=plc i ++ [UInt8.ofNat (i+1)] by unfold plc;rw [List.range_succ,List.map_append];rfl]
 ·dsimp only
  rw [if_neg (by omega)]
theorem checkS (h:OkS m t n c) (r:List UInt8) (hr:r.length=needS m t):zcx (shp m t n c) true r=some 0:=by
 unfold zcx
 rw [if_neg (by simp),lenS,obs,Right_ok h,obs,if_neg (by simp),obs,Need_ok h,obs,if_pos (by omega)]
theorem zero_plc (n:Nat) (h:n<=255):(0:UInt8) ∉ plc n:=by
 intro hm
 unfold plc at hm
 obtain ⟨i,hi,e⟩:=List.mem_map.1 hm
 have hi':=List.mem_range.1 hi
 have:=congrArg UInt8.toNat e
 simp at this
 omega
def pkg (b r:List UInt8):List UInt8:=1 :: wrapF r b
def rowsS (m t n:Nat) (b r:List UInt8):List (List UInt8) :=
 if m=0 then (plc n).map (shr b r (t - 1)) else (List.range n).map fun i=>pc (cutR (pkg b r) t (psz 473 t)) (i+1)
theorem cutR_rows (b:List UInt8) (t N:Nat):(cutR b t N).any (fun r=>!decide (r.length=((cutR b t N).getD 0 []).length))=false:=by
 rw [List.any_eq_false]
 intro r hr
 unfold cutR at hr ⊢
 obtain ⟨i,hi,rfl⟩:=List.mem_map.1 hr
 have h0:0<t:=by have:=List.mem_range.1 hi;omega
 rw [getD_tab _ _ _ h0]
 simp
theorem cutR_0 (b:List UInt8) (t N:Nat) (h:0<t):((cutR b t N).getD 0 []).length=N:=by
 unfold cutR;rw [getD_tab _ _ _ h];simp
theorem pkg_len (b r:List UInt8) (hb:b.length=440) (hr:r.length=32):(pkg b r).length=473:=by
 rw [pkg,List.length_cons,wrapF_len _ _ hr,hb]
theorem psz_le (t:Nat) (h:1<=t):psz 473 t<=1000:=by
 unfold psz
 have:=Nat.div_le_self 473 t
 split <;> omega
theorem Spread_ok (h:OkS m t n c) (b r:List UInt8) (hb:b.length=440) (hr:r.length=needS m t):zbr (shp m t n c) true b r=some (rowsS m t n b r,0):=by
 have hmo:(1000000:Nat)<=most:=by decide
 have:=h.t1;have:=h.tn;have hn:=h.n255
 unfold zbr
 rw [lenS,obs,checkS h r hr,obs,if_pos rfl,if_pos (by omega),ixS0,obs,ixS1,obs,obs,ixS2]
 unfold rowsS
 rcases h.m2 with rfl | rfl
 ·rw [if_pos (by rfl),if_pos (by rfl),placesS h,obs]
  obtain ⟨q,rfl⟩:∃ q,t=q+1:=⟨t - 1,by omega⟩
  have hq:r.length=q * b.length:=by rw [hr,hb];simp [needS]
  have hq2:q * 440<=200000:=by omega
  rw [Split_ok q b r (plc n) (by omega) hq (by omega) (by rw [hq,hb];omega) (zero_plc n hn) (by rw [zca];omega),obs,Nat.add_sub_cancel]
 ·have hr32:r.length=32:=by rw [hr];rfl
  have hp:=pkg_len b r hb hr32
  have hc:=zkh (pkg b r) t (psz 473 t)
  rw [if_neg (by omega),if_neg (by omega),Wrap_eq r b hr32 (by omega),obs]
  dsimp only
  rw [if_pos rfl,obs,Concat2 _ _ (by rw [wrapF_len _ _ hr32];simp;omega),obs,show [(1:UInt8)] ++ wrapF r b=pkg b r by rfl,Cut_ok _ t h.t1 (by omega) (by omega),obs]
  dsimp only
  rw [if_pos rfl,obs,hp,Encode_ok _ n (by rw [hc];omega) (by rw [hc];omega) hn (cutR_rows _ _ _) (by rw [cutR_0 _ _ _ (by omega)];have:=psz_le t h.t1;omega),obs]
theorem rPackage_ok (b r:List UInt8) (hb:b.length=440) (hr:r.length=32):zf3 b r=some (pkg b r):=by
 have hmo:(1000000:Nat)<=most:=by decide
 have hl:=zhe r z8 b
 have hs:=sha_len (mixF r z8 b)
 have hw:=wrapF_len r b hr
 obtain ⟨c,hN,G,hK⟩:=New_mix r 8 (.inr rfl) hr
 have hE:∀ i:Nat,i<440->((divI (i:Int) 16).bind fun c30=>((makeL 8 (0:UInt8)).bind fun c31=>((zjy (UInt64.ofInt c30) 8).bind fun r37=>((appL c31 r37).bind fun c39=>((zd5 r c39).bind fun r44=>some r44)))))=some (blk5 ((keysF r).headD []) (keysF r).tail z8 (i / 16)):=fun i hi=>by
  rw [show (16:Int)=((16:Nat):Int) by rfl,zhh _ _ (by omega) (by omega),obs,show makeL 8 (0:UInt8)=some z8 from zbj 8 _ (by omega),obs,rPut_eq,obs,ofInt64q _ (by omega)]
  unfold appL
  rw [if_pos (by rw [b8_len];simp [z8];omega),obs,aontblk r 8 (.inr rfl) hr z8 rfl,obs]
 unfold zf3
 refine zay (x:=mixF r z8 b) (zal (fun i=>((mixF r z8 b).take i,(if i=0 then [] else blk5 ((keysF r).headD []) (keysF r).tail z8 ((i - 1) / 16)),(i:Int))) b.length _ rfl ?_ ?_) ?_
 ·intro i hi
  dsimp only
  rw [if_pos (by omega),za4 hi,obs]
  refine zay (x:=blk5 ((keysF r).headD []) (keysF r).tail z8 (i / 16)) ?_ ?_
  ·rw [show (16:Int)=((16:Nat):Int) by rfl,zch _ _ (by omega),obs]
   by_cases h16:i % 16=0
   ·rw [if_pos (by omega)];exact hE i (by omega)
   ·rw [if_neg (by omega),if_neg (by omega),show (i - 1) / 16=i / 16 by omega]
  ·have hbl:=blk5_len G z8 rfl (i / 16)
   have hm16:i % 16<16:=Nat.mod_lt _ (by omega)
   rw [show (16:Int)=((16:Nat):Int) by rfl,zch _ _ (by omega),obs,za4 (by omega),obs,show co (blk5 ((keysF r).headD []) (keysF r).tail z8 (i / 16)) (i % 16)=strm ((keysF r).headD []) (keysF r).tail z8 i by rfl,xor_comm,← co_mixF _ _ _ _ hi,zdz _ _ (by simp only [List.length_take,List.length_singleton];omega) rfl,obs,← ze8 (by omega),zas _ (by omega),if_neg (by omega),Nat.add_sub_cancel]
 ·dsimp only
  rw [if_neg (by omega),List.take_of_length_le (by omega)]
 rw [ref_Sum_eq _ (by omega),obs]
 have hx:(xr r (sha (mixF r z8 b))).length=32:=by rw [zfi,sha_len,hr];rfl
 refine zay (x:=wrapF r b) (zal (fun i=>(mixF r z8 b ++ (xr r (sha (mixF r z8 b))).take i,(i:Int))) 32 _ (by rw [List.take_zero,List.append_nil];rfl) ?_ ?_) ?_
 ·intro i hi
  dsimp only
  rw [if_pos (by omega),za4 (by omega),obs,za4 (by omega),obs,← co_xr _ _ _ (by omega) (by omega),zdz _ _ (by simp only [List.length_append,List.length_take,List.length_singleton];omega) rfl,obs,List.append_assoc,← ze8 (by omega),zas _ (by omega)]
 ·dsimp only
  rw [if_neg (by omega),List.take_of_length_le (by omega)];rfl
 unfold appL
 rw [if_pos (by rw [hw];simp;omega),obs];rfl
theorem rRows_ok (h:OkS m t n c) (b r:List UInt8) (hb:b.length=440) (hr:r.length=needS m t):zhl (m:Int) (t:Int) (n:Int) b r=some (rowsS m t n b r):=by
 have hmo:(1000000:Nat)<=most:=by decide
 have:=h.t1;have:=h.tn;have hn:=h.n255
 unfold zhl
 have key:∀ (parts:List (List UInt8)) (F:Nat->List UInt8),(∀ i,i<n->(if (m:Int)=0 then (zfd (t:Int) b r (UInt8.ofInt ((i+1:Nat):Int))) else zfc parts ((i+1:Nat):Int))=some (F i))->((iterC (fun s13:List (List UInt8)×Int =>
   (if s13.2<=(n:Int) then
   (if (m:Int)=0 then
   ((zfd (t:Int) b r (UInt8.ofInt s13.2)).bind fun r17 =>
   ((appL s13.1 (([r17]:List (List UInt8)))).bind fun c21 =>
   some (.inl (c21,(wI (s13.2+1))))))
   else
   ((zfc parts s13.2).bind fun r24 =>
   ((appL s13.1 (([r24]:List (List UInt8)))).bind fun c28 =>
   some (.inl (c28,(wI (s13.2+1)))))))
   else
   some (.inr s13.1))) (([]:List (List UInt8)),1)).bind fun x13=>some x13)=some ((List.range n).map F):=fun parts F hF=>by
  refine zay (x:=(List.range n).map F) (zal (fun i=>((List.range i).map F,((i+1:Nat):Int))) n _ rfl ?_ ?_) rfl
  ·intro i hi
   have:=hF i hi
   dsimp only
   rw [if_pos (by omega)]
   by_cases h0:(m:Int)=0
   ·rw [if_pos h0] at this ⊢
    rw [this,obs,zdz _ _ (by simp;omega) rfl,obs,zas _ (by omega),List.range_succ,List.map_append];rfl
   ·rw [if_neg h0] at this ⊢
    rw [this,obs,zdz _ _ (by simp;omega) rfl,obs,zas _ (by omega),List.range_succ,List.map_append];rfl
  ·dsimp only
   rw [if_neg (by omega)]
 unfold rowsS
 rcases h.m2 with rfl | rfl
 ·rw [if_neg (by omega),obs,if_pos rfl]
  obtain ⟨q,rfl⟩:∃ q,t=q+1:=⟨t - 1,by omega⟩
  have hq:r.length=q * b.length:=by rw [hr,hb];simp [needS]
  have:=key [] (fun i=>shr b r q (UInt8.ofNat (i+1))) (fun i hi=>by
   rw [if_pos (by rfl),zfr];exact ref08_Share_eq q b r _ (by omega) hq (by omega))
  rw [this,Nat.add_sub_cancel,plc,List.map_map];rfl
 ·have hr32:r.length=32:=by rw [hr];rfl
  have hp:=pkg_len b r hb hr32
  have hc:=zkh (pkg b r) t (psz 473 t)
  rw [if_pos (show ((1:Nat):Int)=1 by rfl),rPackage_ok b r hb hr32,obs,refCut_eq _ t h.t1 (by omega) (by omega),obs,obs,if_neg (by omega),hp]
  exact key _ _ (fun i hi=>by
   rw [if_neg (by omega)]
   exact refPiece_eq _ (i+1) (by rw [hc];omega) (by rw [hc];omega) (cutR_rows _ _ _) (by rw [cutR_0 _ _ _ (by omega)];have:=psz_le t h.t1;omega))
end
theorem same_refl (l:List (List UInt8)) (h:l.length<=1000):zgf l l=some true:=by
 unfold zgf
 rw [if_pos rfl]
 refine zay (x:=.inl ()) (zal (fun i=>(i:Int)) l.length _ rfl ?_ ?_) rfl
 ·intro i hi
  rw [if_pos (by omega),zcw hi]
  simp only [obs]
  rw [if_pos trivial,zas _ (by omega)]
 ·rw [if_neg (by omega)]
theorem evp_one (a x:UInt8):evp [a] x=a:=by
 show a^^^mul 0 x=a
 rw [zero_mul,xor_zero]
theorem shr_one (b:List UInt8) (x:UInt8):shr b [] 0 x=b:=by
 refine zjk (zef _ _ _ _) fun i hi=>?_
 rw [zef] at hi
 rw [co_shr _ _ _ _ _ hi]
 exact evp_one _ _
theorem lives17:zd2=some true:=by
 obtain ⟨L,hB,hL⟩:=Block_ok [1,2] (by simp)
 have hok:OkS 0 1 2 0:=⟨.inl rfl,by omega,by omega,by omega,by omega⟩
 have hS:=Spread_ok hok L [] hL rfl
 have e:shp 0 1 2 0=([0,1,2,0]:List Int):=rfl
 rw [e] at hS
 unfold zd2
 rw [show lenA 4 (List.replicate 4 (0:Int))=some () by rfl,obs,show lenA 4 ([0,1,2,0]:List Int)=some () by rfl,obs]
 refine zay (x:=(rowsS 0 1 2 L [],0)) (by rw [obs,show field_New=some true by rfl,obs,hB,obs,hS,obs]) ?_
 have hr:rowsS 0 1 2 L []=[L,L]:=by
  unfold rowsS
  rw [if_pos rfl]
  show [shr L [] 0 _,shr L [] 0 _]=_
  rw [shr_one,shr_one]
 dsimp only
 rw [hr,if_pos rfl,if_pos (by rfl),show idx ([L,L]:List (List UInt8)) 1=some L by rfl,obs,hB,obs,decide_eq_true rfl]
theorem Random_ok {m t n c:Nat} (h:OkS m t n c) (hn:n<=7) (b:List UInt8) (hb:b.length<=500):∃ L,zfq (shp m t n c) b=some L/\L.length=needS m t:=by
 have hm:(1000000:Nat)<=most:=by decide
 have hle:needS m t<=10000:=by
  have:=h.tn
  unfold needS;split <;> omega
 unfold zfq
 rw [lenS,obs,Need_ok h,obs,zbj _ _ (by omega),obs,List.length_replicate]
 obtain ⟨r,h1,h2⟩:=runsN (n:=needS m t) (body:=fun s11:List UInt8×Int =>
   (if s11.2<(needS m t:Int) then
   (if 0<(b.length:Int) then
   ((remI s11.2 ((b.length:Int))).bind fun c17 =>
   ((idx b c17).bind fun c18 =>
   ((divI ((wI (s11.2 * 31))) ((b.length:Int))).bind fun c19 =>
   ((idx s11.1 s11.2).bind fun c20 =>
   some (.inl ((s11.1.set (s11.2:Int).toNat ((c18^^^(UInt8.ofInt c19)))),(wI (s11.2+1))))))))
   else
   some (.inl (s11.1,(wI (s11.2+1)))))
   else
   some (.inr s11.1))) (fun s i hi hl=>by
  dsimp only
  rw [if_pos (by omega)]
  by_cases h0:0<b.length
  ·have hlt:i % b.length<b.length:=Nat.mod_lt _ h0
   rw [if_pos (by omega),zch _ _ h0,obs,za4 hlt,obs,show wI ((i:Int) * 31)=((i * 31:Nat):Int) by rw [wI_of (by omega) (by omega)];omega,zhh _ _ h0 (by omega),obs,za4 (by omega),obs,zas _ (by omega),Int.toNat_natCast]
   exact ⟨_,by rw [List.length_set];exact hl,rfl⟩
  ·rw [if_neg (by omega),zas _ (by omega)]
   exact ⟨_,hl,rfl⟩) (fun s hl=>by
  dsimp only
  rw [if_neg (by omega)]) (List.replicate (needS m t) 0) List.length_replicate
 exact ⟨r,by rw [h1,obs],h2⟩
theorem Of_ok (mode t n c:Int):∃ m' t' n' c',law17_Of mode t n c=some (shp m' t' n' c')/\OkS m' t' n' c'/\n'<=7:=by
 obtain ⟨m',h1,h2⟩:=mod_natq mode 2 (by decide) (by decide)
 obtain ⟨n1,h3,h4⟩:=mod_natq n 7 (by decide) (by decide)
 obtain ⟨c',h5,h6⟩:=mod_natq c 4 (by decide) (by decide)
 have h1':m'<2:=h1
 have h3':n1<7:=h3
 have h5':c'<4:=h5
 unfold law17_Of
 rw [h2,h4,h6]
 have e1:wI (1+(n1:Int))=((n1+1:Nat):Int):=by rw [wI_of (by omega) (by omega)];omega
 rw [e1]
 have hmt:(UInt64.ofInt ((n1+1:Nat):Int)).toNat=n1+1:=by rw [ofInt64q _ (by omega)];simp;omega
 rw [show lenA 4 (List.replicate 4 (0:Int))=some () by rfl,obs,show lenA 4 ([(m':Int),0,((n1+1:Nat):Int),(c':Int)]:List Int)=some () by rfl,obs,show idx ([(m':Int),0,((n1+1:Nat):Int),(c':Int)]:List Int) 2=some ((n1+1:Nat):Int) by rfl,obs,nz_of (by rw [hmt];omega),obs,show idx ([(m':Int),0,((n1+1:Nat):Int),(c':Int)]:List Int) 1=some 0 by rfl,obs]
 obtain ⟨t1,h7,h8⟩:=mod_natq t (UInt64.ofInt ((n1+1:Nat):Int)) (by rw [hmt];omega) (by rw [hmt];omega)
 rw [hmt] at h7
 rw [h8]
 have e2:wI (1+(t1:Int))=((t1+1:Nat):Int):=by rw [wI_of (by omega) (by omega)];omega
 rw [e2]
 have e3:([(m':Int),0,((n1+1:Nat):Int),(c':Int)]:List Int).set (1:Int).toNat ((t1+1:Nat):Int)=shp m' (t1+1) (n1+1) c':=rfl
 rw [e3,lenS,obs,obs,obs]
 exact ⟨m',t1+1,n1+1,c',rfl,⟨by omega,by omega,by omega,by omega,by omega⟩,by omega⟩
end Gk

/- Printed by gen.py: for each Go function a pure function, and that the Go code comes to it. No condition beside the equation that says what the pure function gives. -/
namespace Gk
open Go Go.Proofs
noncomputable def zhs (a:Int) (b:Int):Option Int :=
(if a<b then some 0
else
((divI (wI (a - b)) 2).bind fun c => some c))
theorem mend_Radius_calls (a0m:Int) (a1t:Int) (r:Int) (w0:World) (H:zhs a0m a1t=some r) :
  Calls Tryz.prog 95 [(i64 a0m),(i64 a1t)].toArray w0 (fun e w'=>e=.returned (i64 r)/\Ext w0 w'):=by
 have hE:Ext w0 w0:=Ext.refl w0;unfold zhs at H;refine zai (n:=12) Tryz.func95 rfl rfl rfl ?_;refine W_seq<|W_rg<|av (i64 0) rfl rfl<|wnt<|W_seq<|W_seq<|W_rg<|mv (i64 a0m) rfl rfl<|?_;refine mv (i64 a1t) rfl rfl<|wa rfl (q_ltI rfl rfl rfl)<|wnt<|?_;refine wci H rfl rfl (fun H=>?_) (fun H=>?_)
 ·refine W_seq<|W_rg<|av (i64 0) rfl rfl<|wnt<|W_ret<|th_r<|?_;obtain rfl:=osi H;refine rt1 (i64 0) rfl rfl rfl rfl ?_;exact ⟨rfl,hE⟩
 refine zae<|W_th<|W_seq<|W_rg<|mv (i64 a0m) rfl rfl<|mv (i64 a1t) rfl rfl<|wa rfl (za9 rfl rfl rfl)<|?_;obtain ⟨c2,hc2,H⟩:=bsi H;refine wa rfl (q_divI rfl rfl rfl hc2)<|av (i64 c2) rfl rfl<|wnt<|W_ret<|?_;obtain rfl:=osi H;refine rt1 (i64 c2) rfl rfl rfl rfl ?_;exact ⟨rfl,hE⟩
noncomputable def zju (c:Bool) (a:Int) (b:List UInt8) (d:Int) (e:Int):Option Int :=
(if (!c)=true then some 1
else
(if (b.length:Int)=d then
(if a<1 then some 2
else
(if 255<a then some 2
else
(if e<0 then some 2
else
(if (b.length:Int)<a then some 5
else
((zdh c b (0:UInt8)).bind fun f => some f.2)))))
else some 1))
theorem mend_check_calls (k:Bool) (c:Int) (e:List UInt8) (h:Int) (i:Int) (f:Value) (d:Value) (s:Int) (w0:World) (r:Fd w0 [] f k) (q:By w0 [] d e) (a:zju k c e h i=some s) :
  Calls Tryz.prog 65 [f,i64 c,d,i64 h,i64 i].toArray w0 (fun u y=>u=.returned (i64 s)/\Ext w0 y):=by
 have b:Ext w0 w0:=Ext.refl w0;unfold zju at a;refine zai (n:=45) Tryz.func65 V V V<|W_sr<|av (i64 0) V V<|wnt<|W_seq<|zac<|W_sr<|mv f V V<|wa V (q_eqF V V V V (r.lift (le_ b)))<|wlb V V (zbd (v:=(.bool (!k))) V V) (fun l=>?_) (fun l=>?_)
 ·replace a:=(if_pos l).symm.trans a;refine wk V<|wk V<|wk V<|wk V<|wa V (zaw (v:=(.bool true)) V V V)<|av (.bool true) V V<|wnt<|zam true V V (fun _=>?_) (fun j=>by cases j);refine W_sr<|av (i64 1) V V<|wnt<|W_ret<|bk_r<|th_r<|?_;obtain rfl:=osi a;refine rt1 (i64 1) V V V V ?_;exact ⟨rfl,b⟩
 replace a:=(if_neg (ne_true_of_eq_false l)).symm.trans a;refine mv d V V<|wa V (q_len V T22.sl V (q.lift (le_ b)))<|mv (i64 h) V V<|wa V (q_neI V V V)<|wa V (zaq (v:=(.bool (!decide ((e.length:Int)=h)))) V V V)<|av (.bool (!decide ((e.length:Int)=h))) V V<|wnt<|zam _ V V (fun m=>?_) (fun m=>?_)
 ·replace a:=(if_neg (zbf m)).symm.trans a;refine W_sr<|av (i64 1) V V<|wnt<|W_ret<|bk_r<|th_r<|?_;obtain rfl:=osi a;refine rt1 (i64 1) V V V V ?_;exact ⟨rfl,b⟩
 replace a:=(if_pos (zbg m)).symm.trans a;refine W_sr<|mv (i64 c) V V<|wa V (q_ltI V V V)<|wlb V V (zbd (v:=(.bool (decide (c<1)))) V V) (fun o=>?_) (fun o=>?_)
 ·replace a:=ifp o a;refine wk V<|wk V<|wa V (zaw (v:=(.bool true)) V V V)<|mv (.bool true) V V<|wk V<|wk V<|wa V (zaw (v:=(.bool true)) V V V)<|av (.bool true) V V<|wnt<|zam true V V (fun _=>?_) (fun j=>by cases j);refine W_sr<|av (i64 2) V V<|wnt<|W_ret<|bk_r<|th_r<|?_;obtain rfl:=osi a;refine rt1 (i64 2) V V V V ?_;exact ⟨rfl,b⟩
 replace a:=ifn o a;refine mv (i64 c) V V<|wa V (q_gtI V V V)<|wa V (zaq (v:=(.bool (decide (255<c)))) V V V)<|wlb V V (zbd (v:=(.bool (decide (255<c)))) V V) (fun p=>?_) (fun p=>?_)
 ·replace a:=ifp p a;refine wk V<|wk V<|wa V (zaw (v:=(.bool true)) V V V)<|av (.bool true) V V<|wnt<|zam true V V (fun _=>?_) (fun j=>by cases j);refine W_sr<|av (i64 2) V V<|wnt<|W_ret<|bk_r<|th_r<|?_;obtain rfl:=osi a;refine rt1 (i64 2) V V V V ?_;exact ⟨rfl,b⟩
 replace a:=ifn p a;refine mv (i64 i) V V<|wa V (q_ltI V V V)<|wa V (zaq (v:=(.bool (decide (i<0)))) V V V)<|av (.bool (decide (i<0))) V V<|wnt<|wci a V V (fun a=>?_) (fun a=>?_)
 ·refine W_sr<|av (i64 2) V V<|wnt<|W_ret<|bk_r<|th_r<|?_;obtain rfl:=osi a;refine rt1 (i64 2) V V V V ?_;exact ⟨rfl,b⟩
 refine W_sr<|mv d V V<|wa V (q_len V T22.sl V (q.lift (le_ b)))<|mv (i64 c) V V<|wa V (q_ltI V V V)<|av (.bool (decide ((e.length:Int)<c))) V V<|wnt<|wci a V V (fun a=>?_) (fun a=>?_)
 ·refine W_sr<|av (i64 5) V V<|wnt<|W_ret<|bk_r<|th_r<|?_;obtain rfl:=osi a;refine rt1 (i64 5) V V V V ?_;exact ⟨rfl,b⟩
 refine zae<|bk_n<|W_th<|W_sr<|mv f V V<|mv d V V<|?_;obtain ⟨g,x,a⟩:=bsi a;refine wls V V (zab (vs:=[f,d,u8 0]) Tryz.func71 V V V (ar3 V V (by exact (cst8 (0:UInt8) V))) (zft k e (0:UInt8) f d g _ (r.lift (le_ b)) (q.lift (le_ b)) x) ?_);rintro _ C ⟨t,rfl,z,A,B⟩;refine ⟨_,rfl,?_⟩;have w:=b.trans z;refine mv (.tuple #[t,i64 g.2]) V V<|wa V (zah V V V)<|wa V (zah V V V)<|av t V V<|av (i64 g.2) V V<|wnt<|W_sr<|mv (i64 g.2) V V<|av (i64 g.2) V V<|wnt<|W_ret<|?_;obtain rfl:=osi a;refine rt1 (i64 g.2) V V V V ?_;exact ⟨rfl,w⟩
noncomputable def mend_gao (c:Bool) (f:Int) (d:List UInt8) (h:List UInt8):Option (List UInt8×Bool) :=
((zh7 c d).bind fun j =>
((zgt c d h).bind fun o =>
((iterC (fun a:List UInt8×List UInt8×List UInt8×List UInt8 =>
((zel a.2.1).bind fun k =>
(if (wI ((d.length:Int)+f))<=(wI (2 * k)) then
((zfe c a.1 a.2.1).bind fun e =>
(if e.2.2=0 then
((zha c e.1 a.2.2.2).bind fun l =>
((ziq a.2.2.1 l.1).bind fun m => some (.inl (a.2.1,e.2.1,a.2.2.2,m))))
else some (.inr (.inr (([]:List UInt8),false)))))
else some (.inr (.inl (a.2.1,a.2.2.2)))))) (j.1,o.1,([]:List UInt8),([(1:UInt8)]:List UInt8))).bind (Sum.elim (fun g =>
((zfe c g.1 g.2).bind fun b =>
(if b.2.2=0 then
(if (b.2.1.length:Int)=0 then
((zel b.1).bind fun n => some (b.1,decide (n<f)))
else some (b.1,false))
else some (b.1,false)))) (fun i=>some i)))))
theorem mend_gao_calls (s:Bool) (q:Int) (M:List UInt8) (Z:List UInt8) (c:Value) (k:Value) (E:Value) (aC:List UInt8×Bool) (w0:World) (C:Fd w0 [] c s) (a7:By w0 [] k M) (bC:By w0 [] E Z) (b:mend_gao s q M Z=some aC) :
  Calls Tryz.prog 93 [c,i64 q,k,E].toArray w0 (fun b4 aY=>∃ aH:Value,b4=.returned (.tuple #[aH,.bool aC.2])/\Ext w0 aY/\Nw w0 aH/\By aY [] aH aC.1):=by
 have a2:Ext w0 w0:=Ext.refl w0;unfold mend_gao at b;refine zai (n:=91) Tryz.func93 V V V<|W_sr<|av (.slice none 0 0) V V<|av (.bool false) V V<|wnt<|W_sr<|mv c V V<|mv k V V ?_;obtain ⟨P,bD,b⟩:=bsi b;refine wls V V (zab (vs:=[c,k]) Tryz.func122 V V V (ar2 V V) (poly_Vanish_calls s M c k P _ (C.lift (le_ a2)) (a7.lift (le_ a2)) bD) ?_);rintro _ cG ⟨G,rfl,cL,bU,c2⟩;refine ⟨_,rfl,?_⟩;have a9:By cG [] G P.1:=OwK.slk (Sc.stab _) _ (OwK.scal c2 (G::[])) (fun a f=>(Old.nil _) a (bU a f)) (fun _ e=>e.2);have O:=a2.trans cL;refine mv (.tuple #[G,i64 P.2]) V V<|wa V (zah V V V)<|wa V (zah V V V)<|av G V V<|av (i64 P.2) V V<|wnt<|W_sr<|mv c V V<|mv k V V<|mv E V V<|?_;obtain ⟨S,bK,b⟩:=bsi b;refine wls V V (zab (vs:=[c,k,E]) Tryz.func123 V V V (ar3 V V V) (poly_Through_calls s M Z c k E S _ (C.lift (le_ O)) (a7.lift (le_ O)) (bC.lift (le_ O)) bK) ?_);rintro _ cJ ⟨I,rfl,b2,bY,c7⟩;refine ⟨_,rfl,?_⟩;have aA:By cJ [] I S.1:=OwK.slk (Sc.stab _) _ (OwK.scal c7 (I::[])) (fun a f=>(Old.nil _) a (bY a f)) (fun _ e=>e.2);have b8:=O.trans b2;refine mv (.tuple #[I,i64 S.2]) V V<|wa V (zah V V V)<|wa V (zah V V V)<|av I V V<|av (i64 S.2) V V<|wnt<|W_sr<|wls V V (zaz (L:=[]) (R:=Sc u8) [u8 1] ([(1:UInt8)]:List UInt8) V T22 V (by exact ⟨rfl,cst8 (1:UInt8) V,trivial⟩) V (litC u8 zbi (us:=[u8 1]) (l:=([(1:UInt8)]:List UInt8)) V) V (litS u8 (us:=[u8 1]) (l:=([(1:UInt8)]:List UInt8)) V) ?_);intro aM cK c8 bZ bA cO;have aN:=zaa bA;have bR:By cK [] aM ([(1:UInt8)]:List UInt8):=OwK.slk (Sc.stab _) _ c8 (fun a f=>(Old.nil _) a (bZ a f)) (fun _ e=>e.2);replace a9:=(a9.lift (le_ b2)).lift (le_ aN)
 replace aA:=aA.lift (le_ aN);have b9:=b8.trans aN;refine av (.slice none 0 0) V V<|av aM V V<|wnt<|W_seq<|?_;obtain ⟨cM,b3,b⟩:=bsi b;refine W_mid (fun h r=>∃ B,cM=.inl B/\∃ aU:Value,∃ aX:Value,h 0=c/\h 1=i64 q/\h 12=aU/\h 15=aX/\h 91=undef/\Ext w0 r/\By r [] aU B.1/\By r [] aX B.2) ?_ ?_
 ·refine zac<|zau (fun o h r=>∃ aS:Value,∃ aT:Value,∃ aV:Value,∃ aW:Value,h 0=c/\h 1=i64 q/\h 2=k/\h 10=aS/\h 12=aT/\h 14=aV/\h 15=aW/\h 91=undef/\Ext w0 r/\By r [] aS o.1/\By r [] aT o.2.1/\By r [] aV o.2.2.1/\By r [] aW o.2.2.2) b3 ?_ ?_
  ·exact ⟨G,I,.slice none 0 0,aM,rfl,rfl,rfl,rfl,rfl,rfl,rfl,rfl,b9,a9,aA,SlK.nil _ _ _,bR⟩
  rintro o _ _ cP ⟨aI,p,aK,y,T,aE,aR,cB,U,cD,aD,aF,bB,a8,i,t,j⟩ d aO;refine W_seq<|W_sr<|mv p V U<|?_;obtain ⟨c9,bE,d⟩:=bsi d;refine wls V V (zab (vs:=[p]) Tryz.func124 V V V (ar1 V) (zf7 o.2.1 p c9 _ (i.lift (Lift.sub (L':=[]) (fun _ _=>trivial))) bE) ?_);rintro _ cQ ⟨rfl,J⟩;refine ⟨_,rfl,?_⟩;replace a8:=a8.lift (le_ J);replace i:=i.lift (le_ J);replace t:=t.lift (le_ J);replace j:=j.lift (le_ J);have N:=bB.trans J;refine wa V (zco V V V)<|mv k V aR<|wa V (q_len V T22.sl V (a7.lift (le_ N)))<|mv (i64 q) V aE<|wa V (zak V V V)<|wa V (q_geI V V V)<|wnt<|wci d V V (fun d=>?_) (fun d=>?_)
  ·refine zae<|W_th<|zac<|W_sr<|mv c V T<|mv aI V cB<|mv p V U<|?_;obtain ⟨u,bF,d⟩:=bsi d;refine wls V V (zab (vs:=[c,aI,p]) Tryz.func125 V V V (ar3 V V V) (zjv s o.1 o.2.1 c aI p u _ (C.lift (le_ N)) (a8.lift (Lift.sub (L':=[]) (fun _ _=>trivial))) (i.lift (Lift.sub (L':=[]) (fun _ _=>trivial))) bF) ?_);rintro _ aZ ⟨w,x,rfl,X,bS,c0,bT,c1⟩;refine ⟨_,rfl,?_⟩;have bM:By aZ [] w u.1:=OwK.slk (Sc.stab _) _ (OwK.scal c0 (w::[])) (fun a f=>(Old.nil _) a (bS a f)) (fun _ e=>e.2);have D:By aZ [] x u.2.1:=OwK.slk (Sc.stab _) _ (OwK.scal c1 (x::[])) (fun a f=>(Old.nil _) a (bT a f)) (fun _ e=>e.2);replace i:=i.lift (le_ X);replace t:=t.lift (le_ X);replace j:=j.lift (le_ X);have a0:=N.trans X;refine mv (.tuple #[w,x,i64 u.2.2]) V V<|wa V (zah V V V)<|wa V (zah V V V)<|wa V (zah V V V)<|av w V V<|av x V V<|av (i64 u.2.2) V V<|wnt<|W_seq<|W_sr<|mv (i64 u.2.2) V V<|wa V (q_neI V V V)<|wnt<|zam _ V V (fun a4=>?_) (fun a4=>?_)
   ·replace d:=(if_neg (zbf a4)).symm.trans d;refine W_sr<|av (.slice none 0 0) V V<|av (.bool false) V V<|wnt<|W_ret<|th_r<|bk_r<|?_;obtain rfl:=osi d;obtain rfl:=aO _ rfl;simp only [Sum.elim_inr] at b;refine th_r<|bk_r<|th_r<|th_r<|?_;obtain rfl:=osi b;refine rt2 (.slice none 0 0) (.bool false) V V V V V aF ?_;exact ⟨.slice none 0 0,rfl,a0,Nw.nil _,SlK.nil _ _ _⟩
   replace d:=(if_pos (zbg a4)).symm.trans d;refine zae<|W_th<|W_sr<|mv c V T<|mv w V V<|mv y V aD<|?_;obtain ⟨F,bG,d⟩:=bsi d;refine wls V V (zab (vs:=[c,w,y]) Tryz.func126 V V V (ar3 V V V) (zix s u.1 o.2.2.2 c w y F _ (C.lift (le_ a0)) (bM.lift (Lift.sub (L':=[]) (fun _ _=>trivial))) (j.lift (Lift.sub (L':=[]) (fun _ _=>trivial))) bG) ?_);rintro _ cH ⟨z,rfl,K,bV,c3⟩;refine ⟨_,rfl,?_⟩;have bO:By cH [] z F.1:=OwK.slk (Sc.stab _) _ (OwK.scal c3 (z::[])) (fun a f=>(Old.nil _) a (bV a f)) (fun _ e=>e.2);replace i:=i.lift (le_ K);replace t:=t.lift (le_ K);replace j:=j.lift (le_ K);replace D:=D.lift (le_ K);have b5:=a0.trans K;refine mv (.tuple #[z,i64 F.2]) V V<|wa V (zah V V V)<|wa V (zah V V V)<|av z V V<|av (i64 F.2) V V<|wnt<|W_rg<|mv p V U<|mv x V V<|mv y V aD<|mv aK V cD<|mv z V V<|?_;obtain ⟨aQ,bH,d⟩:=bsi d;refine wls V V (zab (vs:=[aK,z]) Tryz.func127 V V V (ar2 V V) (poly_Add_calls o.2.2.1 F.1 aK z aQ _ (t.lift (Lift.sub (L':=[]) (fun _ _=>trivial))) (bO.lift (Lift.sub (L':=[]) (fun _ _=>trivial))) bH) ?_);rintro _ cI ⟨W,rfl,Y,bW,c4⟩;refine ⟨_,rfl,?_⟩;have bP:By cI [] W aQ:=OwK.slk (Sc.stab _) _ (OwK.scal c4 (W::[])) (fun a f=>(Old.nil _) a (bW a f)) (fun _ e=>e.2);replace i:=i.lift (le_ Y);replace j:=j.lift (le_ Y);replace D:=D.lift (le_ Y);have b6:=b5.trans Y;refine av p V V<|av x V V<|av y V V<|av W V V<|zag<|?_
   refine bk_n ?_;obtain rfl:=osi d;exact ⟨_,rfl,p,x,y,W,T,aE,aR,rfl,rfl,rfl,rfl,aF,b6,i,D,j,bP⟩
  refine zar<|th_x<|?_;obtain rfl:=osi d;obtain rfl:=aO _ rfl;refine th_x<|bk_x<|?_;exact ⟨_,rfl,p,y,T,aE,U,aD,aF,N,i,j⟩
 rintro _ cR ⟨B,rfl,aJ,aL,cA,cF,cC,cE,aG,a3,bL,bN⟩;simp only [Sum.elim_inl] at b;refine W_th<|W_sr<|mv c V cA<|mv aJ V cC<|mv aL V cE<|?_;obtain ⟨m,bI,b⟩:=bsi b;refine wls V V (zab (vs:=[c,aJ,aL]) Tryz.func125 V V V (ar3 V V V) (zjv s B.1 B.2 c aJ aL m _ (C.lift (le_ a3)) (bL.lift (Lift.sub (L':=[]) (fun _ _=>trivial))) (bN.lift (Lift.sub (L':=[]) (fun _ _=>trivial))) bI) ?_);rintro _ b0 ⟨g,H,rfl,cN,aP,c5,bX,c6⟩;refine ⟨_,rfl,?_⟩;have aB:=Nw.ext a3 aP;have A:By b0 [] g m.1:=OwK.slk (Sc.stab _) _ (OwK.scal c5 (g::[])) (fun a f=>(Old.nil _) a (aP a f)) (fun _ e=>e.2);have bQ:By b0 [] H m.2.1:=OwK.slk (Sc.stab _) _ (OwK.scal c6 (H::[])) (fun a f=>(Old.nil _) a (bX a f)) (fun _ e=>e.2);have a1:=a3.trans cN;refine mv (.tuple #[g,H,i64 m.2.2]) V V<|wa V (zah V V V)<|wa V (zah V V V)<|wa V (zah V V V)<|av g V V<|av H V V<|av (i64 m.2.2) V V<|wnt<|W_sr<|mv g V V<|mv (i64 m.2.2) V V<|wa V (q_eqI V V V)<|wlb V V (zbd (v:=(.bool (decide (m.2.2=0)))) V V) (fun a5=>?_) (fun a5=>?_)
 ·replace b:=ifp a5 b;refine mv H V V<|wa V (q_len V T22.sl V bQ)<|wa V (q_eqI V V V)<|wa V (zaw (v:=(.bool (decide ((m.2.1.length:Int)=0)))) V V V)<|wlb V V (zbd (v:=(.bool (decide ((m.2.1.length:Int)=0)))) V V) (fun a6=>?_) (fun a6=>?_)
  ·replace b:=ifp a6 b;refine mv g V V ?_;obtain ⟨Q,bJ,b⟩:=bsi b;refine wls V V (zab (vs:=[g]) Tryz.func124 V V V (ar1 V) (zf7 m.1 g Q _ (A.lift (Lift.sub (L':=[]) (fun _ _=>trivial))) bJ) ?_);rintro _ cS ⟨rfl,b1⟩;refine ⟨_,rfl,?_⟩;replace A:=A.lift (le_ b1);have b7:=a1.trans b1;refine mv (i64 q) V cF<|wa V (q_ltI V V V)<|wa V (zaw (v:=(.bool (decide (Q<q)))) V V V)<|av g V V<|av (.bool (decide (Q<q))) V V<|wnt<|W_ret<|?_;obtain rfl:=osi b;refine rt2 g (.bool (decide (Q<q))) V V V V V aG ?_;exact ⟨g,rfl,b7,aB,A.lift (Lift.sub (L':=[]) (fun _ _=>trivial))⟩
  replace b:=ifn a6 b;refine wk V<|wk V<|wk V<|wk V<|wa V (zaq (v:=(.bool false)) V V V)<|av g V V<|av (.bool false) V V<|wnt<|W_ret ?_;obtain rfl:=osi b;refine rt2 g (.bool false) V V V V V aG ?_;exact ⟨g,rfl,a1,aB,A.lift (Lift.sub (L':=[]) (fun _ _=>trivial))⟩
 replace b:=ifn a5 b;refine wk V<|wk V<|wk V<|wa V (zaq (v:=(.bool false)) V V V)<|mv (.bool false) V V<|wk V<|wk V<|wk V<|wk V<|wa V (zaq (v:=(.bool false)) V V V)<|av g V V<|av (.bool false) V V<|wnt<|W_ret<|?_;obtain rfl:=osi b;refine rt2 g (.bool false) V V V V V aG ?_;exact ⟨g,rfl,a1,aB,A.lift (Lift.sub (L':=[]) (fun _ _=>trivial))⟩
noncomputable def zi1 (c:Bool) (d:List UInt8) (b:List UInt8) (e:List UInt8):Option Int :=
((iterC (fun a:Int×Int =>
(if a.2<(b.length:Int) then
((idx b a.2).bind fun f =>
((idx e a.2).bind fun g =>
((zh9 c d f).bind fun h =>
(if h=g then some (.inl (a.1,wI (a.2+1)))
else some (.inl (wI (a.1+1),wI (a.2+1)))))))
else some (.inr a.1))) (0,0)).bind fun i => some i)
theorem mend_wrong_calls (o:Bool) (p:List UInt8) (q:List UInt8) (B:List UInt8) (d:Value) (e:Value) (k:Value) (l:Value) (H:Int) (w0:World) (M:Fd w0 [] d o) (N:By w0 [] e p) (s:By w0 [] k q) (G:By w0 [] l B) (h:zi1 o p q B=some H) :
  Calls Tryz.prog 94 [d,e,k,l].toArray w0 (fun K T=>K=.returned (i64 H)/\Ext w0 T):=by
 have D:Ext w0 w0:=Ext.refl w0;unfold zi1 at h;refine zai (n:=32) Tryz.func94 V V V<|W_sr<|av (i64 0) V V<|wnt<|W_sr<|av (i64 0) V V<|wnt<|W_seq<|W_sr<|mv k V V<|wa V (q_len V T22.sl V (s.lift (le_ D)))<|mv (i64 0) V V<|wnt<|?_;obtain ⟨m,J,h⟩:=bsi h;refine W_mid (fun b A=>b 9=i64 m/\b 32=undef/\Ext w0 A) ?_ ?_
 ·refine zac<|zau (fun c b A=>b 0=d/\b 1=e/\b 3=l/\b 9=i64 c.1/\b 12=k/\b 13=i64 (q.length:Int)/\b 14=i64 c.2/\b 32=undef/\Ext w0 A) J ?_ ?_
  ·exact ⟨rfl,rfl,rfl,rfl,rfl,rfl,rfl,rfl,D⟩
  rintro c _ _ U ⟨t,w,y,z,u,v,g,x,j⟩ a O;refine W_sr<|wa V (q_ltI V g v)<|wnt<|W_seq<|wci a V V (fun a=>?_) (fun a=>?_)
  ·refine zae<|W_th<|W_seq<|zac<|W_sr<|mv (i64 c.2) V g<|bse a fun i E a=>wa V (q_adr V T22 u g (s.lift (le_ j)) E)<|wq V (zao V T22 V (s.lift (le_ j)) E)<|av (i64 c.2) V V<|av (u8 i) V V<|wnt<|W_seq<|zba [7] [(0,0),(1,0),(2,0),(4,0),(5,0),(6,0),(7,1),(3,2),(8,0)] mixed (by kernel_rfl) (by kernel_rfl) (by kernel_rfl) (by kernel_rfl) ?_;have W:=Ext.drew U;have f:=j.trans W;refine sv d V V t<|sv e V V w<|sv (u8 i) V V V<|sv l V V y<|sv (i64 c.2) V V V<|bse a fun X F a=>sa V V (q_adr V T22 V V (G.lift (le_ f)) F)<|sq V V (zao V T22 V (G.lift (le_ f)) F)<|?_;obtain ⟨Q,P,a⟩:=bsi a;refine wss V V V (zab (vs:=[d,e,u8 i]) Tryz.func69 V V V (ar3 V V V) (poly_Eval_calls o p i d e Q _ (M.lift (le_ f)) (N.lift (le_ f)) P) ?_);rintro _ Z ⟨rfl,I⟩;refine ⟨_,rfl,I,?_⟩;have C:=f.trans I;refine sa V V (q_ne8 V V V)<|za1<|W_th<|zam _ V V (fun r=>?_) (fun r=>?_)
   ·replace a:=(if_neg (zbf r)).symm.trans a;refine W_rg<|mv (i64 c.1) V z<|wa V (zak V V V)<|av (i64 (wI (c.1+1))) V V<|zag<|bk_n<|W_th<|W_rg<|wa V (zak V g V)<|mv (i64 (wI (c.2+1))) V V<|zag<|?_;obtain rfl:=osi a;exact ⟨_,rfl,t,w,y,rfl,u,v,rfl,x,C⟩
   replace a:=(if_pos (zbg r)).symm.trans a;refine zae<|bk_n<|W_th<|W_rg<|wa V (zak V g V)<|mv (i64 (wI (c.2+1))) V V<|zag<|?_;obtain rfl:=osi a;exact ⟨_,rfl,t,w,y,z,u,v,rfl,x,C⟩
  refine zar<|th_x<|?_;obtain rfl:=osi a;obtain rfl:=O _ rfl;refine th_x<|bk_x<|?_;exact ⟨z,x,j⟩
 rintro _ Y ⟨S,R,L⟩;refine W_th<|W_sr<|mv (i64 m) V S<|av (i64 m) V V<|wnt<|W_ret<|?_;obtain rfl:=osi h;refine rt1 (i64 m) V V V R ?_;exact ⟨rfl,L⟩
noncomputable def zff (c:Bool) (d:Int) (a:List UInt8) (e:List UInt8) (f:Int):Option (List UInt8×Int) :=
((mend_gao c d a e).bind fun b =>
(if (!b.2)=true then some (([]:List UInt8),11)
else
((zi1 c b.1 a e).bind fun h =>
((zhs (a.length:Int) d).bind fun g =>
(if (if g<f then g else f)<h then some (([]:List UInt8),11)
else some (b.1,0))))))
theorem mend_column_calls (m:Bool) (d:Int) (h:List UInt8) (o:List UInt8) (j:Int) (e:Value) (c:Value) (f:Value) (r:List UInt8×Int) (w0:World) (x:Fd w0 [] e m) (q:By w0 [] c h) (y:By w0 [] f o) (a:zff m d h o j=some r) :
  Calls Tryz.prog 68 [e,i64 d,c,f,i64 j].toArray w0 (fun F C=>∃ t:Value,F=.returned (.tuple #[t,i64 r.2])/\Ext w0 C/\Nw w0 t/\By C [] t r.1):=by
 have l:Ext w0 w0:=Ext.refl w0;unfold zff at a;refine zai (n:=39) Tryz.func68 V V V<|W_sr<|av (.slice none 0 0) V V<|av (i64 0) V V<|wnt<|W_sr<|mv e V V<|mv (i64 d) V V<|mv c V V<|mv f V V<|?_;obtain ⟨g,I,a⟩:=bsi a;refine wls V V (zab (vs:=[e,i64 d,c,f]) Tryz.func93 V V V (ar4 V V V V) (mend_gao_calls m d h o e c f g _ (x.lift (le_ l)) (q.lift (le_ l)) (y.lift (le_ l)) I) ?_);rintro _ N ⟨b,rfl,O,A,M⟩;refine ⟨_,rfl,?_⟩;have L:=Nw.ext l A;have i:By N [] b g.1:=SlK.avail M _ (fun z H=>(Old.nil _) z (A z H));have k:=l.trans O;refine mv (.tuple #[b,.bool g.2]) V V<|wa V (zah V V V)<|wa V (zah V V V)<|av b V V<|av (.bool g.2) V V<|wnt<|W_seq<|W_seq<|W_rg<|mv (.bool g.2) V V<|wa V (q_not V V)<|wlb V V (zbd (v:=(.bool (!g.2))) V V) (fun p=>?_) (fun p=>?_)
 ·replace a:=(if_pos p).symm.trans a;refine wk V<|wk V<|wk V<|wk V<|wk V<|wk V<|wk V<|wk V<|wk V<|wk V<|wk V<|wk V<|wa V (zaw (v:=(.bool true)) V V V)<|wnt<|zam true V V (fun _=>?_) (fun G=>by cases G);refine W_sr<|av (.slice none 0 0) V V<|av (i64 11) V V<|wnt<|W_ret<|th_r<|?_;obtain rfl:=osi a;refine rt2 (.slice none 0 0) (i64 11) V V V V V V ?_;exact ⟨.slice none 0 0,rfl,k,Nw.nil _,SlK.nil _ _ _⟩
 replace a:=(if_neg (ne_true_of_eq_false p)).symm.trans a;refine mv e V V<|mv b V V<|mv c V V<|mv f V V<|?_;obtain ⟨B,J,a⟩:=bsi a;refine wls V V (zab (vs:=[e,b,c,f]) Tryz.func94 V V V (ar4 V V V V) (mend_wrong_calls m g.1 h o e b c f B _ (x.lift (le_ k)) (i.lift (Lift.sub (L':=[]) (fun _ _=>trivial))) (q.lift (le_ k)) (y.lift (le_ k)) J) ?_);rintro _ P ⟨rfl,D⟩;refine ⟨_,rfl,?_⟩;replace i:=i.lift (le_ D);have u:=k.trans D;refine mv (i64 j) V V<|mv c V V<|wa V (q_len V T22.sl V (q.lift (le_ u)))<|mv (i64 d) V V<|?_;obtain ⟨s,K,a⟩:=bsi a;refine wls V V (zab (vs:=[i64 (h.length:Int),i64 d]) Tryz.func95 V V V (ar2 V V) (mend_Radius_calls (h.length:Int) d  s _  K) ?_);rintro _ Q ⟨rfl,E⟩;refine ⟨_,rfl,?_⟩;replace i:=i.lift (le_ E);have w:=u.trans E;refine wa V (q_minI V V V)<|wa V (q_gtI V V V)<|wa V (zaq (v:=(.bool (decide ((if s<j then s else j)<B)))) V V V)<|wnt<|wci a V V (fun a=>?_) (fun a=>?_)
 ·refine W_sr<|av (.slice none 0 0) V V<|av (i64 11) V V<|wnt<|W_ret<|th_r<|?_;obtain rfl:=osi a;refine rt2 (.slice none 0 0) (i64 11) V V V V V V ?_;exact ⟨.slice none 0 0,rfl,w,Nw.nil _,SlK.nil _ _ _⟩
 refine zae<|W_th<|W_sr<|mv b V V<|av b V V<|av (i64 0) V V<|wnt<|W_ret ?_;obtain rfl:=osi a;refine rt2 b (i64 0) V V V V V V ?_;exact ⟨b,rfl,w,L,i.lift (Lift.sub (L':=[]) (fun _ _=>trivial))⟩
end Gk

/- Printed by gen.py: for each Go function a pure function, and that the Go code comes to it. No condition beside the equation that says what the pure function gives. -/
namespace Gk
open Go Go.Proofs
end Gk

/- Matrices of this seat's program: the struct, its field, its building. No condition. -/
namespace Gk
open Go Go.Proofs
end Gk

/- Records of this seat's program: structs behind their pointers. No condition. -/
namespace Gk
open Go Go.Proofs Go.RowKit
theorem cells_agg (cs:Array Value):(Value.agg cs).cells=cs:=rfl
theorem Lift.consN {w0 w:World} {L L':List Value} {v:Value} (g:Lift w0 w L L') (n:Nw w0 v):Lift w0 w L (v :: L'):=⟨g.blk,fun k hk ha=>⟨fun e=>Nat.not_lt_of_le (n k e) hk,g.av k hk ha⟩⟩
theorem cell_ar {l:List Int} {r:List Value} {i:Nat} {c:Int} (h:idx l (i:Int)=some c):((l.map i64 ++ r).toArray)[i]?=some (i64 c):=by
 obtain ⟨_,h1,h2⟩:=zb5.1 h
 have h1':i<l.length:=by simpa using h1
 have h2':l[i]=c:=by simpa using h2
 simp [List.getElem?_append_left,h1',h2']
theorem zjb {l:List Int} {r:List Value} {k m:Nat} {u:Value} (hl:l.length=k) (h:r[m]?=some u):((l.map i64 ++ r).toArray)[k+m]?=some u:=by
 subst hl
 rw [List.getElem?_toArray,List.getElem?_append_right (by rw [List.length_map];exact Nat.le_add_right _ _),List.length_map,Nat.add_sub_cancel_left];exact h
theorem lt_ar {l:List Int} {r:List Value} {k m:Nat} (hl:l.length=k) (h:m<r.length):k+m<((l.map i64 ++ r).toArray).size:=by
 subst hl
 simp;exact h
theorem set_ar {l:List Int} {r:List Value} {k m:Nat} {u:Value} (hl:l.length=k):((l.map i64 ++ r).toArray).setIfInBounds (k+m) u=(l.map i64 ++ r.set m u).toArray:=by
 subst hl
 apply Array.ext'
 rw [Array.toList_setIfInBounds,List.set_append_right _ _ (by rw [List.length_map];exact Nat.le_add_right _ _),List.length_map,Nat.add_sub_cancel_left]
theorem zek {o:Oper} {f:Nat->Value} {T:TypeId} {x:Operand} {g m d j:Nat} (ho:o.op=.fieldAddr T x j) (hf:∀ (a:Addr) (w:World),(Instr.fieldAt T (.pointer (some a)) j).run Tryz.prog w=.ok (.pointer (some (a.add d))) w) (hx:ev f x=bpo g m):Qa Tryz.prog o f (bpo g (m+d)):=by
 intro w'
 simp [execOp,ho,hx,hf,zcg,Addr.add]
theorem stp_storeR {o:Oper} {f:Nat->Value} {w:World} {e T:TypeId} {x y:Operand} {g m:Nat} {u:Value} {cs cs':Array Value} (L1 L2:List Value) (ho:o.op=.store e x y) (hs:∀ w,(Go.sizeOf e).run Tryz.prog w=.ok 1 w) (hx:ev f x=bpo g m) (hy:ev f y=u) (h:Blk w g T cs) (hm:m<cs.size) (hc:u.oneCell'=true) (hset:cs.setIfInBounds m u=cs')
  {K:Value->World->Prop} (hk:∀ w',Blk w' g T cs'->Gr w w' (bp g)->Lift w w' (L1 ++ bp g :: L2) (L1 ++ bp g :: L2)->K undef w'):Stp Tryz.prog o f w K :=
 zdg ho hs hx hy h hm hc fun w' hB hg=>hk w' (by rw [hset] at hB;exact hB) (Gr.of hg) (Lift.own L1 L2 (Gr.of hg) (Nx.refl _ _))
def RcMd (w:World) (L:List Value) (v:Value) (c:Option (Bool×List UInt8×List (List UInt8)×List Int)):Prop :=
 (c=none/\v=.pointer none)∨∃ (x:Bool×List UInt8×List (List UInt8)×List Int) (g:Nat) (u0 u1 u2 u3:Value),c=some x/\v=bp g/\Av L g/\Blk w g 96 #[u0,u1,u2,u3]/\Fd w L u0 x.1/\By w L u1 x.2.1/\Rw w L u2 x.2.2.1/\In w L u3 x.2.2.2
theorem RcMd.lift {w w':World} {L L':List Value} {v:Value} {c:Option (Bool×List UInt8×List (List UInt8)×List Int)} (h:RcMd w L v c) (g:Lift w w' L L'):RcMd w' L' v c:=by
 rcases h with h | ⟨x,k,u0,u1,u2,u3,h1,h2,ha,hB,r0,r1,r2,r3⟩
 ·exact .inl h
 ·exact .inr ⟨x,k,u0,u1,u2,u3,h1,h2,g.av k hB.lt ha,g.blk k _ hB rfl ha,r0.lift g,r1.lift g,r2.lift g,r3.lift g⟩
theorem RcMd.nil (w:World) (L:List Value):RcMd w L (.pointer none) none:=.inl ⟨rfl,rfl⟩
theorem RcMd.mk {w:World} {L:List Value} {g:Nat} {u0 u1 u2 u3:Value} {x0:Bool} {x1:List UInt8} {x2:List (List UInt8)} {x3:List Int} (hB:Blk w g 96 #[u0,u1,u2,u3]) (ha:Av L g) (r0:Fd w L u0 x0) (r1:By w L u1 x1) (r2:Rw w L u2 x2) (r3:In w L u3 x3):RcMd w L (bp g) (some (x0,x1,x2,x3)) :=
 .inr ⟨(x0,x1,x2,x3),g,u0,u1,u2,u3,rfl,rfl,ha,hB,r0,r1,r2,r3⟩
theorem RcMd.some {w:World} {L:List Value} {v:Value} {x:Bool×List UInt8×List (List UInt8)×List Int} {c:Option (Bool×List UInt8×List (List UInt8)×List Int)} (h:RcMd w L v c) (hc:c=some x):∃ (g:Nat) (u0 u1 u2 u3:Value),v=bp g/\Blk w g 96 #[u0,u1,u2,u3]/\Fd w L u0 x.1/\By w L u1 x.2.1/\Rw w L u2 x.2.2.1/\In w L u3 x.2.2.2:=by
 rcases h with ⟨h1,_⟩ | ⟨x',g,u0,u1,u2,u3,h1,h2,ha,hB,h3⟩
 ·rw [h1] at hc;cases hc
 ·rw [h1] at hc;obtain rfl:=Option.some.inj hc
  exact ⟨g,u0,u1,u2,u3,h2,hB,h3⟩
theorem RcMd.cells {w:World} {L:List Value} {v:Value} {c:Option (Bool×List UInt8×List (List UInt8)×List Int)} (h:RcMd w L v c):v.cells=#[v]:=by
 rcases h with ⟨_,rfl⟩ | ⟨_,_,_,_,_,_,_,rfl,_⟩ <;> rfl
theorem q_eqRMd {o:Oper} {f:Nat->Value} {w:World} {L:List Value} {x y:Operand} {v:Value} {t t' e:TypeId} {c:Option (Bool×List UInt8×List (List UInt8)×List Int)} (ho:o.op=.binOp .eql t x y t') (ht:Tryz.prog.underlying t=some (.pointer e)) (hx:ev f x=v) (hy:ev f y=.pointer none) (h:RcMd w L v c):Qa Tryz.prog o f (.bool c.isNone):=by
 rcases h with ⟨rfl,rfl⟩ | ⟨_,_,_,_,_,_,rfl,rfl,_⟩
 ·exact q_eqP ho ht hx hy
 ·exact q_eqP ho ht hx hy
theorem fieldAtMd0 (a:Addr) (w:World):(Instr.fieldAt 96 (.pointer (some a)) 0).run Tryz.prog w=.ok (.pointer (some (a.add 0))) w:=by
 simp [Instr.fieldAt,Instr.sureAddr,fieldPlace]
theorem fieldAtMd1 (a:Addr) (w:World):(Instr.fieldAt 96 (.pointer (some a)) 1).run Tryz.prog w=.ok (.pointer (some (a.add 1))) w:=by
 simp [Instr.fieldAt,Instr.sureAddr,fieldPlace]
theorem zjr (a:Addr) (w:World):(Instr.fieldAt 96 (.pointer (some a)) 2).run Tryz.prog w=.ok (.pointer (some (a.add 2))) w:=by
 simp [Instr.fieldAt,Instr.sureAddr,fieldPlace]
theorem fieldAtMd3 (a:Addr) (w:World):(Instr.fieldAt 96 (.pointer (some a)) 3).run Tryz.prog w=.ok (.pointer (some (a.add 3))) w:=by
 simp [Instr.fieldAt,Instr.sureAddr,fieldPlace]
theorem zeroMd:∀ w,(zeroValue 96).run Tryz.prog w=.ok (.agg #[(.pointer none),(.slice none 0 0),(.slice none 0 0),(.slice none 0 0)]) w:=fun w=>by rw [Tryz.zeroValue96] <;> rfl
theorem buildMd_0_1 (v0:Value) (hv0:v0.cells=#[v0]) (v1:Value) (hv1:v1.cells=#[v1]) (w:World):(Instr.build 96 #[(0,v0),(1,v1)]).run Tryz.prog w=.ok (.agg #[v0,v1,(.slice none 0 0),(.slice none 0 0)]) w:=by
 unfold Instr.build
 simp only [Sem.run_bind,zeroMd,Result.andThen_ok,run_underlying Tryz.underlying96]
 have hfill:Instr.fill (fun i=>([((0:Nat),(1:Nat)),((1:Nat),(1:Nat)),((2:Nat),(1:Nat)),((3:Nat),(1:Nat))]:List (Nat×Nat))[i]?) #[(.pointer none),(.slice none 0 0),(.slice none 0 0),(.slice none 0 0)] [(0,v0),(1,v1)]=some #[v0,v1,(.slice none 0 0),(.slice none 0 0)]:=by simp [Instr.fill,hv0,hv1]
 simp [Tryz.sizeOf22,Tryz.sizeOf27,Tryz.sizeOf29,Tryz.sizeOf35,cells_agg,hfill]
def RcSt (w:World) (L:List Value) (v:Value) (c:Option (List Int×Bool×(Option (Bool×List UInt8×List (List UInt8)×List Int))×List (List UInt8)×List Int)):Prop :=
 (c=none/\v=.pointer none)∨∃ (x:List Int×Bool×(Option (Bool×List UInt8×List (List UInt8)×List Int))×List (List UInt8)×List Int) (g:Nat) (u1 u2 u3 u4:Value),c=some x/\v=bp g/\Av L g/\Blk w g 74 ((x.1).map i64 ++ [u1,u2,u3,u4]).toArray/\Fd w L u1 x.2.1/\RcMd w L u2 x.2.2.1/\Rw w L u3 x.2.2.2.1/\In w L u4 x.2.2.2.2/\(x.1).length=4
theorem RcSt.lift {w w':World} {L L':List Value} {v:Value} {c:Option (List Int×Bool×(Option (Bool×List UInt8×List (List UInt8)×List Int))×List (List UInt8)×List Int)} (h:RcSt w L v c) (g:Lift w w' L L'):RcSt w' L' v c:=by
 rcases h with h | ⟨x,k,u1,u2,u3,u4,h1,h2,ha,hB,r1,r2,r3,r4,q0⟩
 ·exact .inl h
 ·exact .inr ⟨x,k,u1,u2,u3,u4,h1,h2,g.av k hB.lt ha,g.blk k _ hB rfl ha,r1.lift g,r2.lift g,r3.lift g,r4.lift g,q0⟩
theorem RcSt.nil (w:World) (L:List Value):RcSt w L (.pointer none) none:=.inl ⟨rfl,rfl⟩
theorem RcSt.mk {w:World} {L:List Value} {g:Nat} {u1 u2 u3 u4:Value} {x0:List Int} {x1:Bool} {x2:Option (Bool×List UInt8×List (List UInt8)×List Int)} {x3:List (List UInt8)} {x4:List Int} (hB:Blk w g 74 (x0.map i64 ++ [u1,u2,u3,u4]).toArray) (ha:Av L g) (r1:Fd w L u1 x1) (r2:RcMd w L u2 x2) (r3:Rw w L u3 x3) (r4:In w L u4 x4) (q0:x0.length=4):RcSt w L (bp g) (some (x0,x1,x2,x3,x4)) :=
 .inr ⟨(x0,x1,x2,x3,x4),g,u1,u2,u3,u4,rfl,rfl,ha,hB,r1,r2,r3,r4,q0⟩
theorem RcSt.some {w:World} {L:List Value} {v:Value} {x:List Int×Bool×(Option (Bool×List UInt8×List (List UInt8)×List Int))×List (List UInt8)×List Int} {c:Option (List Int×Bool×(Option (Bool×List UInt8×List (List UInt8)×List Int))×List (List UInt8)×List Int)} (h:RcSt w L v c) (hc:c=some x):∃ (g:Nat) (u1 u2 u3 u4:Value),v=bp g/\Blk w g 74 ((x.1).map i64 ++ [u1,u2,u3,u4]).toArray/\Fd w L u1 x.2.1/\RcMd w L u2 x.2.2.1/\Rw w L u3 x.2.2.2.1/\In w L u4 x.2.2.2.2/\(x.1).length=4:=by
 rcases h with ⟨h1,_⟩ | ⟨x',g,u1,u2,u3,u4,h1,h2,ha,hB,h3⟩
 ·rw [h1] at hc;cases hc
 ·rw [h1] at hc;obtain rfl:=Option.some.inj hc
  exact ⟨g,u1,u2,u3,u4,h2,hB,h3⟩
theorem q_eqRSt {o:Oper} {f:Nat->Value} {w:World} {L:List Value} {x y:Operand} {v:Value} {t t' e:TypeId} {c:Option (List Int×Bool×(Option (Bool×List UInt8×List (List UInt8)×List Int))×List (List UInt8)×List Int)} (ho:o.op=.binOp .eql t x y t') (ht:Tryz.prog.underlying t=some (.pointer e)) (hx:ev f x=v) (hy:ev f y=.pointer none) (h:RcSt w L v c):Qa Tryz.prog o f (.bool c.isNone):=by
 rcases h with ⟨rfl,rfl⟩ | ⟨_,_,_,_,_,_,rfl,rfl,_⟩
 ·exact q_eqP ho ht hx hy
 ·exact q_eqP ho ht hx hy
theorem fieldAtSt0 (a:Addr) (w:World):(Instr.fieldAt 74 (.pointer (some a)) 0).run Tryz.prog w=.ok (.pointer (some (a.add 0))) w:=by
 simp [Instr.fieldAt,Instr.sureAddr,fieldPlace]
theorem fieldAtSt0_0 (a:Addr) (w:World):(Instr.fieldAt 25 (.pointer (some a)) 0).run Tryz.prog w=.ok (.pointer (some (a.add 0))) w:=by
 simp [Instr.fieldAt,Instr.sureAddr,fieldPlace]
theorem fieldAtSt1 (a:Addr) (w:World):(Instr.fieldAt 74 (.pointer (some a)) 1).run Tryz.prog w=.ok (.pointer (some (a.add 4))) w:=by
 simp [Instr.fieldAt,Instr.sureAddr,fieldPlace]
theorem fieldAtSt2 (a:Addr) (w:World):(Instr.fieldAt 74 (.pointer (some a)) 2).run Tryz.prog w=.ok (.pointer (some (a.add 5))) w:=by
 simp [Instr.fieldAt,Instr.sureAddr,fieldPlace]
theorem fieldAtSt3 (a:Addr) (w:World):(Instr.fieldAt 74 (.pointer (some a)) 3).run Tryz.prog w=.ok (.pointer (some (a.add 6))) w:=by
 simp [Instr.fieldAt,Instr.sureAddr,fieldPlace]
theorem fieldAtSt4 (a:Addr) (w:World):(Instr.fieldAt 74 (.pointer (some a)) 4).run Tryz.prog w=.ok (.pointer (some (a.add 7))) w:=by
 simp [Instr.fieldAt,Instr.sureAddr,fieldPlace]
theorem zeroSt:∀ w,(zeroValue 74).run Tryz.prog w=.ok (.agg #[(i64 0),(i64 0),(i64 0),(i64 0),(.pointer none),(.pointer none),(.slice none 0 0),(.slice none 0 0)]) w:=fun w=>by rw [Tryz.zeroValue74] <;> rfl
theorem buildSt_0_1_2 (l:List Int) (hl:l.length=4) (v1:Value) (hv1:v1.cells=#[v1]) (v2:Value) (hv2:v2.cells=#[v2]) (w:World):(Instr.build 74 #[(0,ag i64 l),(1,v1),(2,v2)]).run Tryz.prog w=.ok (.agg ((l.map i64 ++ [v1,v2,(.slice none 0 0),(.slice none 0 0)]).toArray)) w:=by
 obtain ⟨z0,z1,z2,z3,rfl⟩:∃ z0 z1 z2 z3,l=[z0,z1,z2,z3]:=by
  match l,hl with
  | [z0,z1,z2,z3],_=>exact ⟨z0,z1,z2,z3,rfl⟩
 show (Instr.build 74 #[(0,.agg #[i64 z0,i64 z1,i64 z2,i64 z3]),(1,v1),(2,v2)]).run Tryz.prog w=.ok (.agg #[i64 z0,i64 z1,i64 z2,i64 z3,v1,v2,(.slice none 0 0),(.slice none 0 0)]) w
 unfold Instr.build
 simp only [Sem.run_bind,zeroSt,Result.andThen_ok,run_underlying Tryz.underlying74]
 have hfill:Instr.fill (fun i=>([((0:Nat),(4:Nat)),((4:Nat),(1:Nat)),((5:Nat),(1:Nat)),((6:Nat),(1:Nat)),((7:Nat),(1:Nat))]:List (Nat×Nat))[i]?) #[(i64 0),(i64 0),(i64 0),(i64 0),(.pointer none),(.pointer none),(.slice none 0 0),(.slice none 0 0)] [(0,.agg #[i64 z0,i64 z1,i64 z2,i64 z3]),(1,v1),(2,v2)]=some #[i64 z0,i64 z1,i64 z2,i64 z3,v1,v2,(.slice none 0 0),(.slice none 0 0)]:=by simp [Instr.fill,cells_agg,hv1,hv2]
 simp [Tryz.sizeOf25,Tryz.sizeOf27,Tryz.sizeOf29,Tryz.sizeOf35,Tryz.sizeOf70,cells_agg,hfill]
theorem buildSt_0_1_3 (l:List Int) (hl:l.length=4) (v1:Value) (hv1:v1.cells=#[v1]) (v3:Value) (hv3:v3.cells=#[v3]) (w:World):(Instr.build 74 #[(0,ag i64 l),(1,v1),(3,v3)]).run Tryz.prog w=.ok (.agg ((l.map i64 ++ [v1,(.pointer none),v3,(.slice none 0 0)]).toArray)) w:=by
 obtain ⟨z0,z1,z2,z3,rfl⟩:∃ z0 z1 z2 z3,l=[z0,z1,z2,z3]:=by
  match l,hl with
  | [z0,z1,z2,z3],_=>exact ⟨z0,z1,z2,z3,rfl⟩
 show (Instr.build 74 #[(0,.agg #[i64 z0,i64 z1,i64 z2,i64 z3]),(1,v1),(3,v3)]).run Tryz.prog w=.ok (.agg #[i64 z0,i64 z1,i64 z2,i64 z3,v1,(.pointer none),v3,(.slice none 0 0)]) w
 unfold Instr.build
 simp only [Sem.run_bind,zeroSt,Result.andThen_ok,run_underlying Tryz.underlying74]
 have hfill:Instr.fill (fun i=>([((0:Nat),(4:Nat)),((4:Nat),(1:Nat)),((5:Nat),(1:Nat)),((6:Nat),(1:Nat)),((7:Nat),(1:Nat))]:List (Nat×Nat))[i]?) #[(i64 0),(i64 0),(i64 0),(i64 0),(.pointer none),(.pointer none),(.slice none 0 0),(.slice none 0 0)] [(0,.agg #[i64 z0,i64 z1,i64 z2,i64 z3]),(1,v1),(3,v3)]=some #[i64 z0,i64 z1,i64 z2,i64 z3,v1,(.pointer none),v3,(.slice none 0 0)]:=by simp [Instr.fill,cells_agg,hv1,hv3]
 simp [Tryz.sizeOf25,Tryz.sizeOf27,Tryz.sizeOf29,Tryz.sizeOf35,Tryz.sizeOf70,cells_agg,hfill]
end Gk

/- Maps from numbers to bools: made, written, read, counted. No condition. -/
namespace Gk
open Go Go.RowKit
section
variable {P : Program} {f : Nat → Value} {w : World} {o : Oper} {x y z : Operand} {t kt et : TypeId} {g : Nat} {m : List (Int × Bool)} {k : Int} {b : Bool}
end
end Gk

/- Maps from numbers to bytes: made, written, read, counted. No condition. -/
namespace Gk
open Go Go.RowKit
section
variable {P : Program} {f : Nat → Value} {w : World} {o : Oper} {x y z : Operand} {t kt et : TypeId} {g : Nat} {m : List (Int × UInt8)} {k : Int} {b : UInt8}
end
end Gk

/- Printed by gen.py: for each Go function a pure function, and that the Go code comes to it. No condition beside the equation that says what the pure function gives. -/
namespace Gk
open Go Go.Proofs
noncomputable def zck (b:List UInt8) (c:List UInt8):Option Bool :=
(if (b.length:Int)=(c.length:Int) then
((iterC (fun a:Int =>
(if a<(b.length:Int) then
((idx b a).bind fun d =>
((idx c a).bind fun e =>
(if d=e then some (.inl (wI (a+1)))
else some (.inr (.inr false)))))
else some (.inr (.inl ())))) 0).bind (Sum.elim (fun g => some true) (fun f=>some f)))
else some false)
theorem zhi (j:List UInt8) (r:List UInt8) (f:Value) (h:Value) (w:Bool) (w0:World) (i:By w0 [] f j) (m:By w0 [] h r) (b:zck j r=some w) :
  Calls Tryz.prog 70 [f,h].toArray w0 (fun C F=>C=.returned (.bool w)/\Ext w0 F):=by
 have g:Ext w0 w0:=Ext.refl w0;unfold zck at b;refine zai (n:=26) Tryz.func70 V V V<|W_sr<|av (.bool false) V V<|wnt<|W_seq<|W_sr<|mv f V V<|wa V (q_len V T22.sl V (i.lift (le_ g)))<|mv h V V<|wa V (q_len V T22.sl V (m.lift (le_ g)))<|wa V (q_neI V V V)<|wnt<|zam _ V V (fun k=>?_) (fun k=>?_)
 ·replace b:=(if_neg (zbf k)).symm.trans b;refine W_sr<|av (.bool false) V V<|wnt<|W_ret<|th_r<|?_;obtain rfl:=osi b;refine rt1 (.bool false) V V V V ?_;exact ⟨rfl,g⟩
 replace b:=(if_pos (zbg k)).symm.trans b;refine zae<|W_th<|W_seq<|W_sr<|mv f V V<|wa V (q_len V T22.sl V (i.lift (le_ g)))<|mv (i64 0) V V<|wnt ?_;obtain ⟨H,B,b⟩:=bsi b;refine W_mid (fun c q=>∃ A,H=.inl A/\c 26=undef/\Ext w0 q) ?_ ?_
 ·refine zac<|zau (fun d c q=>c 0=f/\c 1=h/\c 12=i64 (j.length:Int)/\c 13=i64 d/\c 26=undef/\Ext w0 q) B ?_ ?_
  ·exact ⟨rfl,rfl,rfl,rfl,rfl,g⟩
  rintro d _ _ G ⟨x,z,y,o,p,s⟩ a v;refine W_sr<|wa V (q_ltI V o y)<|wnt<|W_seq<|wci a V V (fun a=>?_) (fun a=>?_)
  ·refine zae<|W_th<|W_seq<|zac<|W_sr<|mv (i64 d) V o<|av (i64 d) V V<|wnt<|W_seq<|zba [3,7] [(0,0),(1,0),(2,0),(3,1),(4,0),(5,0),(6,0),(7,1),(8,0)] mixed (by kernel_rfl) (by kernel_rfl) (by kernel_rfl) (by kernel_rfl) ?_;have I:=Ext.drew G;have e:=s.trans I;refine sv f V V x<|sv (i64 d) V V V<|bse a fun J t a=>sa V V (q_adr V T22 V V (i.lift (le_ e)) t)<|sq V V (zao V T22 V (i.lift (le_ e)) t)<|sv h V V z<|sv (i64 d) V V V<|bse a fun K u a=>sa V V (q_adr V T22 V V (m.lift (le_ e)) u)<|sq V V (zao V T22 V (m.lift (le_ e)) u)<|sa V V (q_ne8 V V V)<|za1<|W_th<|zam _ V V (fun l=>?_) (fun l=>?_)
   ·replace a:=(if_neg (zbf l)).symm.trans a;refine W_sr<|av (.bool false) V V<|wnt<|W_ret<|bk_r<|th_r<|?_;obtain rfl:=osi a;obtain rfl:=v _ rfl;simp only [Sum.elim_inr] at b;refine th_r<|bk_r<|th_r<|th_r<|?_;obtain rfl:=osi b;refine rt1 (.bool false) V V V p ?_;exact ⟨rfl,e⟩
   replace a:=(if_pos (zbg l)).symm.trans a;refine zae<|bk_n<|W_th<|W_rg<|wa V (zak V o V)<|mv (i64 (wI (d+1))) V V<|zag<|?_;obtain rfl:=osi a;exact ⟨_,rfl,x,z,y,rfl,p,e⟩
  refine zar<|th_x<|?_;obtain rfl:=osi a;obtain rfl:=v _ rfl;refine th_x<|bk_x<|?_;exact ⟨_,rfl,p,s⟩
 rintro _ L ⟨A,rfl,E,D⟩;simp only [Sum.elim_inl] at b;refine W_th<|W_sr<|av (.bool true) V V<|wnt<|W_ret<|?_;obtain rfl:=osi b;refine rt1 (.bool true) V V V E ?_;exact ⟨rfl,D⟩
noncomputable def zg1 (c:Option (Bool×List UInt8×List (List UInt8)×List Int)) (d:UInt8):Option (List UInt8) :=
(if c.isNone=true then some ([]:List UInt8)
else
((c).bind fun a =>
((zdh a.1 a.2.1 d).bind fun j =>
((idx a.2.2.1 0).bind fun g =>
((makeL (g.length:Int) (0:UInt8)).bind fun h =>
((iterC (fun b:List UInt8×Int =>
(if b.2<(a.2.2.1.length:Int) then
((idx a.2.2.1 b.2).bind fun e =>
((idx j.1 b.2).bind fun f =>
((zdl a.1 b.1 f e).bind fun i => some (.inl (i,wI (b.2+1))))))
else some (.inr b.1))) (h,0)).bind fun k => some k))))))
theorem zhb (T:Option (Bool×List UInt8×List (List UInt8)×List Int)) (p:UInt8) (f:Value) (a4:List UInt8) (w0:World) (Z:RcMd w0 [] f T) (a:zg1 T p=some a4) :
  Calls Tryz.prog 38 [f,u8 p].toArray w0 (fun aI aD=>∃ P:Value,aI=.returned P/\Ext w0 aD/\Nw w0 P/\OwK (Sc u8) aD [] 5 P a4):=by
 have M:Ext w0 w0:=Ext.refl w0;unfold zg1 at a;refine zai (n:=56) Tryz.func38 V V V<|W_sr<|av (.slice none 0 0) V V<|wnt<|W_seq<|W_sr<|mv f V V<|wa V (q_eqRMd V V V V (Z.lift (le_ M)))<|wnt<|zam _ V V (fun N=>?_) (fun N=>?_)
 ·replace a:=(if_pos N).symm.trans a;refine W_sr<|av (.slice none 0 0) V V<|wnt<|W_ret<|th_r<|?_;obtain rfl:=osi a;refine rt1 (.slice none 0 0) V V V V ?_;exact ⟨.slice none 0 0,rfl,M,Nw.nil _,OwK.nil _ _ _ _⟩
 replace a:=(if_neg (ne_true_of_eq_false N)).symm.trans a;refine zae<|W_th<|W_seq<|zba [3,7] [(0,0),(1,0),(2,0),(3,1),(4,0),(5,0),(6,0),(7,1),(8,0),(9,2),(10,0),(11,0),(12,0),(13,0),(14,0)] mixed (by kernel_rfl) (by kernel_rfl) (by kernel_rfl) (by kernel_rfl) ?_;have bB:=Ext.drew w0;have r:=M.trans bB;refine sv f V V V ?_;obtain ⟨B,aO,a⟩:=bsi a;obtain ⟨e,l,Q,S,bH,x,t,a0,aU,w,bF⟩:=RcMd.some Z aO;refine sa V V (zbl (g:=e) (m:=0) V (Eq.trans V x))<|sa V V (zek (g:=e) (m:=0) (d:=0) V fieldAtMd0 V)<|sq V V (zan (u:=l) V Tryz.isAgg27 V (t.ext r) V)<|sv f V V V<|sa V V (zbl (g:=e) (m:=0) V (Eq.trans V x))<|sa V V (zek (g:=e) (m:=0) (d:=1) V fieldAtMd1 V)<|sq V V (zan (u:=Q) V Tryz.isAgg22 V (t.ext r) V)<|sv (u8 p) V V V<|?_;obtain ⟨y,aT,a⟩:=bsi a;refine wsc V (by kernel_rfl) V V (zab (vs:=[l,Q,u8 p]) Tryz.func71 V V V (ar3 V V V) (zft B.1 B.2.1 p l Q y _ (a0.lift (le_ r)) (aU.lift (le_ r)) aT) ?_);rintro _ b9 ⟨j,rfl,bC,aZ,b3⟩;refine ⟨_,rfl,?_⟩;have O:By b9 [] j y.1:=OwK.slk (Sc.stab _) _ (OwK.scal b3 (j::[])) (fun a1 aQ=>(Old.nil _) a1 (aZ a1 aQ)) (fun _ s=>s.2);have k:=r.trans bC;refine sv (.tuple #[j,i64 y.2]) V V V<|sa V V (zah V V V)<|sa V V (zah V V V)<|sa V V (zat (v:=j) V V)<|sa V V (zat (v:=i64 y.2) V V)<|za1<|W_th<|W_sr<|mv f V V<|wa V (zbl (g:=e) (m:=0) V (Eq.trans V x))<|wa V (zek (g:=e) (m:=0) (d:=2) V zjr V)<|wq V (zan (u:=S) V Tryz.isAgg29 V (t.ext k) V)<|bse a fun bD Y a=>wa V (q_adr V T29 V V (w.lift (le_ k)) Y)<|zdr V V V T29 V w Y k (fun bI aN=>?_);refine wa V (q_len V T22.sl V (aN.lift (le_ k))) ?_;obtain ⟨bE,aP,a⟩:=bsi a;refine wls V V (zb3 (L:=[]) (R:=Sc u8) V T22 V V aP (fun _ _=>rfl) ?_);intro aC bK b4 a3 aK bG;have aF:=zaa aK;replace O:=O.lift (Lift.call _ aF a3);have aX:=Nw.ext k a3;have K:=k.trans aF;refine av aC V V ?_
 refine wnt<|W_seq<|W_sr<|mv f V V<|wa V (zbl (g:=e) (m:=0) V (Eq.trans V x))<|wa V (zek (g:=e) (m:=0) (d:=2) V zjr V)<|wq V (zan (u:=S) V Tryz.isAgg29 V (t.ext K) V)<|wa V (q_len V T29.sl V (w.lift (le_ K)))<|mv (i64 0) V V<|wnt<|?_;obtain ⟨bA,aG,a⟩:=bsi a;refine W_mid (fun c o=>∃ I:Value,c 7=I/\c 56=undef/\Ext w0 o/\OwK (Sc u8) o [I] 5 I bA/\Nw w0 I) ?_ ?_
 ·refine zac<|zau (fun h c o=>∃ A:Value,c 0=f/\c 5=j/\c 7=A/\c 36=S/\c 37=i64 (B.2.2.1.length:Int)/\c 38=i64 h.2/\c 56=undef/\Ext w0 o/\OwK (Sc u8) o [A] 5 A h.1/\Nw w0 A/\By o [A] j y.1) aG ?_ ?_
  ·exact ⟨aC,rfl,rfl,rfl,rfl,rfl,rfl,rfl,K,b4,aX,O⟩
  rintro h _ _ b7 ⟨z,a6,aA,aB,a7,a8,E,a9,C,D,aV,i⟩ b aR;refine W_sr<|wa V (q_ltI V E a8)<|wnt<|W_seq<|wci b V V (fun b=>?_) (fun b=>?_)
  ·refine zae<|W_th<|W_seq<|zac<|W_sr<|mv (i64 h.2) V E<|bse b fun aH W b=>wa V (q_adr V T29 a7 E (w.lift (le_ C)) W)<|zdr V V V T29 V w W C (fun F aM=>?_);refine av (i64 h.2) V V<|av F V V<|wnt<|zba [3,8] [(0,0),(1,0),(2,0),(3,1),(4,0),(5,0),(6,0),(7,0),(8,1),(9,0),(10,2),(11,0)] mixed (by kernel_rfl) (by kernel_rfl) (by kernel_rfl) (by kernel_rfl) ?_;have J:=Ext.drew b7;replace i:=i.lift (le_ J);replace D:=D.extL (Sc.stab _) J (le_ J);have q:=C.trans J;refine sv f V V a6<|sa V V (zbl (g:=e) (m:=0) V (Eq.trans V x))<|sa V V (zek (g:=e) (m:=0) (d:=0) V fieldAtMd0 V)<|sq V V (zan (u:=l) V Tryz.isAgg27 V (t.ext q) V)<|sv z V V aB<|sv j V V aA<|sv (i64 h.2) V V V<|bse b fun U X b=>sa V V (q_adr V T22 V V i X)<|sq V V (zao V T22 V i X)<|sv F V V V<|?_;obtain ⟨a5,aS,b⟩:=bsi b;refine wsc V (by kernel_rfl) V V (zab (vs:=[l,z,u8 U,F]) Tryz.func72 V V V (ar4 V V V V) (zdt B.1 h.1 U aH l z F a5 _ (a0.lift (le_ q)) (D.rd (Sc.stab _)) (aM.lift (le_ q)) aS) ?_);rintro _ b8 ⟨G,rfl,aE,a2,b2⟩;refine ⟨_,rfl,?_⟩;have b1:OwK (Sc u8) b8 (G::[z]) 5 G a5:=OwK.scal b2 _;replace i:=i.lift (Lift.call _ aE a2);have aY:=Nw.ext q a2;have aJ:=q.trans aE;refine sa V V (zat (v:=G) V V)<|za1<|bk_n<|W_th<|W_rg<|wa V (zak V E V)<|mv (i64 (wI (h.2+1))) V V<|zag<|?_;obtain rfl:=osi b;exact ⟨_,rfl,G,a6,aA,rfl,a7,a8,rfl,a9,aJ,b1.weak (Sc.stab _) (fun _ s=>⟨s.1,trivial⟩),aY,i.lift (Lift.sub (fun _ s=>⟨s.1,trivial⟩))⟩
  refine zar<|th_x<|?_;obtain rfl:=osi b;obtain rfl:=aR _ rfl;refine th_x<|bk_x<|?_;exact ⟨z,aB,a9,C,D,aV⟩
 rintro _ bJ ⟨H,b6,b5,aL,b0,aW⟩;refine W_th<|W_sr<|mv H V b6<|av H V V<|wnt<|W_ret<|?_;obtain rfl:=osi a;refine rt1 H V V V b5 ?_;exact ⟨H,rfl,aL,aW,b0.weak (Sc.stab _) (fun _ _=>trivial)⟩
noncomputable def mend_odd (d:Option (Bool×List UInt8×List (List UInt8)×List Int)) (e:List UInt8) (f:List (List UInt8)):Option (List Int) :=
((idx f 0).bind fun i =>
((makeL (i.length:Int) false).bind fun o =>
((d).bind fun r =>
((iterC (fun c:List Bool×Int =>
(if c.2<(e.length:Int) then
((idx e c.2).bind fun j =>
((zg1 d j).bind fun g =>
((iterC (fun a:List Bool×Int =>
(if a.2<(g.length:Int) then
((idx g a.2).bind fun k =>
((idx a.1 a.2).bind fun l =>
(if l=true then some (.inl (a.1.set (a.2:Int).toNat true,wI (a.2+1)))
else
((idx f c.2).bind fun m =>
((idx m a.2).bind fun n => some (.inl (a.1.set (a.2:Int).toNat (!decide (k=n)),wI (a.2+1))))))))
else some (.inr a.1))) (c.1,0)).bind fun s => some (.inl (s,wI (c.2+1))))))
else some (.inr c.1))) (o,(r.2.1.length:Int))).bind fun h =>
((iterC (fun b:List Int×Int =>
(if b.2<(h.length:Int) then
((idx h b.2).bind fun p =>
(if p=true then
((appL b.1 ([b.2]:List Int)).bind fun q => some (.inl (q,wI (b.2+1))))
else some (.inl (b.1,wI (b.2+1)))))
else some (.inr b.1))) (([]:List Int),0)).bind fun t => some t)))))
theorem mend_odd_calls (Y:Option (Bool×List UInt8×List (List UInt8)×List Int)) (aN:List UInt8) (aO:List (List UInt8)) (r:Value) (x:Value) (y:Value) (b7:List Int) (w0:World) (b1:RcMd w0 [] r Y) (a5:By w0 [] x aN) (O:Rw w0 [] y aO) (i:mend_odd Y aN aO=some b7) :
  Calls Tryz.prog 67 [r,x,y].toArray w0 (fun bJ bD=>∃ aJ:Value,bJ=.returned aJ/\Ext w0 bD/\Nw w0 aJ/\OwK (Sc i64) bD [] 3 aJ b7):=by
 have F:Ext w0 w0:=Ext.refl w0;unfold mend_odd at i;refine zai (n:=75) Tryz.func67 V V V<|W_sr<|av (.slice none 0 0) V V<|wnt<|W_sr<|av (.slice none 0 0) V V<|wnt<|W_sr<|mv y V V<|bse i fun dA aV i=>wa V (q_adr V T29 V V (O.lift (le_ F)) aV)<|zdr V V V T29 V O aV F (fun dM bW=>?_);refine wa V (q_len V T22.sl V (bW.lift (le_ F))) ?_;obtain ⟨dC,bX,i⟩:=bsi i;refine wls V V (zb3 (L:=[]) (R:=Sc bl) V T124 V V bX (fun _ _=>rfl) ?_);intro b dS cN cE bQ dH;have d8:=zaa bQ;have cH:=Nw.ext F cE;have a0:=F.trans d8;refine av b V V<|wnt<|W_seq<|W_sr<|mv r V V<|?_;obtain ⟨bI,bZ,i⟩:=bsi i;obtain ⟨aT,dJ,d4,dK,dL,c5,bS,dE,c4,dF,dG⟩:=RcMd.some b1 bZ;refine wa V (zbl (g:=aT) (m:=0) V (Eq.trans V c5))<|wa V (zek (g:=aT) (m:=0) (d:=1) V fieldAtMd1 V)<|wq V (zan (u:=d4) V Tryz.isAgg22 V (bS.ext a0) V)<|wa V (q_len V T22.sl V (c4.lift (le_ a0)))<|av (i64 (bI.2.1.length:Int)) V V<|wnt<|?_;obtain ⟨aM,bG,i⟩:=bsi i;refine W_mid (fun a c=>a 7=(.slice none 0 0)/\a 8=b/\a 75=undef/\Ext w0 c/\OwK (Sc bl) c [b] 4 b aM/\Nw w0 b) ?_ ?_
 ·refine zac<|zau (fun p a c=>a 0=r/\a 1=x/\a 2=y/\a 7=(.slice none 0 0)/\a 8=b/\a 9=i64 p.2/\a 75=undef/\Ext w0 c/\OwK (Sc bl) c [b] 4 b p.1/\Nw w0 b) bG ?_ ?_
  ·exact ⟨rfl,rfl,rfl,rfl,rfl,rfl,rfl,a0,cN,cH⟩
  rintro p _ _ dX ⟨b8,a9,cU,bA,bB,aI,b9,z,I,b3⟩ j c3;refine W_seq<|W_sr<|mv (i64 p.2) V aI<|mv x V a9<|wa V (q_len V T22.sl V (a5.lift (le_ z)))<|wa V (q_ltI V V V)<|wnt<|wci j V V (fun j=>?_) (fun j=>?_)
  ·refine zae<|W_th<|W_seq<|zac<|W_sr<|mv r V b8<|mv x V a9<|mv (i64 p.2) V aI ?_;obtain ⟨aP,aW,j⟩:=bsi j;refine wa V (q_adr V T22 V V (a5.lift (le_ z)) aW)<|wq V (zao V T22 V (a5.lift (le_ z)) aW)<|?_;obtain ⟨Q,c0,j⟩:=bsi j;refine wls V V (zab (vs:=[r,u8 aP]) Tryz.func38 V V V (ar2 V V) (zhb Y aP r Q _ (b1.lift (le_ z)) c0) ?_);rintro _ d5 ⟨U,rfl,aL,cD,cK⟩;refine ⟨_,rfl,?_⟩;have b2:By d5 [b] U Q:=OwK.slk (Sc.stab _) _ (OwK.scal cK (U::[b])) (fun G a4=>(Old.cons (Old.nil _) I.lt) G (cD G a4)) (fun _ q=>q.2);replace I:=I.extL (Sc.stab _) aL (le_ aL);have bK:=z.trans aL;refine wa V (q_len V T22.sl V b2)<|mv (i64 0) V V<|wnt<|?_;obtain ⟨d7,bE,j⟩:=bsi j;refine W_mid (fun a c=>a 0=r/\a 1=x/\a 2=y/\a 7=(.slice none 0 0)/\a 8=b/\a 9=i64 p.2/\a 75=undef/\Ext w0 c/\OwK (Sc bl) c [b] 4 b d7/\Nw w0 b) ?_ ?_
   ·refine zac<|zau (fun o a c=>a 0=r/\a 1=x/\a 2=y/\a 7=(.slice none 0 0)/\a 8=b/\a 9=i64 p.2/\a 35=U/\a 36=i64 (Q.length:Int)/\a 37=i64 o.2/\a 75=undef/\Ext w0 c/\OwK (Sc bl) c [b] 4 b o.1/\Nw w0 b/\By c [b] U Q) bE ?_ ?_
    ·exact ⟨b8,a9,cU,bA,bB,aI,rfl,rfl,rfl,b9,bK,I,b3,b2⟩
    rintro o _ _ dO ⟨a7,a8,S,aG,M,T,aA,aB,J,aE,t,w,H,s⟩ e c1;refine W_sr<|wa V (q_ltI V J aB)<|wnt<|W_seq<|wci e V V (fun e=>?_) (fun e=>?_)
    ·refine zae<|W_th<|W_seq<|zac<|W_sr<|mv (i64 o.2) V J<|bse e fun E aX e=>wa V (q_adr V T22 aA J s aX)<|wq V (zao V T22 V s aX)<|av (i64 o.2) V V<|av (u8 E) V V<|wnt<|W_rg<|mv b V M<|mv (i64 o.2) V V<|?_;refine mv b V M<|mv (i64 o.2) V V<|bse e fun bH A e=>wa V (q_adr V T124 V V (w.rd (Sc.stab _)) A)<|wq V (zao V T124 V (w.rd (Sc.stab _)) A)<|wlb V V (zbd (v:=(.bool bH)) V V) (fun a2=>?_) (fun a2=>?_)
     ·replace e:=(if_pos a2).symm.trans e;refine wk V<|wk V<|wk V<|wk V<|wk V<|wk V<|wk V<|wk V<|wk V<|wa V (zaw (v:=(.bool true)) V V V)<|wa V (q_adr V T124 V V (w.rd (Sc.stab _)) A)<|wln V V (zci (R:=Sc bl) (u:=(.bool true)) (Sc.stab _) [] [] V T124 V V w (zf6 true A) V V ?_);intro dP cL bO c7;replace s:=s.lift c7;have bL:=t.grown bO H;refine zag<|bk_n<|W_th<|W_rg<|wa V (zak V J V)<|mv (i64 (wI (o.2+1))) V V<|zag<|?_;obtain rfl:=osi e;exact ⟨_,rfl,a7,a8,S,aG,M,T,aA,aB,rfl,aE,bL,cL,H,s⟩
     replace e:=(if_neg (ne_true_of_eq_false a2)).symm.trans e;refine mv (u8 E) V V<|mv y V S<|mv (i64 p.2) V T<|bse e fun dB aY e=>wa V (q_adr V T29 V V (O.lift (le_ t)) aY)<|zdr V V V T29 V O aY t (fun dN aU=>?_);refine mv (i64 o.2) V V ?_;obtain ⟨Z,aZ,e⟩:=bsi e;refine wa V (q_adr V T22 V V (aU.lift (le_ t)) aZ)<|wq V (zao V T22 V (aU.lift (le_ t)) aZ)<|wa V (q_ne8 V V V)<|wa V (zaq (v:=(.bool (!decide (E=Z)))) V V V)<|wa V (q_adr V T124 V V (w.rd (Sc.stab _)) A)<|wln V V (zci (R:=Sc bl) (u:=(.bool (!decide (E=Z)))) (Sc.stab _) [] [] V T124 V V w (zf6 (!decide (E=Z)) A) V V ?_);intro dQ cM bP c8;replace s:=s.lift c8;have bM:=t.grown bP H;refine zag<|bk_n<|W_th<|W_rg<|wa V (zak V J V)<|mv (i64 (wI (o.2+1))) V V<|zag<|?_;obtain rfl:=osi e;exact ⟨_,rfl,a7,a8,S,aG,M,T,aA,aB,rfl,aE,bM,cM,H,s⟩
    refine zar<|th_x<|?_;obtain rfl:=osi e;obtain rfl:=c1 _ rfl;refine th_x<|bk_x<|?_;exact ⟨a7,a8,S,aG,M,T,aE,t,w,H⟩
   rintro _ dR ⟨cR,cS,cT,cY,d1,d3,cV,bT,cI,cA⟩;refine bk_n<|W_th<|W_rg<|mv (i64 p.2) V d3<|wa V (zak V V V)<|av (i64 (wI (p.2+1))) V V<|zag<|?_;obtain rfl:=osi j;exact ⟨_,rfl,cR,cS,cT,cY,d1,rfl,cV,bT,cI,cA⟩
  refine zar<|th_x<|?_;obtain rfl:=osi j;obtain rfl:=c3 _ rfl;refine th_x<|bk_x<|?_;exact ⟨bA,bB,b9,z,I,b3⟩
 rintro _ dT ⟨cZ,d2,cW,bU,b6,cB⟩;refine W_th<|W_seq<|W_sr<|mv b V d2<|wa V (q_len V T124.sl V (b6.rd (Sc.stab _)))<|mv (i64 0) V V<|wnt<|?_;obtain ⟨d9,bF,i⟩:=bsi i;refine W_mid (fun a c=>∃ X:Value,a 7=X/\a 75=undef/\Ext w0 c/\OwK (Sc i64) c [X] 3 X d9/\Nw w0 X) ?_ ?_
 ·refine zac<|zau (fun f a c=>∃ D:Value,a 7=D/\a 61=b/\a 62=i64 (aM.length:Int)/\a 63=i64 f.2/\a 75=undef/\Ext w0 c/\OwK (Sc i64) c [D,b] 3 D f.1/\Nw w0 D/\OwK (Sc bl) c [D,b] 4 b aM/\Nw w0 b/\Nq D b) bF ?_ ?_
  ·exact ⟨.slice none 0 0,cZ,rfl,rfl,rfl,cW,bU,OwK.nil _ _ _ _,Nw.nil _,b6.weak (Sc.stab _) (fun _ q=>⟨zfw,q.1,trivial⟩),cB,Nq.nil _⟩
  rintro f _ _ dU ⟨C,aH,aC,aD,K,aF,a1,B,P,k,b4,a6⟩ h c2;refine W_sr<|wa V (q_ltI V K aD)<|wnt<|W_seq<|wci h V V (fun h=>?_) (fun h=>?_)
  ·refine zae<|W_th<|W_seq<|zac<|W_sr<|mv (i64 f.2) V K<|bse h fun aQ b0 h=>wa V (q_adr V T124 aC K (k.rd (Sc.stab _)) b0)<|wq V (zao V T124 V (k.rd (Sc.stab _)) b0)<|av (i64 f.2) V V<|av (.bool aQ) V V<|wnt<|W_sr<|mv (.bool aQ) V V<|wnt<|zam _ V V (fun a3=>?_) (fun a3=>?_)
   ·replace h:=(if_pos a3).symm.trans h;refine W_rg<|mv C V aH<|mv (i64 f.2) V V<|wls V V (zaz (L:=[C,b]) (R:=Sc i64) [i64 f.2] ([f.2]:List Int) V T35 V (by exact ⟨rfl,rfl,trivial⟩) V (litC i64 oneC_i64 (us:=[i64 f.2]) (l:=([f.2]:List Int)) V) V (litS i64 (us:=[i64 f.2]) (l:=([f.2]:List Int)) V) ?_);intro bC d6 cO cF bR dI;have N:=zaa bR;have c6:In d6 [C,b] bC ([f.2]:List Int):=OwK.slk (Sc.stab _) _ cO (fun G a4=>(Old.cons (Old.cons (Old.nil _) k.lt) B.lt) G (cF G a4)) (fun _ q=>q.2);replace B:=B.extL (Sc.stab _) N (le_ N);replace k:=k.extL (Sc.stab _) N (le_ N);have aR:=a1.trans N;obtain ⟨dD,bY,h⟩:=bsi h;refine wls V V (zav (R:=Sc i64) (v:=C) (u:=bC) (Sc.stab _) [] [b] V T35 V V B c6 (fun _ _ q=>q) bY oc_i64 ?_);intro aK dV cP aS b5 c9;have cQ:Nq b aK:=k.nxt a6.symm b5;replace k:=k.other (Sc.stab _) aS a6.symm c9;have bN:=aR.grown aS P;have cG:=Nw.nxt aR P b5;refine av aK V V<|zag<|bk_n<|W_th<|W_rg<|wa V (zak V K V)<|mv (i64 (wI (f.2+1))) V V<|zag<|?_;obtain rfl:=osi h;exact ⟨_,rfl,aK,rfl,aC,aD,rfl,aF,bN,cP,cG,k,b4,cQ.symm⟩
   replace h:=(if_neg (ne_true_of_eq_false a3)).symm.trans h;refine zae<|bk_n<|W_th<|W_rg<|wa V (zak V K V)<|mv (i64 (wI (f.2+1))) V V<|zag<|?_;obtain rfl:=osi h;exact ⟨_,rfl,C,aH,aC,aD,rfl,aF,a1,B,P,k,b4,a6⟩
  refine zar<|th_x<|?_;obtain rfl:=osi h;obtain rfl:=c2 _ rfl;refine th_x<|bk_x<|?_;exact ⟨C,aH,aF,a1,B.weak (Sc.stab _) (fun _ q=>⟨q.1,trivial⟩),P⟩
 rintro _ dW ⟨W,d0,cX,bV,cJ,cC⟩;refine W_th<|W_sr<|mv W V d0<|av W V V<|wnt<|W_ret<|?_;obtain rfl:=osi i;refine rt1 W V V V cX ?_;exact ⟨W,rfl,bV,cC,cJ.weak (Sc.stab _) (fun _ _=>trivial)⟩
noncomputable def zhm (a:Option (Bool×List UInt8×List (List UInt8)×List Int)):Option (List Int) :=
(if a.isNone=true then some ([]:List Int)
else
((a).bind fun b =>
((zdq b.2.2.2).bind fun c => some c)))
theorem mend_Wrong_calls (j:Option (Bool×List UInt8×List (List UInt8)×List Int)) (e:Value) (o:List Int) (w0:World) (l:RcMd w0 [] e j) (a:zhm j=some o) :
  Calls Tryz.prog 37 [e].toArray w0 (fun s q=>∃ h:Value,s=.returned h/\Ext w0 q/\Nw w0 h/\OwK (Sc i64) q [] 3 h o):=by
 have b:Ext w0 w0:=Ext.refl w0;unfold zhm at a;refine zai (n:=10) Tryz.func37 V V V<|W_sr<|av (.slice none 0 0) V V<|wnt<|W_seq<|W_sr<|mv e V V<|wa V (q_eqRMd V V V V (l.lift (le_ b)))<|wnt<|zam _ V V (fun f=>?_) (fun f=>?_)
 ·replace a:=(if_pos f).symm.trans a;refine W_sr<|av (.slice none 0 0) V V<|wnt<|W_ret<|th_r<|?_;obtain rfl:=osi a;refine rt1 (.slice none 0 0) V V V V ?_;exact ⟨.slice none 0 0,rfl,b,Nw.nil _,OwK.nil _ _ _ _⟩
 replace a:=(if_neg (ne_true_of_eq_false f)).symm.trans a;refine zae<|W_th<|W_sr<|mv e V V<|?_;obtain ⟨r,w,a⟩:=bsi a;obtain ⟨k,J,K,L,i,z,v,G,H,I,y⟩:=RcMd.some l w;refine wa V (zbl (g:=k) (m:=0) V (Eq.trans V z))<|wa V (zek (g:=k) (m:=0) (d:=3) V fieldAtMd3 V)<|wq V (zan (u:=i) V Tryz.isAgg35 V (v.ext b) V)<|?_;obtain ⟨p,x,a⟩:=bsi a;refine wls V V (zab (vs:=[i]) Tryz.func42 V V V (ar1 V) (zif r.2.2.2 i p _ (y.lift (le_ b)) x) ?_);rintro _ E ⟨c,rfl,F,A,D⟩;refine ⟨_,rfl,?_⟩;have C:OwK (Sc i64) E (c::[]) 3 c p:=OwK.scal D _;have B:=Nw.ext b A;have t:=b.trans F;refine av c V V<|wnt<|W_ret<|?_;obtain rfl:=osi a;refine rt1 c V V V V ?_;exact ⟨c,rfl,t,B,C.weak (Sc.stab _) (fun _ _=>trivial)⟩
noncomputable def zgg (a:List UInt8) (b:List (List UInt8)):Option Bool :=
((idx b 0).bind fun c => some (!decide ((a.length:Int)=(c.length:Int))))
theorem mend_Rows_1_calls (a0r:List UInt8) (b0:List (List UInt8)) (p0:Value) (gc0:Nat) (cv0:Value) (r:Bool) (w0:World) (hp0:By w0 [] p0 a0r) (hcB0:Blk w0 gc0 29 #[cv0]) (hcv0:Rw w0 [] cv0 b0) (H:zgg a0r b0=some r) :
  Calls Tryz.prog 66 [p0,(bp gc0)].toArray w0 (fun e w'=>e=.returned (.bool r)/\Ext w0 w'):=by
 have hE:Ext w0 w0:=Ext.refl w0;unfold zgg at H;refine zai (n:=11) Tryz.func66 rfl rfl rfl ?_;refine W_seq<|W_rg<|av (.bool false) rfl rfl<|wnt<|W_seq<|W_rg<|mv p0 rfl rfl<|wa rfl (q_len rfl T22.sl rfl (hp0.lift (le_ hE)))<|?_;refine wq rfl (zan (u:=cv0) rfl Tryz.isAgg29 rfl (hcB0.ext hE) rfl) ?_;obtain ⟨c1,hc1,H⟩:=bsi H;refine wa rfl (q_adr rfl T29 rfl rfl (hcv0.lift (le_ hE)) hc1) ?_;refine zdr rfl rfl rfl T29 rfl hcv0 hc1 hE (fun v2 ha2=>?_);refine wa rfl (q_len rfl T22.sl rfl (ha2.lift (le_ hE)))<|wa rfl (q_neI rfl rfl rfl)<|av (.bool ((!decide ((a0r.length:Int)=(c1.length:Int))))) rfl rfl<|wnt<|W_ret<|?_;obtain rfl:=osi H;refine rt1 (.bool ((!decide ((a0r.length:Int)=(c1.length:Int))))) rfl rfl rfl rfl ?_;exact ⟨rfl,hE⟩
noncomputable def zhp (c:Bool) (g:Int) (d:List UInt8) (b:List (List UInt8)) (j:Int):Option (Option (Bool×List UInt8×List (List UInt8)×List Int)×Int) :=
((zju c g d (b.length:Int) j).bind fun m =>
(if m=0 then
((lim b.length).bind fun L =>
((anyO (fun J=>zgg J b) b).bind fun E =>
(if E=true then some ((none:Option (Bool×List UInt8×List (List UInt8)×List Int)),3)
else
((subL d 0 g).bind fun q =>
((zaj q).bind fun e =>
((subL b 0 g).bind fun k =>
((iterC (fun s21:List (List UInt8)×Int =>
(if s21.2<(k.length:Int) then
((idx k s21.2).bind fun t =>
((zaj t).bind fun D =>
((appL s21.1 [D]).bind fun u => some (.inl (u,wI (s21.2+1))))))
else some (.inr s21.1))) (([]:List (List UInt8)),0)).bind fun o =>
((mend_odd (some (c,e,o,([]:List Int))) d b).bind fun n =>
((iterC (fun s52:List (List UInt8)×Int =>
(if s52.2<(n.length:Int) then
((idx n s52.2).bind fun h =>
((iterC (fun f:List UInt8×Int =>
(if f.2<(b.length:Int) then
((idx b f.2).bind fun v =>
((idx v h).bind fun w =>
((appL f.1 ([w]:List UInt8)).bind fun x => some (.inl (x,wI (f.2+1))))))
else some (.inr f.1))) (([]:List UInt8),0)).bind fun G =>
((zff c g d G j).bind fun i =>
(if i.2=0 then
((iterC (fun s76:List (List UInt8)×Int =>
(if s76.2<(e.length:Int) then
((idx e s76.2).bind fun y =>
((idx s76.1 s76.2).bind fun l =>
((zh9 c i.1 y).bind fun F =>
((idx l h).bind fun K => some (.inl (s76.1.set (s76.2:Int).toNat (l.set (h:Int).toNat F),wI (s76.2+1)))))))
else some (.inr s76.1))) (s52.1,0)).bind fun H => some (.inl (H,wI (s52.2+1))))
else some (.inr (.inr ((none:Option (Bool×List UInt8×List (List UInt8)×List Int)),i.2)))))))
else some (.inr (.inl s52.1)))) (o,0)).bind (Sum.elim (fun p =>
((iterC (fun a:List Int×Int =>
(if a.2<(d.length:Int) then
((idx d a.2).bind fun z =>
((idx b a.2).bind fun r =>
((zg1 (some (c,e,p,a.1)) z).bind fun B =>
((zck B r).bind fun C =>
(if (!C)=true then
((appL a.1 ([a.2]:List Int)).bind fun s => some (.inl (s,wI (a.2+1))))
else some (.inl (a.1,wI (a.2+1))))))))
else some (.inr a.1))) (([]:List Int),0)).bind fun I => some (some (c,e,p,I),0))) (fun A=>some A)))))))))))
else some ((none:Option (Bool×List UInt8×List (List UInt8)×List Int)),m)))
theorem mend_Rows_calls (aK:Bool) (y:Int) (b0:List UInt8) (a4:List (List UInt8)) (I:Int) (o:Value) (t:Value) (s:Value) (dV:Option (Bool×List UInt8×List (List UInt8)×List Int)×Int) (w0:World) (j:List Value) (Z:Old w0 j) (aN:Fd w0 j o aK) (a8:By w0 [] t b0) (N:Rw w0 [] s a4) (k:zhp aK y b0 a4 I=some dV) :
  Calls Tryz.prog 36 [o,i64 y,t,s,i64 I].toArray w0 (fun cW cT=>∃ h3:Value,cW=.returned (.tuple #[h3,i64 dV.2])/\Ext w0 cT/\RcMd cT j h3 dV.1):=by
 have d4:Ext w0 w0:=Ext.refl w0;unfold zhp at k;refine zai (n:=155) Tryz.func36 V V V<|W_sr<|wls V V (zb9 (v:=s) (cs:=#[s]) j V V (zb4 _ _ (N.lift (le_ d4))) ?_);intro e n6 J j5 i1 mR;have mH:=zaa i1;have jL:=Nw.ext d4 j5;have bV:=d4.trans mH;refine av (.pointer none) V V<|av (i64 0) V V<|wnt<|W_seq<|W_sr<|mv o V V<|mv (i64 y) V V<|mv t V V<|wq V (zan (u:=s) V Tryz.isAgg29 V J V)<|wa V (q_len V T29.sl V (N.lift (le_ bV)))<|mv (i64 I) V V<|?_;obtain ⟨b5,iG,k⟩:=bsi k;refine wls V V (zab (vs:=[o,i64 y,t,i64 (a4.length:Int),i64 I]) Tryz.func65 V V V (ar5 V V V V V) (mend_check_calls aK y b0 (a4.length:Int) I o t b5 _ ((aN.lift (Lift.sub (L':=[]) (fun _ _=>trivial))).lift (le_ bV)) (a8.lift (le_ bV)) iG) ?_);rintro _ nC ⟨rfl,hD⟩;refine ⟨_,rfl,?_⟩;replace J:=J.ext hD;have bW:=bV.trans hD;refine av (i64 b5) V V<|wnt<|W_sr<|mv (i64 b5) V V<|wa V (q_neI V V V)<|wnt<|zam _ V V (fun d7=>?_) (fun d7=>?_)
 ·replace k:=(if_neg (zbf d7)).symm.trans k;refine W_sr<|mv (i64 b5) V V<|av (.pointer none) V V<|av (i64 b5) V V<|wnt<|W_ret<|th_r<|?_;obtain rfl:=osi k;refine rt2 (.pointer none) (i64 b5) V V V V V V ?_;exact ⟨.pointer none,rfl,bW,RcMd.nil _ _⟩
 replace k:=(if_pos (zbg d7)).symm.trans k;refine zae<|W_th<|W_seq<|W_sr<|wq V (zan (u:=s) V Tryz.isAgg29 V J V)<|wa V (zgq (vs:=[bp e]) V (ar1 V))<|?_;obtain ⟨mW,iA,k⟩:=bsi k;obtain ⟨lA,iJ,k⟩:=bsi k;refine wls V V (zab (vs:=[s,(.func (.func 66) #[] [bp e].toArray)]) Tryz.func34 V V V (ar2 V V) (zcc s a4 66 _ Tryz.func66 V V [bp e] (fun eB=>zgg eB a4) lA _ (N.lift (le_ bW)) (zjt iA) iJ (fun eB _ b cT hG i6 u iO=>mend_Rows_1_calls eB a4 u e s b cT iO (J.ext hG) ((N.lift (le_ bW)).lift (le_ hG)) i6)) ?_);rintro _ nI ⟨rfl,hF⟩;refine ⟨_,rfl,?_⟩;replace J:=J.ext hF;have bF:=bW.trans hF;refine wnt<|zam _ V V (fun d9=>?_) (fun d9=>?_)
 ·replace k:=(if_pos d9).symm.trans k;refine W_sr<|av (.pointer none) V V<|av (i64 3) V V<|wnt<|W_ret<|th_r<|?_;obtain rfl:=osi k;refine rt2 (.pointer none) (i64 3) V V V V V V ?_;exact ⟨.pointer none,rfl,bF,RcMd.nil _ _⟩
 replace k:=(if_neg (ne_true_of_eq_false d9)).symm.trans k;refine zae<|W_th<|W_sr<|mv o V V<|mv t V V<|mv (i64 y) V V<|bse k fun hN eQ k=>wa V (zdv (a:=0) (b:=y) V T22 V (a8.lift (le_ bF)) V V eQ) ?_;obtain ⟨M,iD,k⟩:=bsi k;refine wls V V (zab (vs:=[subV t (0:Int).toNat (y:Int).toNat]) Tryz.func59 V V V (ar1 V) (zap hN (subV t (0:Int).toNat (y:Int).toNat) M _ (SlK.cut (L:=[]) (a8.lift (le_ bF)) eQ) iD) ?_);rintro _ m7 ⟨r,rfl,hB,j9,k2⟩;refine ⟨_,rfl,?_⟩;have c9:By m7 (bp e::j) r M:=OwK.slk (Sc.stab _) _ (OwK.scal k2 (r::(bp e::j))) (fun p B=>(Old.cons (Z.ext bF) J.ltB) p (j9 p B)) (fun _ h=>h.2);replace J:=J.ext hB;have cY:=bF.trans hB;refine wa V (q_buildS (ps:=#[(0,o),(1,r)]) V (by simp only [List.map_toArray,List.map_cons,List.map_nil];exact bs2 V V) (buildMd_0_1 o (zjz ((aN.lift (Lift.sub (L':=[]) (fun _ _=>trivial))).lift (le_ cY))) r (zb4 _ _ c9))) ?_
 refine wls V V (zb9 (v:=(.agg #[o,r,.slice none 0 0,.slice none 0 0])) (cs:=#[o,r,.slice none 0 0,.slice none 0 0]) (bp e::j) V V V ?_);intro c m8 k3 dG i0 mT;have eA:=zaa i0;have kR:Nq (bp e) (bp c):=J.nq dG;replace J:=J.ext eA;have jA:=Nw.ext cY dG;have cZ:=cY.trans eA;have kS:Nq (bp c) (.tuple #[.slice none 0 0]):=nq_nilG _;have kT:Nq (bp e) (.tuple #[.slice none 0 0]):=nq_nilG _;replace c9:=(c9.lift (Lift.call _ eA dG)).lift (Lift.sub (L':=((.tuple #[.slice none 0 0])::bp c::bp e::j)) (fun _ h=>⟨nh_nilG,h⟩));have kI:OwD m8 22 5 (.tuple #[.slice none 0 0]) (.slice none 0 0) []:=OwD.nil _ _ _;have jV:Nw w0 (.tuple #[.slice none 0 0]):=nw_nilG _;refine av (bp c) V V<|wnt<|W_seq<|W_sr<|wq V (zan (u:=s) V Tryz.isAgg29 V J V)<|mv (i64 y) V V<|bse k fun hP c4 k=>wa V (zdv (a:=0) (b:=y) V T29 V (N.lift (le_ cZ)) V V c4)<|wa V (q_len V T29.sl V (SlK.cut (N.lift (le_ cZ)) c4))<|mv (i64 0) V V<|wnt<|?_;obtain ⟨hC,hH,k⟩:=bsi k;refine W_mid (fun f i=>∃ h9:Value,∃ bB:Value,f 0=o/\f 1=i64 y/\f 2=t/\f 4=i64 I/\f 8=bp e/\f 13=bp c/\f 155=undef/\Ext w0 i/\OwD i 22 5 bB h9 hC/\Nw w0 bB/\Blk i e 29 #[s]/\Nw w0 (bp e)/\Blk i c 96 #[o,r,h9,.slice none 0 0]/\Nw w0 (bp c)/\Nq bB (bp e)/\Nq bB (bp c)/\Nq (bp e) (bp c)/\By i (bB::bp e::bp c::j) r M) ?_ ?_
 ·refine zac<|zau (fun cO f i=>∃ hA:Value,∃ bD:Value,f 0=o/\f 1=i64 y/\f 2=t/\f 4=i64 I/\f 8=bp e/\f 13=bp c/\f 49=subV s (0:Int).toNat (y:Int).toNat/\f 50=i64 (hP.length:Int)/\f 51=i64 cO.2/\f 155=undef/\Ext w0 i/\OwD i 22 5 bD hA cO.1/\Nw w0 bD/\Blk i e 29 #[s]/\Nw w0 (bp e)/\Blk i c 96 #[o,r,hA,.slice none 0 0]/\Nw w0 (bp c)/\Nq bD (bp e)/\Nq bD (bp c)/\Nq (bp e) (bp c)/\By i (bD::bp e::bp c::j) r M) hH ?_ ?_
  ·exact ⟨.slice none 0 0,(.tuple #[.slice none 0 0]),rfl,rfl,rfl,rfl,rfl,rfl,rfl,rfl,rfl,rfl,cZ,kI,jV,J,jL,k3,jA,kT.symm,kS.symm,kR,c9.lift (Lift.sub (fun _ h=>⟨h.1,h.2.2.1,h.2.1,h.2.2.2⟩))⟩
  rintro cO _ _ m9 ⟨e9,bC,fS,g8,gD,gK,gZ,cN,gJ,gO,e3,g1,c0,a1,dD,K,f5,Q,dI,dL,dO,dT,a0⟩ X iE;refine W_sr<|wa V (q_ltI V e3 gO)<|wnt<|W_seq<|wci X V V (fun X=>?_) (fun X=>?_)
  ·refine zae<|W_th<|W_seq<|zac<|W_sr<|bse X fun hQ eS X=>wa V (q_adr V T29 gJ e3 (SlK.cut (N.lift (le_ c0)) c4) eS)<|zdr V V V T29 V (SlK.cut N c4) eS c0 (fun cS i5=>?_);refine av cS V V<|wnt<|zba [4] [(0,0),(1,0),(2,0),(3,0),(4,1),(5,0),(6,2),(7,2),(8,2),(9,0),(10,0),(11,2)] mixed (by kernel_rfl) (by kernel_rfl) (by kernel_rfl) (by kernel_rfl) ?_;have bR:=Ext.drew m9;replace a0:=a0.lift (le_ bR);replace a1:=a1.ext bR;replace K:=K.ext bR;replace Q:=Q.ext bR;have d0:=c0.trans bR;refine sv (bp c) V V cN<|sv (bp c) V V cN<|sa V V (zbl V V)<|sa V V (zek (g:=c) (m:=0) (d:=2) V zjr V)<|sq V V (zan (u:=e9) V Tryz.isAgg29 V Q V)<|sv cS V V V<|?_;obtain ⟨fR,iF,X⟩:=bsi X;refine wss V V V (zab (vs:=[cS]) Tryz.func59 V V V (ar1 V) (zap hQ cS fR _ (i5.lift (le_ d0)) iF) ?_);rintro _ mA ⟨T,rfl,b7,bH,k7⟩;refine ⟨_,rfl,b7,?_⟩;have bL:OwK (Sc u8) mA (T::(bC::bp e::bp c::j)) 5 T fR:=OwK.scal k7 _;have kZ:Nq bC T:=a1.nq bH;have l1:Nq (bp e) T:=K.nq bH;have l2:Nq (bp c) T:=Q.nq bH;replace a1:=a1.ext b7;replace K:=K.ext b7;replace Q:=Q.ext b7;have jM:=Nw.ext d0 bH;have eF:=d0.trans b7;refine wss V V V (zaz (L:=(T::bC::bp e::bp c::j)) (R:=Sc (fun x:Value=>x)) [T] [T] V T29 V (by exact ⟨rfl,rfl,trivial⟩) V (litV bL) V (fun _ _ _ _ _ _=>rfl) ?_);intro h6 mB kB jN eK mU;refine ⟨zaa eK,?_⟩;have aU:=zaa eK;have iV:SlK (Sc (fun x:Value=>x)) mB (T::bC::bp e::bp c::j) h6 [T]:=OwK.slk (Sc.stab _) _ kB (fun p B=>(Old.cons (Old.cons (Old.cons (Old.cons (Z.ext eF) Q.ltB) K.ltB) a1.ltB) bL.lt) p (jN p B)) (fun _ h=>h.2);replace a0:=(a0.lift (Lift.call _ b7 bH)).lift (le_ aU);replace bL:=bL.extL (Sc.stab _) aU (le_ aU);replace a1:=a1.ext aU;replace K:=K.ext aU;replace Q:=Q.ext aU;have eG:=eF.trans aU;obtain ⟨mM,i8,X⟩:=bsi X;refine wsc V (by kernel_rfl) V V (stp_appendD (x:=T) (u:=e9) (q:=h6) [T] (bp e::bp c::j) V T29 V V a1 iV bL kZ.symm i8 ?_)
   intro cV aX e8 nB cI d1 dJ c3 iZ;replace a0:=a0.lift iZ;have l3:Nq (bp e) cV:=K.nxt dL.symm dJ;have l4:Nq (bp c) cV:=Q.nxt dO.symm dJ;replace K:=K.other d1 dL.symm;replace Q:=Q.other d1 dO.symm;have hT:=eG.grown d1 dD;have jP:=Nw.nxt eG dD dJ;have l5:Nq (bp e) aX:=OwD.relist c3 l3 l1;have fQ:Nq (bp c) aX:=OwD.relist c3 l4 l2
   have jQ:Nw w0 aX:=fun p B=>(c3 p B).elim (jP p) (jM p)
   refine sa V V (zbl V V)<|sa V V (zek (g:=c) (m:=0) (d:=2) V zjr V)<|wsn V (by kernel_rfl) V V (stp_storeR (u:=e8) (cs':=#[o,r,e8,.slice none 0 0]) [aX,bp e] j V Tryz.sizeOf29 V V Q (Nat.le_of_ble_eq_true V) (oc_sl _ _ _ _ cI.rd) V ?_);intro nD kC d2 j0;replace a0:=(a0.lift (Lift.sub (show ∀ p,Av (T::cV::bp e::bp c::j) p->Av (aX::bp e::bp c::j) p from fun _ h=>⟨(fun cW=>(c3 _ cW).elim h.2.1 h.1),h.2.2.1,h.2.2.2.1,h.2.2.2.2⟩))).lift j0;replace cI:=cI.other d2 fQ.symm;replace K:=K.other d2 dT;have hU:=hT.grown d2 dI;refine za1<|bk_n<|W_th<|W_rg<|wa V (zak V e3 V)<|mv (i64 (wI (cO.2+1))) V V<|zag<|?_;obtain rfl:=osi X;exact ⟨_,rfl,e8,aX,fS,g8,gD,gK,gZ,cN,gJ,gO,rfl,g1,hU,cI,jQ,K,f5,kC,dI,l5.symm,fQ.symm,dT,a0⟩
  refine zar<|th_x<|?_;obtain rfl:=osi X;obtain rfl:=iE _ rfl;refine th_x<|bk_x<|?_;exact ⟨e9,bC,fS,g8,gD,gK,gZ,cN,g1,c0,a1,dD,K,f5,Q,dI,dL,dO,dT,a0⟩
 rintro _ nE ⟨E,cU,lC,lO,gE,lT,h0,fX,lJ,bG,bI,j2,bK,jC,bM,jH,kJ,kM,kU,c6⟩;refine W_th<|W_seq<|W_sr<|mv (bp c) V fX<|mv t V gE<|wq V (zan (u:=s) V Tryz.isAgg29 (by exact h0) bK V)<|?_;obtain ⟨U,iH,k⟩:=bsi k;refine wls V V (zab (vs:=[bp c,t,s]) Tryz.func67 V V V (ar3 V V V) (mend_odd_calls (some (aK,M,hC,([]:List Int))) b0 a4 (bp c) t s U _ (RcMd.mk bM trivial ((aN.lift (Lift.sub (L':=[]) (fun _ _=>trivial))).lift (le_ bG)) (c6.lift (Lift.sub (L':=[]) (fun _ _=>trivial))) bI.rd (SlK.nil _ _ _)) (a8.lift (le_ bG)) (N.lift (le_ bG)) iH) ?_);rintro _ mC ⟨W,rfl,bS,jR,kD⟩;refine ⟨_,rfl,?_⟩;have f1:In mC (cU::bp e::bp c::j) W U:=OwK.slk (Sc.stab _) _ (OwK.scal kD (W::(cU::bp e::bp c::j))) (fun p B=>(Old.cons (Old.cons (Old.cons (Z.ext bG) bM.ltB) bK.ltB) bI.ltB) p (jR p B)) (fun _ h=>h.2);replace c6:=c6.lift (le_ bS);replace bI:=bI.ext bS;replace bK:=bK.ext bS;replace bM:=bM.ext bS;have hV:=bG.trans bS;refine wa V (q_len V T35.sl V f1)<|mv (i64 0) V V<|wnt<|?_;obtain ⟨mI,hI,k⟩:=bsi k;refine W_mid (fun f i=>∃ b9,mI=.inl b9/\∃ bA:Value,f 2=t/\f 8=bp e/\f 13=bp c/\f 155=undef/\Ext w0 i/\OwD i 22 5 bA E b9/\Nw w0 bA/\Blk i e 29 #[s]/\Nw w0 (bp e)/\Blk i c 96 #[o,r,E,.slice none 0 0]/\Nw w0 (bp c)/\Nq bA (bp e)/\Nq bA (bp c)/\Nq (bp e) (bp c)/\By i (bA::bp e::bp c::j) r M) ?_ ?_
 ·refine zac<|zau (fun a3 f i=>∃ aZ:Value,f 0=o/\f 1=i64 y/\f 2=t/\f 4=i64 I/\f 8=bp e/\f 13=bp c/\f 70=W/\f 71=i64 (U.length:Int)/\f 72=i64 a3.2/\f 155=undef/\Ext w0 i/\OwD i 22 5 aZ E a3.1/\Nw w0 aZ/\Blk i e 29 #[s]/\Nw w0 (bp e)/\Blk i c 96 #[o,r,E,.slice none 0 0]/\Nw w0 (bp c)/\Nq aZ (bp e)/\Nq aZ (bp c)/\Nq (bp e) (bp c)/\By i (aZ::bp e::bp c::j) r M/\In i (aZ::bp e::bp c::j) W U) hI ?_ ?_
  ·exact ⟨cU,lC,lO,gE,lT,h0,fX,rfl,rfl,rfl,lJ,hV,bI,j2,bK,jC,bM,jH,kJ,kM,kU,c6,f1⟩
  rintro a3 _ _ nF ⟨w,lD,lP,gF,lU,e6,fY,gP,gS,e4,g2,d5,fE,f4,dK,f6,fG,f9,fH,fI,fK,f0,dA⟩ C eZ;refine W_sr<|wa V (q_ltI V e4 gS)<|wnt<|W_seq<|wci C V V (fun C=>?_) (fun C=>?_)
  ·refine zae<|W_th<|W_seq<|zac<|W_sr<|bse C fun b1 eT C=>wa V (q_adr V T35 gP e4 dA eT)<|wq V (zao V T35 V dA eT)<|av (i64 b1) V V<|wnt<|W_sr<|av (.slice none 0 0) V V<|wnt<|?_;refine W_seq<|W_sr<|wq V (zan (u:=s) V Tryz.isAgg29 (by exact e6) dK V)<|wa V (q_len V T29.sl V (N.lift (le_ d5)))<|mv (i64 0) V V<|wnt<|?_;obtain ⟨hE,hJ,C⟩:=bsi C;refine W_mid (fun f i=>∃ a7:Value,f 0=o/\f 1=i64 y/\f 2=t/\f 4=i64 I/\f 8=bp e/\f 13=bp c/\f 17=i64 b1/\f 18=a7/\f 70=W/\f 71=i64 (U.length:Int)/\f 72=i64 a3.2/\f 155=undef/\Ext w0 i/\OwK (Sc u8) i (a7::w::bp e::bp c::j) 5 a7 hE/\Nw w0 a7/\OwD i 22 5 w E a3.1/\Nw w0 w/\Blk i e 29 #[s]/\Nw w0 (bp e)/\Blk i c 96 #[o,r,E,.slice none 0 0]/\Nw w0 (bp c)/\Nq a7 w/\Nq a7 (bp e)/\Nq a7 (bp c)/\Nq w (bp e)/\Nq w (bp c)/\Nq (bp e) (bp c)/\By i (a7::w::bp e::bp c::j) r M/\In i (a7::w::bp e::bp c::j) W U) ?_ ?_
   ·refine zac<|zau (fun cP f i=>∃ a6:Value,f 0=o/\f 1=i64 y/\f 2=t/\f 4=i64 I/\f 8=bp e/\f 13=bp c/\f 17=i64 b1/\f 18=a6/\f 70=W/\f 71=i64 (U.length:Int)/\f 72=i64 a3.2/\f 76=s/\f 77=i64 (a4.length:Int)/\f 78=i64 cP.2/\f 155=undef/\Ext w0 i/\OwK (Sc u8) i (a6::w::bp e::bp c::j) 5 a6 cP.1/\Nw w0 a6/\OwD i 22 5 w E a3.1/\Nw w0 w/\Blk i e 29 #[s]/\Nw w0 (bp e)/\Blk i c 96 #[o,r,E,.slice none 0 0]/\Nw w0 (bp c)/\Nq a6 w/\Nq a6 (bp e)/\Nq a6 (bp c)/\Nq w (bp e)/\Nq w (bp c)/\Nq (bp e) (bp c)/\By i (a6::w::bp e::bp c::j) r M/\In i (a6::w::bp e::bp c::j) W U) hJ ?_ ?_
    ·exact ⟨.slice none 0 0,lD,lP,gF,lU,e6,fY,rfl,rfl,gP,gS,e4,rfl,rfl,rfl,g2,d5,OwK.nil _ _ _ _,Nw.nil _,fE,f4,dK,f6,fG,f9,Nq.nil _,Nq.nil _,Nq.nil _,fH,fI,fK,f0.lift (Lift.sub (fun _ h=>⟨zfw,h.1,h.2.1,h.2.2.1,h.2.2.2⟩)),dA.lift (Lift.sub (fun _ h=>⟨zfw,h.1,h.2.1,h.2.2.1,h.2.2.2⟩))⟩
    rintro cP _ _ nG ⟨bP,fT,g9,gG,gL,h1,fZ,e2,g7,gQ,gT,gV,gX,gY,e5,g3,aM,bJ,dE,aA,f7,aB,fA,aC,fD,dM,dP,dS,fL,fO,fP,c7,cA⟩ Y iI;refine W_sr<|wa V (q_ltI V e5 gY)<|wnt<|W_seq<|wci Y V V (fun Y=>?_) (fun Y=>?_)
    ·refine zae<|W_th<|W_seq<|zac<|W_sr<|bse Y fun mN eU Y=>wa V (q_adr V T29 gX e5 (N.lift (le_ aM)) eU)<|zdr V V V T29 V N eU aM (fun h7 eP=>?_);refine av h7 V V<|wnt<|W_rg<|mv bP V g7<|mv h7 V V<|mv (i64 b1) V e2<|bse Y fun aL eV Y=>wa V (q_adr V T22 V V (eP.lift (le_ aM)) eV)<|wq V (zao V T22 V (eP.lift (le_ aM)) eV)<|wls V V (zaz (L:=(bP::w::bp e::bp c::j)) (R:=Sc u8) [u8 aL] ([aL]:List UInt8) V T22 V (by exact ⟨rfl,rfl,trivial⟩) V (litC u8 zbi (us:=[u8 aL]) (l:=([aL]:List UInt8)) V) V (litS u8 (us:=[u8 aL]) (l:=([aL]:List UInt8)) V) ?_);intro h8 mD kE jS i2 mV;have aH:=zaa i2;have iW:By mD (bP::w::bp e::bp c::j) h8 ([aL]:List UInt8):=OwK.slk (Sc.stab _) _ kE (fun p B=>(Old.cons (Old.cons (Old.cons (Old.cons (Z.ext aM) aC.ltB) aB.ltB) aA.ltB) bJ.lt) p (jS p B)) (fun _ h=>h.2);replace bJ:=bJ.extL (Sc.stab _) aH (le_ aH);replace aA:=aA.ext aH;replace aB:=aB.ext aH;replace aC:=aC.ext aH;have eH:=aM.trans aH;obtain ⟨mO,i9,Y⟩:=bsi Y;refine wls V V (zav (R:=Sc u8) (v:=bP) (u:=h8) (Sc.stab _) [] (w::bp e::bp c::j) V T22 V V bJ iW (fun _ _ h=>h) i9 oc_u8 ?_);intro bQ nH kF bZ cE f3;replace c7:=(c7.lift (le_ aH)).lift f3;replace cA:=(cA.lift (le_ aH)).lift f3;have l6:Nq w bQ:=aA.nxt dM.symm cE;have l7:Nq (bp e) bQ:=aB.nxt dP.symm cE;have l8:Nq (bp c) bQ:=aC.nxt dS.symm cE;replace aA:=aA.other bZ dM.symm;replace aB:=aB.other bZ dP.symm;replace aC:=aC.other bZ dS.symm;have hW:=eH.grown bZ dE;have jT:=Nw.nxt eH dE cE;refine av bQ V V<|zag<|bk_n<|W_th<|W_rg<|wa V (zak V e5 V)<|mv (i64 (wI (cP.2+1))) V V<|zag<|?_;obtain rfl:=osi Y;exact ⟨_,rfl,bQ,fT,g9,gG,gL,h1,fZ,e2,rfl,gQ,gT,gV,gX,gY,rfl,g3,hW,kF,jT,aA,f7,aB,fA,aC,fD,l6.symm,l7.symm,l8.symm,fL,fO,fP,c7,cA⟩
    refine zar<|th_x<|?_;obtain rfl:=osi Y;obtain rfl:=iI _ rfl;refine th_x<|bk_x<|?_;exact ⟨bP,fT,g9,gG,gL,h1,fZ,e2,g7,gQ,gT,gV,g3,aM,bJ,dE,aA,f7,aB,fA,aC,fD,dM,dP,dS,fL,fO,fP,c7,cA⟩
   rintro _ nJ ⟨cR,fU,gA,gH,gM,m2,g0,lM,lN,lW,lY,m0,g4,c1,fF,mX,cG,jD,cH,jI,bN,jO,mZ,n1,n2,kV,kY,l0,c8,dB⟩;refine W_th<|W_sr<|mv o V fU<|mv (i64 y) V gA<|mv t V gH<|mv cR V lN<|mv (i64 I) V gM<|?_;obtain ⟨a2,iK,C⟩:=bsi C;refine wls V V (zab (vs:=[o,i64 y,t,cR,i64 I]) Tryz.func68 V V V (ar5 V V V V V) (mend_column_calls aK y b0 hE I o t cR a2 _ ((aN.lift (Lift.sub (L':=[]) (fun _ _=>trivial))).lift (le_ c1)) (a8.lift (le_ c1)) (fF.rd (Sc.stab _)) iK) ?_);rintro _ mE ⟨aD,rfl,b8,jU,kG⟩;refine ⟨_,rfl,?_⟩;have iX:By mE (cR::w::bp e::bp c::j) aD a2.1:=SlK.avail kG _ (fun p B=>(Old.cons (Old.cons (Old.cons (Old.cons (Z.ext c1) bN.ltB) cH.ltB) cG.ltB) fF.lt) p (jU p B));replace c8:=c8.lift (le_ b8);replace dB:=dB.lift (le_ b8);replace cG:=cG.ext b8;replace cH:=cH.ext b8;replace bN:=bN.ext b8;have eI:=c1.trans b8;refine mv (.tuple #[aD,i64 a2.2]) V V<|wa V (zah V V V)<|wa V (zah V V V)<|av aD V V<|av (i64 a2.2) V V<|wnt<|W_seq<|W_seq<|W_rg<|mv (i64 a2.2) V V<|wa V (q_neI V V V)<|wnt<|zam _ V V (fun d8=>?_) (fun d8=>?_)
   ·replace C:=(if_neg (zbf d8)).symm.trans C;refine W_sr<|mv (i64 a2.2) V V<|av (.pointer none) V V<|av (i64 a2.2) V V<|wnt<|W_ret<|th_r<|bk_r<|th_r<|?_;obtain rfl:=osi C;obtain rfl:=eZ _ rfl;simp only [Sum.elim_inr] at k;refine th_r<|bk_r<|th_r<|th_r<|?_;obtain rfl:=osi k;refine rt2 (.pointer none) (i64 a2.2) V V V V V g4 ?_;exact ⟨.pointer none,rfl,eI,RcMd.nil _ _⟩
   replace C:=(if_pos (zbg d8)).symm.trans C;refine zae<|W_th<|W_sr<|mv (bp c) V g0<|wa V (zbl V V)<|wa V (zek (g:=c) (m:=0) (d:=1) V fieldAtMd1 V)<|wq V (zan (u:=r) V Tryz.isAgg22 V bN V)<|wa V (q_len V T22.sl V c8)<|mv (i64 0) V V<|wnt<|?_;obtain ⟨mJ,hK,C⟩:=bsi C;refine W_mid (fun f i=>∃ aY:Value,f 0=o/\f 1=i64 y/\f 2=t/\f 4=i64 I/\f 8=bp e/\f 13=bp c/\f 70=W/\f 71=i64 (U.length:Int)/\f 72=i64 a3.2/\f 155=undef/\Ext w0 i/\OwD i 22 5 aY E mJ/\Nw w0 aY/\Blk i e 29 #[s]/\Nw w0 (bp e)/\Blk i c 96 #[o,r,E,.slice none 0 0]/\Nw w0 (bp c)/\Nq aY (bp e)/\Nq aY (bp c)/\Nq (bp e) (bp c)/\By i (aY::bp e::bp c::j) r M/\In i (aY::bp e::bp c::j) W U) ?_ ?_
   ·refine zac<|zau (fun aP f i=>∃ aJ:Value,f 0=o/\f 1=i64 y/\f 2=t/\f 4=i64 I/\f 8=bp e/\f 13=bp c/\f 17=i64 b1/\f 21=aD/\f 70=W/\f 71=i64 (U.length:Int)/\f 72=i64 a3.2/\f 105=r/\f 106=i64 (M.length:Int)/\f 107=i64 aP.2/\f 155=undef/\Ext w0 i/\OwD i 22 5 aJ E aP.1/\Nw w0 aJ/\Blk i e 29 #[s]/\Nw w0 (bp e)/\Blk i c 96 #[o,r,E,.slice none 0 0]/\Nw w0 (bp c)/\Nq aJ (bp e)/\Nq aJ (bp c)/\Nq (bp e) (bp c)/\By i (aJ::bp e::bp c::j) r M/\By i (aJ::bp e::bp c::j) aD a2.1/\In i (aJ::bp e::bp c::j) W U) hK ?_ ?_
    ·exact ⟨w,fU,gA,gH,gM,m2,g0,lM,rfl,lW,lY,m0,rfl,rfl,rfl,g4,eI,cG,jD,cH,jI,bN,jO,kV,kY,l0,c8.lift (Lift.sub (fun _ h=>⟨h.2.1,h.2.2.1,h.2.2.2.1,h.2.2.2.2⟩)),iX.lift (Lift.sub (fun _ h=>⟨h.2.1,h.2.2.1,h.2.2.2.1,h.2.2.2.2⟩)),dB.lift (Lift.sub (fun _ h=>⟨h.2.1,h.2.2.1,h.2.2.2.1,h.2.2.2.2⟩))⟩
    rintro aP _ _ mF ⟨eC,dX,gB,gI,gN,h2,e0,g6,gC,gR,gU,gW,fV,fW,cM,g5,eN,a5,dF,b4,f8,aO,fB,dN,dQ,fM,a9,b2,b3⟩ S iL;refine W_sr<|wa V (q_ltI V cM fW)<|wnt<|W_seq<|wci S V V (fun S=>?_) (fun S=>?_)
    ·refine zae<|W_th<|W_seq<|zac<|W_sr<|mv (i64 aP.2) V cM<|bse S fun bT eW S=>wa V (q_adr V T22 fV cM a9 eW)<|wq V (zao V T22 V a9 eW)<|av (i64 aP.2) V V<|av (u8 bT) V V<|wnt<|zba [3,6] [(0,0),(1,0),(2,0),(3,1),(4,0),(5,0),(6,1),(7,0),(8,0),(9,0),(10,0),(11,2),(12,0),(13,2)] mixed (by kernel_rfl) (by kernel_rfl) (by kernel_rfl) (by kernel_rfl) ?_;have aV:=Ext.drew mF;replace a9:=a9.lift (le_ aV);replace b2:=b2.lift (le_ aV);replace b3:=b3.lift (le_ aV);replace a5:=a5.ext aV;replace aO:=aO.ext aV;have eJ:=eN.trans aV;refine sv (bp c) V V e0<|sa V V (zbl V V)<|sa V V (zek (g:=c) (m:=0) (d:=2) V zjr V)<|sq V V (zan (u:=E) V Tryz.isAgg29 V aO V)<|sv (i64 aP.2) V V V<|bse S fun mP c5 S=>sa V V (q_adr V T29 V V a5.rd c5)<|wsq_loadD V V V V T29 V a5 c5 (fun n4 eL=>?_);refine sv (i64 b1) V V g6<|sv o V V dX<|sv aD V V gC<|sv (u8 bT) V V V<|?_;obtain ⟨lB,iM,S⟩:=bsi S;refine wss V V V (zab (vs:=[o,aD,u8 bT]) Tryz.func69 V V V (ar3 V V V) (poly_Eval_calls aK a2.1 bT o aD lB _ ((aN.lift (Lift.sub (L':=[]) (fun _ _=>trivial))).lift (le_ eJ)) (b2.lift (Lift.sub (L':=[]) (fun _ _=>trivial))) iM) ?_);rintro _ nK ⟨rfl,aI⟩;refine ⟨_,rfl,aI,?_⟩;replace a5:=a5.ext aI;replace b4:=(b4.ext aV).ext aI;have hX:=eJ.trans aI;obtain ⟨mQ,eX,S⟩:=bsi S;refine sa V V (q_adr V T22 V V (OwD.rowrd a5 eL c5) eX)<|wsn V (by kernel_rfl) V V (stp_storeD [] (bp e::bp c::j) V T22 V V a5 eL c5 eX ?_);intro nL kH d3 dC;replace a9:=(a9.lift (le_ aI)).lift dC;replace b2:=(b2.lift (le_ aI)).lift dC;replace b3:=(b3.lift (le_ aI)).lift dC;replace b4:=b4.other d3 dN.symm;replace aO:=(aO.ext aI).other d3 dQ.symm
     have hY:=hX.grown d3 dF;refine za1<|bk_n<|W_th<|W_rg<|wa V (zak V cM V)<|mv (i64 (wI (aP.2+1))) V V<|zag<|?_;obtain rfl:=osi S;exact ⟨_,rfl,eC,dX,gB,gI,gN,h2,e0,g6,gC,gR,gU,gW,fV,fW,rfl,g5,hY,kH,dF,b4,f8,aO,fB,dN,dQ,fM,a9,b2,b3⟩
    refine zar<|th_x<|?_;obtain rfl:=osi S;obtain rfl:=iL _ rfl;refine th_x<|bk_x<|?_;exact ⟨eC,dX,gB,gI,gN,h2,e0,gR,gU,gW,g5,eN,a5,dF,b4,f8,aO,fB,dN,dQ,fM,a9,b3⟩
   rintro _ nM ⟨hM,lE,lQ,lR,lV,m3,lG,lX,lZ,m1,lK,i3,jX,j3,k5,jE,k9,jJ,kK,kN,kW,iQ,iU⟩;refine bk_n<|W_th<|W_rg<|wa V (zak V m1 V)<|mv (i64 (wI (a3.2+1))) V V<|zag<|?_;obtain rfl:=osi C;exact ⟨_,rfl,hM,lE,lQ,lR,lV,m3,lG,lX,lZ,rfl,lK,i3,jX,j3,k5,jE,k9,jJ,kK,kN,kW,iQ,iU⟩
  refine zar<|th_x<|?_;obtain rfl:=osi C;obtain rfl:=eZ _ rfl;refine th_x<|bk_x<|?_;exact ⟨_,rfl,w,gF,e6,fY,g2,d5,fE,f4,dK,f6,fG,f9,fH,fI,fK,f0⟩
 rintro _ nN ⟨b9,rfl,z,lS,m4,lH,lL,eO,jY,j4,k6,jF,kA,jK,kL,kO,kX,iR⟩;simp only [Sum.elim_inl] at k;refine W_th<|W_seq<|W_sr<|mv t V lS<|wa V (q_len V T22.sl V (a8.lift (le_ eO)))<|mv (i64 0) V V<|wnt<|?_;obtain ⟨mK,hL,k⟩:=bsi k;refine W_mid (fun f i=>∃ aR:Value,f 13=bp c/\f 155=undef/\Ext w0 i/\OwK (Sc i64) i (aR::z::bp c::j) 3 aR mK/\Nw w0 aR/\OwD i 22 5 z E b9/\Nw w0 z/\Blk i c 96 #[o,r,E,aR]/\Nw w0 (bp c)/\Nq aR z/\Nq aR (bp c)/\Nq z (bp c)/\By i (aR::z::bp c::j) r M) ?_ ?_
 ·refine zac<|zau (fun G f i=>∃ aE:Value,f 8=bp e/\f 13=bp c/\f 127=t/\f 128=i64 (b0.length:Int)/\f 129=i64 G.2/\f 155=undef/\Ext w0 i/\OwK (Sc i64) i (aE::z::bp e::bp c::j) 3 aE G.1/\Nw w0 aE/\OwD i 22 5 z E b9/\Nw w0 z/\Blk i e 29 #[s]/\Nw w0 (bp e)/\Blk i c 96 #[o,r,E,aE]/\Nw w0 (bp c)/\Nq aE z/\Nq aE (bp e)/\Nq aE (bp c)/\Nq z (bp e)/\Nq z (bp c)/\Nq (bp e) (bp c)/\By i (aE::z::bp e::bp c::j) r M) hL ?_ ?_
  ·exact ⟨.slice none 0 0,m4,lH,rfl,rfl,rfl,lL,eO,OwK.nil _ _ _ _,Nw.nil _,jY,j4,k6,jF,kA,jK,Nq.nil _,Nq.nil _,Nq.nil _,kL,kO,kX,iR.lift (Lift.sub (fun _ h=>⟨zfw,h.1,h.2.1,h.2.2.1,h.2.2.2⟩))⟩
  rintro G _ _ mG ⟨aF,e7,b6,dY,dZ,bO,e1,c2,P,cB,F,dH,H,fC,D,cC,cJ,dR,cK,fN,cL,dU,O⟩ A iN;refine W_sr<|wa V (q_ltI V bO dZ)<|wnt<|W_seq<|wci A V V (fun A=>?_) (fun A=>?_)
  ·refine zae<|W_th<|W_seq<|zac<|W_sr<|mv (i64 G.2) V bO<|bse A fun bU eY A=>wa V (q_adr V T22 dY bO (a8.lift (le_ c2)) eY)<|wq V (zao V T22 V (a8.lift (le_ c2)) eY)<|av (i64 G.2) V V<|av (u8 bU) V V<|wnt<|W_seq<|zba [3,6] [(0,0),(1,0),(3,1),(4,0),(5,0),(6,1),(2,2),(7,2),(8,0)] mixed (by kernel_rfl) (by kernel_rfl) (by kernel_rfl) (by kernel_rfl) ?_;have aW:=Ext.drew mG;replace O:=O.lift (le_ aW);replace P:=P.extL (Sc.stab _) aW (le_ aW);replace F:=F.ext aW;replace H:=H.ext aW;replace D:=D.ext aW;have bE:=c2.trans aW;refine sv (bp c) V V b6<|sv (u8 bU) V V V<|sq V V (zan (u:=s) V Tryz.isAgg29 (by exact e7) H V)<|sv (i64 G.2) V V V<|bse A fun hO eR A=>sa V V (q_adr V T29 V V (N.lift (le_ bE)) eR)<|zhf V V V V T29 V N eR bE (fun h4 i4=>?_);obtain ⟨dW,iB,A⟩:=bsi A;refine wss V V V (zab (vs:=[bp c,u8 bU]) Tryz.func38 V V V (ar2 V V) (zhb (some (aK,M,b9,G.1)) bU (bp c) dW _ (RcMd.mk D trivial ((aN.lift (Lift.sub (L':=[]) (fun _ _=>trivial))).lift (le_ bE)) (O.lift (Lift.sub (L':=[]) (fun _ _=>trivial))) F.rd (P.rd (Sc.stab _))) iB) ?_);rintro _ m5 ⟨cQ,rfl,aG,j6,jZ⟩;refine ⟨_,rfl,aG,?_⟩;have iS:By m5 (aF::z::bp e::bp c::j) cQ dW:=OwK.slk (Sc.stab _) _ (OwK.scal jZ (cQ::(aF::z::bp e::bp c::j))) (fun p B=>(Old.cons (Old.cons (Old.cons (Old.cons (Z.ext bE) D.ltB) H.ltB) F.ltB) P.lt) p (j6 p B)) (fun _ h=>h.2);replace O:=O.lift (le_ aG);replace P:=P.extL (Sc.stab _) aG (le_ aG);replace F:=F.ext aG;replace H:=H.ext aG;replace D:=D.ext aG;have eD:=bE.trans aG;obtain ⟨l9,iC,A⟩:=bsi A;refine wsc V (by kernel_rfl) V V (zab (vs:=[cQ,h4]) Tryz.func70 V V V (ar2 V V) (zhi dW hO cQ h4 l9 _ (iS.lift (Lift.sub (L':=[]) (fun _ _=>trivial))) (i4.lift (le_ eD)) iC) ?_);rintro _ n7 ⟨rfl,aS⟩
   refine ⟨_,rfl,?_⟩;replace O:=O.lift (le_ aS);replace P:=P.extL (Sc.stab _) aS (le_ aS);replace F:=F.ext aS;replace H:=H.ext aS;replace D:=D.ext aS;have cX:=eD.trans aS;refine sa V V (q_not V V)<|za1<|W_th<|zam _ V V (fun d6=>?_) (fun d6=>?_)
   ·replace A:=(if_pos d6).symm.trans A;refine W_rg<|mv (bp c) V b6<|mv (bp c) V b6<|wa V (zbl V V)<|wa V (zek (g:=c) (m:=0) (d:=3) V fieldAtMd3 V)<|wq V (zan (u:=aF) V Tryz.isAgg35 V D V)<|mv (i64 G.2) V V<|wls V V (zaz (L:=(aF::z::bp e::bp c::j)) (R:=Sc i64) [i64 G.2] ([G.2]:List Int) V T35 V (by exact ⟨rfl,rfl,trivial⟩) V (litC i64 oneC_i64 (us:=[i64 G.2]) (l:=([G.2]:List Int)) V) V (litS i64 (us:=[i64 G.2]) (l:=([G.2]:List Int)) V) ?_);intro h5 m6 k0 j7 hZ mS;have aT:=zaa hZ;have iT:In m6 (aF::z::bp e::bp c::j) h5 ([G.2]:List Int):=OwK.slk (Sc.stab _) _ k0 (fun p B=>(Old.cons (Old.cons (Old.cons (Old.cons (Z.ext cX) D.ltB) H.ltB) F.ltB) P.lt) p (j7 p B)) (fun _ h=>h.2);replace P:=P.extL (Sc.stab _) aT (le_ aT);replace F:=F.ext aT;replace H:=H.ext aT;replace D:=D.ext aT;have eE:=cX.trans aT;obtain ⟨mL,i7,A⟩:=bsi A;refine wls V V (zav (R:=Sc i64) (v:=aF) (u:=h5) (Sc.stab _) [] (z::bp e::bp c::j) V T35 V V P iT (fun _ _ h=>h) i7 oc_i64 ?_);intro aQ n8 cF bX cD iY;replace O:=(O.lift (le_ aT)).lift iY;have kP:Nq z aQ:=F.nxt cJ.symm cD;have kQ:Nq (bp e) aQ:=H.nxt dR.symm cD;have fJ:Nq (bp c) aQ:=D.nxt cK.symm cD;replace D:=D.other bX cK.symm;have hR:=eE.grown bX cB;have j8:=Nw.nxt eE cB cD;refine wa V (zbl V V)<|wa V (zek (g:=c) (m:=0) (d:=3) V fieldAtMd3 V)<|wln V V (stp_storeR (u:=aQ) (cs':=#[o,r,E,aQ]) [aQ,z,bp e] j V Tryz.sizeOf35 V V D (Nat.le_of_ble_eq_true V) (oc_own cF) V ?_);intro n9 k1 bY f2;replace O:=O.lift f2;replace cF:=cF.other (Sc.stab _) bY fJ.symm f2;replace F:=(F.other bX cJ.symm).other bY cL;replace H:=(H.other bX dR.symm).other bY dU;have hS:=hR.grown bY cC;refine zag<|bk_n<|W_th<|W_rg<|wa V (zak V bO V)<|?_
    refine mv (i64 (wI (G.2+1))) V V<|zag<|?_;obtain rfl:=osi A;exact ⟨_,rfl,aQ,e7,b6,dY,dZ,rfl,e1,hS,cF,j8,F,dH,H,fC,k1,cC,kP.symm,kQ.symm,fJ.symm,fN,cL,dU,O⟩
   replace A:=(if_neg (ne_true_of_eq_false d6)).symm.trans A;refine zae<|bk_n<|W_th<|W_rg<|wa V (zak V bO V)<|mv (i64 (wI (G.2+1))) V V<|zag<|?_;obtain rfl:=osi A;exact ⟨_,rfl,aF,e7,b6,dY,dZ,rfl,e1,cX,P,cB,F,dH,H,fC,D,cC,cJ,dR,cK,fN,cL,dU,O⟩
  refine zar<|th_x<|?_;obtain rfl:=osi A;obtain rfl:=iN _ rfl;refine th_x<|bk_x<|?_;exact ⟨aF,b6,e1,c2,P.weak (Sc.stab _) (fun _ h=>⟨h.1,h.2.1,h.2.2.2.1,h.2.2.2.2⟩),cB,F,dH,D,cC,cJ,cK,cL,O.lift (Lift.sub (fun _ h=>⟨h.1,h.2.1,h.2.2.2.1,h.2.2.2.2⟩))⟩
 rintro _ nA ⟨n5,lF,lI,eM,jW,j1,k4,jB,k8,jG,mY,n0,n3,iP⟩;refine W_th<|W_sr<|mv (bp c) V lF<|av (bp c) V V<|av (i64 0) V V<|wnt<|W_ret<|?_;obtain rfl:=osi k;refine rt2 (bp c) (i64 0) V V V V V lI ?_;exact ⟨bp c,rfl,eM,RcMd.mk k8 (Z _ (jG _ (hs_bp' _))) (aN.lift (le_ eM)) (iP.lift (Lift.sub (fun _ h=>h.2.2.2))) (k4.rw j (fun p B=>Z p (jB p B))) (OwK.slk (Sc.stab _) j jW (fun p B=>Z p (j1 p B)) (fun _ h=>h.2.2.2))⟩
end Gk

/- A fact of this seat's program: its type of rows of numbers (where S was built without it). No condition. -/
namespace Gk
open Go Go.Proofs
end Gk

/- Printed by gen.py: for each Go function a pure function, and that the Go code comes to it. No condition beside the equation that says what the pure function gives. -/
namespace Gk
open Go Go.Proofs
end Gk

/- Printed by gen.py: for each Go function a pure function, and that the Go code comes to it. No condition beside the equation that says what the pure function gives. -/
namespace Gk
open Go Go.Proofs
end Gk

/- Printed by gen.py: for each Go function a pure function, and that the Go code comes to it. No condition beside the equation that says what the pure function gives. -/
namespace Gk
open Go Go.Proofs
end Gk

/- Printed by gen.py: for each Go function a pure function, and that the Go code comes to it. No condition beside the equation that says what the pure function gives. -/
namespace Gk
open Go Go.Proofs
end Gk

/- Chapter 3: quotient and rest. No condition but lengths. -/
namespace Gk
open Gf
theorem revN_succ (n:Nat):revN (n+1)=(n:Int) :: revN n:=by
 simp [revN,List.range_succ]
theorem foldl_revN {σ:Type} (g:σ->Int->σ) (P:Nat->σ->Prop) (hs:∀ j s,P (j+1) s->P j (g s (j:Int))):∀ (n:Nat) (s:σ),P n s->P 0 ((revN n).foldl g s)
 | 0,s,h=>h
 | n+1,s,h=>by
  rw [revN_succ,List.foldl_cons]
  exact foldl_revN g P hs n _ (hs n s h)
def divStep (d:Nat) (top:UInt8) (Q:List UInt8) (s:List UInt8×List UInt8) (y:Int):List UInt8×List UInt8 :=
 let c:=mul (co s.1 (y.toNat+d - 1)) top
 (copyL s.1 y (sumL ((s.1.take (y.toNat+d)).drop y.toNat) c Q),s.2.set y.toNat c)
theorem poly_DivMod_eq (p q:List UInt8) (hp:p.length<=1000) (hq:q.length<=1000) (h0:trim q≠[]):∃ a b,zfe true p q=some (a,b,0)/\trim a=a/\trim b=b/\b.length<(trim q).length/\(∀ i,co p i=co b i^^^co (pmul a q) i)/\a.length<=p.length+1:=by
 have hm:=zbb
 have h1000:2000<=most:=by decide
 have ld:=List.length_pos_iff.2 h0
 have tq:=trim_le q
 have hlead:=zhz q h0
 unfold zfe
 rw [zfo q (by omega),obs,if_neg (by simp),if_neg (by omega),ziv _ (by omega) (by omega),za4 (by omega),zke]
 generalize hd:(trim q).length=d at *
 generalize hc:co q (d - 1)=lead at *
 simp only [Inv_eq,obs,if_neg hlead]
 unfold zaj
 rw [zfv p (by omega),obs]
 have en:(if 0<wI (wI ((p.length:Int) - (d:Int))+1) then wI (wI ((p.length:Int) - (d:Int))+1) else 0)=((p.length+1 - d:Nat):Int):=by
  have i1:wI ((p.length:Int) - (d:Int))=(p.length:Int) - (d:Int):=wI_of (by omega) (by omega)
  rw [i1,wI_of (by omega) (by omega)]
  split <;> omega
 rw [en,zbj _ _ (by omega),obs,List.length_replicate,zi4 (by omega),obs]
 generalize hn:p.length+1 - d=n at *
 have key:=zhn (f:=fun (s72:List UInt8×List UInt8) (y72:Int)=>((idx s72.1 ((wI ((wI (y72+(d:Int))) - 1)))).bind fun c78=>((zcj true c78 (inv lead)).bind fun r79=>((idx s72.2 y72).bind fun c82=>((subL s72.1 y72 ((s72.1.length:Int))).bind fun c89 =>
   ((subL s72.1 y72 ((wI (y72+(d:Int))))).bind fun c90=>((zdl true c90 r79 (trim q)).bind fun r91=>some ((copyL s72.1 y72 r91),(s72.2.set (y72:Int).toNat r79))))))))) (divStep d (inv lead) (trim q)) (xs:=revN n) (s0:=(p,List.replicate n 0))
  (fun _ s=>s.1.length=p.length/\s.2.length=n) ⟨rfl,by simp⟩ (by
   rintro k ⟨r,t⟩ x _ hx ⟨hr,ht⟩
   simp only at hr ht
   obtain ⟨i,hi,rfl⟩:=mem_revN.1 hx
   have e1:wI ((i:Int)+(d:Int))=((i+d:Nat):Int):=zg7 _ _ (by omega)
   simp only [e1]
   rw [ziv _ (by omega) (by omega),za4 (by omega),obs,Mul_eq,obs,za4 (by omega),obs,zd3 _ _ _ (by omega) (Nat.le_refl _),obs,zd3 _ _ _ (by omega) (by omega),obs,
    Sum_eq _ _ _ (by simp;omega),obs]
   refine ⟨by simp only [divStep,Int.toNat_natCast],?_,?_⟩
   ·simp only [divStep];rw [zh3 _ _ _ (by omega)];exact hr
   ·simp only [divStep,List.length_set];exact ht)
 rw [key.1,obs]
 have fin:=foldl_revN (divStep d (inv lead) (trim q)) (fun j s=>s.1.length=p.length/\s.2.length=n/\j<=n/\(∀ i,co p i=co s.1 i^^^co (pmul s.2 (trim q)) i)/\(∀ i,j+d<=i+1->co s.1 i=0)/\(∀ i,i<j->co s.2 i=0))
  (by
   rintro j ⟨r,t⟩ ⟨hr,ht,hj,hs,hz,hz2⟩
   simp only at hr ht hs hz hz2
   simp only [divStep,Int.toNat_natCast]
   generalize hc2:mul (co r (j+d - 1)) (inv lead)=c
   have hl2:((r.take (j+d)).drop j).length=d:=by simp;omega
   have hl3:(sumL ((r.take (j+d)).drop j) c (trim q)).length=d:=by rw [sumL_len,hl2]
   have hco:∀ i,co (copyL r (j:Int) (sumL ((r.take (j+d)).drop j) c (trim q))) i=co r i^^^(if i<j then 0 else mul c (co (trim q) (i - j))):=by
    intro i
    rw [co_copyL _ _ _ (by rw [hl3];omega),hl3,co_sumL,hl2]
    by_cases h1:j<=i/\i<j+d
    ·rw [if_pos h1,if_pos (show i - j<d by omega),if_neg (show ¬ i<j by omega),co_drop,zkc,show j+(i - j)=i by omega,if_pos (show i<j+d by omega)]
    ·rw [if_neg h1]
     by_cases h2:i<j
     ·rw [if_pos h2,xor_zero]
     ·rw [if_neg h2,co_ge (show (trim q).length<=i - j by omega),mul_zero,xor_zero]
   refine ⟨by rw [zh3 _ _ _ (by omega)];exact hr,by simpa using ht,by omega,fun i=>?_,fun i hi=>?_,fun i hi=>?_⟩
   ·rw [hco i,co_pmul_set t j c _ i (by omega) (hz2 j (by omega)),hs i,zii,xor_self,xor_zero]
   ·rw [hco i]
    by_cases h1:i=j+d - 1
    ·subst h1
     rw [if_neg (by omega),show j+d - 1 - j=d - 1 by omega,zke,hc,← hc2,mul_assoc,inv_mul hlead,mul_one,xor_self]
    ·rw [hz i (by omega),if_neg (by omega),co_ge (show (trim q).length<=i - j by omega),mul_zero,xor_zero]
   ·rw [co_set (by omega),if_neg (by omega)];exact hz2 i (by omega)) n (p,List.replicate n 0)
  ⟨rfl,by simp,Nat.le_refl _,fun i=>by
   have:co (pmul (List.replicate n 0) (trim q)) i=0:=by rw [zjf _ [] _ (fun i=>by rw [co_rep,zda]) i];rfl
   rw [this,xor_zero],fun i hi=>co_ge (by simp only;omega),fun i _=>co_rep _ _⟩
 generalize (revN n).foldl (divStep d (inv lead) (trim q)) (p,List.replicate n 0)=s at fin
 obtain ⟨r,t⟩:=s
 obtain ⟨hr,ht,_,hs,hz,_⟩:=fin
 simp only at hr ht hs hz
 simp only
 rw [zfo t (by omega),obs,zfo r (by omega),obs]
 refine ⟨trim t,trim r,rfl,ze3 t,ze3 r,?_,fun i=>?_,?_⟩
 ·have:=(zhj r (d - 1)).2 (fun i hi=>hz i (by omega))
  omega
 ·rw [hs i,zke]
  congr 1
  exact pmul_sim (zeg t).symm (zeg q) i
 ·have:=trim_le t;omega
end Gk

/- Wrong values among right ones: what is true of a remainder in Gao's way. Plain. No condition. -/
namespace Gf
theorem dg_zero {p:List UInt8} (h:dg p=0) (i:Nat):co p i=0:=dg_le.1 (Nat.le_of_eq h) i (Nat.zero_le i)
theorem dg_top {p:List UInt8} (h:dg p≠0):co p (dg p - 1)≠0:=zhz p (fun e=>h (by unfold dg;rw [e];rfl))
theorem dg_pmul_eq {p q:List UInt8} (hp:dg p≠0) (hq:dg q≠0):dg (pmul p q)=dg p+dg q - 1:=by
 rw [dg_sim (pmul_sim (zeg p).symm (zeg q).symm)]
 exact zg9 (ze3 p) (ze3 q) (fun e=>hp (by unfold dg;rw [e];rfl)) (fun e=>hq (by unfold dg;rw [e];rfl))
theorem pmul_cancel {p q:List UInt8} (hq:dg q≠0) (h:∀ i,co (pmul p q) i=0):∀ i,co p i=0:=by
 by_cases hp:dg p=0
 ·exact dg_zero hp
 ·have h1:=dg_pmul_eq hp hq
  have h2:dg (pmul p q)<=0:=dg_le.2 fun i _=>h i
  omega
theorem pmul_zeroL {p q:List UInt8} (h:∀ i,co p i=0) (i:Nat):co (pmul p q) i=0:=by
 rw [zjf p [] q (fun i=>by rw [h i,zda]) i];rfl
def wrg (xs ys p:List UInt8):Nat->Nat
 | 0=>0
 | n+1=>wrg xs ys p n+if evp p (co xs n)=co ys n then 0 else 1
theorem wr_le (xs ys p:List UInt8):∀ n,wrg xs ys p n<=n
 | 0=>Nat.le_refl _
 | n+1=>by have:=wr_le xs ys p n;unfold wrg;split <;> omega
theorem wr_sim {xs ys p q:List UInt8} (h:Sim p q):∀ n,wrg xs ys p n=wrg xs ys q n
 | 0=>rfl
 | n+1=>by unfold wrg;rw [wr_sim h n,ev_sim p q _ h]
def el (xs ys p:List UInt8):Nat->List UInt8
 | 0=>[1]
 | n+1=>if evp p (co xs n)=co ys n then el xs ys p n else pmul (el xs ys p n) [co xs n,1]
theorem dg_el (xs ys p:List UInt8):∀ n,dg (el xs ys p n)<=wrg xs ys p n+1
 | 0=>dg_len _
 | n+1=>by
  have h:=dg_el xs ys p n
  unfold el wrg
  split
  ·omega
  ·have:=ziu h (dg_lin (co xs n));omega
theorem el_top (xs ys p:List UInt8):∀ n,co (el xs ys p n) (wrg xs ys p n)=1
 | 0=>rfl
 | n+1=>by
  have h:=el_top xs ys p n
  unfold el wrg
  split
  ·exact h
  ·rw [zhx,h,dg_le.1 (dg_el xs ys p n) _ (Nat.le_refl _),zero_mul,zero_xor]
theorem el_ne (xs ys p:List UInt8) (n:Nat):dg (el xs ys p n)≠0:=fun h=>by
 have h1:=dg_zero h (wrg xs ys p n)
 rw [el_top] at h1
 exact absurd h1 (by decide)
theorem ev_el (xs ys p:List UInt8) (x:UInt8):∀ n,evp (el xs ys p n) x=0 ↔ ∃j,j<n/\evp p (co xs j)≠co ys j/\x=co xs j
 | 0=>⟨fun h=>by rw [show el xs ys p 0=[1] from rfl,ev_const] at h;exact absurd h (by decide),fun ⟨j,h,_⟩=>absurd h (Nat.not_lt_zero _)⟩
 | n+1=>by
  have ih:=ev_el xs ys p x n
  unfold el
  by_cases h:evp p (co xs n)=co ys n
  ·rw [if_pos h,ih]
   constructor
   ·rintro ⟨j,h1,h2,h3⟩;exact ⟨j,by omega,h2,h3⟩
   ·rintro ⟨j,h1,h2,h3⟩
    refine ⟨j,?_,h2,h3⟩
    by_cases hj:j=n
    ·exact absurd (hj ▸ h) h2
    ·omega
  ·rw [if_neg h,zga,ev_lin]
   constructor
   ·intro h1
    rcases zj4 h1 with h1 | h1
    ·obtain ⟨j,h2,h3,h4⟩:=ih.1 h1;exact ⟨j,by omega,h3,h4⟩
    ·exact ⟨n,by omega,h,zd7 h1⟩
   ·rintro ⟨j,h1,h2,h3⟩
    by_cases hj:j=n
    ·rw [h3,hj,xor_self,mul_zero]
    ·rw [ih.2 ⟨j,by omega,h2,h3⟩,zero_mul]
theorem gao_key {xs ys b v P:List UInt8} (hn:xs.Nodup) {t:Nat} (hb:∀ i,i<xs.length->evp b (co xs i)=mul (evp v (co xs i)) (co ys i)) (hP:dg P<=t)
  (h1:dg b+wrg xs ys P xs.length<=xs.length) (h2:dg v+t+wrg xs ys P xs.length<=xs.length+1):Sim b (pmul P v):=by
 have hE:=dg_el xs ys P xs.length
 have hs:Sim (pmul b (el xs ys P xs.length)) (pmul (pmul P v) (el xs ys P xs.length)):=by
  refine agree hn ?_ ?_ ?_
  ·have:=ziu (Nat.le_refl (dg b)) hE;omega
  ·have h3:=ziu hP (Nat.le_refl (dg v))
   have:=ziu h3 hE;omega
  ·intro a ha
   obtain ⟨j,hj,rfl⟩:=mem_co ha
   rw [zga,zga,zga]
   by_cases hw:evp P (co xs j)=co ys j
   ·rw [hb j hj,hw,mul_comm (co ys j)]
   ·rw [(ev_el xs ys P (co xs j) xs.length).2 ⟨j,hj,hw,rfl⟩,mul_zero,mul_zero]
 have h0:=pmul_cancel (p:=pplus b (pmul P v)) (el_ne xs ys P xs.length) (fun i=>by rw [pmul_addL _ _ _ i,zbo,hs i,xor_self])
 intro i
 have:=h0 i
 rw [zbo] at this
 exact zd7 this
theorem div_uniq {b v q r P:List UInt8} (h:∀ i,co b i=co r i^^^co (pmul q v) i) (hr:dg r<dg v) (hb:Sim b (pmul P v)):Sim q P/\∀ i,co r i=0:=by
 have hv:dg v≠0:=by omega
 have h1:Sim (pmul (pplus q P) v) r:=fun i=>by
  rw [pmul_addL _ _ _ i,zbo,← hb i,h i,xor_comm,xor_assoc,xor_self,xor_zero]
 by_cases hq:dg (pplus q P)=0
 ·have h2:Sim q P:=fun i=>by
   have:=dg_zero hq i
   rw [zbo] at this
   exact zd7 this
  refine ⟨h2,fun i=>?_⟩
  rw [← h1 i]
  exact pmul_zeroL (dg_zero hq) i
 ·have h2:=dg_pmul_eq hq hv
  rw [dg_sim h1] at h2
  omega
def gl (xs ys p q:List UInt8):Nat->List UInt8
 | 0=>[]
 | n+1=>if evp p (co xs n)=co ys n/\evp q (co xs n)=co ys n then gl xs ys p q n ++ [co xs n] else gl xs ys p q n
theorem take_co {xs:List UInt8} {n:Nat} (h:n<xs.length):xs.take (n+1)=xs.take n ++ [co xs n]:=by
 rw [List.take_succ_eq_append_getElem h,co_lt h]
theorem gl_sub (xs ys p q:List UInt8):∀ n,n<=xs.length->(gl xs ys p q n).Sublist (xs.take n)
 | 0,_=>List.nil_sublist _
 | n+1,h=>by
  have ih:=gl_sub xs ys p q n (by omega)
  rw [take_co (by omega)]
  unfold gl
  split
  ·exact ih.append (List.Sublist.refl _)
  ·exact ih.trans (List.sublist_append_left _ _)
theorem gl_len (xs ys p q:List UInt8):∀ n,n<=(gl xs ys p q n).length+wrg xs ys p n+wrg xs ys q n
 | 0=>Nat.zero_le _
 | n+1=>by
  have ih:=gl_len xs ys p q n
  unfold gl wrg
  by_cases h1:evp p (co xs n)=co ys n
  ·by_cases h2:evp q (co xs n)=co ys n
   ·rw [if_pos ⟨h1,h2⟩,if_pos h1,if_pos h2,List.length_append];simp only [List.length_cons,List.length_nil];omega
   ·rw [if_neg (fun h=>h2 h.2),if_pos h1,if_neg h2];omega
  ·rw [if_neg (fun h=>h1 h.1),if_neg h1]
   split <;> omega
theorem gl_mem (xs ys p q:List UInt8):∀ n,∀ a∈gl xs ys p q n,evp p a=evp q a
 | 0,a,h=>by simp [gl] at h
 | n+1,a,h=>by
  unfold gl at h
  split at h
  ·rename_i h1
   rcases List.mem_append.1 h with h | h
   ·exact gl_mem xs ys p q n a h
   ·rw [List.mem_singleton] at h;subst h;rw [h1.1,h1.2]
  ·exact gl_mem xs ys p q n a h
theorem two_one {xs ys p q:List UInt8} (hn:xs.Nodup) {t:Nat} (hp:dg p<=t) (hq:dg q<=t) (h:wrg xs ys p xs.length+wrg xs ys q xs.length+t<=xs.length):Sim p q:=by
 have hs:=gl_sub xs ys p q xs.length (Nat.le_refl _)
 rw [List.take_of_length_le (Nat.le_refl _)] at hs
 have hl:=gl_len xs ys p q xs.length
 exact agree (hs.nodup hn) (by omega) (by omega) (gl_mem xs ys p q xs.length)
end Gf

/- What chapter 10's functions come to, in plain Lean. No condition but lengths. -/
namespace Gk
open Gf
theorem dg_lt_plus {p r:List UInt8} (h:dg r<dg p):dg (pplus r p)=dg p:=by
 refine Nat.le_antisymm (dg_pplus (Nat.le_of_lt h) (Nat.le_refl _)) (Nat.le_of_not_lt fun h2=>?_)
 have h3:=dg_le.1 (Nat.le_refl (dg (pplus r p))) (dg p - 1) (by omega)
 rw [zbo,dg_le.1 (Nat.le_refl (dg r)) _ (by omega),zero_xor] at h3
 exact dg_top (by omega) h3
theorem tlen {p:List UInt8} (h:trim p=p):dg p=p.length:=by unfold dg;rw [h]
structure Ga (xs ys:List UInt8) (t:Nat) (a b u v:List UInt8):Prop where
 ta:trim a=a
 tb:trim b=b
 tu:trim u=u
 tv:trim v=v
 sum:a.length+v.length=xs.length+2
 ba:b.length<a.length
 uv:u.length<v.length
 big:xs.length+t+2<=2 * a.length
 ha:∀ i,i<xs.length->evp a (co xs i)=mul (evp u (co xs i)) (co ys i)
 hb:∀ i,i<xs.length->evp b (co xs i)=mul (evp v (co xs i)) (co ys i)
theorem Ga.next {xs ys a b u v q r:List UInt8} {t:Nat} (h:Ga xs ys t a b u v) (hc:xs.length+t+2<=2 * b.length) (hq:trim q=q) (hr:trim r=r) (hlt:r.length<b.length) (hs:∀ i,co a i=co r i^^^co (pmul q b) i) :
  q.length+b.length=a.length+1/\Ga xs ys t b r v (trim (pplus u (trim (pmul q v)))):=by
 have ta:=tlen h.ta
 have tb:=tlen h.tb
 have tu:=tlen h.tu
 have tv:=tlen h.tv
 have tq:=tlen hq
 have tr:=tlen hr
 have hba:=h.ba
 have huv:=h.uv
 have hsum:=h.sum
 have hq0:dg q≠0:=fun h0=>by
  have:dg a=dg r:=dg_sim fun i=>by rw [hs i,pmul_zeroL (dg_zero h0) i,xor_zero]
  omega
 have h1:=dg_pmul_eq hq0 (show dg b≠0 by omega)
 have h2:dg a=dg (pmul q b):=by
  rw [← dg_lt_plus (r:=r) (p:=pmul q b) (by omega)]
  exact dg_sim fun i=>by rw [hs i,zbo]
 have h3:=dg_pmul_eq hq0 (show dg v≠0 by omega)
 have h4:dg (trim (pplus u (trim (pmul q v))))=dg (pmul q v):=by
  rw [dg_sim (zeg _),dg_sim (pplus_sim (Sim.refl u) (zeg (pmul q v))),dg_lt_plus (by omega)]
 have h5:=tlen (ze3 (pplus u (trim (pmul q v))))
 refine ⟨by omega,h.tb,hr,h.tv,ze3 _,by omega,hlt,by omega,hc,h.hb,fun i hi=>?_⟩
 rw [ev_trim,zfu,ev_trim,zga,add_mul,← h.ha i hi,mul_assoc,← h.hb i hi,← zga]
 have h6:=ev_sim a (pplus r (pmul q b)) (co xs i) (fun j=>by rw [hs j,zbo])
 rw [h6,zfu,xor_assoc,xor_self,xor_zero]
theorem gao_spec (xs ys:List UInt8) (t:Nat) (hl:xs.length=ys.length) (h1:1<=t) (ht:t<=xs.length) (h255:xs.length<=255) (hn:xs.Nodup) :
  ∃ q ok,mend_gao true (t:Int) xs ys=some (q,ok)/\q.length<=1000/\(ok=true->dg q<=t/\trim q=q)/\∀ P,dg P<=t->2 * wrg xs ys P xs.length<=xs.length - t->q=trim P/\ok=true:=by
 obtain ⟨N,e1,t1,d1,v1⟩:=poly_Through_ok xs ys hl (by omega) h255 hn
 have hm:=zbb
 have hh:=h257
 have h1000:10000<=most:=by decide
 have lv:=van_length xs
 have tN:=tlen t1
 unfold mend_gao
 rw [poly_Vanish_eq xs h255,obs,e1,obs]
 obtain ⟨y,e2,b,v,rfl,a,u,hG,hc⟩:=zfx (body:=fun s10:List UInt8×List UInt8×List UInt8×List UInt8=>((zel s10.2.1).bind fun r12=>(if (wI ((xs.length:Int)+(t:Int)))<=(wI (2 * r12)) then ((zfe true s10.1 s10.2.1).bind fun r15=>(if r15.2.2=0 then
   ((zha true r15.1 s10.2.2.2).bind fun r20=>((ziq s10.2.2.1 r20.1).bind fun r23=>some (.inl (s10.2.1,r15.2.1,s10.2.2.2,r23)))) else some (.inr (.inr (([]:List UInt8),false))))) else some (.inr (.inl (s10.2.1,s10.2.2.2))))))
  (fun s=>Ga xs ys t s.1 s.2.1 s.2.2.1 s.2.2.2) (fun s=>s.1.length) (fun y:(List UInt8×List UInt8)⊕(List UInt8×Bool)=>∃ b v,y=.inl (b,v)/\∃ a u,Ga xs ys t a b u v/\2 * b.length<=xs.length+t+1)
  (by
   rintro ⟨a,b,u,v⟩ hG
   simp only at hG ⊢
   have hba:=hG.ba
   have hsum:=hG.sum
   have huv:=hG.uv
   have e3:wI (2 * ((b.length:Int) - 1))=2 * ((b.length:Int) - 1):=wI_of (by omega) (by omega)
   rw [ziw b (by omega),hG.tb,obs,e3,zg7 _ _ (by omega)]
   by_cases hc:xs.length+t+2<=2 * b.length
   ·have hb0:trim b≠[]:=fun e=>by rw [hG.tb] at e;rw [e] at hc;simp at hc
    obtain ⟨q,r,e4,tq,tr,hlt,hs,hql⟩:=poly_DivMod_eq a b (by omega) (by omega) hb0
    rw [hG.tb] at hlt
    obtain ⟨h5,h6⟩:=hG.next hc tq tr hlt hs
    rw [if_pos (by omega),e4,obs,if_pos rfl,poly_Mul_eq q v (by omega) (by omega) (.inr (.inr (by rw [tq,hG.tv];omega))),obs]
    have h7:=pmul_len q v
    have h8:=trim_le (pmul q v)
    rw [poly_Add_eq u _ (by omega) (by simp only;omega),obs]
    exact .inl ⟨_,rfl,h6,hba⟩
   ·rw [if_neg (by omega)]
    exact .inr ⟨_,rfl,b,v,rfl,a,u,hG,by omega⟩)
  (van xs,N,[],[1]) ⟨van_trim xs,t1,rfl,trim_one,by simp only [List.length_cons,List.length_nil];omega,by simp only;omega,by simp,by simp only;omega,fun i hi=>by
   rw [(van_root xs (co xs i)).2 (co_mem hi)];exact (zero_mul _).symm,fun i hi=>by rw [v1 i hi,ev_const,one_mul]⟩
 have hba:=hG.ba
 have hsum:=hG.sum
 have huv:=hG.uv
 have hbig:=hG.big
 have tv:=tlen hG.tv
 have tb:=tlen hG.tb
 have hv0:trim v≠[]:=fun e=>by rw [hG.tv] at e;rw [e] at huv;simp at huv
 obtain ⟨q,r,e4,tq,tr,hlt,hs,hql⟩:=poly_DivMod_eq b v (by omega) (by omega) hv0
 rw [hG.tv] at hlt
 have tq':=tlen tq
 have tr':=tlen tr
 have hgood:∀ P,dg P<=t->2 * wrg xs ys P xs.length<=xs.length - t->q=trim P/\r=[]:=fun P hP hw=>by
  have k1:=gao_key (b:=b) (v:=v) hn (t:=t) hG.hb hP (by omega) (by omega)
  obtain ⟨k2,k3⟩:=div_uniq (r:=r) (q:=q) hs (by omega) k1
  exact ⟨by rw [← tq];exact zj3 _ _ k2,by rw [← tr];exact trim_zero r k3⟩
 rw [e2,obs]
 simp only [Sum.elim_inl]
 rw [e4,obs]
 simp only
 rw [if_pos trivial]
 by_cases hr0:r=[]
 ·rw [if_pos (by rw [hr0];rfl),ziw q (by omega),tq,obs]
  refine ⟨q,_,rfl,by omega,fun h=>⟨?_,tq⟩,fun P hP hw=>?_⟩
  ·have:=of_decide_eq_true h;omega
  ·have:=(hgood P hP hw).1
   refine ⟨this,decide_eq_true ?_⟩
   have h9:dg q=dg P:=by rw [this];exact dg_sim (zeg P)
   omega
 ·have hp:=List.length_pos_iff.2 hr0
  rw [if_neg (by omega)]
  exact ⟨q,false,rfl,by omega,fun h=>Bool.noConfusion h,fun P hP hw=>absurd (hgood P hP hw).2 hr0⟩
theorem wrong_eq (p xs ys:List UInt8) (hl:xs.length=ys.length) (h:xs.length<=most) (hp:p.length<=most):zi1 true p xs ys=some ((wrg xs ys p xs.length:Nat):Int):=by
 unfold zi1
 have hm:=zbb
 refine zay ?_ rfl
 refine zal (fun i=>(((wrg xs ys p i:Nat):Int),(i:Int))) xs.length _ rfl ?_ ?_
 ·intro i hi
  have hle:=wr_le xs ys p i
  simp only
  rw [if_pos (by omega),za4 hi,obs,za4 (by omega),obs,poly_Eval_eq _ _ hp,obs,zas i (by omega)]
  by_cases he:evp p (co xs i)=co ys i
  ·rw [if_pos he,wrg,if_pos he];rfl
  ·rw [if_neg he,zas _ (by omega)]
   conv=>rhs;rw [wrg,if_neg he]
 ·simp
theorem Radius_eq (n t:Nat) (h:t<=n) (hn:n<=1000):zhs (n:Int) (t:Int)=some (((n - t) / 2:Nat):Int):=by
 unfold zhs
 rw [if_neg (by omega),wI_sub _ _ h (by omega)]
 have:=zhh (n - t) 2 (by decide) (by omega)
 rw [show ((2:Nat):Int)=2 from rfl] at this
 rw [this,obs]
def Good (t e:Nat) (xs ys P:List UInt8):Prop:=dg P<=t/\wrg xs ys P xs.length<=e/\2 * wrg xs ys P xs.length<=xs.length - t
theorem Good.uniq {t e:Nat} {xs ys P Q:List UInt8} (hn:xs.Nodup) (ht:t<=xs.length) (h:Good t e xs ys P) (k:Good t e xs ys Q):Sim P Q :=
 two_one (ys:=ys) hn h.1 k.1 (by have:=h.2.2;have:=k.2.2;omega)
theorem column_spec (xs ys:List UInt8) (t:Nat) (e:Nat) (hl:xs.length=ys.length) (h1:1<=t) (ht:t<=xs.length) (h255:xs.length<=255) (hn:xs.Nodup) :
  (∀ P,Good t e xs ys P->zff true (t:Int) xs ys (e:Int)=some (trim P,0))/\((∀ P,¬ Good t e xs ys P)->zff true (t:Int) xs ys (e:Int)=some ([],11)):=by
 obtain ⟨q,ok,e1,hql,hok,hP⟩:=gao_spec xs ys t hl h1 ht h255 hn
 have hm:=zbb
 have h1000:10000<=most:=by decide
 unfold zff
 rw [e1,obs]
 simp only
 have hmin:(if (((xs.length - t) / 2:Nat):Int)<(e:Int) then (((xs.length - t) / 2:Nat):Int) else (e:Int))=((min e ((xs.length - t) / 2):Nat):Int):=minI _ _
 constructor
 ·rintro P ⟨p1,p2,p3⟩
  obtain ⟨rfl,rfl⟩:=hP P p1 p3
  rw [if_neg (by decide),wrong_eq _ _ _ hl (by omega) (by omega),obs,Radius_eq _ _ ht (by omega),obs,hmin,wr_sim (zeg P),if_neg (by omega)]
 ·intro hno
  cases ok with
  | false=>rw [if_pos (by decide)]
  | true =>
   obtain ⟨k1,k2⟩:=hok rfl
   have:=hno q
   rw [if_neg (by decide),wrong_eq _ _ _ hl (by omega) (by omega),obs,Radius_eq _ _ ht (by omega),obs,hmin,if_pos ?_]
   have h3:¬ (wrg xs ys q xs.length<=e/\2 * wrg xs ys q xs.length<=xs.length - t):=fun h=>this ⟨k1,h.1,h.2⟩
   omega
def mcode (t:Int) (xs:List UInt8) (n e:Int):Int:=if (xs.length:Int)=n then (if t<1∨255<t∨e<0 then 2 else if (xs.length:Int)<t then 5 else if xs.length=0 then 5 else if 255<xs.length then 4 else if xs.Nodup then 0 else 6) else 1
theorem mend_check_eq (t:Int) (xs:List UInt8) (n e:Int) (h:xs.length<=most):zju true t xs n e=some (mcode t xs n e):=by
 unfold zju mcode
 rw [if_neg (by simp)]
 by_cases h1:(xs.length:Int)=n
 ·rw [if_pos h1,if_pos h1]
  by_cases h2:t<1
  ·rw [if_pos h2,if_pos (.inl h2)]
  ·rw [if_neg h2]
   by_cases h3:255<t
   ·rw [if_pos h3,if_pos (.inr (.inl h3))]
   ·rw [if_neg h3]
    by_cases h4:e<0
    ·rw [if_pos h4,if_pos (.inr (.inr h4))]
    ·rw [if_neg h4,if_neg (show ¬ (t<1∨255<t∨e<0) from not_or.2 ⟨h2,not_or.2 ⟨h3,h4⟩⟩)]
     by_cases h5:(xs.length:Int)<t
     ·rw [if_pos h5,if_pos h5]
     ·rw [if_neg h5,if_neg h5]
      have hck:=zkg xs h
      by_cases hok:xs.length≠0/\xs.length<=255/\xs.Nodup
      ·obtain ⟨k0,k1,k2⟩:=hok
       rw [zh8 xs 0 k0 k1 k2,obs,if_neg k0,if_neg (by omega),if_pos k2]
      ·rw [poly_Weights_bad xs 0 _ hck ?_,obs]
       by_cases k0:xs.length=0
       ·rw [if_pos k0];decide
       ·rw [if_neg k0]
        by_cases k1:255<xs.length
        ·rw [if_pos k1];decide
        ·rw [if_neg k1,if_neg (fun k2=>hok ⟨k0,by omega,k2⟩)];decide
 ·rw [if_neg h1,if_neg h1]
theorem mcode_ok {t:Int} {xs:List UInt8} {n e:Int} (hc:mcode t xs n e=0):(xs.length:Int)=n/\1<=t/\t<=(xs.length:Int)/\0<=e/\xs.length<=255/\xs.Nodup:=by
 unfold mcode at hc
 split at hc
 ·split at hc
  ·cases hc
  ·rename_i h1 h2
   split at hc
   ·cases hc
   ·split at hc
    ·cases hc
    ·split at hc
     ·cases hc
     ·split at hc
      ·rename_i h3 h4 h5 h6
       refine ⟨h1,Int.not_lt.1 fun h=>h2 (.inl h),by omega,Int.not_lt.1 fun h=>h2 (.inr (.inr h)),by omega,h6⟩
      ·cases hc
 ·cases hc
end Gk

/- Chapter 8: unlike places, sums of shares, what shares of a dealing tell. No condition but lengths. -/
namespace Gk
open Gf
theorem co_pplus_eq {p q:List UInt8} (h:p.length=q.length):(pplus p q).length=p.length:=by rw [zgp];omega
theorem Xor_eq (p q:List UInt8) (h:p.length=q.length) (hp:p.length<=most):zeh p q=some (pplus p q):=by
 unfold zeh
 have hm:=zbb
 have hmin:(if (q.length:Int)<(p.length:Int) then (q.length:Int) else (p.length:Int))=(p.length:Int):=by split <;> omega
 rw [hmin,zbj _ _ hp,obs]
 obtain ⟨x,e1,e2⟩:=iterC_up (s0:=List.replicate p.length (0:UInt8)) (fun i s=>s.length=p.length/\∀ j,co s j=if j<i then co p j^^^co q j else 0) p.length (fun x:List UInt8=>x=pplus p q)
  (body:=fun s4:List UInt8×Int=>(if s4.2<((List.replicate p.length (0:UInt8)).length:Int) then ((idx p s4.2).bind fun c9=>((idx q s4.2).bind fun c10=>((idx s4.1 s4.2).bind fun c11=>some (.inl ((s4.1.set (s4.2:Int).toNat ((c9^^^c10))),(wI (s4.2+1))))))) else some (.inr s4.1)))
  ⟨by simp,fun j=>by rw [co_rep,if_neg (by omega)]⟩
  (fun i s hi hI=>by
   obtain ⟨hl,hs⟩:=hI
   refine ⟨s.set i (co p i^^^co q i),?_,by simpa using hl,fun j=>?_⟩
   ·simp only
    rw [if_pos (by rw [List.length_replicate];omega),za4 hi,obs,za4 (by omega),obs,za4 (by omega),obs,zas i (by omega),Int.toNat_natCast]
   ·rw [co_set (by omega)]
    by_cases hj:j=i
    ·subst hj;rw [if_pos rfl,if_pos (by omega)]
    ·rw [if_neg hj,hs j]
     have:j<i+1 ↔ j<i:=by omega
     simp only [this])
  (fun s hI=>⟨s,by simp,zb2 (by rw [hI.1,co_pplus_eq h]) (fun j=>by
   rw [hI.2 j,zbo]
   split
   ·rfl
   ·rw [co_ge (show p.length<=j by omega),co_ge (show q.length<=j by omega),xor_zero])⟩)
 rw [e1,obs,e2]
theorem Add_map (xs:List UInt8) (f g:UInt8->List UInt8) (d:Nat) (hf:∀ x,(f x).length=d) (hg:∀ x,(g x).length=d) (hd:d<=most) (hx:xs.length<=most):zfj (xs.map f) (xs.map g)=some (xs.map fun x=>pplus (f x) (g x),0):=by
 unfold zfj
 have hm:=zbb
 have im:∀ (h:UInt8->List UInt8) (i:Nat),i<xs.length->idx (xs.map h) (i:Int)=some (h (co xs i)):=fun h i hi=>by rw [zge,List.getElem?_map,co_get hi];rfl
 rw [if_pos (by simp)]
 have:iterC (fun s2:List (List UInt8)×Int=>(if s2.2<((xs.map f).length:Int) then ((idx (xs.map f) s2.2).bind fun c7=>((idx (xs.map g) s2.2).bind fun c9=>(if (c7.length:Int)=(c9.length:Int) then ((idx (xs.map f) s2.2).bind fun c14=>((idx (xs.map g) s2.2).bind fun c16 =>
   ((zeh c14 c16).bind fun r18=>((appL s2.1 (([r18]:List (List UInt8)))).bind fun c22=>some (.inl (c22,(wI (s2.2+1)))))))) else some (.inr (Sum.inr (α:=List (List UInt8)) (([]:List (List UInt8)),(3:Int))))))) else some (.inr (.inl s2.1)))) (([]:List (List UInt8)),0)=some (.inl (xs.map fun x=>pplus (f x) (g x))):=by
  refine zal (fun i=>((xs.take i).map fun x=>pplus (f x) (g x),(i:Int))) xs.length _ rfl ?_ ?_
  ·intro i hi
   simp only
   rw [if_pos (by rw [List.length_map];omega),im f i hi,im g i hi]
   simp only [obs]
   rw [if_pos (by rw [hf,hg]),Xor_eq _ _ (by rw [hf,hg]) (by rw [hf];exact hd),obs]
   unfold appL
   rw [if_pos (by simp;omega),obs,zas i (by omega),ze8 hi,List.map_append]
   rfl
  ·simp
 rw [this,obs,Sum.elim_inl]
theorem shr_add (s s' m m':List UInt8) (q:Nat) (x:UInt8) (h:s.length=s'.length):pplus (shr s m q x) (shr s' m' q x)=shr (pplus s s') (pplus m m') q x:=by
 have hl:=co_pplus_eq h
 refine zb2 (by rw [co_pplus_eq (by rw [zef,zef,h]),zef,zef,hl]) fun i=>?_
 rw [zbo]
 by_cases hi:i<s.length
 ·rw [co_shr _ _ _ _ _ hi,co_shr _ _ _ _ _ (by omega),co_shr _ _ _ _ _ (by omega),← zfu]
  refine ev_sim _ _ x fun j=>?_
  rw [zbo]
  cases j with
  | zero=>simp only [colp,zde,zbo]
  | succ j =>
   simp only [colp,zcl]
   by_cases hj:j<q
   ·rw [co_rowsp _ _ _ _ _ hj,co_rowsp _ _ _ _ _ hj,co_rowsp _ _ _ _ _ hj,zbo,hl,← h]
   ·rw [co_ge (by rw [zjn];omega),co_ge (by rw [zjn];omega),co_ge (by rw [zjn];omega),xor_zero]
 ·rw [co_ge (by rw [zef];omega),co_ge (by rw [zef];omega),co_ge (by rw [zef];omega),xor_zero]
theorem shr_zero (s m:List UInt8) (q:Nat):shr s m q 0=s:=by
 refine zb2 (zef _ _ _ _) fun i=>?_
 by_cases hi:i<s.length
 ·rw [co_shr _ _ _ _ _ hi]
  show co s i^^^mul _ 0=co s i
  rw [mul_zero,xor_zero]
 ·rw [co_ge (by rw [zef];omega),co_ge (by omega)]
end Gk

/- Chapter 10: the law MendCorrects. No condition. -/
namespace Gk
open Gf
end Gk

/- Printed by gen.py: for each Go function a pure function, and that the Go code comes to it. No condition beside the equation that says what the pure function gives. -/
namespace Gk
open Go Go.Proofs
end Gk

/- Chapter 10: the law MendColumns. No condition. -/
namespace Gk
open Gf
end Gk

/- Chapter 10: the law MendRows. No condition. -/
namespace Gk
open Gf
def clm (rows:List (List UInt8)) (k n:Nat):List UInt8:=(List.range n).map fun i=>co (rows.getD i []) k
theorem clm_len (rows:List (List UInt8)) (k n:Nat):(clm rows k n).length=n:=by simp [clm]
theorem co_clm (rows:List (List UInt8)) (k n i:Nat) (h:i<n):co (clm rows k n) i=co (rows.getD i []) k:=by unfold clm;rw [zc3,if_pos h]
def atR (ps:List UInt8) (rs:List (List UInt8)) (L:Nat) (x:UInt8):List UInt8:=(List.range L).map fun k=>sm (fun i=>mul (wt ps i x) (co (rs.getD i []) k)) ps.length
theorem atR_len (ps:List UInt8) (rs:List (List UInt8)) (L:Nat) (x:UInt8):(atR ps rs L x).length=L:=by simp [atR]
theorem At_eq (ps:List UInt8) (rs:List (List UInt8)) (L:Nat) (w:List Int) (x:UInt8) (h0:ps.length≠0) (h1:ps.length<=255) (hn:ps.Nodup) (hl:rs.length=ps.length) (hr:∀ i,i<ps.length->(rs.getD i []).length=L) (hL:L<=1000) :
  zg1 (some (true,ps,rs,w)) x=some (atR ps rs L x):=by
 have hm:1000<=most:=by decide
 unfold zg1
 rw [if_neg (by simp),obs]
 simp only
 rw [zh8 ps x h0 h1 hn,obs,idx_0 (by omega),obs,hr 0 (by omega),zbj _ _ (by omega),obs]
 refine zay (x:=atR ps rs L x) ?_ rfl
 refine zal (fun j=>((List.range L).map fun k=>sm (fun i=>mul (wt ps i x) (co (rs.getD i []) k)) j,(j:Int))) ps.length _ ?_ (fun j hj=>?_) ?_
 ·congr 1
  refine zb2 (by simp) fun k=>?_
  rw [co_rep,zc3]
  split <;> rfl
 ·simp only
  rw [if_pos (by omega),zcw (by omega),obs,za4 (by rw [wts_len];exact hj),obs,co_wts ps x j hj,Sum_eq _ _ _ (by simp;omega),obs,zas j (by omega)]
  congr 3
  refine zb2 (by rw [sumL_len];simp) fun k=>?_
  rw [co_sumL,List.length_map,List.length_range,zc3,zc3]
  by_cases hk:k<L
  ·rw [if_pos hk,if_pos hk,if_pos hk];rfl
  ·rw [if_neg hk,if_neg hk]
 ·simp only
  rw [if_neg (by omega)];rfl
def bt (n:Nat) (g:Nat->Bool):List Bool:=(List.range n).map g
theorem bt_len (n:Nat) (g:Nat->Bool):(bt n g).length=n:=by simp [bt]
theorem idx_bt {n k:Nat} (g:Nat->Bool) (h:k<n):idx (bt n g) (k:Int)=some (g k):=by
 rw [zge];simp [bt,h]
theorem bt_set (n k:Nat) (g:Nat->Bool) (b:Bool):(bt n g).set k b=bt n (fun j=>if j=k then b else g j):=by
 refine List.ext_getElem? fun j=>?_
 rw [List.getElem?_set]
 unfold bt
 by_cases h:k=j
 ·subst h
  rw [if_pos rfl]
  by_cases hk:k<n
  ·simp [hk]
  ·simp [hk]
 ·rw [if_neg h]
  by_cases hj:j<n
  ·simp [hj,Ne.symm h]
  ·simp [hj]
theorem bt_congr {n:Nat} {g h:Nat->Bool} (e:∀ j,j<n->g j=h j):bt n g=bt n h:=List.map_congr_left fun j hj=>e j (List.mem_range.1 hj)
theorem bt_rep (n:Nat):List.replicate n false=bt n (fun _=>false):=by
 refine List.ext_getElem? fun j=>?_
 unfold bt
 by_cases hj:j<n
 ·simp [hj]
 ·simp [hj]
theorem or_loop {body:List Bool×Int->Option ((List Bool×Int)⊕List Bool)} (n L:Nat) (hL:L<=n) (g h:Nat->Bool)
  (hs:∀ (k:Nat) (s:List Bool),k<L->idx s (k:Int)=some (g k)->body (s,(k:Int))=some (.inl (s.set k (g k||h k),((k+1:Nat):Int))))
  (he:∀ s,body (s,(L:Int))=some (.inr s)):iterC body (bt n g,0)=some (bt n (fun k=>if k<L then g k||h k else g k)):=by
 refine zal (fun k=>(bt n (fun j=>if j<k then g j||h j else g j),(k:Int))) L _ (by simp) (fun k hk=>?_) (he _)
 rw [hs k _ hk (by rw [idx_bt _ (by omega)];simp),bt_set]
 congr 3
 refine bt_congr fun j hj=>?_
 by_cases e:j=k
 ·rw [if_pos e,if_pos (by omega),e]
 ·rw [if_neg e]
  by_cases h1:j<k
  ·rw [if_pos h1,if_pos (by omega)]
  ·rw [if_neg h1,if_neg (by omega)]
theorem filt_loop {body:List Int×Int->Option ((List Int×Int)⊕List Int)} (L:Nat) (g:Nat->Bool)
  (hs:∀ (k:Nat) (s:List Int),k<L->s.length<=k->body (s,(k:Int))=some (.inl (if g k=true then s ++ [(k:Int)] else s,((k+1:Nat):Int))))
  (he:∀ s,body (s,(L:Int))=some (.inr s)):iterC body ([],0)=some (((List.range L).filter g).map fun (k:Nat)=>(k:Int)):=by
 refine zal (fun k=>(((List.range k).filter g).map fun (k:Nat)=>(k:Int),(k:Int))) L _ rfl (fun k hk=>?_) (he _)
 have hl:((List.range k).filter g).length<=k:=by
  have:=List.length_filter_le g (List.range k);simpa using this
 rw [hs k _ hk (by rw [List.length_map];exact hl),List.range_succ,List.filter_append]
 by_cases e:g k=true
 ·rw [if_pos e];simp [e]
 ·rw [if_neg e];simp [e]
theorem iterEqF {S X:Type} {body:S->Option (S⊕X)} {s0:S} {y:X} (h:∃ x,iterC body s0=some x/\x=y):iterC body s0=some y:=by
 obtain ⟨x,e,rfl⟩:=h
 exact e
def dif (ps xs:List UInt8) (rows:List (List UInt8)) (L i k:Nat):Bool:=decide (co (atR ps (rows.take ps.length) L (co xs i)) k≠co (rows.getD i []) k)
def oddB (ps xs:List UInt8) (rows:List (List UInt8)) (L j k:Nat):Bool:=(List.range j).any fun i=>decide (ps.length<=i)&&dif ps xs rows L i k
theorem oddB_succ (ps xs:List UInt8) (rows:List (List UInt8)) (L j k:Nat) (h:ps.length<=j):oddB ps xs rows L (j+1) k=(oddB ps xs rows L j k||dif ps xs rows L j k):=by
 unfold oddB
 rw [List.range_succ,List.any_append]
 simp [h]
theorem oddB_start (ps xs:List UInt8) (rows:List (List UInt8)) (L k:Nat):oddB ps xs rows L ps.length k=false:=by
 unfold oddB
 rw [List.any_eq_false]
 intro i hi
 have:=List.mem_range.1 hi
 simp;omega
theorem odd_eq (ps xs:List UInt8) (rows:List (List UInt8)) (L:Nat) (h0:ps.length≠0) (h1:ps.length<=255) (hn:ps.Nodup) (hx:ps.length<=xs.length) (hx2:xs.length<=255) (hl:rows.length=xs.length) (hr:∀ i,i<xs.length->(rows.getD i []).length=L) (hL:L<=1000) :
  mend_odd (some (true,ps,rows.take ps.length,[])) xs rows=some (((List.range L).filter (oddB ps xs rows L xs.length)).map fun (k:Nat)=>(k:Int)):=by
 have hm:1000<=most:=by decide
 have hm2:=zbb
 have htk:∀ i,i<ps.length->(rows.take ps.length).getD i []=rows.getD i []:=fun i hi=>by simp [List.getD_eq_getElem?_getD,List.getElem?_take,hi]
 unfold mend_odd
 rw [idx_0 (by omega),obs,hr 0 (by omega),zbj _ _ (by omega),obs,obs]
 simp only
 refine zay (x:=bt L (oddB ps xs rows L xs.length)) (iterEqF (iterC_from (s0:=List.replicate L false) (fun (i:Nat) (s:List Bool)=>s=bt L (oddB ps xs rows L i)) ps.length xs.length hx (fun x=>x=bt L (oddB ps xs rows L xs.length)) ?_ ?_ ?_)) ?_
 ·rw [bt_rep];exact bt_congr fun j _=>(oddB_start _ _ _ _ _).symm
 ·rintro i s hi1 hi2 rfl
  simp only
  have hAt:=At_eq ps (rows.take ps.length) L [] (co xs i) h0 h1 hn (by simp;omega) (fun i hi=>by rw [htk i hi];exact hr i (by omega)) hL
  rw [if_pos (by omega),za4 hi2,obs,hAt,obs,atR_len]
  refine ⟨_,zay (or_loop L L (Nat.le_refl _) _ (fun k=>dif ps xs rows L i k) (fun k s hk hks=>?_) (fun s=>by simp)) (by rw [zas i (by omega)]),?_⟩
  ·simp only
   rw [if_pos (by omega),za4 (by rw [atR_len];exact hk),obs,hks,obs]
   by_cases hb:oddB ps xs rows L i k=true
   ·rw [if_pos hb,hb,Bool.true_or,zas k (by omega),Int.toNat_natCast]
   ·rw [if_neg hb,zcw (by omega),obs,za4 (by rw [hr i hi2];exact hk),obs,zas k (by omega),Int.toNat_natCast]
    rw [Bool.not_eq_true] at hb
    rw [hb,Bool.false_or]
    unfold dif
    by_cases hc:co (atR ps (rows.take ps.length) L (co xs i)) k=co (rows.getD i []) k <;> simp [hc]
  ·refine bt_congr fun k hk=>?_
   rw [if_pos hk,oddB_succ _ _ _ _ _ _ hi1]
 ·rintro s rfl
  exact ⟨_,by simp only;rw [if_neg (by omega)],rfl⟩
 ·rw [bt_len]
  refine zay (filt_loop L (oddB ps xs rows L xs.length) (fun k s hk hks=>?_) (fun s=>by simp)) rfl
  simp only
  rw [if_pos (by omega),idx_bt _ hk,obs]
  by_cases hb:oddB ps xs rows L xs.length k=true
  ·rw [if_pos hb,if_pos hb,zdz _ _ (by simp;omega) rfl,obs,zas k (by omega)]
  ·rw [if_neg hb,if_neg hb,zas k (by omega)]
open Classical in
noncomputable def PK (t e:Nat) (xs ys:List UInt8):List UInt8:=if h:∃ a,Good t e xs ys a then Classical.choose h else []
theorem PK_good {t e:Nat} {xs ys:List UInt8} (h:∃ P,Good t e xs ys P):Good t e xs ys (PK t e xs ys):=by
 unfold PK;rw [dif_pos h];exact Classical.choose_spec h
theorem wrg_zero {xs ys P:List UInt8}:∀ n,(∀ i,i<n->evp P (co xs i)=co ys i)->wrg xs ys P n=0
 | 0,_=>rfl
 | n+1,h=>by unfold wrg;rw [wrg_zero n (fun i hi=>h i (by omega)),h n (by omega),if_pos rfl]
theorem co_takeU (xs:List UInt8) {t i:Nat} (h:i<t):co (xs.take t) i=co xs i:=by rw [zkc,if_pos h]
theorem atR_poly {ps:List UInt8} {rs:List (List UInt8)} {L k:Nat} (hn:ps.Nodup) {P:List UInt8} (hP:dg P<=ps.length) (hk:k<L) (h:∀ i,i<ps.length->co (rs.getD i []) k=evp P (co ps i)) (x:UInt8):co (atR ps rs L x) k=evp P x:=by
 unfold atR
 rw [zc3,if_pos hk,lagrange hn hP x]
 exact sm_congr _ fun i hi=>by rw [h i hi]
theorem even_good {xs:List UInt8} {rows:List (List UInt8)} {t L k:Nat} (hn:xs.Nodup) (ht:t<=xs.length) (hk:k<L) (ho:oddB (xs.take t) xs rows L xs.length k=false):∃ P,dg P<=t/\∀ i,i<xs.length->evp P (co xs i)=co (rows.getD i []) k:=by
 have hpl:(xs.take t).length=t:=by simp;omega
 have hpn:(xs.take t).Nodup:=hn.sublist (List.take_sublist _ _)
 obtain ⟨P,hPe⟩:∃ P,P=lag (xs.take t) (fun i=>mul (co (rows.getD i []) k) (inv (pe (xs.take t) i (co (xs.take t) i) (xs.take t).length))) (xs.take t).length:=⟨_,rfl⟩
 have hP:dg P<=t:=by
  have:=dg_lag (xs.take t) (fun i=>mul (co (rows.getD i []) k) (inv (pe (xs.take t) i (co (xs.take t) i) (xs.take t).length))) (xs.take t).length (Nat.le_refl _)
  rw [hPe];omega
 have hat:∀ i,i<t->evp P (co xs i)=co (rows.getD i []) k:=fun i hi=>by
  have:=lag_at hpn (fun i=>co (rows.getD i []) k) (j:=i) (by omega)
  rw [co_takeU xs hi] at this
  rw [hPe];exact this
 refine ⟨P,hP,fun i hi=>?_⟩
 by_cases h:i<t
 ·exact hat i h
 ·unfold oddB at ho
  rw [List.any_eq_false] at ho
  have h2:=ho i (List.mem_range.2 hi)
  rw [hpl] at h2
  simp only [show t<=i by omega,decide_true,Bool.true_and] at h2
  unfold dif at h2
  simp only [ne_eq,decide_eq_true_eq,Classical.not_not] at h2
  rw [← h2,atR_poly hpn (P:=P) (by omega) hk (fun j hj=>?_)]
  rw [hpl] at hj
  rw [co_takeU xs hj,hat j hj]
  simp [List.getD_eq_getElem?_getD,List.getElem?_take,hpl,hj]
theorem good_even {xs:List UInt8} {rows:List (List UInt8)} {t e k:Nat} {P:List UInt8} (hP:dg P<=t) (h:∀ i,i<xs.length->evp P (co xs i)=co (rows.getD i []) k):Good t e xs (clm rows k xs.length) P:=by
 have:wrg xs (clm rows k xs.length) P xs.length=0:=wrg_zero _ fun i hi=>by rw [co_clm _ _ _ _ hi];exact h i hi
 exact ⟨hP,by omega,by omega⟩
theorem clm_loop (rows:List (List UInt8)) (k L n:Nat) (hl:rows.length=n) (hr:∀ i,i<n->(rows.getD i []).length=L) (hk:k<L) (hn:n<=1000):iterC (fun s56:List UInt8×Int =>
(if s56.2<(rows.length:Int) then
((idx rows s56.2).bind fun c59 =>
((idx c59 (k:Int)).bind fun c61 =>
((appL s56.1 (([c61]:List UInt8))).bind fun c65 => some (.inl (c65,(wI (s56.2+1)))))))
else some (.inr s56.1))) (([]:List UInt8),0)=some (clm rows k n):=by
 have hm:1000<most:=by decide
 refine zal (fun i=>(clm rows k i,(i:Int))) n _ rfl (fun i hi=>?_) (by simp only;rw [if_neg (by omega)])
 simp only
 rw [if_pos (by omega),zcw (by omega),obs,za4 (by rw [hr i hi];exact hk),obs,zdz _ _ (by rw [clm_len];simp;omega) rfl,obs,zas i (by omega)]
 unfold clm
 rw [List.range_succ,List.map_append];rfl
end Gk

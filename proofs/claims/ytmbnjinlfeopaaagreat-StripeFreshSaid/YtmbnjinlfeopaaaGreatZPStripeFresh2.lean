/- Parts Gk, Gl, Gm, Ff, Gn, Go, Mz, Fc, Fd, Fe, F3, F5, F8, Gq, one behind the other. What is proved: said at the head of each part. No condition beside those said there. -/
import Derived.Test.YtmbnjinlfeopaaaGreatRows
import Derived.Orders
import Derived.Deep.Draws
import Derived.Laws.World
import Derived.KernelRfl
import Derived.OrdersIn
import Derived.TacticsIn
import Derived.RangeFuncCalls
import Derived.Deep.LoopGhost
import Derived.Tactics
import Derived.Sort.LoopGhostIn
import Derived.RangeFuncLeaves
import Derived.RangeFuncNested
import Derived.RangeFuncRecord
import Derived.Laws.Sem
import Derived.OwnWalk
import Derived.RangeFuncWrites
import Derived.Laws.IdiomCopy
import Derived.WalkKit
import Derived.ProofKit
import Derived.OpenShut
import Derived.ChangeOld
import Derived.Below
import Derived.Test.YtmbnjinlfeopaaaGreatProg
import Derived.MapKept
import Derived.Lib.AppendZerosOnto
import Derived.Laws.CopyRow
import Derived.Laws.Cells
import Derived.Lib.SlBytesConst
import Derived.Test.YtmbnjinlfeopaaaGreatZPStripeFresh1
set_option maxRecDepth 100000
set_option maxHeartbeats 8000000
set_option linter.unusedVariables false
set_option linter.unusedSimpArgs false
/- A range over a function, in the walk's own words. No condition. -/
namespace Gk
open Go Go.RowKit
def RoundQ {α:Type} (B:Nat) (Kp:World->World->Prop) (I:List α->World->Prop) (Ir:List α->World->Prop) (xs:List α) (W:World):Exit->(Nat->Value)->World->Prop
 | .normal,_,W'=>KeepsFrom B W W'/\Kp W W'/\I xs W'
 | .ret,_,W'=>KeepsFrom B W W'/\Ir xs W'
 | _,_,_=>False
theorem fr_mark (n:Nat) (f:Nat->Value) (D:Nat) (h:f n=undef):({ fr n f with defers:={ target:=.collected D,args:=#[] } :: (fr n f).defers }:Act)=fr n (upd f n (.pointer (some ⟨D,0,none⟩))):=by
 have e1:(fr n f).tmps=(fr n (upd f n (.pointer (some ⟨D,0,none⟩)))).tmps:=by
  apply Array.ext_getElem?
  intro i
  by_cases hi:i<n
  ·rw [fr_get n _ i hi,fr_get n _ i hi,upd_ne f _ (by omega)]
  ·rw [zj8 n _ i (by omega),zj8 n _ i (by omega)]
 have e2:(fr n f).defers=[]:=by show dec (f n)=[];rw [h];rfl
 have e3:(fr n (upd f n (.pointer (some ⟨D,0,none⟩)))).defers=[{ target:=.collected D,args:=#[] }]:=by
  show dec (upd f n (.pointer (some ⟨D,0,none⟩)) n)=_
  rw [upd_eq];rfl
 rw [e2]
 show Act.mk (fr n f).tmps _=_
 rw [e1,← e3]
section
variable {P : Program} {n : Nat} {Q : Exit → (Nat → Value) → World → Prop} {f : Nat → Value} {w : World}
theorem W_range {α:Type} {g:Operand} {ps:Array Tmp} {assign body:Code} (hm:f n=undef) (hog:okO n g=true) {gf:Nat} {lb:Array Value} (hg:ev f g=.func (.func gf) #[] lb)
  (eg:∀ args w,(callFunc gf args).run P w=.ok (.enter gf args) w)
  {encs:α->Array Value} {Kp:World->World->Prop} {S Sp:List α->Prop} {N:Nat} {w0:World} (hseq:SeqStopsK Fence.wide 1 P gf lb encs Kp S Sp N w0)
  (hKt:∀ {A B C:World},Kp A B->Kp B C->Kp A C) (hKb:∀ (W:World) (l:Nat) (o o':Obj),w.heap.size<=l->W.heap[l]?=some o->o.isCells=false->o.isWalk=false->Kp W (W.putObj l o'))
  (hb0:Below w0.heap.size w0 w) (hps:∀ x,(encs x).size=ps.size)
  (I Ir:List α->World->Prop) (hI:OwnFrom w.heap.size I) (hIr:OwnFrom w.heap.size Ir) (h0:I [] w) (fp fa:α->Nat->Value)
  (hp:∀ x,({ tmps:=(ps.zip (encs x)).foldl (fun t (p,v)=>t.setIfInBounds p v) (fr n f).tmps,defers:=[] }:Act)=fr n (fp x))
  (hassign:∀ (l:Nat) (x:α) (W1:World) (K:(Nat->Value)->World->Prop),K (fa x) W1->W (ro:=some l) P n assign (Th K (fun _ _ _=>False)) (fp x) W1)
  (hbody:∀ (l:Nat) (pre:List α) (x:α) (W1:World),I pre W1->pre.length<N->W (ro:=some l) P n body (RoundQ w.heap.size Kp I Ir (pre ++ [x]) W1) (fa x) W1)
  (hdone:∀ (D:Nat) (xs:List α) (W1:World),w.heap.size<=D->S xs->I xs W1->W1.heap[D]?=some (.deferred (some []))->Q .normal (upd f n (.pointer (some ⟨D,0,none⟩))) W1)
  (hstop:∀ (D:Nat) (pre:List α) (W1:World),w.heap.size<=D->Sp pre->Ir pre W1->W1.heap[D]?=some (.deferred (some []))->Q .ret (upd f n (.pointer (some ⟨D,0,none⟩))) W1) :
  W (ro:=none) P n (.rangeFunc g ps assign body) Q f w:=by
 unfold W
 refine (wpIn_wide (n:=0)).2 ((wpIn_wide (n:=2)).1 ?_)
 refine wpIn_rangeFunc_ownG (F:=Fence.wide) (n:=2) (w0:=w0) rfl (by decide) (gf:=gf) (lb:=lb) (by rw [fr_eval n f g hog];exact hg) trivial eg hseq hKt hKb hb0 hps I
  (fun c pre W1=>match c with | .ret=>Ir pre W1 | _=>False) hI ?_ h0 (fun x=>fr n (fa x)) ?_ ?_ ?_ ?_
 ·intro c
  cases c <;> first | exact hIr | exact fun _ _ _ _ h _ _=>h
 ·intro l x W1 K hK
  rw [hp]
  refine wpIn_mono (hassign l x W1 (fun f w=>K (fr n f) w) hK) ?_
  rintro e a w' ⟨f',rfl,q⟩
  cases e <;> exact q
 ·intro l pre x W1 hi hl
  refine wpIn_mono (hbody l pre x W1 hi hl) ?_
  rintro e a w' ⟨f',rfl,q⟩
  cases e <;> first | exact q | exact (show False from q).elim
 ·intro D xs W1 hD hS hi hK
  exact ⟨_,fr_mark n f D hm,hdone D xs W1 hD hS hi hK⟩
 ·intro D c pre W1 hD hSp hx hK
  cases c <;> first | exact hx.elim | skip
  refine wpIn_ret ⟨_,fr_mark n f D hm,hstop D pre W1 hD hSp hx hK⟩
end
section
variable {P : Program} {n : Nat} {f : Nat → Value} {w : World} {o : Oper} {t e T : TypeId} {g D : Nat} {u z : Value}
theorem stp_alloc (ho:o.op=.alloc t) (hz:∀ w,(zeroValue t).run P w=.ok z w) {K:Value->World->Prop}
  (hk:∀ w',Blk w' w.heap.size t z.cells->w.grownBy w' none->K (.pointer (some ⟨w.heap.size,0,none⟩)) w'):Stp P o f w K:=by
 refine zc5 (w':=w.alloc (.cells z.cells t)) (v:=.pointer (some ⟨w.heap.size,0,none⟩)) ?_ (hk _ (alloc_new w _) (World.grownBy_alloc w _ none))
 simp [execOp,ho,Instr.alloc,hz,newVar,newRow,newObj,Sem.run]
theorem rtc_mark {fn:Func} {R:Ending->World->Prop} {t:Nat} (hr:fn.results=#[.cell t e]) (ht:Nat.blt t n=true) (hv:f t=.pointer (some ⟨g,0,none⟩)) (hD:f n=.pointer (some ⟨D,0,none⟩))
  (hK:w.heap[D]?=some (.deferred (some []))) (ha:∀ w,(isAgg e).run P w=.ok false w) (hB:Blk w g T #[u]) (h:R (.returned u) (w.putObj D (.deferred none))):Rt P fn n R .ret f w:=by
 refine .inr (.inl ⟨D,hD,hK,u,?_,h⟩)
 have hne:g≠D:=by
  intro e;subst e
  have:w.heap[g]?=some (.cells #[u] T (0,0)):=hB
  rw [this] at hK;cases hK
 have hB2:Blk (w.putObj D (.deferred none)) g T #[u]:=by
  unfold Blk;rw [World.putObj_heap_other hne];exact hB
 have hcell:(w.putObj D (.deferred none)).cell? ⟨g,0,none⟩=some u:=by rw [hB2.cell 0];rfl
 have hg:(fr n f).tmps.getD t undef=.pointer (some ⟨g,0,none⟩):=by rw [zeo n f t ht,hv]
 simp [results,hr,← Array.getD_eq_getD_getElem?,hg,asAddr,loadVar,ha,load,Sem.run,hcell]
theorem Ext.grownO {w0 w w':World} {row:Option Nat} (h:Ext w0 w) (hg:w.grownBy w' row) (hn:∀ k,row=some k->w0.heap.size<=k):Ext w0 w' :=
 ⟨hg.os.trans h.os,hg.output.trans h.output,Nat.le_trans h.size hg.size,fun k hk =>
  (hg.block k (Nat.lt_of_lt_of_le hk h.size) (fun e=>by have:=hn k e.symm;omega)).trans (h.blk k hk)⟩
theorem Ext.putD {w0 w:World} (h:Ext w0 w) (D:Nat) (o:Obj) (hD:w0.heap.size<=D):Ext w0 (w.putObj D o):=h.grownO (grownBy_putObj' w D o) (fun k e=>by cases e;exact hD)
end
theorem params2 {n:Nat} {F:Nat->Value} {p q:Nat} {a b:Value} (hm:F n=undef) (hp:Nat.blt p n=true) (hq:Nat.blt q n=true) :
  ({ tmps:=((#[p,q]:Array Tmp).zip #[a,b]).foldl (fun t (p,v)=>t.setIfInBounds p v) (fr n F).tmps,defers:=[] }:Act)=fr n (upd (upd F p a) q b):=by
 have h1:=zgx n F (some p) a hp
 have h2:=zgx n (upd F p a) (some q) b hq
 have e:(fr n F).defers=[]:=by show dec (F n)=[];rw [hm];rfl
 simp only [updO] at h1 h2
 rw [← h2,← h1]
 simp [Act.put,e]
section
variable {P : Program} {n : Nat} {Q : Exit → (Nat → Value) → World → Prop} {f : Nat → Value} {w : World}
theorem W_range2 {α:Type} {g:Operand} {p q:Tmp} {assign body:Code} (hm:f n=undef) (hog:okO n g=true) {gf:Nat} {lb:Array Value} (hg:ev f g=.func (.func gf) #[] lb)
  (eg:∀ args w,(callFunc gf args).run P w=.ok (.enter gf args) w)
  {ea eb:α->Value} {Kp:World->World->Prop} {S Sp:List α->Prop} {N:Nat} {w0:World} (hseq:SeqStopsK Fence.wide 1 P gf lb (fun x=>#[ea x,eb x]) Kp S Sp N w0)
  (hKt:∀ {A B C:World},Kp A B->Kp B C->Kp A C) (hKb:∀ (W:World) (l:Nat) (o o':Obj),w.heap.size<=l->W.heap[l]?=some o->o.isCells=false->o.isWalk=false->Kp W (W.putObj l o'))
  (hb0:Below w0.heap.size w0 w) (hp:Nat.blt p n=true) (hq:Nat.blt q n=true)
  (I Ir:List α->World->Prop) (hI:OwnFrom w.heap.size I) (hIr:OwnFrom w.heap.size Ir) (h0:I [] w) (ga:α->(Nat->Value)->Nat->Value)
  (hassign:∀ (l:Nat) (x:α) (W1:World) (K:(Nat->Value)->World->Prop),K (ga x (upd (upd f p (ea x)) q (eb x))) W1->W (ro:=some l) P n assign (Th K (fun _ _ _=>False)) (upd (upd f p (ea x)) q (eb x)) W1)
  (hbody:∀ (l:Nat) (pre:List α) (x:α) (W1:World),I pre W1->pre.length<N->W (ro:=some l) P n body (RoundQ w.heap.size Kp I Ir (pre ++ [x]) W1) (ga x (upd (upd f p (ea x)) q (eb x))) W1)
  (hdone:∀ (D:Nat) (xs:List α) (W1:World),w.heap.size<=D->S xs->I xs W1->W1.heap[D]?=some (.deferred (some []))->Q .normal (upd f n (.pointer (some ⟨D,0,none⟩))) W1)
  (hstop:∀ (D:Nat) (pre:List α) (W1:World),w.heap.size<=D->Sp pre->Ir pre W1->W1.heap[D]?=some (.deferred (some []))->Q .ret (upd f n (.pointer (some ⟨D,0,none⟩))) W1) :
  W (ro:=none) P n (.rangeFunc g #[p,q] assign body) Q f w :=
 W_range hm hog hg eg hseq hKt hKb hb0 (fun _=>rfl) I Ir hI hIr h0 (fun x=>upd (upd f p (ea x)) q (eb x)) (fun x=>ga x (upd (upd f p (ea x)) q (eb x))) (fun x=>params2 hm hp hq) hassign hbody hdone hstop
end
section
variable {P : Program} {f : Nat → Value} {o : Oper}
theorem run_eqSl {t e:TypeId} (d:Nat) (p:Option Addr) (n c:Nat) (ht:P.underlying t=some (.slice e)) (w:World):(Op.equalIn (d+1) t (.slice p n c) (.slice none 0 0)).run P w=.ok p.isNone w:=by
 cases p <;> simp [Op.equalIn,run_underlying ht]
theorem q_eqSl {x y:Operand} {t t' e:TypeId} {p:Option Addr} {n c:Nat} (ho:o.op=.binOp .eql t x y t') (ht:P.underlying t=some (.slice e)) (hx:ev f x=.slice p n c) (hy:ev f y=.slice none 0 0):Qa P o f (.bool p.isNone):=by
 intro w
 have h:(Op.equalIn 10000 t (.slice p n c) (.slice none 0 0)).run P w=.ok p.isNone w:=run_eqSl (P:=P) 9999 p n c ht w
 unfold execOp;rw [ho];dsimp only;rw [hx,hy]
 simp only [eqGuard,binOp,Op.equal,Op.maxDepth,Sem.run_bind,Sem.run_pure,Result.andThen_ok,h,Bool.not_true,Bool.false_eq_true,if_false]
end
end Gk

/- Ranges over functions whose pure form is a fold; boxes beside what is owned; results behind a mark. No condition. -/
namespace Gk
open Go Go.RowKit
noncomputable def zjh {σ α:Type} (c:σ->α->Option σ) (a:List α) (d:σ):Option σ :=
 open Classical in if (∀ b:List α,b.length<=a.length->(∀ f∈b,f∈a)->∃ e,b.foldlM c d=some e) then a.foldlM c d else none
theorem rangeL_some {σ α:Type} {f:σ->α->Option σ} {xs:List α} {s0 r:σ} (h:zjh f xs s0=some r) :
  (∀ ys:List α,ys.length<=xs.length->(∀ y∈ys,y∈xs)->∃ r,ys.foldlM f s0=some r)/\xs.foldlM f s0=some r:=by
 unfold zjh at h
 split at h
 ·rename_i h';exact ⟨h',h⟩
 ·cases h
theorem foldlM_app {σ α:Type} (f:σ->α->Option σ) (a b:List α) (s:σ):(a ++ b).foldlM f s=(a.foldlM f s).bind fun s'=>b.foldlM f s':=by
 rw [List.foldlM_append];rfl
theorem fold_inv {σ α:Type} {f:σ->α->Option σ} {g:σ->α->σ} (I:Nat->σ->Prop) (N:Nat) (P:α->Prop) (hs:∀ k s x,k<N->P x->I k s->f s x=some (g s x)/\I (k+1) (g s x)) :
  ∀ (ys:List α) (k:Nat) (s0:σ),k+ys.length<=N->(∀ y∈ys,P y)->I k s0->ys.foldlM f s0=some (ys.foldl g s0)/\I (k+ys.length) (ys.foldl g s0)
 | [],k,s0,_,_,h0=>⟨rfl,h0⟩
 | y :: ys,k,s0,hl,hy,h0=>by
  obtain ⟨h1,h2⟩:=hs k s0 y (by simp at hl;omega) (hy y (by simp)) h0
  obtain ⟨h3,h4⟩:=fold_inv I N P hs ys (k+1) (g s0 y) (by simp at hl;omega) (fun z hz=>hy z (by simp [hz])) h2
  refine ⟨?_,?_⟩
  ·rw [List.foldlM_cons,h1];exact h3
  ·rw [List.foldl_cons,List.length_cons,show k+(ys.length+1)=k+1+ys.length by omega];exact h4
theorem zhn {σ α:Type} {f:σ->α->Option σ} (g:σ->α->σ) {xs:List α} {s0:σ} (I:Nat->σ->Prop) (h0:I 0 s0) (hs:∀ k s x,k<xs.length->x∈xs->I k s->f s x=some (g s x)/\I (k+1) (g s x)) :
  zjh f xs s0=some (xs.foldl g s0)/\I xs.length (xs.foldl g s0):=by
 have hall:=fold_inv I xs.length (·∈xs) hs
 have h1:=hall xs 0 s0 (by omega) (fun y hy=>hy) h0
 refine ⟨?_,by simpa using h1.2⟩
 unfold zjh
 rw [if_pos (fun ys hl hm=>⟨_,(hall ys 0 s0 (by omega) hm h0).1⟩)]
 exact h1.1
def lim (n:Nat):Option Unit:=if n<9223372036854775808 then some () else none
theorem zjt {n:Nat} {u:Unit} (h:lim n=some u):n<9223372036854775808:=by
 unfold lim at h
 split at h
 ·assumption
 ·cases h
theorem zi4 {n:Nat} (h:n<9223372036854775808):lim n=some ():=if_pos h
def Keep (Rd:World->Prop) (W W':World):Prop:=W.heap.size<=W'.heap.size/\(Rd W->Rd W')
theorem Keep.trans {Rd:World->Prop} {A B C:World} (h:Keep Rd A B) (k:Keep Rd B C):Keep Rd A C:=⟨Nat.le_trans h.1 k.1,fun x=>k.2 (h.2 x)⟩
def RoundK (B:Nat) (Rd:World->Prop) (I:World->Prop) (W:World):Exit->(Nat->Value)->World->Prop
 | .normal,_,W'=>KeepsFrom B W W'/\Rd W'/\I W'
 | _,_,_=>False
section
variable {P : Program} {n : Nat} {Q : Exit → (Nat → Value) → World → Prop} {f : Nat → Value} {w : World}
theorem W_rangeS {α α' σ:Type} {π:α'->α} {xs:List α} {fstep:σ->α->Option σ} {s0 r:σ} {g:Operand} {p q:Tmp} {assign body:Code} (hfold:zjh fstep xs s0=some r)
  (hm:f n=undef) (hog:okO n g=true) {gf:Nat} {lb:Array Value} (hg:ev f g=.func (.func gf) #[] lb)
  (eg:∀ args w,(callFunc gf args).run P w=.ok (.enter gf args) w)
  {ea eb:α'->Value} {Rd:World->Prop} {S Sp:List α'->Prop} {N:Nat} (hN:N=xs.length) (hseq:SeqStopsK Fence.wide 1 P gf lb (fun x=>#[ea x,eb x]) (Keep Rd) S Sp N w) (hS:∀ ys,S ys->ys.map π=xs) (hmem:∀ x,π x∈xs)
  (hRdT:∀ W W',Tn w.heap.size W W'->Rd W->Rd W') (hp:Nat.blt p n=true) (hq:Nat.blt q n=true)
  (I:σ->World->Prop) (hI:∀ s W W',Tn w.heap.size W W'->I s W->I s W') (h0:I s0 w) (ga:α'->(Nat->Value)->Nat->Value)
  (hassign:∀ (l:Nat) (x:α') (W1:World) (K:(Nat->Value)->World->Prop),K (ga x (upd (upd f p (ea x)) q (eb x))) W1->W (ro:=some l) P n assign (Th K (fun _ _ _=>False)) (upd (upd f p (ea x)) q (eb x)) W1)
  (hbody:∀ (l:Nat) (x:α') (s s':σ) (W1:World),I s W1->fstep s (π x)=some s'->W (ro:=some l) P n body (RoundK w.heap.size Rd (I s') W1) (ga x (upd (upd f p (ea x)) q (eb x))) W1)
  (hdone:∀ (D:Nat) (W1:World),w.heap.size<=D->I r W1->W1.heap[D]?=some (.deferred (some []))->Q .normal (upd f n (bp D)) W1) :
  W (ro:=none) P n (.rangeFunc g #[p,q] assign body) Q f w:=by
 obtain ⟨hall,hxs⟩:=rangeL_some hfold
 refine W_range2 hm hog hg eg hseq (fun h k=>h.trans k) ?_ (Below.refl _ _) hp hq (fun pre W=>∃ s,(pre.map π).foldlM fstep s0=some s/\I s W) (fun _ _=>False) ?_ ?_ ⟨s0,rfl,h0⟩ ga hassign ?_ ?_ ?_
 ·intro W l o o' hl ho hc _
  have hg:=grownBy_putObj' W l o'
  exact ⟨hg.size,fun h=>hRdT _ _ ⟨some l,hg,fun r e=>by cases e;exact ⟨hl,o,ho,hc⟩⟩ h⟩
 ·rintro pre W W' row ⟨s,hs,h⟩ hg hr
  exact ⟨s,hs,hI _ _ _ ⟨row,hg,hr⟩ h⟩
 ·intro _ _ _ _ h _ _;exact h
 ·rintro l pre x W1 ⟨s,hs,h⟩ hl
  obtain ⟨s2,h2⟩:=hall ((pre ++ [x]).map π) (by simp;omega) (fun y hy=>by
   obtain ⟨z,_,rfl⟩:=List.mem_map.1 hy
   exact hmem z)
  have h3:fstep s (π x)=some s2:=by
   rw [List.map_append,foldlM_app,hs] at h2
   simpa using h2
  refine wpIn_mono (hbody l x s s2 W1 h h3) ?_
  rintro e a w' ⟨f',rfl,q⟩
  refine ⟨f',rfl,?_⟩
  cases e <;> first | exact q.elim | exact ⟨q.1,⟨q.1.size,fun _=>q.2.1⟩,s2,h2,q.2.2⟩
 ·rintro D ys W1 hD hSy ⟨s,hs,h⟩ hK
  rw [hS ys hSy,hxs] at hs
  obtain rfl:=Option.some.inj hs
  exact hdone D W1 hD h hK
 ·intro _ _ _ _ _ h _;exact h.elim
end
section
variable {P : Program} {f : Nat → Value} {w : World} {o : Oper} {t e T : TypeId} {g : Nat} {u z v u0 : Value} {x y : Operand} {cs : Array Value}
theorem Nw.bp (w:World):Nw w (bp w.heap.size):=fun k e=>by
 have e':=hs_bp e
 omega
theorem zeu (L:List Value) (ho:o.op=.alloc t) (hz:∀ w,(zeroValue t).run P w=.ok z w) (hc:z.cells=cs) {K:Value->World->Prop}
  (hk:∀ g w',Blk w' g t cs->Nw w (bp g)->w.grownBy w' none->Lift w w' L (bp g :: L)->K (bp g) w'):Stp P o f w K:=by
 subst hc
 exact stp_alloc ho hz fun w' hB hg=>hk _ w' hB (Nw.bp w) hg (Lift.new L hg (Nw.bp w))
theorem zb9 (L:List Value) (ho:o.op=.box t x) (hx:ev f x=v) (hc:v.cells=cs) {K:Value->World->Prop}
  (hk:∀ g w',Blk w' g t cs->Nw w (bp g)->w.grownBy w' none->Lift w w' L (bp g :: L)->K (bp g) w'):Stp P o f w K:=by
 subst hc
 exact stp_box ho hx fun w' hB hg=>hk _ w' hB (Nw.bp w) hg (Lift.new L hg (Nw.bp w))
theorem zdu (L1 L2:List Value) (ho:o.op=.store e x y) (hs:∀ w,(Go.sizeOf e).run P w=.ok 1 w) (hx:ev f x=bp g) (hy:ev f y=u) (h:Blk w g T #[u0]) (hc:u.oneCell'=true)
  {K:Value->World->Prop} (hk:∀ w',Blk w' g T #[u]->Gr w w' (bp g)->Lift w w' (L1 ++ bp g :: L2) (L1 ++ bp g :: L2)->K undef w'):Stp P o f w K :=
 zdg ho hs hx hy h (Nat.zero_lt_one) hc fun w' hB hg=>hk w' hB (Gr.of hg) (Lift.own L1 L2 (Gr.of hg) (Nx.refl _ _))
theorem zjz {pw:List UInt8} {lg:List Int} {T:TypeId} {w:World} {L:List Value} {v:Value} {b:Bool} (h:FdT pw lg T w L v b):v.cells=#[v]:=by
 rcases h with ⟨_,rfl⟩ | ⟨_,k,rfl,_⟩ <;> rfl
theorem cells_own {α:Type} {R:World->List Value->Value->α->Prop} {w:World} {L:List Value} {e:TypeId} {v:Value} {l:List α} (h:OwK R w L e v l):v.cells=#[v]:=by
 obtain ⟨us,h,_⟩:=h
 rcases h with ⟨p,rfl,_⟩ | ⟨g,cap,rfl,_⟩ <;> rfl
theorem oc_own {α:Type} {R:World->List Value->Value->α->Prop} {w:World} {L:List Value} {e:TypeId} {v:Value} {l:List α} (h:OwK R w L e v l):v.oneCell'=true:=by
 obtain ⟨us,h,_⟩:=h
 rcases h with ⟨p,rfl,_⟩ | ⟨g,cap,rfl,_⟩ <;> rfl
theorem FdT.tn {pw:List UInt8} {lg:List Int} {T:TypeId} {B:Nat} {w w':World} {L:List Value} {v:Value} {b:Bool} (h:FdT pw lg T w L v b) (t:Tn B w w'):FdT pw lg T w' L v b:=h.lift (t.lift L)
end
theorem zgq {P:Program} {o:Oper} {f:Nat->Value} {g:FuncId} {xs:Array Operand} {vs:List Value} (ho:o.op=.makeFunc (.func g) #[] xs) (hx:xs.toList.map (ev f)=vs):Qa P o f (.func (.func g) #[] vs.toArray):=by
 intro w
 have hxs:xs.map (ev f)=vs.toArray:=by subst hx;apply Array.ext';simp
 simp [execOp,ho,hxs,Instr.makeFunc]
section
variable {P : Program} {fn : Func} {n : Nat} {R : Ending → World → Prop} {f : Nat → Value} {w : World} {D t u s : Nat}
theorem Tn.put {B:Nat} (hK:w.heap[D]?=some (.deferred (some []))) (hB:B<=D) (o:Obj):Tn B w (w.putObj D o) :=
 ⟨some D,grownBy_putObj' w D o,fun r e=>by cases e;exact ⟨hB,_,hK,rfl⟩⟩
theorem rtm1 (v:Value) (hr:fn.results=#[.tmp t]) (ht:Nat.blt t n=true) (hv:f t=v) (hD:f n=bp D) (hK:w.heap[D]?=some (.deferred (some []))) (h:R (.returned v) (w.putObj D (.deferred none))):Rt P fn n R .ret f w :=
 .inr (.inl ⟨D,hD,hK,v,by rw [results_tmp hr,zeo n f t ht,hv],h⟩)
theorem rtm2 (v1 v2:Value) (hr:fn.results=#[.tmp t,.tmp u]) (ht:Nat.blt t n=true) (hu:Nat.blt u n=true) (hv1:f t=v1) (hv2:f u=v2) (hD:f n=bp D) (hK:w.heap[D]?=some (.deferred (some []))) (h:R (.returned (.tuple #[v1,v2])) (w.putObj D (.deferred none))):Rt P fn n R .ret f w :=
 .inr (.inl ⟨D,hD,hK,_,by rw [results_tmp2 hr,zeo n f t ht,zeo n f u hu,hv1,hv2],h⟩)
theorem rtm3 (v1 v2 v3:Value) (hr:fn.results=#[.tmp t,.tmp u,.tmp s]) (ht:Nat.blt t n=true) (hu:Nat.blt u n=true) (hs:Nat.blt s n=true) (hv1:f t=v1) (hv2:f u=v2) (hv3:f s=v3) (hD:f n=bp D) (hK:w.heap[D]?=some (.deferred (some []))) (h:R (.returned (.tuple #[v1,v2,v3])) (w.putObj D (.deferred none))):Rt P fn n R .ret f w :=
 .inr (.inl ⟨D,hD,hK,_,by simp [results,hr,← Array.getD_eq_getD_getElem?,zeo n f t ht,zeo n f u hu,zeo n f s hs,hv1,hv2,hv3],h⟩)
theorem rtmm2 {D':Nat} (v1 v2:Value) (hr:fn.results=#[.tmp t,.tmp u]) (ht:Nat.blt t n=true) (hu:Nat.blt u n=true) (hv1:f t=v1) (hv2:f u=v2) (hD:f n=mk2 D D') (hne:D≠D') (hK:w.heap[D]?=some (.deferred (some []))) (hK':w.heap[D']?=some (.deferred (some []))) (h:R (.returned (.tuple #[v1,v2])) ((w.putObj D (.deferred none)).putObj D' (.deferred none))):Rt P fn n R .ret f w :=
 .inr (.inr ⟨D,D',hD,hne,hK,hK',_,by rw [results_tmp2 hr,zeo n f t ht,zeo n f u hu,hv1,hv2],h⟩)
theorem Tn.put2 {B D':Nat} (hK:w.heap[D]?=some (.deferred (some []))) (hK':w.heap[D']?=some (.deferred (some []))) (hne:D≠D') (hB:B<=D') (o o':Obj):Tn B (w.putObj D o) ((w.putObj D o).putObj D' o') :=
 Tn.put (by rw [World.putObj_heap_other (Ne.symm hne)];exact hK') hB o'
end
end Gk

/- Maps from bytes to bools: made, written, read, counted. No condition. -/
namespace Gk
open Go Go.RowKit
def mput (m:List (UInt8×Bool)) (k:UInt8) (v:Bool):List (UInt8×Bool):=if k∈m.map (·.1) then m.map (fun p=>if p.1=k then (p.1,v) else p) else m ++ [(k,v)]
abbrev mp (g:Nat):Value:=.map (some g)
def Mp (w:World) (g:Nat) (m:List (UInt8×Bool)):Prop :=
 ∃ es clock,w.heap[g]?=some (.map es clock)/\es.toList.map (fun e=>(e.key,e.val))=m.map (fun p=>(u8 p.1,Value.bool p.2))/\(m.map (·.1)).Nodup
theorem Mp.lt {w:World} {g:Nat} {m:List (UInt8×Bool)} (h:Mp w g m):g<w.heap.size:=by
 obtain ⟨es,c,h,_⟩:=h;exact zbp h
theorem Mp.ext {w w':World} {g:Nat} {m:List (UInt8×Bool)} (h:Mp w g m) (x:Ext w w'):Mp w' g m:=by
 have hl:=h.lt
 obtain ⟨es,c,h1,h2⟩:=h
 exact ⟨es,c,(x.blk g hl).trans h1,h2⟩
theorem Nw.mp (w:World):Nw w (mp w.heap.size):=fun k e=>by
 have e':w.heap.size=k:=Option.some.inj (hs_map e)
 omega
theorem Mp.keys {w:World} {g:Nat} {m:List (UInt8×Bool)} {es:Array MapEntry} (h:es.toList.map (fun e=>(e.key,e.val))=m.map (fun p=>(u8 p.1,Value.bool p.2))):∀ x∈es.toList,∃ p∈m,x.key=u8 p.1/\x.val=.bool p.2:=by
 intro x hx
 have h1:(x.key,x.val)∈es.toList.map (fun e=>(e.key,e.val)):=List.mem_map.2 ⟨x,hx,rfl⟩
 rw [h] at h1
 obtain ⟨p,hp,e⟩:=List.mem_map.1 h1
 simp only [Prod.mk.injEq] at e
 exact ⟨p,hp,e.1.symm,e.2.symm⟩
theorem u8_inj {a b:UInt8} (h:u8 a=u8 b):a=b:=by
 simp only [u8,Value.int.injEq,true_and] at h
 exact UInt8.toNat_inj.1 (by omega)
theorem isKey_u8 (a:UInt8):MapKept.IsKey (.int .u8) (u8 a):=rfl
theorem Mp.find {m:List (UInt8×Bool)} {es:Array MapEntry} (h:es.toList.map (fun e=>(e.key,e.val))=m.map (fun p=>(u8 p.1,Value.bool p.2))) (k:UInt8) :
  (Instr.findNow (.int .u8) (u8 k) es.toList 0=some none/\k ∉ m.map (·.1))∨∃ j e p,Instr.findNow (.int .u8) (u8 k) es.toList 0=some (some (j,.bool p.2))/\es[j]?=some e/\e.key=u8 k/\m[j]?=some p/\p.1=k:=by
 have hks:∀ x∈es.toList,MapKept.IsKey (.int .u8) x.key:=fun x hx=>by
  obtain ⟨p,_,e,_⟩:=Mp.keys (w:=default) (g:=0) h x hx
  rw [e];rfl
 rcases MapKept.findNow_spec (isKey_u8 k) es.toList 0 hks with ⟨h1,h2⟩ | ⟨j,e,h1,h2,h3⟩
 ·refine .inl ⟨h1,fun hk=>?_⟩
  obtain ⟨p,hp,rfl⟩:=List.mem_map.1 hk
  have h4:(u8 p.1,Value.bool p.2)∈es.toList.map (fun e=>(e.key,e.val)):=by rw [h];exact List.mem_map.2 ⟨p,hp,rfl⟩
  obtain ⟨x,hx,e⟩:=List.mem_map.1 h4
  simp only [Prod.mk.injEq] at e
  exact h2 x hx e.1
 ·have h4:=congrArg (·[j]?) h
  simp only [List.getElem?_map,h2,Option.map_some] at h4
  cases hm:m[j]? with
  | none=>rw [hm] at h4;cases h4
  | some p =>
   rw [hm] at h4
   simp only [Option.map_some,Option.some.injEq,Prod.mk.injEq] at h4
   refine .inr ⟨j,e,p,?_,by simpa using h2,h3,hm,?_⟩
   ·rw [h1,h4.2,Nat.zero_add]
   ·exact u8_inj (h4.1.symm.trans h3)
theorem nd_inj {m:List (UInt8×Bool)} (hn:(m.map (·.1)).Nodup) {i j:Nat} {p q:UInt8×Bool} (hi:m[i]?=some p) (hj:m[j]?=some q) (e:p.1=q.1):i=j:=by
 obtain ⟨hil,hip⟩:=List.getElem?_eq_some_iff.1 hi
 obtain ⟨hjl,hjq⟩:=List.getElem?_eq_some_iff.1 hj
 have h:=List.pairwise_iff_getElem.1 hn
 rcases Nat.lt_trichotomy i j with h1 | h1 | h1
 ·exact (h i j (by simpa using hil) (by simpa using hjl) h1 (by simp [hip,hjq,e])).elim
 ·exact h1
 ·exact (h j i (by simpa using hjl) (by simpa using hil) h1 (by simp [hip,hjq,e])).elim
theorem mput_at {m:List (UInt8×Bool)} (hn:(m.map (·.1)).Nodup) {j:Nat} {p:UInt8×Bool} (hj:m[j]?=some p) (v:Bool):m.map (fun q=>if q.1=p.1 then (q.1,v) else q)=m.set j (p.1,v):=by
 apply List.ext_getElem?
 intro i
 obtain ⟨hjl,hjp⟩:=List.getElem?_eq_some_iff.1 hj
 rw [List.getElem?_map,List.getElem?_set]
 by_cases hij:j=i
 ·subst hij
  rw [hj,if_pos rfl,if_pos hjl];simp
 ·rw [if_neg hij]
  cases hi:m[i]? with
  | none=>rfl
  | some q =>
   obtain ⟨hil,hiq⟩:=List.getElem?_eq_some_iff.1 hi
   have:q.1≠p.1:=fun e=>hij (nd_inj hn hj hi e.symm)
   simp [this]
theorem mput_nodup {m:List (UInt8×Bool)} (hn:(m.map (·.1)).Nodup) (k:UInt8) (v:Bool):((mput m k v).map (·.1)).Nodup:=by
 unfold mput
 split
 ·rw [List.map_map]
  have:((fun x:UInt8×Bool=>x.1) ∘ fun p=>if p.1=k then (p.1,v) else p)=(fun x=>x.1):=by
   funext p;simp only [Function.comp];split <;> rfl
  rw [this];exact hn
 ·rename_i hk
  rw [List.map_append,List.nodup_append]
  refine ⟨hn,by simp,?_⟩
  intro a ha b hb e
  simp only [List.map_cons,List.map_nil,List.mem_singleton] at hb
  subst hb;subst e;exact hk ha
section
variable {P : Program} {f : Nat → Value} {w : World} {o : Oper} {x y z : Operand} {t kt et : TypeId} {g : Nat} {m : List (UInt8 × Bool)} {k : UInt8} {b : Bool}
theorem stp_makeMap (L:List Value) (ho:o.op=.makeMap t none) {K:Value->World->Prop}
  (hk:∀ g w',Mp w' g []->Nw w (mp g)->w.grownBy w' none->Lift w w' L (mp g :: L)->K (mp g) w'):Stp P o f w K:=by
 have hg:=World.grownBy_alloc w (.map #[] 0) none
 refine zc5 (w':=w.alloc (.map #[] 0)) (v:=mp w.heap.size) ?_ (hk _ _ ⟨#[],0,alloc_new w _,by simp,by simp⟩ (Nw.mp w) hg (Lift.new L hg (Nw.mp w)))
 simp [execOp,ho,Instr.makeMap,newObj,Sem.run]
theorem stp_mapUpdate (L1 L2:List Value) (ho:o.op=.mapUpdate t x y z∨o.op=.insert t x y z) (ht:P.underlying t=some (.map kt et)) (hkt:P.underlying kt=some (.int .u8)) (hx:ev f x=mp g) (hy:ev f y=u8 k) (hz:ev f z=.bool b) (h:Mp w g m)
  {K:Value->World->Prop} (hk:∀ w',Mp w' g (mput m k b)->Gr w w' (mp g)->Lift w w' (L1 ++ mp g :: L2) (L1 ++ mp g :: L2)->K undef w'):Stp P o f w K:=by
 obtain ⟨es,c,hb,he,hn⟩:=h
 have key:∀ es' c',es'.toList.map (fun e=>(e.key,e.val))=(mput m k b).map (fun p=>(u8 p.1,Value.bool p.2))->(Instr.mapUpdate t (mp g) (u8 k) (.bool b)).run P w=.ok () (w.putObj g (.map es' c'))->Stp P o f w K:=by
  intro es' c' he' hr
  have hg:=grownBy_putObj' w g (.map es' c')
  refine zh6 (w':=w.putObj g (.map es' c')) ?_ (hk _ ⟨es',c',World.putObj_heap_same (zbp hb),he',mput_nodup hn k b⟩ (Gr.of hg) (Lift.own L1 L2 (Gr.of hg) (Nx.refl _ _)))
  rcases ho with ho | ho
  ·simp only [execOp,ho,hx,hy,hz,Sem.run_bind,hr,Result.andThen_ok]
   rfl
  ·simp only [execOp,ho,hx,hy,hz,Sem.run_bind,hr,Result.andThen_ok]
   rfl
 rcases Mp.find he k with ⟨h1,h2⟩ | ⟨j,e,p,h1,h2,h3,h4,h5⟩
 ·refine key (es.push { key:=u8 k,val:=.bool b,born:=c }) (c+1) ?_ ?_
  ·unfold mput
   rw [if_neg h2]
   simp only [Array.toList_push,List.map_append,he,List.map_cons,List.map_nil]
  ·simp [Instr.mapUpdate,run_underlying ht,MapKept.run_getObj_map hb,MapKept.run_checkKey hkt (isKey_u8 k),MapKept.run_findKey hkt h1,MapKept.run_setObj_map _ hb,Result.andThen,World.putObj]
 ·subst h5
  refine key (es.modify j fun e=>{ e with key:=u8 p.1,val:=.bool b }) c ?_ ?_
  ·unfold mput
   rw [if_pos (List.mem_map.2 ⟨p,List.mem_of_getElem? h4,rfl⟩),mput_at hn h4]
   apply List.ext_getElem?
   intro i
   have hi:=congrArg (·[i]?) he
   simp only [List.getElem?_map,Array.getElem?_toList] at hi
   simp only [List.getElem?_map,Array.getElem?_toList,Array.getElem?_modify,List.getElem?_set]
   by_cases hij:j=i
   ·subst hij
    obtain ⟨hl,_⟩:=List.getElem?_eq_some_iff.1 h4
    simp [h2,hl]
   ·simp only [if_neg hij];exact hi
  ·simp [Instr.mapUpdate,run_underlying ht,MapKept.run_getObj_map hb,MapKept.run_checkKey hkt (isKey_u8 p.1),MapKept.run_findKey hkt h1,h2,h3,MapKept.run_keyThatStays (isKey_u8 p.1),MapKept.run_setObj_map _ hb,Result.andThen,World.putObj]
theorem q_lenMap (ho:o.op=.call ⟨.builtin .len,#[x],#[t]⟩) (ht:P.underlying t=some (.map kt et)) (hx:ev f x=mp g) (h:Mp w g m):Qt P o f w (i64 (m.length:Int)):=by
 intro w' hE
 obtain ⟨es,c,hb,he,_⟩:=h.ext hE
 have hl:es.size=m.length:=by have:=congrArg List.length he;simpa using this
 rw [zby _ ho]
 simp [builtin,Builtin.len_,run_underlying ht,hx,MapKept.run_getObj_map hb,Result.andThen,goInt,hl,i64]
end
end Gk

/- slices.IndexFunc and slices.ContainsFunc, with a function that has captured what it looks at. No condition but the length. -/
namespace Gk
open Go Go.Proofs
def zjl {α:Type} (t:α->Option Bool):Int->List α->Option Int
 | _,[]=>some (-1)
 | i,x :: xs=>(t x).bind fun b=>if b=true then some i else zjl t (i+1) xs
def anyO {α:Type} (t:α->Option Bool):List α->Option Bool
 | []=>some false
 | x :: xs=>(t x).bind fun b=>if b=true then some true else anyO t xs
theorem anyO_find {α:Type} (t:α->Option Bool):∀ (l:List α) {i:Int} (hi:0<=i) {r:Bool},anyO t l=some r->∃ j,zjl t i l=some j/\decide (0<=j)=r
 | [],i,_,r,h=>⟨-1,rfl,by simpa [anyO] using h⟩
 | x :: xs,i,hi,r,h=>by
  unfold anyO at h
  obtain ⟨b,hb,h⟩:=Option.bind_eq_some_iff.1 h
  cases b with
  | true=>exact ⟨i,by unfold zjl;rw [hb];rfl,by simpa [hi] using h⟩
  | false =>
   obtain ⟨j,h1,h2⟩:=anyO_find t xs (i:=i+1) (by omega) (by simpa using h)
   exact ⟨j,by unfold zjl;rw [hb];simpa using h1,h2⟩
section
variable {P : Program} {o : Oper} {f : Nat → Value} {w : World}
theorem stp_callF {g : FuncId} {fn : Func} {y : Operand} {xs : Array Operand} {ats : Array TypeId} {vs lb : List Value} {R' : Ending -> World -> Prop} (hf : P.funcs[g]? = some fn) (hn : (fn.name == "runtime.NumGoroutine") = false) (hb : fn.body.isNone = false)
  (ho : o.op = .call ⟨.value y, xs, ats⟩) (hy : ev f y = .func (.func g) #[] lb.toArray) (hx : xs.toList.map (ev f) = vs) (hc : Calls P g (vs ++ lb).toArray w R') {K : Value -> World -> Prop} (hk : ∀ e w', R' e w' -> ∃ v, e = .returned v /\ K v w') : Stp P o f w K := by
 have hxs : xs.map (ev f) = vs.toArray := by subst hx; apply Array.ext'; simp
 unfold Stp
 have : (execOp (ev f) o).run P w = .ok (.enter g (vs ++ lb).toArray) w := by
  have h1 := enters (P := P) hf hn hb (vs ++ lb).toArray w
  unfold execOp
  rw [ho]
  dsimp only
  simp only [resolve, hy, Deferred.ofValue, hxs, Sem.run_bind, Sem.run_pure, Result.andThen_ok, invoke]
  simpa using h1
 rw [this]
 exact hc.mono hk
end
/-- slices.IndexFunc over [][]byte. -/
theorem IndexFunc_rows_calls (v : Value) (l : List (List UInt8)) (gf : Nat) (fn : Func) (hf : Tryz.prog.funcs[gf]? = some fn) (hn : (fn.name == "runtime.NumGoroutine") = false) (hb : fn.body.isNone = false) (lb : List Value) (t : List UInt8 -> Option Bool) (r : Int) (w0 : World) (hl : Rw w0 [] v l) (hlen : l.length < 9223372036854775808) (H : zjl t 0 l = some r)
  (hcl : ∀ x ∈ l, ∀ (b : Bool) (w' : World), Ext w0 w' -> t x = some b -> ∀ u, By w' [] u x -> Calls Tryz.prog gf ([u] ++ lb).toArray w' (fun e w'' => e = .returned (.bool b) /\ Ext w' w'')) :
  Calls Tryz.prog 64 [v, .func (.func gf) #[] lb.toArray].toArray w0 (fun e w' => e = .returned (i64 r) /\ Ext w0 w') := by
 have hE : Ext w0 w0 := Ext.refl w0; refine zai (n := 19) Tryz.func64 rfl rfl rfl ?_; refine W_seq <| W_rg <| av (i64 0) rfl rfl <| wnt <| W_seq <| ?_; refine W_mid (fun f w => f 19 = undef /\ r = -1 /\ Ext w0 w) ?_ ?_
 ·refine W_seq <| W_rg <| mv v rfl rfl <| wa rfl (q_len rfl T29.sl rfl hl) <| mv (i64 0) rfl rfl <| wnt <| zac <| ?_; refine W_loopG (fun k f w => f 19 = undef /\ f 0 = v /\ f 1 = .func (.func gf) #[] lb.toArray /\ f 6 = v /\ f 7 = i64 (l.length : Int) /\ f 8 = i64 ((l.length - k : Nat) : Int) /\ k <= l.length /\ zjl t ((l.length - k : Nat) : Int) (l.drop (l.length - k)) = some r /\ Ext w0 w) l.length ?_ ?_
  ·exact ⟨rfl, rfl, rfl, rfl, rfl, by rw [Nat.sub_self]; rfl, Nat.le_refl _, by rw [Nat.sub_self]; exact H, hE⟩
  rintro k f w ⟨hm, s0, s1, s6, s7, s8, hk, hfa, e1⟩; refine W_seq <| W_rg <| wa rfl (q_ltI rfl s8 s7) <| wnt <| W_seq <| ?_; refine zam _ rfl rfl (fun hbb => ?_) (fun hbb => ?_)
  ·have hk1 : l.length - k < l.length := by have := of_decide_eq_true hbb; omega
   have hget : l[l.length - k]? = some l[l.length - k] := by simp [hk1]
   have hidx : idx l ((l.length - k : Nat) : Int) = some l[l.length - k] := by simp [idx, hk1]
   have hdrop : l.drop (l.length - k) = l[l.length - k] :: l.drop (l.length - k + 1) := List.drop_eq_getElem_cons hk1; rw [hdrop] at hfa; unfold zjl at hfa; obtain ⟨b, hb1, hfa⟩ := bsi hfa; refine zae <| W_th <| W_seq <| zac <| W_seq <| W_rg <| mv (i64 ((l.length - k : Nat) : Int)) rfl s8 <| av (i64 ((l.length - k : Nat) : Int)) rfl rfl <| ?_; refine wnt <| W_seq <| W_rg <| mv (.func (.func gf) #[] lb.toArray) rfl s1 <| mv v rfl s0 <| mv (i64 ((l.length - k : Nat) : Int)) rfl rfl <| wa rfl (q_adr rfl T29 rfl rfl hl hidx) <| ?_; refine zdr rfl rfl rfl T29 rfl hl hidx e1 (fun u hu => ?_); refine wls rfl rfl (stp_callF (vs := [u]) hf hn hb rfl rfl (ar1 rfl) (hcl _ (List.getElem_mem hk1) b _ e1 hb1 u (hu.lift (le_ e1))) ?_); rintro _ w2 ⟨rfl, x2⟩; refine ⟨_, rfl, ?_⟩; have e2 := e1.trans x2; refine wnt ?_; refine zam b rfl rfl (fun hbt => ?_) (fun hbf => ?_)
   ·rw [hbt, if_pos rfl] at hfa; obtain rfl := osi hfa; refine W_seq ?_; refine W_reg (by kernel_rfl) ?_; refine wla rfl rfl (zbd (v := i64 ((l.length - k : Nat) : Int)) rfl rfl) ?_; refine wla rfl rfl (zat (v := i64 ((l.length - k : Nat) : Int)) rfl rfl) ?_; refine zag ?_; refine W_th ?_; refine W_ret ?_; refine bk_r ?_; refine th_r ?_; refine th_r ?_; refine bk_r ?_; refine th_r ?_; refine rt1 _ rfl rfl rfl hm ?_; exact ⟨rfl, e2⟩
   rw [hbf, if_neg (by decide)] at hfa; refine zae ?_; refine bk_n ?_; refine W_th ?_; refine W_reg (by kernel_rfl) ?_; refine wla rfl rfl (zak rfl s8 rfl) ?_
   have en : wI (((l.length - k : Nat) : Int) + 1) = ((l.length - (k - 1) : Nat) : Int) := by rw [wI_of (by omega) (by omega)]; omega
   rw [en]; refine wla rfl rfl (zbd (v := i64 ((l.length - (k - 1) : Nat) : Int)) rfl rfl) ?_; refine zag ?_; refine ⟨k - 1, by omega, hm, s0, s1, s6, s7, rfl, by omega, ?_, e2⟩; rw [show l.length - (k - 1) = l.length - k + 1 by omega]; rw [show ((l.length - k : Nat) : Int) + 1 = ((l.length - k + 1 : Nat) : Int) by omega] at hfa; exact hfa
  have hk0 : k = 0 := by have := of_decide_eq_false hbb; omega
  subst hk0
  rw [Nat.sub_zero, List.drop_length] at hfa; have hr : (-1 : Int) = r := osi hfa; refine zar ?_; refine th_x ?_; refine th_x ?_; refine bk_x ?_; exact ⟨hm, hr.symm, e1⟩
 rintro f w ⟨hm, hr, e1⟩
 subst hr
 refine W_th <| W_seq <| W_rg <| av (i64 (-1)) rfl rfl <| wnt <| W_ret <| ?_; refine rt1 (i64 (-1)) rfl rfl rfl hm ?_; exact ⟨rfl, e1⟩
/-- slices.ContainsFunc over [][]byte. -/
theorem zcc (v : Value) (l : List (List UInt8)) (gf : Nat) (fn : Func) (hf : Tryz.prog.funcs[gf]? = some fn) (hn : (fn.name == "runtime.NumGoroutine") = false) (hb : fn.body.isNone = false) (lb : List Value) (t : List UInt8 -> Option Bool) (r : Bool) (w0 : World) (hl : Rw w0 [] v l) (hlen : l.length < 9223372036854775808) (H : anyO t l = some r)
  (hcl : ∀ x ∈ l, ∀ (b : Bool) (w' : World), Ext w0 w' -> t x = some b -> ∀ u, By w' [] u x -> Calls Tryz.prog gf ([u] ++ lb).toArray w' (fun e w'' => e = .returned (.bool b) /\ Ext w' w'')) :
  Calls Tryz.prog 34 [v, .func (.func gf) #[] lb.toArray].toArray w0 (fun e w' => e = .returned (.bool r) /\ Ext w0 w') := by
 obtain ⟨j, h1, h2⟩ := anyO_find (i := 0) t l (by decide) H; refine zai (n := 9) Tryz.func34 rfl rfl rfl ?_; refine W_seq <| W_rg <| av (.bool false) rfl rfl <| wnt <| W_seq <| W_rg <| mv v rfl rfl <| mv (.func (.func gf) #[] lb.toArray) rfl rfl <| ?_; refine wls rfl rfl (zab (vs := [v, .func (.func gf) #[] lb.toArray]) Tryz.func64 rfl rfl rfl (ar2 rfl rfl) (IndexFunc_rows_calls v l gf fn hf hn hb lb t j _ hl hlen h1 hcl) ?_); rintro _ w2 ⟨rfl, x2⟩; refine ⟨_, rfl, ?_⟩; refine wa rfl (q_geI rfl rfl rfl) <| av (.bool (decide (0 <= j))) rfl rfl <| wnt <| W_ret <| ?_; refine rt1 _ rfl rfl rfl rfl ?_; rw [h2]; exact ⟨rfl, x2⟩
/-- slices.IndexFunc over []int. -/
theorem IndexFunc_ints_calls (v : Value) (l : List (Int)) (gf : Nat) (fn : Func) (hf : Tryz.prog.funcs[gf]? = some fn) (hn : (fn.name == "runtime.NumGoroutine") = false) (hb : fn.body.isNone = false) (lb : List Value) (t : Int -> Option Bool) (r : Int) (w0 : World) (hl : In w0 [] v l) (hlen : l.length < 9223372036854775808) (H : zjl t 0 l = some r)
  (hcl : ∀ x ∈ l, ∀ (b : Bool) (w' : World), Ext w0 w' -> t x = some b -> Calls Tryz.prog gf ([i64 x] ++ lb).toArray w' (fun e w'' => e = .returned (.bool b) /\ Ext w' w'')) :
  Calls Tryz.prog 63 [v, .func (.func gf) #[] lb.toArray].toArray w0 (fun e w' => e = .returned (i64 r) /\ Ext w0 w') := by
 have hE : Ext w0 w0 := Ext.refl w0; refine zai (n := 19) Tryz.func63 rfl rfl rfl ?_; refine W_seq <| W_rg <| av (i64 0) rfl rfl <| wnt <| W_seq <| ?_; refine W_mid (fun f w => f 19 = undef /\ r = -1 /\ Ext w0 w) ?_ ?_
 ·refine W_seq <| W_rg <| mv v rfl rfl <| wa rfl (q_len rfl T35.sl rfl hl) <| mv (i64 0) rfl rfl <| wnt <| zac <| ?_; refine W_loopG (fun k f w => f 19 = undef /\ f 0 = v /\ f 1 = .func (.func gf) #[] lb.toArray /\ f 6 = v /\ f 7 = i64 (l.length : Int) /\ f 8 = i64 ((l.length - k : Nat) : Int) /\ k <= l.length /\ zjl t ((l.length - k : Nat) : Int) (l.drop (l.length - k)) = some r /\ Ext w0 w) l.length ?_ ?_
  ·exact ⟨rfl, rfl, rfl, rfl, rfl, by rw [Nat.sub_self]; rfl, Nat.le_refl _, by rw [Nat.sub_self]; exact H, hE⟩
  rintro k f w ⟨hm, s0, s1, s6, s7, s8, hk, hfa, e1⟩; refine W_seq <| W_rg <| wa rfl (q_ltI rfl s8 s7) <| wnt <| W_seq <| ?_; refine zam _ rfl rfl (fun hbb => ?_) (fun hbb => ?_)
  ·have hk1 : l.length - k < l.length := by have := of_decide_eq_true hbb; omega
   have hget : l[l.length - k]? = some l[l.length - k] := by simp [hk1]
   have hidx : idx l ((l.length - k : Nat) : Int) = some l[l.length - k] := by simp [idx, hk1]
   have hdrop : l.drop (l.length - k) = l[l.length - k] :: l.drop (l.length - k + 1) := List.drop_eq_getElem_cons hk1; rw [hdrop] at hfa; unfold zjl at hfa; obtain ⟨b, hb1, hfa⟩ := bsi hfa; refine zae <| W_th <| W_seq <| zac <| W_seq <| W_rg <| mv (i64 ((l.length - k : Nat) : Int)) rfl s8 <| av (i64 ((l.length - k : Nat) : Int)) rfl rfl <| ?_; refine wnt <| W_seq <| W_rg <| mv (.func (.func gf) #[] lb.toArray) rfl s1 <| mv v rfl s0 <| mv (i64 ((l.length - k : Nat) : Int)) rfl rfl <| wa rfl (q_adr rfl T35 rfl rfl hl hidx) <| ?_; have hl1 := hl.lift (le_ e1); refine wq rfl (zao rfl T35 rfl hl1 hidx) ?_; refine wls rfl rfl (stp_callF (vs := [i64 l[l.length - k]]) hf hn hb rfl rfl (ar1 rfl) (hcl _ (List.getElem_mem hk1) b _ e1 hb1) ?_); rintro _ w2 ⟨rfl, x2⟩; refine ⟨_, rfl, ?_⟩; have e2 := e1.trans x2; refine wnt ?_; refine zam b rfl rfl (fun hbt => ?_) (fun hbf => ?_)
   ·rw [hbt, if_pos rfl] at hfa; obtain rfl := osi hfa; refine W_seq ?_; refine W_reg (by kernel_rfl) ?_; refine wla rfl rfl (zbd (v := i64 ((l.length - k : Nat) : Int)) rfl rfl) ?_; refine wla rfl rfl (zat (v := i64 ((l.length - k : Nat) : Int)) rfl rfl) ?_; refine zag ?_; refine W_th ?_; refine W_ret ?_; refine bk_r ?_; refine th_r ?_; refine th_r ?_; refine bk_r ?_; refine th_r ?_; refine rt1 _ rfl rfl rfl hm ?_; exact ⟨rfl, e2⟩
   rw [hbf, if_neg (by decide)] at hfa; refine zae ?_; refine bk_n ?_; refine W_th ?_; refine W_reg (by kernel_rfl) ?_; refine wla rfl rfl (zak rfl s8 rfl) ?_
   have en : wI (((l.length - k : Nat) : Int) + 1) = ((l.length - (k - 1) : Nat) : Int) := by rw [wI_of (by omega) (by omega)]; omega
   rw [en]; refine wla rfl rfl (zbd (v := i64 ((l.length - (k - 1) : Nat) : Int)) rfl rfl) ?_; refine zag ?_; refine ⟨k - 1, by omega, hm, s0, s1, s6, s7, rfl, by omega, ?_, e2⟩; rw [show l.length - (k - 1) = l.length - k + 1 by omega]; rw [show ((l.length - k : Nat) : Int) + 1 = ((l.length - k + 1 : Nat) : Int) by omega] at hfa; exact hfa
  have hk0 : k = 0 := by have := of_decide_eq_false hbb; omega
  subst hk0
  rw [Nat.sub_zero, List.drop_length] at hfa; have hr : (-1 : Int) = r := osi hfa; refine zar ?_; refine th_x ?_; refine th_x ?_; refine bk_x ?_; exact ⟨hm, hr.symm, e1⟩
 rintro f w ⟨hm, hr, e1⟩
 subst hr
 refine W_th <| W_seq <| W_rg <| av (i64 (-1)) rfl rfl <| wnt <| W_ret <| ?_; refine rt1 (i64 (-1)) rfl rfl rfl hm ?_; exact ⟨rfl, e1⟩
/-- slices.ContainsFunc over []int. -/
theorem zka (v : Value) (l : List (Int)) (gf : Nat) (fn : Func) (hf : Tryz.prog.funcs[gf]? = some fn) (hn : (fn.name == "runtime.NumGoroutine") = false) (hb : fn.body.isNone = false) (lb : List Value) (t : Int -> Option Bool) (r : Bool) (w0 : World) (hl : In w0 [] v l) (hlen : l.length < 9223372036854775808) (H : anyO t l = some r)
  (hcl : ∀ x ∈ l, ∀ (b : Bool) (w' : World), Ext w0 w' -> t x = some b -> Calls Tryz.prog gf ([i64 x] ++ lb).toArray w' (fun e w'' => e = .returned (.bool b) /\ Ext w' w'')) :
  Calls Tryz.prog 32 [v, .func (.func gf) #[] lb.toArray].toArray w0 (fun e w' => e = .returned (.bool r) /\ Ext w0 w') := by
 obtain ⟨j, h1, h2⟩ := anyO_find (i := 0) t l (by decide) H; refine zai (n := 9) Tryz.func32 rfl rfl rfl ?_; refine W_seq <| W_rg <| av (.bool false) rfl rfl <| wnt <| W_seq <| W_rg <| mv v rfl rfl <| mv (.func (.func gf) #[] lb.toArray) rfl rfl <| ?_; refine wls rfl rfl (zab (vs := [v, .func (.func gf) #[] lb.toArray]) Tryz.func63 rfl rfl rfl (ar2 rfl rfl) (IndexFunc_ints_calls v l gf fn hf hn hb lb t j _ hl hlen h1 hcl) ?_); rintro _ w2 ⟨rfl, x2⟩; refine ⟨_, rfl, ?_⟩; refine wa rfl (q_geI rfl rfl rfl) <| av (.bool (decide (0 <= j))) rfl rfl <| wnt <| W_ret <| ?_; refine rt1 _ rfl rfl rfl rfl ?_; rw [h2]; exact ⟨rfl, x2⟩
/-- slices.IndexFunc over []byte. -/
theorem IndexFunc_bytes_calls (v : Value) (l : List (UInt8)) (gf : Nat) (fn : Func) (hf : Tryz.prog.funcs[gf]? = some fn) (hn : (fn.name == "runtime.NumGoroutine") = false) (hb : fn.body.isNone = false) (lb : List Value) (t : UInt8 -> Option Bool) (r : Int) (w0 : World) (hl : By w0 [] v l) (hlen : l.length < 9223372036854775808) (H : zjl t 0 l = some r)
  (hcl : ∀ x ∈ l, ∀ (b : Bool) (w' : World), Ext w0 w' -> t x = some b -> Calls Tryz.prog gf ([u8 x] ++ lb).toArray w' (fun e w'' => e = .returned (.bool b) /\ Ext w' w'')) :
  Calls Tryz.prog 130 [v, .func (.func gf) #[] lb.toArray].toArray w0 (fun e w' => e = .returned (i64 r) /\ Ext w0 w') := by
 have hE : Ext w0 w0 := Ext.refl w0; refine zai (n := 19) Tryz.func130 rfl rfl rfl ?_; refine W_seq <| W_rg <| av (i64 0) rfl rfl <| wnt <| W_seq <| ?_; refine W_mid (fun f w => f 19 = undef /\ r = -1 /\ Ext w0 w) ?_ ?_
 ·refine W_seq <| W_rg <| mv v rfl rfl <| wa rfl (q_len rfl T22.sl rfl hl) <| mv (i64 0) rfl rfl <| wnt <| zac <| ?_; refine W_loopG (fun k f w => f 19 = undef /\ f 0 = v /\ f 1 = .func (.func gf) #[] lb.toArray /\ f 6 = v /\ f 7 = i64 (l.length : Int) /\ f 8 = i64 ((l.length - k : Nat) : Int) /\ k <= l.length /\ zjl t ((l.length - k : Nat) : Int) (l.drop (l.length - k)) = some r /\ Ext w0 w) l.length ?_ ?_
  ·exact ⟨rfl, rfl, rfl, rfl, rfl, by rw [Nat.sub_self]; rfl, Nat.le_refl _, by rw [Nat.sub_self]; exact H, hE⟩
  rintro k f w ⟨hm, s0, s1, s6, s7, s8, hk, hfa, e1⟩; refine W_seq <| W_rg <| wa rfl (q_ltI rfl s8 s7) <| wnt <| W_seq <| ?_; refine zam _ rfl rfl (fun hbb => ?_) (fun hbb => ?_)
  ·have hk1 : l.length - k < l.length := by have := of_decide_eq_true hbb; omega
   have hget : l[l.length - k]? = some l[l.length - k] := by simp [hk1]
   have hidx : idx l ((l.length - k : Nat) : Int) = some l[l.length - k] := by simp [idx, hk1]
   have hdrop : l.drop (l.length - k) = l[l.length - k] :: l.drop (l.length - k + 1) := List.drop_eq_getElem_cons hk1; rw [hdrop] at hfa; unfold zjl at hfa; obtain ⟨b, hb1, hfa⟩ := bsi hfa; refine zae <| W_th <| W_seq <| zac <| W_seq <| W_rg <| mv (i64 ((l.length - k : Nat) : Int)) rfl s8 <| av (i64 ((l.length - k : Nat) : Int)) rfl rfl <| ?_; refine wnt <| W_seq <| W_rg <| mv (.func (.func gf) #[] lb.toArray) rfl s1 <| mv v rfl s0 <| mv (i64 ((l.length - k : Nat) : Int)) rfl rfl <| wa rfl (q_adr rfl T22 rfl rfl hl hidx) <| ?_; have hl1 := hl.lift (le_ e1); refine wq rfl (zao rfl T22 rfl hl1 hidx) ?_; refine wls rfl rfl (stp_callF (vs := [u8 l[l.length - k]]) hf hn hb rfl rfl (ar1 rfl) (hcl _ (List.getElem_mem hk1) b _ e1 hb1) ?_); rintro _ w2 ⟨rfl, x2⟩; refine ⟨_, rfl, ?_⟩; have e2 := e1.trans x2; refine wnt ?_; refine zam b rfl rfl (fun hbt => ?_) (fun hbf => ?_)
   ·rw [hbt, if_pos rfl] at hfa; obtain rfl := osi hfa; refine W_seq ?_; refine W_reg (by kernel_rfl) ?_; refine wla rfl rfl (zbd (v := i64 ((l.length - k : Nat) : Int)) rfl rfl) ?_; refine wla rfl rfl (zat (v := i64 ((l.length - k : Nat) : Int)) rfl rfl) ?_; refine zag ?_; refine W_th ?_; refine W_ret ?_; refine bk_r ?_; refine th_r ?_; refine th_r ?_; refine bk_r ?_; refine th_r ?_; refine rt1 _ rfl rfl rfl hm ?_; exact ⟨rfl, e2⟩
   rw [hbf, if_neg (by decide)] at hfa; refine zae ?_; refine bk_n ?_; refine W_th ?_; refine W_reg (by kernel_rfl) ?_; refine wla rfl rfl (zak rfl s8 rfl) ?_
   have en : wI (((l.length - k : Nat) : Int) + 1) = ((l.length - (k - 1) : Nat) : Int) := by rw [wI_of (by omega) (by omega)]; omega
   rw [en]; refine wla rfl rfl (zbd (v := i64 ((l.length - (k - 1) : Nat) : Int)) rfl rfl) ?_; refine zag ?_; refine ⟨k - 1, by omega, hm, s0, s1, s6, s7, rfl, by omega, ?_, e2⟩; rw [show l.length - (k - 1) = l.length - k + 1 by omega]; rw [show ((l.length - k : Nat) : Int) + 1 = ((l.length - k + 1 : Nat) : Int) by omega] at hfa; exact hfa
  have hk0 : k = 0 := by have := of_decide_eq_false hbb; omega
  subst hk0
  rw [Nat.sub_zero, List.drop_length] at hfa; have hr : (-1 : Int) = r := osi hfa; refine zar ?_; refine th_x ?_; refine th_x ?_; refine bk_x ?_; exact ⟨hm, hr.symm, e1⟩
 rintro f w ⟨hm, hr, e1⟩
 subst hr
 refine W_th <| W_seq <| W_rg <| av (i64 (-1)) rfl rfl <| wnt <| W_ret <| ?_; refine rt1 (i64 (-1)) rfl rfl rfl hm ?_; exact ⟨rfl, e1⟩
/-- slices.ContainsFunc over []byte. -/
theorem zi6 (v : Value) (l : List (UInt8)) (gf : Nat) (fn : Func) (hf : Tryz.prog.funcs[gf]? = some fn) (hn : (fn.name == "runtime.NumGoroutine") = false) (hb : fn.body.isNone = false) (lb : List Value) (t : UInt8 -> Option Bool) (r : Bool) (w0 : World) (hl : By w0 [] v l) (hlen : l.length < 9223372036854775808) (H : anyO t l = some r)
  (hcl : ∀ x ∈ l, ∀ (b : Bool) (w' : World), Ext w0 w' -> t x = some b -> Calls Tryz.prog gf ([u8 x] ++ lb).toArray w' (fun e w'' => e = .returned (.bool b) /\ Ext w' w'')) :
  Calls Tryz.prog 101 [v, .func (.func gf) #[] lb.toArray].toArray w0 (fun e w' => e = .returned (.bool r) /\ Ext w0 w') := by
 obtain ⟨j, h1, h2⟩ := anyO_find (i := 0) t l (by decide) H; refine zai (n := 9) Tryz.func101 rfl rfl rfl ?_; refine W_seq <| W_rg <| av (.bool false) rfl rfl <| wnt <| W_seq <| W_rg <| mv v rfl rfl <| mv (.func (.func gf) #[] lb.toArray) rfl rfl <| ?_; refine wls rfl rfl (zab (vs := [v, .func (.func gf) #[] lb.toArray]) Tryz.func130 rfl rfl rfl (ar2 rfl rfl) (IndexFunc_bytes_calls v l gf fn hf hn hb lb t j _ hl hlen h1 hcl) ?_); rintro _ w2 ⟨rfl, x2⟩; refine ⟨_, rfl, ?_⟩; refine wa rfl (q_geI rfl rfl rfl) <| av (.bool (decide (0 <= j))) rfl rfl <| wnt <| W_ret <| ?_; refine rt1 _ rfl rfl rfl rfl ?_; rw [h2]; exact ⟨rfl, x2⟩
end Gk

/- Rows that are owned with all that lies in them; matrices behind pointers. No condition. -/
namespace Gk
open Go Go.RowKit
def Apt (a b:Value):Prop:=∀ k,oB a=some k->oB b≠some k
theorem Apt.symm {a b:Value} (h:Apt a b):Apt b a:=fun k h1 h2=>h k h2 h1
def OwD (w:World) (e1 e2:TypeId) (G u:Value) (ls:List (List UInt8)):Prop :=
 ∃ us:List Value,G=.tuple (u :: us).toArray/\Ow w e1 u us/\us.length=ls.length/\(∀ (i:Nat) (h:i<us.length) (h':i<ls.length),OwK (Sc u8) w [] e2 us[i] ls[i])/\(u :: us).Pairwise Apt
theorem zd8 {u:Value} {us:List Value} {k:Nat}:Hs (.tuple (u :: us).toArray) k ↔ oB u=some k∨∃ x∈us,oB x=some k:=by
 constructor
 ·intro h
  obtain ⟨x,hx,e⟩:=hs_tup h
  simp only [List.mem_cons] at hx
  rcases hx with rfl | hx
  ·exact .inl e
  ·exact .inr ⟨x,hx,e⟩
 ·rintro (h | ⟨x,hx,h⟩)
  ·exact .inr ⟨_,rfl,u,by simp,h⟩
  ·exact .inr ⟨_,rfl,x,by simp [hx],h⟩
theorem OwK.ltO {α:Type} {R:World->List Value->Value->α->Prop} {w:World} {L:List Value} {e:TypeId} {v:Value} {l:List α} (h:OwK R w L e v l) {k:Nat} (hk:oB v=some k):k<w.heap.size:=h.lt k (.inl hk)
theorem OwD.lt {w:World} {e1 e2:TypeId} {G u:Value} {ls:List (List UInt8)} (h:OwD w e1 e2 G u ls):∀ k,Hs G k->k<w.heap.size:=by
 obtain ⟨us,rfl,h1,hl,h2,_⟩:=h
 intro k hk
 rcases zd8.1 hk with hk | ⟨x,hx,hk⟩
 ·exact h1.lt k (.inl hk)
 ·obtain ⟨i,hi,rfl⟩:=List.getElem_of_mem hx
  exact (h2 i hi (by omega)).ltO hk
theorem OwD.ltB {w:World} {e1 e2:TypeId} {G u:Value} {ls:List (List UInt8)} (h:OwD w e1 e2 G u ls):∀ k,Hs G k->k<w.heap.size:=h.lt
theorem OwD.ext {w w':World} {e1 e2:TypeId} {G u:Value} {ls:List (List UInt8)} (h:OwD w e1 e2 G u ls) (x:Ext w w'):OwD w' e1 e2 G u ls:=by
 obtain ⟨us,hG,h1,hl,h2,h3⟩:=h
 exact ⟨us,hG,h1.ext x,hl,fun i a b=>(h2 i a b).ext (Sc.stab _) x,h3⟩
theorem OwK.keptR {w w':World} {row:Option Nat} {e:TypeId} {v:Value} {l:List UInt8} (h:OwK (Sc u8) w [] e v l) (hg:w.grownBy w' row) (hne:∀ k,oB v=some k->row≠some k):OwK (Sc u8) w' [] e v l:=by
 obtain ⟨us,h1,h2,h3⟩:=h
 exact ⟨us,h1.kept hg hne,h2,h3⟩
theorem OwD.other {w w':World} {e1 e2:TypeId} {G u v:Value} {ls:List (List UInt8)} (h:OwD w e1 e2 G u ls) (hg:Gr w w' v) (hq:Nq G v):OwD w' e1 e2 G u ls:=by
 obtain ⟨us,rfl,h1,hl,h2,h3⟩:=h
 obtain ⟨row,hg,hr⟩:=hg
 refine ⟨us,rfl,h1.kept hg (fun k hk e=>hq k (zd8.2 (.inl hk)) (hr k e)),hl,fun i a b=>(h2 i a b).keptR hg (fun k hk e=>hq k (zd8.2 (.inr ⟨_,List.getElem_mem a,hk⟩)) (hr k e)),h3⟩
theorem OwD.nq {w:World} {e1 e2:TypeId} {G u v:Value} {ls:List (List UInt8)} (h:OwD w e1 e2 G u ls) (hn:Nw w v):Nq G v:=fun k hu hv=>by
 have:=h.lt k hu;have:=hn k hv;omega
theorem OwD.nxt {w:World} {e1 e2:TypeId} {G u v v':Value} {ls:List (List UInt8)} (h:OwD w e1 e2 G u ls) (hq:Nq G v) (hn:Nx w v v'):Nq G v':=fun k hu hv=>by
 rcases hn k hv with h1 | h1
 ·exact hq k hu h1
 ·have:=h.lt k hu;omega
theorem OwD.rw {w:World} {e1 e2:TypeId} {G u:Value} {ls:List (List UInt8)} (h:OwD w e1 e2 G u ls) (L:List Value) (ha:∀ k,Hs G k->Av L k):Rw w L u ls:=by
 obtain ⟨us,rfl,h1,hl,h2,_⟩:=h
 refine ⟨us,h1.sl L (fun k hk=>?_),hl,fun i a b=>((h2 i a b).scal L).slk (Sc.stab _) L (fun k hk=>?_) (fun _ h=>h)⟩
 ·rcases h1 with ⟨p,rfl,_⟩ | ⟨g,cap,rfl,_⟩ <;> exact ha k (zd8.2 (.inl (hs_sl hk)))
 ·obtain ⟨us',h4,_⟩:=h2 i a b
  refine ha k (zd8.2 (.inr ⟨_,List.getElem_mem a,?_⟩))
  rcases h4 with ⟨p,e,_⟩ | ⟨g,cap,e,_⟩ <;> rw [e] at hk ⊢ <;> exact hs_sl hk
theorem OwD.rd {w:World} {e1 e2:TypeId} {G u:Value} {ls:List (List UInt8)} (h:OwD w e1 e2 G u ls):Rw w [] u ls:=h.rw [] (fun _ _=>trivial)
def DAt (G:Value) (i:Nat) (x:Value):Prop:=∃ u us,G=.tuple (u :: us).toArray/\us[i]?=some x
theorem tup_inj {a b:List Value} (h:(Value.tuple a.toArray)=.tuple b.toArray):a=b:=by
 have:=Value.tuple.inj h
 exact congrArg Array.toList this
theorem OwD.row {w:World} {e1 e2:TypeId} {G u x:Value} {ls:List (List UInt8)} {i:Nat} (h:OwD w e1 e2 G u ls) (hx:DAt G i x):∃ (h:i<ls.length),OwK (Sc u8) w [] e2 x ls[i]/\(∀ k,Hs x k->Hs G k):=by
 obtain ⟨us,rfl,h1,hl,h2,h3⟩:=h
 obtain ⟨u',us',e,hi⟩:=hx
 obtain ⟨rfl,rfl⟩:=List.cons.inj (tup_inj e)
 obtain ⟨hlt,rfl⟩:=List.getElem?_eq_some_iff.1 hi
 refine ⟨by omega,h2 i hlt (by omega),fun k hk=>zd8.2 (.inr ⟨_,List.getElem_mem hlt,?_⟩)⟩
 obtain ⟨us',h4,_⟩:=h2 i hlt (by omega)
 rcases h4 with ⟨p,e,_⟩ | ⟨g,cap,e,_⟩ <;> rw [e] at hk ⊢ <;> exact hs_sl hk
theorem OwD.rowrd {w:World} {e1 e2:TypeId} {G u x:Value} {ls:List (List UInt8)} {i:Int} {r:List UInt8} (h:OwD w e1 e2 G u ls) (hx:DAt G i.toNat x) (hi:idx ls i=some r):By w [] x r:=by
 obtain ⟨hlt,ho,_⟩:=h.row hx
 obtain ⟨_,h2,rfl⟩:=zb5.1 hi
 exact ho.rd (Sc.stab _)
theorem OwD.upd {w w':World} {e1 e2:TypeId} {G u x:Value} {ls:List (List UInt8)} {i:Nat} {r:List UInt8} {L:List Value} (h:OwD w e1 e2 G u ls) (hx:DAt G i x) (ho:OwK (Sc u8) w' L e2 x r) (hg:Gr w w' x):OwD w' e1 e2 G u (ls.set i r)/\Gr w w' G:=by
 have hrow:=h.row hx
 obtain ⟨us,rfl,h1,hl,h2,h3⟩:=h
 obtain ⟨u',us',e,hi⟩:=hx
 obtain ⟨rfl,rfl⟩:=List.cons.inj (tup_inj e)
 obtain ⟨hlt,rfl⟩:=List.getElem?_eq_some_iff.1 hi
 obtain ⟨_,hor,hsub⟩:=hrow
 obtain ⟨row,hgr,hr⟩:=hg
 have hro:∀ k,row=some k->oB us[i]=some k:=fun k hk=>by
  have h4:=hr k hk
  obtain ⟨us',h5,_⟩:=hor
  rcases h5 with ⟨p,e,_⟩ | ⟨g,cap,e,_⟩ <;> rw [e] at h4 ⊢ <;> exact hs_sl h4
 refine ⟨⟨us,rfl,h1.kept hgr (fun k hk e=>?_),by simpa using hl,fun j a b=>?_,h3⟩,⟨row,hgr,fun k hk=>hsub k (hr k hk)⟩⟩
 ·exact (List.rel_of_pairwise_cons h3 (List.getElem_mem hlt)) k hk (hro k e)
 ·have hj:j<ls.length:=by simpa using b
  rw [List.getElem_set]
  by_cases hij:i=j
  ·subst hij;rw [if_pos rfl];exact ho
  ·rw [if_neg hij]
   refine (h2 j a hj).keptR hgr (fun k hk e=>?_)
   have h4:=(List.pairwise_cons.1 h3).2
   rcases Nat.lt_or_gt_of_ne hij with h5 | h5
   ·exact (List.pairwise_iff_getElem.1 h4 i j hlt a h5) k (hro k e) hk
   ·exact (List.pairwise_iff_getElem.1 h4 j i a hlt h5) k hk (hro k e)
theorem OwD.relist {G G' x:Value} (hG:∀ k,Hs G' k->Hs G k∨Hs x k) {v:Value} (h1:Nq v G) (h2:Nq v x):Nq v G':=fun k hk h'=>(hG k h').elim (h1 k hk) (h2 k hk)
theorem OwD.owk {w:World} {e1 e2:TypeId} {G u:Value} {ls:List (List UInt8)} (h:OwD w e1 e2 G u ls) (L:List Value) (ha:∀ k,Hs G k->Av L k):OwK By w (u :: L) e1 u ls:=by
 obtain ⟨us,rfl,h1,hl,h2,h3⟩:=h
 refine ⟨us,h1,hl,fun i a b=>((h2 i a b).scal (u :: L)).slk (Sc.stab _) (u :: L) (fun k hk=>?_) (fun _ h=>h)⟩
 have hb:oB us[i]=some k:=by
  obtain ⟨us',h4,_⟩:=h2 i a b
  rcases h4 with ⟨p,e,_⟩ | ⟨g,cap,e,_⟩ <;> rw [e] at hk ⊢ <;> exact hs_sl hk
 refine ⟨fun hu=>?_,ha k (zd8.2 (.inr ⟨_,List.getElem_mem a,hb⟩))⟩
 have hu':oB u=some k:=by rcases h1 with ⟨p,rfl,_⟩ | ⟨g,cap,rfl,_⟩ <;> exact hs_sl hu
 exact (List.rel_of_pairwise_cons h3 (List.getElem_mem a)) k hu' hb
theorem OwD.nwu {w w0:World} {e1 e2:TypeId} {G u:Value} {ls:List (List UInt8)} (h:OwD w e1 e2 G u ls) (hn:Nw w0 G):Nw w0 u:=by
 obtain ⟨us,rfl,h1,_⟩:=h
 intro k hk
 refine hn k (zd8.2 (.inl ?_))
 rcases h1 with ⟨p,rfl,_⟩ | ⟨g,cap,rfl,_⟩ <;> exact hs_sl hk
theorem Lift.call2 {w w':World} {a b:Value} (L:List Value) (hg:Ext w w') (ha:Nw w a) (hb:Nw w b):Lift w w' L (a :: b :: L) :=
 ⟨fun k o ho _ _=>(hg.blk k (zbp ho)).trans ho,fun k hk h=>⟨fun e=>by have:=ha k e;omega,fun e=>by have:=hb k e;omega,h⟩⟩
theorem idv_eq {w:World} {L:List Value} {e:TypeId} {v:Value} {us:List Value}:OwK (Sc (fun x:Value=>x)) w L e v us ↔ Ow w e v us:=by
 constructor
 ·rintro ⟨us',h,hl,he⟩
  have:us'=us:=List.ext_getElem hl (fun i a b=>he i a b)
  rw [← this];exact h
 ·intro h;exact ⟨us,h,rfl,fun _ _ _=>rfl⟩
theorem idv_stab:Stab (Sc (fun x:Value=>x)):=Sc.stab _
section
variable {P : Program} {f : Nat → Value} {w : World} {o : Oper}
theorem stp_makeD (L:List Value) {x y:Operand} {t e1 e2:TypeId} {bytes:Nat} {n:Int} {ls:List (List UInt8)} (ho:o.op=.makeSlice t x y) (T:TyS P t e1 (.slice none 0 0) bytes) (hx:ev f x=i64 n) (hy:ev f y=i64 n) (hl:makeL n ([]:List UInt8)=some ls)
  {K:Value->World->Prop} (hk:∀ G v w',OwD w' e1 e2 G v ls->Nw w G->w.grownBy w' none->Lift w w' L (G :: L)->K v w'):Stp P o f w K:=by
 have hl2:makeL n (Value.slice none 0 0)=some (List.replicate ls.length (.slice none 0 0)):=by
  unfold makeL at hl ⊢
  split at hl
  ·rename_i h;rw [if_pos h];obtain rfl:=Option.some.inj hl;simp
  ·cases hl
 have hls:ls=List.replicate ls.length []:=by
  unfold makeL at hl
  split at hl
  ·obtain rfl:=Option.some.inj hl;simp
  ·cases hl
 refine zb3 (L:=L) (R:=Sc (fun x:Value=>x)) ho T hx hy hl2 (fun _ _=>rfl) ?_
 intro v w' h hn hg _
 have h:=idv_eq.1 h
 have hd:OwD w' e1 e2 (.tuple (v :: List.replicate ls.length (.slice none 0 0)).toArray) v ls:=by
  refine ⟨_,rfl,h,by simp,fun i a b=>?_,?_⟩
  ·have h1:(List.replicate ls.length (Value.slice none 0 0))[i]=.slice none 0 0:=by simp
   have h2:ls[i]=[]:=by
    have:=congrArg (·[i]?) hls
    simp only [List.getElem?_eq_getElem b,List.getElem?_replicate,if_pos b] at this
    exact Option.some.inj this
   rw [h1,h2];exact OwK.nil _ _ _ _
  ·rw [List.pairwise_cons]
   refine ⟨fun a ha k _ hk2=>?_,?_⟩
   ·rw [List.mem_replicate.1 ha |>.2] at hk2;cases hk2
   ·refine List.pairwise_replicate.2 (.inr fun k hk=>by cases hk)
 have hnG:Nw w (.tuple (v :: List.replicate ls.length (.slice none 0 0)).toArray):=fun k hk=>by
  rcases zd8.1 hk with hk | ⟨x,hx,hk⟩
  ·exact hn k (.inl hk)
  ·rw [List.mem_replicate.1 hx |>.2] at hk;cases hk
 exact hk _ v w' hd hnG hg (Lift.new L hg hnG)
theorem loadD {x:Operand} {t e1 e2:TypeId} {z:Value} {bytes:Nat} {i:Int} {G u:Value} {ls:List (List UInt8)} {r:List UInt8} (ho:o.op=.load e1 x) (T:TyS P t e1 z bytes) (hx:ev f x=adr u i.toNat) (h:OwD w e1 e2 G u ls) (hi:idx ls i=some r) :
  ∃ v,Qt P o f w v/\DAt G i.toNat v:=by
 obtain ⟨us,rfl,h1,hl,h2,h3⟩:=h
 obtain ⟨h0,hlt,_⟩:=zb5.1 hi
 have hid:idx us i=some (us[i.toNat]'(by omega)):=by unfold idx;rw [if_pos h0];simp
 exact ⟨us[i.toNat]'(by omega),zao (enc:=fun x:Value=>x) ho T hx ((idv_eq (L:=[]).2 h1).rd idv_stab) hid,u,us,rfl,by simp⟩
section
variable {ops : Array Oper} {K : (Nat → Value) → World → Prop} {rr : List Oper} {d : Nat}
theorem wlq_loadD {x:Operand} {t e1 e2:TypeId} {z:Value} {bytes:Nat} {i:Int} {G u:Value} {ls:List (List UInt8)} {r:List UInt8} (hw:wantF ops f o=true) (hd:o.dst=some d) (ho:o.op=.load e1 x) (T:TyS P t e1 z bytes) (hx:ev f x=adr u i.toNat) (h:OwD w e1 e2 G u ls) (hi:idx ls i=some r)
  (hk:∀ v,DAt G i.toNat v->wl P ops K rr (upd f d v) w):wl P ops K (o :: rr) f w:=by
 obtain ⟨v,h1,h2⟩:=loadD ho T hx h hi
 exact wlq hw hd h1 (hk v h2)
end
section
variable {ops : Array Oper} {qs : List Nat} {K : (Nat → Value) → World → Prop} {rr : List (Nat × Nat)} {d j : Nat}
theorem wsq_loadD {x:Operand} {t e1 e2:TypeId} {z:Value} {bytes:Nat} {i:Int} {G u:Value} {ls:List (List UInt8)} {r:List UInt8} (hj:ops[j]?=some o) (hw:wantF ops f o=true) (hd:o.dst=some d) (ho:o.op=.load e1 x) (T:TyS P t e1 z bytes) (hx:ev f x=adr u i.toNat) (h:OwD w e1 e2 G u ls) (hi:idx ls i=some r)
  (hk:∀ v,DAt G i.toNat v->ws P ops qs K rr (upd f d v) w):ws P ops qs K ((j,1) :: rr) f w:=by
 obtain ⟨v,h1,h2⟩:=loadD ho T hx h hi
 exact wsq hj hw hd h1 (hk v h2)
end
theorem stp_storeD (L1 L2:List Value) {x y:Operand} {t e1 e2:TypeId} {z v:Value} {bytes:Nat} {i k:Int} {G u:Value} {ls:List (List UInt8)} {r:List UInt8} {a c:UInt8} (ho:o.op=.store e2 x y) (T:TyS P t e2 z bytes) (hx:ev f x=adr v k.toNat) (hy:ev f y=u8 a)
  (h:OwD w e1 e2 G u ls) (hd:DAt G i.toNat v) (hi:idx ls i=some r) (hc:idx r k=some c)
  {K:Value->World->Prop} (hk:∀ w',OwD w' e1 e2 G u (ls.set i.toNat (r.set k.toNat a))->Gr w w' G->Lift w w' (L1 ++ G :: L2) (L1 ++ G :: L2)->K undef w'):Stp P o f w K:=by
 obtain ⟨hlt,hor,_⟩:=h.row hd
 obtain ⟨_,_,rfl⟩:=zb5.1 hi
 refine zci (R:=Sc u8) (u:=u8 a) (Sc.stab _) [] [] ho T hx hy (hor.scal _) (zf6 a hc) rfl rfl ?_
 intro w' h' hg _
 obtain ⟨q1,q2⟩:=h.upd hd h' hg
 exact hk w' q1 q2 (Lift.own L1 L2 q2 (Nx.refl _ _))
end
end Gk

/- append of noughts (append(s, make(..)...)); slices.Grow on nothing; slices.Concat. No condition but the length. -/
namespace Gk
open Go Go.Proofs
section
variable {P : Program} {o : Oper} {f : Nat → Value} {w : World} {L : List Value}
theorem q_cap {α:Type} {R:World->List Value->Value->α->Prop} {p:Option Addr} {n c:Nat} {x:Operand} {t e:TypeId}
  (ho:o.op=.call ⟨.builtin .cap,#[x],#[t]⟩) (ht:P.underlying t=some (.slice e)) (hx:ev f x=.slice p n c):Qa P o f (i64 c):=by
 intro w'
 rw [zby _ ho]
 simp [builtin,Builtin.cap_,run_underlying ht,hx,goInt,i64]
theorem zeroCells_one {z:Value} (hz:z.cells=#[z]) (n:Nat):(Builtin.zeroCells z.cells n).toList=List.replicate n z:=by
 apply List.ext_getElem?
 intro i
 simp only [Builtin.zeroCells,hz]
 by_cases h:i<n
 ·simp [h,Nat.mod_one]
 ·simp [h]
theorem run_appz {t tn ty e : TypeId} {z v : Value} {bytes : Nat} {us : List Value} (T : TyS P t e z bytes) (htn : P.underlying tn = some (.int .i64)) (h1 : z.oneCell' = true) (h : Ow w e v us) (n : Nat) (hm : us.length + n <= most) :
    ∃ v' w', (Builtin.append_ #[t, tn] ty #[v, i64 n]).run P w = .ok v' w' /\ Ow w' e v' (us ++ List.replicate n z) /\ Gr w w' v /\ Nx w v v' := by
  obtain ⟨i, hi, i1, i2, i3⟩ := info_parts T.info
  obtain ⟨b1, b2, b3⟩ := mem_most hm T.fit
  obtain ⟨c1, c2, c3⟩ := mem_most (show n <= most by omega) T.fit
  have h63 : ((us.length + n : Nat) : Int) <= 9223372036854775807 := by simp only [most] at hm; omega
  have hw : IntKind.i64.wrap (n : Int) = n := by rw [IntKind.wrap_i64]; simp only [most] at hm; omega
  have h48i : ¬ (281474976710656 < (n : Int) * (i.bytes : Int)) := by rw [← Int.natCast_mul, i3]; omega
  have hneg : ¬ ((n : Int) < 0) := by omega
  have made : ∀ (old : Nat), (w.drew.alloc (.cells (us.toArray ++ Builtin.zeroCells z.cells n ++ Builtin.zeroCells z.cells (grownCap w (us.length + n) old e - (us.length + n))) e)).ownsRow 0 e 1
        (.slice (some ⟨w.heap.size, 0, none⟩) (us.length + n) (grownCap w (us.length + n) old e)) (us.length + n) (us ++ List.replicate n z) := fun old => by
    have hge := grownCap_ge w (us.length + n) old e
    refine ⟨by simp, .inr ⟨w.heap.size, _, _, rfl, Nat.zero_le _, heap_alloc_new w.drew _, hge, grownCap_le_maxLen w _ old e b3, ?_, ?_⟩⟩
    · simp only [Array.size_append, List.size_toArray, size_zeroCells, T.cell]
      simp; omega
    · simp only [Array.toList_append, zeroCells_one T.cell]
      exact List.take_left' (by simp)
  have hlen : (us ++ List.replicate n z).length = us.length + n := by simp
  have hnxn : ∀ (v : Value) (n c : Nat), Nx w v (.slice (some ⟨w.heap.size, 0, none⟩) n c) := fun v n c => (Nw.mk w n c).nx v
  by_cases hn : n = 0
  · subst hn
    refine ⟨v, w, ?_, by simpa using h, Gr.refl w v, Nx.refl w v⟩
    have hw0 : IntKind.i64.wrap 0 = 0 := by rw [IntKind.wrap_i64]; rfl
    rcases h with ⟨pv, rfl, rfl⟩ | ⟨g, cap', rfl, hc0, h⟩
    · cases pv <;> simp [Builtin.append_, run_underlying T.sl, run_underlying htn, Go.sizeOf, typeInfo, hi, i64, asInt, asIntOf, storeCells, hw0]
    · obtain ⟨cur, hg, hc, _⟩ := zfa h
      simp [Builtin.append_, run_underlying T.sl, run_underlying htn, Go.sizeOf, typeInfo, hi, i64, asInt, asIntOf, storeCells, hw0, hc]
  · rcases h with ⟨pv, rfl, rfl⟩ | ⟨g, cap', rfl, hc0, h⟩
    · have hold : (Builtin.firstCells i.size 0 (.slice pv 0 0)).run P w.drew = .ok ([] : List Value).toArray w.drew := by
        cases pv <;> simp [Builtin.firstCells, loadCells, loadCellsFrom]
      have hr := Lib.run_append_grow_zeros (P := P) w t tn ty e i z .i64 .i64 T.sl htn hi i1 pv 0 0 [] hold n (by omega) (by omega) (by omega) (by simpa using h63) (by rw [i3]; rw [Nat.mul_comm]; exact c2) (by rw [i3]; exact growslice_fits (by omega) (by simpa using b1))
      have hmk := made 0
      exact ⟨_, _, hr, Ow.mk (by simp) hmk, Gr.of ⟨rfl, rfl, rfl, by simp, fun k hk _ => zgu w.drew _ k hk⟩, hnxn _ _ _⟩
    · obtain ⟨cur, hg, hc, hcm, hcs, htake⟩ := zfa h
      by_cases hroom : us.length + n <= cap'
      · have hst := run_storeCells_at P g us.length e (List.replicate n z) 0 cur w hg (by rw [hcs]; simp; omega) (fun v hv => by rw [(List.mem_replicate.1 hv).2]; exact h1)
        have hr : (Builtin.append_ #[t, tn] ty #[.slice (some ⟨g, 0, none⟩) us.length cap', i64 n]).run P w = .ok (.slice (some ⟨g, 0, none⟩) (us.length + n) cap') (w.setRow g (cur.toList.take us.length ++ List.replicate n z ++ cur.toList.drop (us.length + n)).toArray) := by
          simp only [Nat.add_zero, List.length_replicate] at hst
          have hz0 : ¬ (n * i.size = 0) := by rw [i2]; omega
          simp [Builtin.append_, run_underlying T.sl, run_underlying htn, Go.sizeOf, typeInfo, zeroValue, hi, i1, i64, asInt, asIntOf, hw, hneg, h48i, hroom, hz0, i2, zeroCells_one T.cell, zcg, hst, hn]
        refine ⟨_, _, hr, Ow.mk hlen.symm ⟨by simp, .inr ⟨g, cap', _, rfl, Nat.zero_le _, setRow_heap w g cur _ e _ hg, hroom, hcm, ?_, ?_⟩⟩,
          Gr.of ⟨rfl, rfl, rfl, by simp, fun k _ hk => setRow_other w g k _ (fun e => hk (by rw [ze4 hc0, e]))⟩, fun k hk => .inl (.inl (by have := hs_sl hk; rw [ze4 hc0] at *; exact this))⟩
        · simp only [List.size_toArray, List.length_append, List.length_take, List.length_drop, Array.length_toList, List.length_replicate]
          omega
        · rw [Nat.mul_one] at htake
          rw [htake]
          exact List.take_left' (by simp)
      · have holds : ∀ j u, us[j]? = some u -> w.cell? ((⟨g, 0, none⟩ : Addr).add j) = some u := World.ownsRow.cells h (g := g) rfl
        have hold : (Builtin.firstCells i.size us.length (.slice (some ⟨g, 0, none⟩) us.length cap')).run P w.drew = .ok us.toArray w.drew := by
          have := run_firstCells_some (P := P) w.drew i.size us.length ⟨g, 0, none⟩ us.length cap' us (by rw [i2]; simp) (fun j u hj => holds j u hj)
          exact this
        have hr := Lib.run_append_grow_zeros (P := P) w t tn ty e i z .i64 .i64 T.sl htn hi i1 (some ⟨g, 0, none⟩) us.length cap' us hold n (by omega) (by omega) (by omega) h63 (by rw [i3]; rw [Nat.mul_comm]; exact c2) (by rw [i3]; exact growslice_fits (by omega) b1)
        exact ⟨_, _, hr, Ow.mk hlen.symm (made cap'), Gr.of ⟨rfl, rfl, rfl, by simp, fun k hk _ => zgu w.drew _ k hk⟩, hnxn _ _ _⟩
theorem stp_appz {α:Type} {R:World->List Value->Value->α->Prop} (hR:Stab R) {s x:Operand} {t tn e:TypeId} {z v:Value} {bytes:Nat} {l r:List α} {n:Int} {a:α} (L1 L2:List Value)
  (ho:o.op=.call ⟨.builtin .append,#[s,x],#[t,tn]⟩) (T:TyS P t e z bytes) (htn:P.underlying tn=some (.int .i64)) (h1:z.oneCell'=true) (hs:ev f s=v) (hx:ev f x=i64 n) (h:OwK R w (L1 ++ v :: L2) e v l) {m:List α} (hz:makeL n a=some m) (hza:∀ w L,R w L z a) (hm:appL l m=some r)
  {K:Value->World->Prop} (hk:∀ v' w',OwK R w' (L1 ++ v' :: L2) e v' r->Gr w w' v->Nx w v v'->Lift w w' (L1 ++ v :: L2) (L1 ++ v' :: L2)->K v' w'):Stp P o f w K:=by
 obtain ⟨us,hown,hl,he⟩:=h
 obtain ⟨hmost,rfl⟩:=zji.1 hm
 unfold makeL at hz
 split at hz
 ·rename_i hn
  obtain ⟨k,rfl⟩:=Int.eq_ofNat_of_zero_le hn.1
  obtain rfl:=Option.some.inj hz
  simp only [Int.toNat_natCast,List.length_replicate] at hmost ⊢
  obtain ⟨v',w',hr,h2,h3,h4⟩:=run_appz (ty:=o.type) T htn h1 hown k (by omega)
  have hlift:=Lift.own L1 L2 h3 h4
  refine zc5 (v:=v') (w':=w') ?_ (hk _ _ ⟨us ++ List.replicate k z,h2,by simp [hl],fun i a1 a2=>?_⟩ h3 h4 hlift)
  ·rw [zby _ ho]
   simp [builtin,hs,hx,hr]
  ·by_cases hi:i<us.length
   ·rw [List.getElem_append_left hi,List.getElem_append_left (by omega)]
    exact hR _ _ _ _ _ _ hlift (he i hi (by omega))
   ·rw [List.getElem_append_right (by omega),List.getElem_append_right (by omega),List.getElem_replicate,List.getElem_replicate]
    exact hza _ _
 ·cases hz
end
def zj7 (a0:List UInt8) (n:Int):Option (List UInt8):=if 0<=n/\n<=most then some [] else none
theorem slices_Grow_calls (u:List UInt8) (n:Int) (q:Value) (r:List UInt8) (w0:World) (I:q=.slice none 0 0) (e:zj7 u n=some r) :
  Calls Tryz.prog 60 [q,i64 n].toArray w0 (fun B s=>∃ i:Value,B=.returned i/\Ext w0 s/\Nw w0 i/\OwK (Sc u8) s [] 5 i r):=by
 subst I
 unfold zj7 at e
 split at e
 case isFalse=>cases e
 rename_i hn
 obtain rfl:=osi e;have h:Ext w0 w0:=Ext.refl w0;obtain ⟨c,rfl⟩:=Int.eq_ofNat_of_zero_le hn.1
 have U:c<=5000000000000:=by have:=hn.2;simp only [most] at this;omega
 have j:wI ((c:Int) - wI (0 - 0))=c:=by rw [wI_of (x:=0 - 0) (by decide) (by decide),wI_of (by omega) (by omega)];omega
 refine zai (n:=27) Tryz.func60 V V V<|W_sr<|av (.slice none 0 0) V V<|wnt<|W_seq<|W_sr<|mv (i64 c) V V<|wa V (q_ltI V V V)<|wnt<|zam _ V V (fun d=>?_) (fun d=>?_)
 ·have:=of_decide_eq_true d;omega
 refine zae<|W_th<|W_seq<|W_sr<|mv (i64 c) V V<|mv (.slice none 0 0) V V<|wa V (q_cap (α:=UInt8) (R:=Sc u8) V T22.sl V)<|mv (.slice none 0 0) V V<|wa V (q_len_nil V T22.sl V)<|wa V (za9 V V V)<|wa V (za9 V V V)<|av (i64 (wI ((c:Int) - wI (0 - 0)))) V V<|wnt<|W_sr<|mv (i64 c) V (by show i64 _=i64 _;rw [j]) ?_
 refine wa V (q_gtI V V V)<|wnt<|zam _ V V (fun d=>?_) (fun d=>?_)
 ·refine W_rg<|mv (.slice none 0 0) V V<|mv (.slice none 0 0) V V<|wa V (q_cap (α:=UInt8) (R:=Sc u8) V T22.sl V)<|wa V (zdv (l:=([]:List UInt8)) (m:=[]) (R:=Sc u8) (w:=w0) (L:=[]) (a:=0) (b:=0) V T22 V (SlK.nil _ _ _) V V V)<|mv (i64 c) V (by show i64 _=i64 _;rw [j])<|?_
  refine wls V V (stp_appz (R:=Sc u8) (v:=(.slice none 0 0)) (l:=[]) (r:=List.replicate c 0) (m:=List.replicate c 0) (n:=(c:Int)) (a:=0) (Sc.stab _) [] [] V T22 Tryz.underlying3 V V V (OwK.nil _ _ _ _) (by unfold makeL;rw [if_pos hn];simp) (fun _ _=>rfl) (by unfold appL;rw [if_pos (by simp;omega)];rfl) ?_)
  intro X t P D O W;obtain ⟨f,M,k,G⟩:=P
  rcases M with ⟨p,rfl,rfl⟩ | ⟨g,cap,rfl,hc,hrow⟩
  ·have:0<(c:Int):=of_decide_eq_true d
   simp at k;omega
  have C:Ext w0 t:=h.grown D (Nw.nil _);have N:Nw w0 (.slice (some ⟨g,0,none⟩) f.length cap):=Nw.nxt h (Nw.nil _) O;have F:SlK (Sc u8) t [] (.slice (some ⟨g,0,none⟩) f.length cap) (List.replicate c (0:UInt8)):=(OwK.rd (Sc.stab _) (L:=[]) ⟨f,.inr ⟨g,cap,rfl,hc,hrow⟩,k,fun o a b=>G o a b⟩)
  have K:subV (.slice (some ⟨g,0,none⟩) f.length cap) (0:Int).toNat (0:Int).toNat=.slice (some ⟨g,0,none⟩) 0 cap:=by
   unfold subV
   by_cases h0:cap=0
   ·omega
   simp [Addr.add]
  refine mv (.slice none 0 0) V V<|wa V (q_len_nil V T22.sl V)<|wa V (zdv (m:=[]) (a:=0) (b:=0) V T22 V F V V (by unfold subL;rw [if_pos (by simp)];simp))<|?_
  refine av (.slice (some ⟨g,0,none⟩) 0 cap) V K<|wnt<|W_sr<|mv (.slice (some ⟨g,0,none⟩) 0 cap) V V<|av (.slice (some ⟨g,0,none⟩) 0 cap) V V<|wnt<|W_ret<|rt1 (.slice (some ⟨g,0,none⟩) 0 cap) V V V V ?_;obtain ⟨A,H,S,y,z,T⟩:=zfa hrow;refine ⟨_,rfl,C,fun Q J=>N Q ?_,[],.inr ⟨g,cap,rfl,hc,rfl,.inr ⟨g,cap,A,rfl,Nat.zero_le _,H,Nat.zero_le _,y,z,by simp⟩⟩,rfl,fun o E=>absurd E (by simp)⟩;have:=hs_sl J;rw [ze4 hc] at this;exact .inl (by rw [ze4 hc];exact this)
 refine zae<|W_th<|W_sr<|mv (.slice none 0 0) V V<|av (.slice none 0 0) V V<|wnt<|W_ret<|rt1 (.slice none 0 0) V V V V ?_;exact ⟨_,rfl,h,Nw.nil _,OwK.nil _ _ _ _⟩
noncomputable def za0 (c:List (List UInt8)):Option (List UInt8) :=
((iterC (fun a:Int×Int =>
(if a.2<(c.length:Int) then
((idx c a.2).bind fun d =>
(if (wI (a.1+(d.length:Int)))<0 then none
else some (.inl (wI (a.1+(d.length:Int)),wI (a.2+1)))))
else some (.inr a.1))) (0,0)).bind fun h =>
((zj7 ([]:List UInt8) h).bind fun g =>
((iterC (fun b:List UInt8×Int =>
(if b.2<(c.length:Int) then
((idx c b.2).bind fun e =>
((appL b.1 e).bind fun f => some (.inl (f,wI (b.2+1)))))
else some (.inr b.1))) (g,0)).bind fun i => some i)))
theorem za7 (k:List (List UInt8)) (f:Value) (H:List UInt8) (w0:World) (i:Rw w0 [] f k) (e:za0 k=some H) :
  Calls Tryz.prog 29 [f].toArray w0 (fun Z W=>∃ x:Value,Z=.returned x/\Ext w0 W/\Nw w0 x/\OwK (Sc u8) W [] 5 x H):=by
 have C:Ext w0 w0:=Ext.refl w0;unfold za0 at e;refine zai (n:=36) Tryz.func29 V V V<|W_sr<|av (.slice none 0 0) V V<|wnt<|W_sr<|av (i64 0) V V<|wnt<|W_seq<|W_sr<|mv f V V<|wa V (q_len V T29.sl V (i.lift (le_ C)))<|mv (i64 0) V V<|wnt<|?_;obtain ⟨r,X,e⟩:=bsi e;refine W_mid (fun a d=>a 0=f/\a 3=i64 r/\a 36=undef/\Ext w0 d) ?_ ?_
 ·refine zac<|zau (fun g a d=>a 0=f/\a 3=i64 g.1/\a 9=f/\a 10=i64 (k.length:Int)/\a 11=i64 g.2/\a 36=undef/\Ext w0 d) X ?_ ?_
  ·exact ⟨rfl,rfl,rfl,rfl,rfl,rfl,C⟩
  rintro g _ _ aW ⟨J,P,S,K,t,O,j⟩ b a7;refine W_sr<|wa V (q_ltI V t K)<|wnt<|W_seq<|wci b V V (fun b=>?_) (fun b=>?_)
  ·refine zae<|W_th<|W_seq<|zac<|W_sr<|bse b fun A F b=>wa V (q_adr V T29 S t (i.lift (le_ j)) F)<|zdr V V V T29 V i F j (fun U a5=>?_);refine av U V V<|wnt<|W_sr<|mv (i64 g.1) V P<|mv U V V<|wa V (q_len V T22.sl V (a5.lift (le_ j)))<|wa V (zak V V V)<|av (i64 (wI (g.1+(A.length:Int)))) V V<|wnt<|W_sr<|mv (i64 (wI (g.1+(A.length:Int)))) V V<|wa V (q_ltI V V V)<|wnt<|wci b V V (fun b=>?_) (fun b=>?_)
   ·cases b
   refine zae<|bk_n<|W_th<|W_rg<|wa V (zak V t V)<|mv (i64 (wI (g.2+1))) V V<|zag<|?_;obtain rfl:=osi b;exact ⟨_,rfl,J,rfl,S,K,rfl,O,j⟩
  refine zar<|th_x<|?_;obtain rfl:=osi b;obtain rfl:=a7 _ rfl;refine th_x<|bk_x<|?_;exact ⟨J,P,O,j⟩
 rintro _ aY ⟨aJ,aM,aL,D⟩;refine W_th<|W_sr<|mv (i64 r) V aM<|?_;obtain ⟨I,a9,e⟩:=bsi e;refine wls V V (zab (vs:=[.slice none 0 0,i64 r]) Tryz.func60 V V V (ar2 V V) (slices_Grow_calls ([]:List UInt8) r (.slice none 0 0) I _ V a9) ?_);rintro _ aO ⟨q,rfl,aQ,aD,aI⟩;refine ⟨_,rfl,?_⟩;have aH:OwK (Sc u8) aO (q::[]) 5 q I:=OwK.scal aI _;have aB:=Nw.ext D aD;have B:=D.trans aQ;refine av q V V<|wnt<|W_seq<|W_sr<|mv f V aJ<|wa V (q_len V T29.sl V (i.lift (le_ B)))<|mv (i64 0) V V<|wnt ?_;obtain ⟨aP,Y,e⟩:=bsi e;refine W_mid (fun a d=>∃ p:Value,a 6=p/\a 36=undef/\Ext w0 d/\OwK (Sc u8) d [p] 5 p aP/\Nw w0 p) ?_ ?_
 ·refine zac<|zau (fun l a d=>∃ m:Value,a 6=m/\a 25=f/\a 26=i64 (k.length:Int)/\a 27=i64 l.2/\a 36=undef/\Ext w0 d/\OwK (Sc u8) d [m] 5 m l.1/\Nw w0 m) Y ?_ ?_
  ·exact ⟨q,rfl,rfl,rfl,rfl,aL,B,aH,aB⟩
  rintro l _ _ aU ⟨z,Q,L,M,w,N,h,G,s⟩ c a8;refine W_sr<|wa V (q_ltI V w M)<|wnt<|W_seq<|wci c V V (fun c=>?_) (fun c=>?_)
  ·refine zae<|W_th<|W_seq<|zac<|W_sr<|bse c fun aR E c=>wa V (q_adr V T29 L w (i.lift (le_ h)) E)<|zdr V V V T29 V i E h (fun y a4=>?_);refine av y V V<|wnt<|W_rg<|mv z V Q<|mv y V V<|?_;obtain ⟨aS,a6,c⟩:=bsi c;refine wls V V (zav (R:=Sc u8) (v:=z) (u:=y) (Sc.stab _) [] [] V T22 V V G (a4.lift (le_ h)) (fun _ _ a2=>a2) a6 oc_u8 ?_);intro T aV aG a1 aE aT;have a0:=h.grown a1 s;have aC:=Nw.nxt h s aE;refine av T V V<|zag<|bk_n<|W_th<|W_rg<|wa V (zak V w V)<|mv (i64 (wI (l.2+1))) V V<|zag<|?_;obtain rfl:=osi c;exact ⟨_,rfl,T,rfl,L,M,rfl,N,a0,aG,aC⟩
  refine zar<|th_x<|?_;obtain rfl:=osi c;obtain rfl:=a8 _ rfl;refine th_x<|bk_x<|?_;exact ⟨z,Q,N,h,G,s⟩
 rintro _ aX ⟨o,aN,aK,a3,aF,aA⟩;refine W_th<|W_sr<|mv o V aN<|av o V V<|wnt<|W_ret<|?_;obtain rfl:=osi e;refine rt1 o V V V aK ?_;exact ⟨o,rfl,a3,aA,aF.weak (Sc.stab _) (fun _ _=>trivial)⟩
end Gk

/- Small laws of lists, rows and numbers. No condition but lengths. -/
namespace Gk
open Gf
theorem za4 {p:List UInt8} {i:Nat} (h:i<p.length):idx p (i:Int)=some (co p i):=by rw [zge,co_get h]
theorem zd3 {α:Type} (l:List α) (a b:Nat) (h1:a<=b) (h2:b<=l.length):subL l (a:Int) (b:Int)=some ((l.take b).drop a):=by
 unfold subL;rw [if_pos ⟨by omega,by omega,by omega⟩];simp
theorem zg7 (a b:Nat) (h:a+b<9223372036854775808):wI ((a:Int)+(b:Int))=((a+b:Nat):Int):=by rw [wI_of (by omega) (by omega)];omega
theorem wI_sub (a b:Nat) (h:b<=a) (h2:a<9223372036854775808):wI ((a:Int) - (b:Int))=((a - b:Nat):Int):=by rw [wI_of (by omega) (by omega)];omega
theorem ziv (a:Nat) (h:1<=a) (h2:a<9223372036854775808):wI ((a:Int) - 1)=((a - 1:Nat):Int):=by rw [wI_of (by omega) (by omega)];omega
theorem h257:(257:Nat)<=most:=by decide
theorem zbb:most<9223372036854775000:=by decide
theorem zb2 {p q:List UInt8} (hl:p.length=q.length) (h:∀ i,co p i=co q i):p=q:=by
 apply List.ext_getElem hl
 intro i h1 h2
 have:=h i
 rwa [co_lt h1,co_lt h2] at this
theorem co_sumL (a:List UInt8) (c:UInt8) (b:List UInt8) (i:Nat):co (sumL a c b) i=if i<a.length then co a i^^^mul c (co b i) else 0:=by
 simp only [co,sumL,List.getD_eq_getElem?_getD,List.getElem?_mapIdx]
 by_cases h:i<a.length
 ·simp [h]
 ·simp [h,List.getElem?_eq_none (show a.length<=i by omega)]
theorem zh3 {α:Type} (l:List α) (off:Nat) (m:List α) (h:off<=l.length):(copyL l (off:Int) m).length=l.length:=by
 simp only [copyL,Int.toNat_natCast,List.length_append,List.length_take,List.length_drop];omega
theorem co_copyL (l:List UInt8) (off:Nat) (m:List UInt8) (h:off+m.length<=l.length) (j:Nat):co (copyL l (off:Int) m) j=if off<=j/\j<off+m.length then co m (j - off) else co l j:=by
 have e1:m.take (l.length - off)=m:=List.take_of_length_le (by omega)
 have e2:min m.length (l.length - off)=m.length:=by omega
 simp only [copyL,Int.toNat_natCast,e1,e2,co,List.getD_eq_getElem?_getD,List.getElem?_append,List.length_take,List.getElem?_take,List.getElem?_drop]
 by_cases h1:j<off
 ·rw [if_pos (by omega),if_pos (by omega),if_neg (by omega)]
 ·rw [if_neg (by omega),show j - min off l.length=j - off by omega]
  by_cases h2:j<off+m.length
  ·rw [if_pos (by omega),if_pos ⟨by omega,h2⟩]
  ·rw [if_neg (by omega),if_neg (by omega)]
   congr 2;omega
theorem zkc (p:List UInt8) (n i:Nat):co (p.take n) i=if i<n then co p i else 0:=by
 simp only [co,List.getD_eq_getElem?_getD,List.getElem?_take];split <;> simp
theorem co_drop (p:List UInt8) (n i:Nat):co (p.drop n) i=co p (n+i):=by
 simp only [co,List.getD_eq_getElem?_getD,List.getElem?_drop]
theorem ze8 {p:List UInt8} {i:Nat} (h:i<p.length):p.take (i+1)=p.take i ++ [co p i]:=by
 rw [List.take_add_one,co_get h];rfl
theorem zc3 (n:Nat) (f:Nat->UInt8) (i:Nat):co ((List.range n).map f) i=if i<n then f i else 0:=by
 simp only [co,List.getD_eq_getElem?_getD,List.getElem?_map]
 by_cases h:i<n
 ·simp [h]
 ·rw [List.getElem?_eq_none (by simpa using h),if_neg h];rfl
theorem zig {α:Type} (t:α->Option Bool) (b:α->Bool):∀ l:List α,(∀ x∈l,t x=some (b x))->anyO t l=some (l.any b)
 | [],_=>rfl
 | x :: l,h=>by
  unfold anyO
  rw [h x (by simp),obs,zig t b l (fun y hy=>h y (by simp [hy])),List.any_cons]
  cases b x <;> rfl
theorem getD_get {l:List (List UInt8)} {k:Nat} (h:k<l.length):l[k]?=some (l.getD k []):=by simp [List.getD_eq_getElem?_getD,h]
theorem zds {l:List (List UInt8)} {k:Nat} (h:k<l.length):l.getD k []∈l:=List.mem_of_getElem? (getD_get h)
theorem zcw {l:List (List UInt8)} {k:Nat} (h:k<l.length):idx l (k:Int)=some (l.getD k []):=by rw [zge,getD_get h]
theorem getD_set {l:List (List UInt8)} {j:Nat} (h:j<l.length) (r:List UInt8) (i:Nat):(l.set j r).getD i []=if i=j then r else l.getD i []:=by
 simp only [List.getD_eq_getElem?_getD,List.getElem?_set]
 by_cases hij:j=i
 ·subst hij;simp [h]
 ·simp [hij,Ne.symm hij]
theorem getD_rep {n i:Nat} (r:List UInt8) (h:i<n):(List.replicate n r).getD i []=r:=by simp [List.getD_eq_getElem?_getD,h]
theorem getD_tab (n:Nat) (f:Nat->List UInt8) (i:Nat) (h:i<n):((List.range n).map f).getD i []=f i:=by simp [List.getD_eq_getElem?_getD,h]
theorem rows_ext {a b:List (List UInt8)} (hl:a.length=b.length) (h:∀ i,i<a.length->a.getD i []=b.getD i []):a=b:=by
 apply List.ext_getElem hl
 intro i h1 h2
 have:=h i h1
 simpa [List.getD_eq_getElem?_getD,h1,h2] using this
theorem idx_0 {l:List (List UInt8)} (h:0<l.length):idx l 0=some (l.getD 0 []):=by
 have:=zcw (l:=l) (k:=0) h
 rwa [show ((0:Nat):Int)=0 from rfl] at this
theorem rows_snoc {l:List (List UInt8)} {i:Nat} (h:i<l.length):l.take (i+1)=l.take i ++ [l.getD i []]:=by
 rw [List.take_add_one,getD_get h];rfl
theorem zdz {α:Type} (a b:List α) (h:a.length+b.length<=most) (hb:b.length=1):appL a b=some (a ++ b):=by
 unfold appL;rw [if_pos (by omega)]
theorem mem_getD {l:List (List UInt8)} {r:List UInt8} (h:r∈l):∃ i,i<l.length/\l.getD i []=r:=by
 obtain ⟨i,hi,rfl⟩:=List.getElem_of_mem h
 exact ⟨i,hi,by simp [List.getD_eq_getElem?_getD,hi]⟩
def updB (row:List UInt8) (f:Nat->UInt8) (k:Nat):List UInt8:=(List.range row.length).map fun j=>if j<k then f j else co row j
theorem zhg (row:List UInt8) (f:Nat->UInt8) (k:Nat):(updB row f k).length=row.length:=by simp [updB]
theorem co_updB (row:List UInt8) (f:Nat->UInt8) (k i:Nat) (h:i<row.length):co (updB row f k) i=if i<k then f i else co row i:=by
 unfold updB;rw [zc3,if_pos h]
theorem updB_zero (row:List UInt8) (f:Nat->UInt8):updB row f 0=row:=zb2 (zhg _ _ _) fun i=>by
 by_cases h:i<row.length
 ·rw [co_updB _ _ _ _ h,if_neg (by omega)]
 ·rw [co_ge (by rw [zhg];omega),co_ge (by omega)]
theorem updB_succ (row:List UInt8) (f:Nat->UInt8) (k:Nat) (h:k<row.length):(updB row f k).set k (f k)=updB row f (k+1):=zb2 (by simp [zhg]) fun i=>by
 rw [co_set (by rw [zhg];omega)]
 by_cases hi:i<row.length
 ·rw [co_updB _ _ _ _ hi,co_updB _ _ _ _ hi]
  by_cases hik:i=k
  ·rw [if_pos hik,if_pos (by omega),hik]
  ·rw [if_neg hik]
   by_cases h2:i<k
   ·rw [if_pos h2,if_pos (by omega)]
   ·rw [if_neg h2,if_neg (by omega)]
 ·rw [if_neg (by omega),co_ge (by rw [zhg];omega),co_ge (by rw [zhg];omega)]
theorem updB_end (row:List UInt8) (f:Nat->UInt8):updB row f row.length=(List.range row.length).map f:=by
 unfold updB;exact List.map_congr_left fun j hj=>by rw [if_pos (List.mem_range.1 hj)]
theorem idx_updB (row:List UInt8) (f:Nat->UInt8) (k i:Nat) (h:i<row.length):idx (updB row f k) (i:Int)=some (if i<k then f i else co row i):=by
 rw [za4 (by rw [zhg];exact h),co_updB _ _ _ _ h]
def updR (l:List (List UInt8)) (F:Nat->List UInt8) (i:Nat):List (List UInt8):=(List.range l.length).map fun j=>if j<i then F j else l.getD j []
theorem zih (l:List (List UInt8)) (F:Nat->List UInt8) (i:Nat):(updR l F i).length=l.length:=by simp [updR]
theorem zjw (l:List (List UInt8)) (F:Nat->List UInt8) (i j:Nat) (h:j<l.length):(updR l F i).getD j []=if j<i then F j else l.getD j []:=by
 unfold updR;rw [getD_tab _ _ _ h]
theorem updR_zero (l:List (List UInt8)) (F:Nat->List UInt8):updR l F 0=l:=rows_ext (zih _ _ _) fun i h=>by
 rw [zih] at h
 rw [zjw _ _ _ _ h,if_neg (by omega)]
theorem updR_succ (l:List (List UInt8)) (F:Nat->List UInt8) (k:Nat) (h:k<l.length):(updR l F k).set k (F k)=updR l F (k+1):=rows_ext (by simp [zih]) fun i hi=>by
 rw [List.length_set,zih] at hi
 rw [getD_set (by rw [zih];omega),zjw _ _ _ _ hi,zjw _ _ _ _ hi]
 by_cases hik:i=k
 ·rw [if_pos hik,if_pos (by omega),hik]
 ·rw [if_neg hik]
  by_cases h2:i<k
  ·rw [if_pos h2,if_pos (by omega)]
  ·rw [if_neg h2,if_neg (by omega)]
theorem updR_end (l:List (List UInt8)) (F:Nat->List UInt8):updR l F l.length=(List.range l.length).map F:=by
 unfold updR;exact List.map_congr_left fun j hj=>by rw [if_pos (List.mem_range.1 hj)]
theorem set_getD (l:List (List UInt8)) (i:Nat):l.set i (l.getD i [])=l:=by
 by_cases h:i<l.length
 ·refine rows_ext (by simp) fun j hj=>?_
  rw [getD_set h]
  by_cases e:j=i
  ·rw [if_pos e,e]
  ·rw [if_neg e]
 ·exact List.set_eq_of_length_le (by omega)
theorem idx_set {l:List (List UInt8)} {i:Nat} (h:i<l.length) (r:List UInt8):idx (l.set i r) (i:Int)=some r:=by
 rw [zcw (by simpa using h),getD_set h,if_pos rfl]
theorem rows_loop {body:List (List UInt8)×Int->Option ((List (List UInt8)×Int)⊕List (List UInt8))} (l:List (List UInt8)) (n:Nat) (hn:l.length=n) (F:Nat->List UInt8)
  (hs:∀ i,i<n->body (updR l F i,(i:Int))=some (.inl ((updR l F i).set i (F i),((i+1:Nat):Int))))
  (he:∀ s,body (s,(n:Int))=some (.inr s)):iterC body (l,0)=some ((List.range n).map F):=by
 refine zal (fun i=>(updR l F i,(i:Int))) n _ ?_ ?_ ?_
 ·rw [updR_zero];rfl
 ·intro k hk
  rw [hs k hk,updR_succ _ _ _ (by omega)]
 ·rw [he,← hn,updR_end]
theorem flat_take_le (l:List (List UInt8)) (i:Nat):(l.take i).flatten.length<=l.flatten.length:=by
 have h:=congrArg List.length (congrArg List.flatten (List.take_append_drop i l))
 rw [List.flatten_append,List.length_append] at h
 omega
theorem Concat_eq (l:List (List UInt8)) (h:l.flatten.length<=most) (hl:l.length<=most):za0 l=some l.flatten:=by
 unfold za0
 have hmo:=zbb
 refine zay (zal (fun i=>(((l.take i).flatten.length:Int),(i:Int))) l.length (l.flatten.length:Int) (by simp) ?_ (by simp)) ?_
 ·intro i hi
  have h1:=flat_take_le l (i+1)
  have e:(l.take (i+1)).flatten.length=(l.take i).flatten.length+(l.getD i []).length:=by rw [rows_snoc hi,List.flatten_append,List.length_append];simp
  simp only
  rw [if_pos (by omega),zcw hi,obs,zg7 _ _ (by omega),if_neg (by omega),zas i (by omega),e]
 ·unfold zj7
  rw [if_pos (by omega),obs]
  refine zay (zal (fun i=>((l.take i).flatten,(i:Int))) l.length l.flatten (by simp) ?_ (by simp)) rfl
  intro i hi
  have h1:=flat_take_le l (i+1)
  have e:(l.take (i+1)).flatten=(l.take i).flatten ++ l.getD i []:=by rw [rows_snoc hi,List.flatten_append];simp
  have e2:=congrArg List.length e
  rw [List.length_append] at e2
  simp only
  rw [if_pos (by omega),zcw hi,obs]
  unfold appL
  rw [if_pos (by omega),obs,zas i (by omega),e]
end Gk

/- slices.Backward over bytes: what it hands back, and its iterator's contract. No condition. -/
namespace Gk
open Go Go.Proofs Go.RowKit
def KpG (B:Nat) (G:List Nat) (W W':World):Prop:=W.heap.size<=W'.heap.size/\∀ k,k<B->k ∉ G->W'.heap[k]?=W.heap[k]?
theorem KpG.refl (B:Nat) (G:List Nat) (W:World):KpG B G W W:=⟨Nat.le_refl _,fun _ _ _=>rfl⟩
theorem KpG.trans {B:Nat} {G:List Nat} {X Y Z:World} (h:KpG B G X Y) (k:KpG B G Y Z):KpG B G X Z :=
 ⟨Nat.le_trans h.1 k.1,fun i hi hg=>(k.2 i hi hg).trans (h.2 i hi hg)⟩
theorem KpG.putObj {B:Nat} {G:List Nat} (W:World) {l:Nat} (o:Obj) (h:B<=l):KpG B G W (W.putObj l o) :=
 ⟨by simp,fun k hk _=>World.putObj_heap_other (by omega)⟩
theorem KpG.blk {B:Nat} {G:List Nat} {W W':World} (h:KpG B G W W') {g:Nat} {T:TypeId} {cs:Array Value} (hB:Blk W g T cs) (hb:g<B) (hg:g ∉ G):Blk W' g T cs:=by
 unfold Blk;rw [h.2 g hb hg];exact hB
def InB (B:Nat) (G:List Nat) (v:Value) (l:List UInt8):Prop:=∀ b off len cap,v=.slice (some ⟨b,off,none⟩) len cap->l≠[]->b<B/\b ∉ G
theorem By.keep {B:Nat} {G:List Nat} {W W':World} {L:List Value} {v:Value} {l:List UInt8} (h:By W L v l) (hv:InB B G v l) (k:KpG B G W W'):By W' [] v l:=by
 obtain ⟨us,⟨p,cap,hp,hc,hne⟩,hl,he⟩:=h
 refine ⟨us,⟨p,cap,hp,hc,fun hn=>?_⟩,hl,fun i h1 h2=>he i h1 h2⟩
 obtain ⟨b,off,rfl,_,hcell⟩:=hne hn
 refine ⟨b,off,rfl,trivial,fun i hi=>?_⟩
 have hb:=hv b off us.length cap hp (fun e=>by subst e;exact hn (List.eq_nil_of_length_eq_zero hl))
 rw [World.cell?_of_block (w:=W) (w':=W') (a:=⟨b,off+i,none⟩) (k.2 b hb.1 hb.2)]
 exact hcell i hi
theorem By.inB {W:World} {v:Value} {l:List UInt8} (h:By W [] v l) {B:Nat} {G:List Nat} (hB:W.heap.size<=B) (hG:∀ g∈G,W.heap.size<=g):InB B G v l:=by
 intro b off len cap e hn
 obtain ⟨us,⟨p,cap',hp,hc,hne⟩,hl,he⟩:=h
 have hus:us≠[]:=fun e=>hn (by subst e;exact List.eq_nil_of_length_eq_zero hl.symm)
 obtain ⟨b',off',rfl,_,hcell⟩:=hne hus
 rw [hp] at e
 simp only [Value.slice.injEq,Option.some.injEq,Addr.mk.injEq] at e
 obtain ⟨⟨rfl,_⟩,_⟩:=e
 have h0:=hcell 0 (List.length_pos_iff.2 hus)
 have hlt:=World.block_lt_of_cell? W _ h0
 exact ⟨Nat.lt_of_lt_of_le hlt hB,fun hg=>by have:=hG b' hg;simp at hlt;omega⟩
def revI (l:List UInt8):List (Int×UInt8):=(l.mapIdx fun i c=>((i:Int),c)).reverse
theorem zg8 (l:List UInt8):(revI l).length=l.length:=by simp [revI]
theorem revI_get (l:List UInt8) (k:Nat) (h:k<l.length):(revI l)[l.length - 1 - k]?=some ((k:Int),l[k]):=by
 simp only [revI]
 rw [List.getElem?_reverse (by simp;omega)]
 simp only [List.length_mapIdx,List.getElem?_mapIdx]
 rw [show l.length - 1 - (l.length - 1 - k)=k by omega]
 simp [h]
theorem q_mkfunc {P:Program} {o:Oper} {f:Nat->Value} {g:FuncId} {x:Operand} {v:Value} (ho:o.op=.makeFunc (.func g) #[] #[x]) (hx:ev f x=v):Qa P o f (.func (.func g) #[] #[v]):=by
 intro w
 simp [execOp,ho,hx,Instr.makeFunc]
theorem Backward_calls (v:Value) (hv:v.cells=#[v]) (w:World):Calls Tryz.prog 96 [v].toArray w fun e w' =>
  e=.returned (.func (.func 128) #[] #[.pointer (some ⟨w.heap.size,0,none⟩)])/\Blk w' w.heap.size 22 #[v]/\Ext w w':=by
 refine zai (n:=4) Tryz.func96 rfl rfl rfl ?_;refine W_seq<|W_rg<|?_;refine wls rfl rfl (stp_box (v:=v) rfl rfl ?_);intro w1 hb hg;rw [hv] at hb;refine av .nilFunc rfl rfl<|wnt<|W_seq<|W_rg<|wa rfl (q_mkfunc rfl rfl)<|av (.func (.func 128) #[] #[.pointer (some ⟨w.heap.size,0,none⟩)]) rfl rfl<|wnt<|W_ret<|?_;refine rt1 (.func (.func 128) #[] #[.pointer (some ⟨w.heap.size,0,none⟩)]) rfl rfl rfl rfl ?_;exact ⟨rfl,hb,zaa hg⟩
theorem run_yieldcall {P:Program} {o:Oper} {f:Nat->Value} {w:World} {l:Nat} {x y z:Operand} {ts:Array TypeId} {a b:Value} {r:Next} (ho:o.op=.call ⟨.value x,#[y,z],ts⟩) (hx:ev f x=.func (.yield l) #[] #[]) (hy:ev f y=a) (hz:ev f z=b)
  (h:(Instr.yield l #[a,b]).run P w=.ok r w):(execOp (ev f) o).run P w=.ok r w:=by
 simp [execOp,ho,hx,hy,hz,resolve,invoke,Deferred.ofValue,h]
theorem backward_stops (f:Nat) (g:List Nat) (v:Value) (c:List UInt8) (d:Nat) (e:World) (X:By e [] v c) (G:InB f g v c) (O:Blk e d 22 #[v]) (z:d<f) (y:d ∉ g) (Q:f<=e.heap.size) (a8:c.length<9223372036854775808) :
  SeqStopsK Fence.wide 1 Tryz.prog 128 #[.pointer (some ⟨d,0,none⟩)] (fun J:Int×UInt8=>#[i64 J.1,u8 J.2]) (KpG f g) (fun a0=>a0=revI c) (fun Z=>Z <+: revI c) c.length e:=by
 intro s K a1 h A _ _ U N;have j:KpG f g e h:=⟨A.size,fun a C _=>A.block a (Nat.lt_of_lt_of_le C Q)⟩;have D:By h [] v c:=X.keep G j;have x:Blk h d 22 #[v]:=j.blk O z y;refine callsIn_wide.2 ?_
 show Calls Tryz.prog 128 [Value.func (.yield s) #[] #[],.pointer (some ⟨d,0,none⟩)].toArray h _
 refine zai (n:=19) Tryz.func128 V V V<|W_sr<|wq V (zan (u:=v) V Tryz.isAgg22 V x V)<|wa V (q_len V T22.sl V D)<|wa V (za9 V V V)<|?_;have L:wI ((c.length:Int) - 1)=(c.length:Int) - 1:=wI_of (by omega) (by omega);rw [L];refine av (i64 ((c.length:Int) - 1)) V V<|wnt<|zac<|W_loopG (fun a i e=>i 19=undef/\i 0=.func (.yield s) #[] #[]/\i 1=.pointer (some ⟨d,0,none⟩)/\i 3=i64 ((a:Int) - 1)/\a<=c.length/\K ((revI c).take (c.length - a)) e/\KpG f g h e) c.length ?_ ?_
 ·exact ⟨rfl,rfl,rfl,rfl,Nat.le_refl _,by simpa using N,KpG.refl _ _ _⟩
 rintro a i t ⟨r,H,I,k,C,m,o⟩;have E:By t [] v c:=D.keep G o;have P:Blk t d 22 #[v]:=o.blk x z y;refine W_seq<|W_sr<|mv (i64 ((a:Int) - 1)) V k<|wa V (q_geI V V V)<|wnt<|zam _ V V (fun p=>?_) (fun p=>?_)
 ·have a7:0<a:=by have:=of_decide_eq_true p;omega
  have q:a - 1<c.length:=by omega
  have a6:c[a - 1]?=some c[a - 1]:=by simp [q]
  have B:idx c ((a:Int) - 1)=some c[a - 1]:=by
   rw [show (a:Int) - 1=((a - 1:Nat):Int) by omega];simp [idx,q]
  have F:(revI c).take (c.length - a) ++ [((a:Int) - 1,c[a - 1])]=(revI c).take (c.length - (a - 1)):=by
   have w:=revI_get c (a - 1) q;rw [show c.length - 1 - (a - 1)=c.length - a by omega] at w;rw [show c.length - (a - 1)=c.length - a+1 by omega,List.take_add_one,w]
   simp;omega
  refine zae<|W_th<|W_seq<|zac<|W_sr<|mv (.func (.yield s) #[] #[]) V H<|mv (i64 ((a:Int) - 1)) V k<|wq V (zan (u:=v) V Tryz.isAgg22 I P V)<|mv (i64 ((a:Int) - 1)) V k<|wa V (q_adr V T22 V V E B)<|wq V (zao V T22 V E B)<|?_;obtain ⟨a5,a9,a2,a3,Y,T⟩:=U _ ((a:Int) - 1,c[a - 1]) t m (by rw [List.length_take,zg8];omega)
  refine wl_yield V (run_yieldcall V V V V Y) (T.mono ?_);rintro a4 aA (⟨rfl,R,W⟩ | ⟨rfl,S⟩)
  ·refine ⟨_,rfl,?_⟩;refine wa V (q_not (b:=true) V V)<|wnt<|zam false V V (fun l=>by cases l) (fun _=>?_);refine zae<|bk_n<|W_th<|W_rg<|mv (i64 ((a:Int) - 1)) V k<|wa V (za9 V V V)<|?_
   have M:wI ((a:Int) - 1 - 1)=((a - 1:Nat):Int) - 1:=by rw [wI_of (by omega) (by omega)];omega
   rw [M];refine wla V V (zat (v:=i64 (((a - 1:Nat):Int) - 1)) V V)<|zag<|⟨a - 1,by omega,r,H,I,rfl,by omega,?_,o.trans W⟩;rw [← F];exact R
  refine ⟨_,rfl,?_⟩;refine wa V (q_not (b:=false) V V)<|wnt<|zam true V V (fun _=>?_) (fun l=>by cases l);refine W_ret<|rt0 V r<|⟨⟨_,rfl⟩,.inr ⟨_,?_,S⟩⟩;rw [F];exact List.take_prefix _ _
 have j:a=0:=by have:=of_decide_eq_false p;omega
 subst j
 refine zar<|th_x<|th_x<|bk_x<|rtn (rt0 V r ?_);refine ⟨⟨_,rfl⟩,.inl ⟨_,rfl,?_⟩⟩;rw [Nat.sub_zero,← zg8,List.take_length] at m;exact m
def revN (n:Nat):List Int:=((List.range n).map fun i:Nat=>(i:Int)).reverse
theorem revN_len (n:Nat):(revN n).length=n:=by simp [revN]
theorem revN_get (n k:Nat) (h:k<n):(revN n)[n - 1 - k]?=some (k:Int):=by
 simp only [revN]
 rw [List.getElem?_reverse (by simp;omega)]
 simp only [List.length_map,List.length_range]
 rw [show n - 1 - (n - 1 - k)=k by omega]
 simp [h]
theorem mem_revI {l:List UInt8} {x:Int×UInt8} (h:x∈revI l):∃ k,∃ h:k<l.length,x=((k:Int),l[k]):=by
 simp only [revI,List.mem_reverse,List.mem_mapIdx] at h
 obtain ⟨k,hk,rfl⟩:=h
 exact ⟨k,hk,rfl⟩
theorem mem_revN {n:Nat} {x:Int}:x∈revN n ↔ ∃k,k<n/\x=(k:Int):=by
 simp only [revN,List.mem_reverse,List.mem_map,List.mem_range]
 constructor
 ·rintro ⟨k,hk,rfl⟩;exact ⟨k,hk,rfl⟩
 ·rintro ⟨k,hk,rfl⟩;exact ⟨k,hk,rfl⟩
def RdB (Q:List UInt8->Prop) (Bs:Nat) (v:Value) (w:World):Prop:=Blk w Bs 22 #[v]/\∃ l,Q l/\By w [] v l
theorem RdB.tn {Q:List UInt8->Prop} {B Bs:Nat} {v:Value} {W W':World} (t:Tn B W W') (h:RdB Q Bs v W):RdB Q Bs v W':=by
 obtain ⟨h1,l,h2,h3⟩:=h
 exact ⟨h1.tn t,l,h2,h3.lift (t.lift _)⟩
theorem RdB.below {Q:List UInt8->Prop} {Bs:Nat} {v:Value} {W W':World} (t:Below W.heap.size W W') (h:RdB Q Bs v W):RdB Q Bs v W':=by
 obtain ⟨h1,l,h2,h3⟩:=h
 exact ⟨(t.block Bs h1.lt).trans h1,l,h2,h3.lift ⟨fun k o ho _ _=>(t.block k (zbp ho)).trans ho,fun _ _ _=>trivial⟩⟩
abbrev BwEl (Q:List UInt8->Prop):={x:Int×UInt8 // ∃l,Q l/\x∈revI l}
theorem backward_gen (e:List UInt8->Prop) (n:Nat) (y:∀ c,e c->c.length=n) (v:Value) (f:Nat) (i:World) (T:RdB e f v i) (a8:n<9223372036854775808) :
  SeqStopsK Fence.wide 1 Tryz.prog 128 #[.pointer (some ⟨f,0,none⟩)] (fun H:BwEl e=>#[i64 H.1.1,u8 H.1.2]) (Keep (RdB e f v)) (fun d=>d.map (·.1.1)=revN n) (fun _=>True) n i:=by
 intro r I a1 s P _ _ Q L;have U:RdB e f v s:=T.below P;refine callsIn_wide.2 ?_
 show Calls Tryz.prog 128 [Value.func (.yield r) #[] #[],.pointer (some ⟨f,0,none⟩)].toArray s _
 refine zai (n:=19) Tryz.func128 V V V<|W_sr<|?_;obtain ⟨t,E,D,A⟩:=U;refine wq V (zan (u:=v) V Tryz.isAgg22 V t V)<|wa V (q_len V T22.sl V A)<|?_;rw [y E D];refine wa V (za9 V V V) ?_;have J:wI ((n:Int) - 1)=(n:Int) - 1:=wI_of (by omega) (by omega);rw [J];refine av (i64 ((n:Int) - 1)) V V<|wnt<|zac<|W_loopG (fun a g i=>g 19=undef/\g 0=.func (.yield r) #[] #[]/\g 1=.pointer (some ⟨f,0,none⟩)/\g 3=i64 ((a:Int) - 1)/\a<=n/\(∃ d:List (BwEl e),d.map (·.1.1)=(revN n).take (n - a)/\I d i)/\RdB e f v i) n ?_ ?_
 ·exact ⟨rfl,rfl,rfl,rfl,Nat.le_refl _,⟨[],by simp,L⟩,t,E,D,A⟩
 rintro a g a0 ⟨p,F,G,k,a6,⟨d,q,x⟩,W⟩;obtain ⟨w,c,j,o⟩:=W;have a9:=y c j;refine W_seq<|W_sr<|mv (i64 ((a:Int) - 1)) V k<|wa V (q_geI V V V)<|wnt<|zam _ V V (fun m=>?_) (fun m=>?_)
 ·have a7:0<a:=by have:=of_decide_eq_true m;omega
  have B:a - 1<c.length:=by omega
  have z:idx c ((a:Int) - 1)=some c[a - 1]:=by
   rw [show (a:Int) - 1=((a - 1:Nat):Int) by omega];simp [idx,B]
  have C:((a:Int) - 1,c[a - 1])∈revI c:=by
   have h:=revI_get c (a - 1) B;rw [show ((a - 1:Nat):Int)=(a:Int) - 1 by omega] at h;exact List.mem_of_getElem? h
  have Z:(d ++ [(⟨((a:Int) - 1,c[a - 1]),c,j,C⟩:BwEl e)]).map (·.1.1)=(revN n).take (n - (a - 1)):=by
   have h:=revN_get n (a - 1) (by omega);rw [show n - 1 - (a - 1)=n - a by omega] at h;rw [show n - (a - 1)=n - a+1 by omega,List.take_add_one,h,List.map_append,q]
   simp;omega
  have Y:d.length<n:=by
   have:=congrArg List.length q;rw [List.length_map,List.length_take,revN_len] at this
   omega
  refine zae<|W_th<|W_seq<|zac<|W_sr<|mv (.func (.yield r) #[] #[]) V F<|mv (i64 ((a:Int) - 1)) V k<|wq V (zan (u:=v) V Tryz.isAgg22 G w V)<|mv (i64 ((a:Int) - 1)) V k<|wa V (q_adr V T22 V V o z)<|wq V (zao V T22 V o z)<|?_;obtain ⟨a5,aA,a2,a3,X,O⟩:=Q d ⟨((a:Int) - 1,c[a - 1]),c,j,C⟩ a0 x Y;refine wl_yield V (run_yieldcall V V V V X) (O.mono ?_);rintro a4 aB (⟨rfl,M,S⟩ | ⟨rfl,N⟩)
  ·refine ⟨_,rfl,?_⟩;refine wa V (q_not (b:=true) V V)<|wnt<|zam false V V (fun l=>by cases l) (fun _=>?_);refine zae<|bk_n<|W_th<|W_rg<|mv (i64 ((a:Int) - 1)) V k<|wa V (za9 V V V)<|?_
   have K:wI ((a:Int) - 1 - 1)=((a - 1:Nat):Int) - 1:=by rw [wI_of (by omega) (by omega)];omega
   rw [K];refine wla V V (zat (v:=i64 (((a - 1:Nat):Int) - 1)) V V)<|zag ?_;exact ⟨a - 1,by omega,p,F,G,rfl,by omega,⟨_,Z,M⟩,S.2 ⟨w,c,j,o⟩⟩
  refine ⟨_,rfl,?_⟩;refine wa V (q_not (b:=false) V V)<|wnt<|zam true V V (fun _=>?_) (fun l=>by cases l);refine W_ret<|rt0 V p ?_;exact ⟨⟨_,rfl⟩,.inr ⟨_,trivial,N⟩⟩
 have R:a=0:=by have:=of_decide_eq_false m;omega
 subst R
 refine zar<|th_x<|th_x<|bk_x<|rtn (rt0 V p ?_);refine ⟨⟨_,rfl⟩,.inl ⟨d,?_,x⟩⟩
 show d.map (·.1.1)=revN n
 rw [q,Nat.sub_zero];exact List.take_of_length_le (by rw [revN_len];omega)
theorem bw_exact {l:List UInt8} {ys:List (BwEl (·=l))} (h:ys.map (·.1.1)=revN l.length):ys.map (·.1)=revI l:=by
 apply List.ext_getElem?
 intro i
 have hlen:ys.length=l.length:=by have:=congrArg List.length h;rwa [List.length_map,revN_len] at this
 by_cases hi:i<ys.length
 ·have h1:=revI_get l (l.length - 1 - i) (by omega)
  rw [show l.length - 1 - (l.length - 1 - i)=i by omega] at h1
  have h2:=congrArg (·[i]?) h
  dsimp only at h2
  have h3:=revN_get l.length (l.length - 1 - i) (by omega)
  rw [show l.length - 1 - (l.length - 1 - i)=i by omega] at h3
  rw [h3,List.getElem?_map,List.getElem?_eq_getElem hi] at h2
  rw [h1,List.getElem?_map,List.getElem?_eq_getElem hi]
  obtain ⟨l',rfl,hm⟩:=ys[i].2
  obtain ⟨k,hk,e⟩:=mem_revI hm
  simp only [Option.map_some,Option.some.injEq] at h2 ⊢
  rw [e] at h2 ⊢
  have hk':k=l'.length - 1 - i:=by simp only at h2;omega
  subst hk';rfl
 ·rw [List.getElem?_eq_none (by simpa using hi),List.getElem?_eq_none (by rw [zg8];omega)]
theorem bw_mem {l:List UInt8} (x:BwEl (·=l)):x.1∈revI l:=by
 obtain ⟨x,l',rfl,hm⟩:=x
 exact hm
theorem bw_memN {n:Nat} (x:BwEl (fun l=>l.length=n)):x.1.1∈revN n:=by
 obtain ⟨x,l',rfl,hm⟩:=x
 obtain ⟨k,hk,rfl⟩:=mem_revI hm
 exact mem_revN.2 ⟨k,hk,rfl⟩
theorem zib (v:Value) (hv:v.cells=#[v]) (w:World):Calls Tryz.prog 96 [v].toArray w fun e w' =>
  ∃ g,e=.returned (.func (.func 128) #[] #[bp g])/\Nw w (bp g)/\Blk w' g 22 #[v]/\Ext w w' :=
 (Backward_calls v hv w).mono fun e w' h=>⟨w.heap.size,h.1,Nw.bp w,h.2.1,h.2.2⟩
end Gk

/- poly.Degree walks: the place of the last number that is not 0. No condition but the length. -/
namespace Gk
open Go Go.Proofs Go.RowKit
def firstNZ:List (Int×UInt8)->Int
 | []=>-1
 | (i,c) :: r=>if c=0 then firstNZ r else i
def degI (p:List UInt8):Int:=firstNZ (revI p)
noncomputable def zel (a:List UInt8):Option Int:=if a.length<9223372036854775808 then some (degI a) else none
theorem firstNZ_stop:∀ (a:List (Int×UInt8)) (i:Int) (c:UInt8) (b:List (Int×UInt8)),(∀ x∈a,x.2=0)->c≠0->firstNZ (a ++ (i,c) :: b)=i
 | [],i,c,b,_,hc=>by simp [firstNZ,hc]
 | (j,d) :: a,i,c,b,h,hc=>by
  have h0:d=0:=h (j,d) (by simp)
  simp only [List.cons_append,firstNZ,h0,if_true]
  exact firstNZ_stop a i c b (fun x hx=>h x (by simp [hx])) hc
theorem firstNZ_none:∀ (a:List (Int×UInt8)),(∀ x∈a,x.2=0)->firstNZ a=-1
 | [],_=>rfl
 | (j,d) :: a,h=>by
  have h0:d=0:=h (j,d) (by simp)
  simp only [firstNZ,h0,if_true]
  exact firstNZ_none a (fun x hx=>h x (by simp [hx]))
theorem zf7 (o:List UInt8) (h:Value) (O:Int) (w0:World) (H:By w0 [] h o) (D:zel o=some O) :
  Calls Tryz.prog 124 [h].toArray w0 (fun b aC=>b=.returned (i64 O)/\Ext w0 aC):=by
 have a1:Ext w0 w0:=Ext.refl w0;unfold zel at D
 split at D
 case isFalse=>cases D
 rename_i a7
 obtain rfl:=osi D;have a3:h.cells=#[h]:=zb4 _ _ H;refine zai (n:=12) Tryz.func124 V V V<|W_sr<|wls V V (stp_alloc (z:=i64 0) V Tryz.zeroValue3 ?_);intro C I a4;have T:=a1.trans (zaa a4)
 generalize hgg:w0.heap.size=g at I
 have J:Blk C g 3 #[i64 0]:=I;refine wnt<|W_seq<|W_sr<|mv h V V<|wls V V (zab (vs:=[h]) Tryz.func96 V V V (ar1 V) (Backward_calls h a3 C) ?_);rintro _ r ⟨rfl,K,P⟩;refine ⟨_,rfl,?_⟩;have j:=T.trans P;have L:Blk r g 3 #[i64 0]:=J.ext P;refine wnt<|zac<|?_;have a2:By r [] h o:=H.lift (le_ j);have Z:C.heap.size<r.heap.size:=K.lt;have a9:g<r.heap.size:=L.lt;refine W_range2 (α:=Int×UInt8) (ea:=fun a=>i64 a.1) (eb:=fun a=>u8 a.2) V V (gf:=128) (lb:=#[.pointer (some ⟨C.heap.size,0,none⟩)]) V (enters Tryz.func128 V V)
  (backward_stops r.heap.size [g] h o C.heap.size r a2 (H.inB j.size (by simp;omega)) K Z (by have:=J.lt;simp;omega) (Nat.le_refl _) a7) (fun X f=>X.trans f) ?_ (Below.refl _ _) rfl rfl
  (fun s B=>(∀ a∈s,a.2=0)/\Blk B g 3 #[i64 0]/\Ext w0 B)
  (fun s B=>∃ l i p,s=l ++ [(i,p)]/\(∀ a∈l,a.2=0)/\p≠0/\Blk B g 3 #[i64 i]/\Ext w0 B) ?_ ?_ ⟨by simp,L,j⟩
  (fun a U=>upd (upd U 3 (i64 a.1)) 4 (u8 a.2)) ?_ ?_ ?_ ?_
 ·intro W M aG aA a6 _ _ _;exact KpG.putObj W aA a6
 ·intro s W Q aB ⟨c,d,e⟩ w y;exact ⟨c,d.grownO w (fun f b=>by have:=(y f b).1;omega),e.grownO w (fun f b=>by have:=(y f b).1;have:=j.size;omega)⟩
 ·rintro s W Q aB ⟨l,i,p,Y,c,k,d,e⟩ w y;exact ⟨l,i,p,Y,c,k,d.grownO w (fun f b=>by have:=(y f b).1;omega),e.grownO w (fun f b=>by have:=(y f b).1;have:=j.size;omega)⟩
 ·intro M a E aE q;refine W_sr<|av (i64 a.1) V V<|wnt<|W_rg<|av (u8 a.2) V V<|zag<|?_;exact q
 ·rintro M N a E ⟨c,d,e⟩ _;refine zac<|W_sr<|mv (u8 a.2) V V<|wa V (q_ne8 V V (cst8 (0:UInt8) V))<|wnt<|zam _ V V (fun v=>?_) (fun v=>?_)
  ·have k:=zbf v;refine W_sr<|mv (i64 a.1) V V<|wln V V (zdg (g:=g) (m:=0) (u:=i64 a.1) V Tryz.sizeOf3 (by rw [← hgg];rfl) rfl d (by decide) rfl ?_)
   intro R F x;refine wnt<|W_ret<|?_;exact ⟨KeepsFrom.of_grownBy x (fun aF b=>by cases b;exact a9),N,a.1,a.2,rfl,c,k,F,e.grownB x (Nat.le_of_eq hgg)⟩
  have k:=zbg v;refine zae<|⟨KeepsFrom.refl _ _,KpG.refl _ _ _,?_,d,e⟩;intro aD A
  rcases List.mem_append.1 A with A | A
  ·exact c aD A
  rw [List.mem_singleton.1 A];exact k
 ·rintro t s E a0 rfl ⟨c,d,e⟩ q
  have a5:g≠t:=by omega
  refine bk_n<|W_th<|W_sr<|wln V V (zdg (g:=g) (m:=0) (u:=i64 (-1)) V Tryz.sizeOf3 (by rw [← hgg];rfl) rfl d (by decide) rfl ?_)
  intro R F x;refine wnt<|W_ret<|?_;have G:degI o=-1:=firstNZ_none _ c;refine rtc_mark (g:=g) (u:=i64 (-1)) V V (by rw [← hgg];rfl) rfl ?_ Tryz.isAgg3 F ?_
  ·rw [x.block t (Array.getElem?_eq_some_iff.1 q).1 (fun b=>a5 (by cases b;rfl))];exact q
  rw [G];exact ⟨rfl,(e.grownB x (Nat.le_of_eq hgg)).putD t _ (by have:=j.size;omega)⟩
 rintro t N E a0 a8 ⟨l,i,p,rfl,c,k,d,e⟩ q;refine bk_r<|th_r<|?_
 have G:degI o=i:=by
  obtain ⟨S,v⟩:=a8;unfold degI;rw [← v,List.append_assoc];exact firstNZ_stop l i p S c k
 refine rtc_mark (g:=g) (u:=i64 i) V V (by rw [← hgg];rfl) rfl q Tryz.isAgg3 d ?_
 rw [G];exact ⟨rfl,e.putD t _ (by have:=j.size;omega)⟩
end Gk

/- slices.Clone walks, over bytes and over numbers. No condition but the length. -/
namespace Gk
open Go Go.Proofs
def zaj (a0:List UInt8):Option (List UInt8):=appL [] a0
theorem zap (a:List UInt8) (p:Value) (h:List UInt8) (w0:World) (f:By w0 [] p a) (b:zaj a=some h) :
  Calls Tryz.prog 59 [p].toArray w0 (fun r q=>∃ i:Value,r=.returned i/\Ext w0 q/\Nw w0 i/\OwK (Sc u8) q [] 5 i h):=by
 unfold zaj at b;have k:Ext w0 w0:=Ext.refl w0;obtain ⟨g,c,rfl,G⟩:=SlK.shape f;refine zai (n:=8) Tryz.func59 V V V<|W_sr<|av (.slice none 0 0) V V<|wnt<|W_seq<|W_sr<|mv (.slice g a.length c) V V<|wa V (q_eqSl V T22.sl V V)<|wnt<|zam _ V V (fun e=>?_) (fun e=>?_)
 ·have x:a=[]:=by
   obtain ⟨us,⟨K,F,m,_,z⟩,y,_⟩:=f;cases us with
   | nil=>exact List.eq_nil_of_length_eq_zero y.symm
   | cons u us =>
    obtain ⟨E,J,rfl,_⟩:=z (by simp);simp only [Value.slice.injEq] at m;rw [m.1] at e;cases e
  subst x
  obtain rfl:h=[]:=by simpa [appL] using b.symm
  refine W_sr<|av (.slice none 0 0) V V<|wnt<|W_ret<|rt1 (.slice none 0 0) V V V V ?_;exact ⟨_,rfl,k,Nw.nil _,OwK.nil _ _ _ _⟩
 refine zae<|W_th<|W_sr<|wls V V (zaz (L:=[]) (R:=Sc u8) [] ([]:List UInt8) V T22 V (by exact trivial) V (litC u8 zbi (us:=[]) (l:=([]:List UInt8)) V) V (litS u8 (us:=[]) (l:=([]:List UInt8)) V) ?_);intro D M B o s H;have d:=k.trans (zaa s);refine mv (.slice g a.length c) V V<|wls V V (zav (R:=Sc u8) (v:=D) (u:=.slice g a.length c) (Sc.stab _) [] [] V T22 V V B (f.lift (le_ d)) (fun _ _ w=>w) b oc_u8 ?_);intro j N C t A I;refine av j V V<|wnt<|W_ret<|rt1 j V V V V ?_;exact ⟨j,rfl,d.grown t o,Nw.nxt d o A,C.weak (Sc.stab _) (fun _ _=>trivial)⟩
def zdq (a0:List Int):Option (List Int):=appL [] a0
theorem zif (a:List Int) (p:Value) (h:List Int) (w0:World) (f:In w0 [] p a) (b:zdq a=some h) :
  Calls Tryz.prog 42 [p].toArray w0 (fun r q=>∃ i:Value,r=.returned i/\Ext w0 q/\Nw w0 i/\OwK (Sc i64) q [] 3 i h):=by
 unfold zdq at b;have k:Ext w0 w0:=Ext.refl w0;obtain ⟨g,c,rfl,G⟩:=SlK.shape f;refine zai (n:=8) Tryz.func42 V V V<|W_sr<|av (.slice none 0 0) V V<|wnt<|W_seq<|W_sr<|mv (.slice g a.length c) V V<|wa V (q_eqSl V T35.sl V V)<|wnt<|zam _ V V (fun e=>?_) (fun e=>?_)
 ·have x:a=[]:=by
   obtain ⟨us,⟨K,F,m,_,z⟩,y,_⟩:=f;cases us with
   | nil=>exact List.eq_nil_of_length_eq_zero y.symm
   | cons u us =>
    obtain ⟨E,J,rfl,_⟩:=z (by simp);simp only [Value.slice.injEq] at m;rw [m.1] at e;cases e
  subst x
  obtain rfl:h=[]:=by simpa [appL] using b.symm
  refine W_sr<|av (.slice none 0 0) V V<|wnt<|W_ret<|rt1 (.slice none 0 0) V V V V ?_;exact ⟨_,rfl,k,Nw.nil _,OwK.nil _ _ _ _⟩
 refine zae<|W_th<|W_sr<|wls V V (zaz (L:=[]) (R:=Sc i64) [] ([]:List Int) V T35 V (by exact trivial) V (litC i64 oneC_i64 (us:=[]) (l:=([]:List Int)) V) V (litS i64 (us:=[]) (l:=([]:List Int)) V) ?_);intro D M B o s H;have d:=k.trans (zaa s);refine mv (.slice g a.length c) V V<|wls V V (zav (R:=Sc i64) (v:=D) (u:=.slice g a.length c) (Sc.stab _) [] [] V T35 V V B (f.lift (le_ d)) (fun _ _ w=>w) b oc_i64 ?_);intro j N C t A I;refine av j V V<|wnt<|W_ret<|rt1 j V V V V ?_;exact ⟨j,rfl,d.grown t o,Nw.nxt d o A,C.weak (Sc.stab _) (fun _ _=>trivial)⟩
end Gk

/- Printed by gen.py: for each Go function a pure function, and that the Go code comes to it. No condition beside the equation that says what the pure function gives. -/
namespace Gk
open Go Go.Proofs
noncomputable def ze0 (a:List UInt8):Option (List UInt8) :=
((zel a).bind fun c =>
((subL a 0 (wI (c+1))).bind fun b =>
((zaj b).bind fun d => some d)))
theorem zdx (a0p:List UInt8) (p0:Value) (r:List UInt8) (w0:World) (hp0:By w0 [] p0 a0p) (H:ze0 a0p=some r) :
  Calls Tryz.prog 139 [p0].toArray w0 (fun e w'=>∃ u0:Value,e=.returned u0/\Ext w0 w'/\Nw w0 u0/\OwK (Sc u8) w' [] 5 u0 r):=by
 have hE:Ext w0 w0:=Ext.refl w0;unfold ze0 at H;refine zai (n:=9) Tryz.func139 rfl rfl rfl ?_;refine W_seq<|W_rg<|av (.slice none 0 0) rfl rfl<|wnt<|W_seq<|W_rg<|mv p0 rfl rfl<|mv p0 rfl rfl<|?_;obtain ⟨r1,hr1,H⟩:=bsi H;refine wls rfl rfl (zab (vs:=[p0]) Tryz.func124 rfl rfl rfl (ar1 rfl) (zf7 a0p p0 r1 _ (hp0.lift (le_ hE)) hr1) ?_);rintro _ w1 ⟨rfl,x1⟩;refine ⟨_,rfl,?_⟩;have e2:=hE.trans x1;refine wa rfl (zak rfl rfl rfl) ?_;obtain ⟨c3,hc3,H⟩:=bsi H;refine wa rfl (zdv (a:=0) (b:=(wI (r1+1))) rfl T22 rfl (hp0.lift (le_ e2)) rfl rfl hc3) ?_;obtain ⟨r4,hr4,H⟩:=bsi H;refine wls rfl rfl (zab (vs:=[(subV p0 (0:Int).toNat ((wI (r1+1)):Int).toNat)]) Tryz.func59 rfl rfl rfl (ar1 rfl) (zap c3 (subV p0 (0:Int).toNat ((wI (r1+1)):Int).toNat) r4 _ (SlK.cut (L:=[]) (hp0.lift (le_ e2)) hc3) hr4) ?_);rintro _ w4 ⟨v4,rfl,x4,n4_0,o4_0⟩;refine ⟨_,rfl,?_⟩;have o4:OwK (Sc u8) w4 (v4 :: []) 5 v4 r4:=OwK.scal o4_0 _;have n6:=Nw.ext e2 n4_0;have e5:=e2.trans x4;refine av v4 rfl rfl<|wnt<|W_ret<|?_;obtain rfl:=osi H;refine rt1 v4 rfl rfl rfl rfl ?_;exact ⟨v4,rfl,e5,n6,(o4.weak (Sc.stab _) (fun _ _=>trivial))⟩
noncomputable def ziq (c:List UInt8) (b:List UInt8):Option (List UInt8) :=
((makeL (if (c.length:Int)<(b.length:Int) then (b.length:Int) else (c.length:Int)) (0:UInt8)).bind fun d =>
((iterC (fun a:List UInt8×Int =>
(if a.2<(b.length:Int) then
((idx b a.2).bind fun f =>
((idx a.1 a.2).bind fun e => some (.inl (a.1.set (a.2:Int).toNat (e^^^f),wI (a.2+1)))))
else some (.inr a.1))) (copyL d 0 c,0)).bind fun h =>
((ze0 h).bind fun g => some g)))
theorem poly_Add_calls (w:List UInt8) (r:List UInt8) (g:Value) (h:Value) (F:List UInt8) (w0:World) (C:By w0 [] g w) (p:By w0 [] h r) (c:ziq w r=some F) :
  Calls Tryz.prog 127 [g,h].toArray w0 (fun O K=>∃ v:Value,O=.returned v/\Ext w0 K/\Nw w0 v/\OwK (Sc u8) K [] 5 v F):=by
 have l:Ext w0 w0:=Ext.refl w0;unfold ziq at c;refine zai (n:=34) Tryz.func127 V V V<|W_sr<|av (.slice none 0 0) V V<|wnt<|W_sr<|mv g V V<|wa V (q_len V T22.sl V (C.lift (le_ l)))<|mv h V V<|wa V (q_len V T22.sl V (p.lift (le_ l)))<|wa V (q_maxI V V V)<|?_;obtain ⟨aD,X,c⟩:=bsi c;refine wls V V (zb3 (L:=[]) (R:=Sc u8) V T22 V V X (fun _ _=>rfl) ?_);intro a aI E a0 S aE;have aB:=zaa S;have D:=Nw.ext l a0;have y:=l.trans aB;refine av a V V<|wnt<|W_sr<|mv a V V<|mv g V V<|wls V V (stp_copy (R:=Sc u8) (off:=0) (dv:=a) (u:=g) (Sc.stab _) [] [] V T22 V V E (copy_whole E) (by decide) (Int.natCast_nonneg _) (C.lift (le_ y)) (fun _ _ W=>W) oc_u8 ?_);intro aL a7 U aG;have z:=y.grown U D;refine wnt<|W_seq<|W_sr<|mv h V V<|wa V (q_len V T22.sl V (p.lift (le_ z)))<|mv (i64 0) V V<|wnt<|?_;obtain ⟨M,N,c⟩:=bsi c;refine W_mid (fun d j=>d 5=a/\d 34=undef/\Ext w0 j/\OwK (Sc u8) j [a] 5 a M/\Nw w0 a) ?_ ?_
 ·refine zac<|zau (fun e d j=>d 5=a/\d 17=h/\d 18=i64 (r.length:Int)/\d 19=i64 e.2/\d 34=undef/\Ext w0 j/\OwK (Sc u8) j [a] 5 a e.1/\Nw w0 a) N ?_ ?_
  ·exact ⟨rfl,rfl,rfl,rfl,rfl,z,a7,D⟩
  rintro e _ _ aM ⟨t,H,I,q,J,m,f,s⟩ b Z;refine W_sr<|wa V (q_ltI V q I)<|wnt<|W_seq<|wci b V V (fun b=>?_) (fun b=>?_)
  ·refine zae<|W_th<|W_seq<|zac<|W_sr<|mv (i64 e.2) V q<|bse b fun k B b=>wa V (q_adr V T22 H q (p.lift (le_ m)) B)<|wq V (zao V T22 V (p.lift (le_ m)) B)<|av (i64 e.2) V V<|av (u8 k) V V<|wnt<|W_rg<|mv a V t<|mv (i64 e.2) V V<|?_;obtain ⟨x,o,b⟩:=bsi b;refine wa V (q_adr V T22 V V (f.rd (Sc.stab _)) o)<|wq V (zao V T22 V (f.rd (Sc.stab _)) o)<|mv (u8 k) V V<|wa V (zdb V V V)<|wa V (q_adr V T22 V V (f.rd (Sc.stab _)) o)<|wln V V (zci (R:=Sc u8) (u:=u8 (x^^^k)) (Sc.stab _) [] [] V T22 V V f (zf6 (x^^^k) o) V V ?_);intro aJ a4 T aF;have P:=m.grown T s;refine zag<|bk_n<|W_th<|W_rg<|wa V (zak V q V)<|mv (i64 (wI (e.2+1))) V V<|zag<|?_;obtain rfl:=osi b;exact ⟨_,rfl,t,H,I,rfl,J,P,a4,s⟩
  refine zar<|th_x<|?_;obtain rfl:=osi b;obtain rfl:=Z _ rfl;refine th_x<|bk_x<|?_;exact ⟨t,J,m,f,s⟩
 rintro _ aK ⟨a9,a8,A,a3,aH⟩;refine W_th<|W_sr<|mv a V a9<|?_;obtain ⟨G,Y,c⟩:=bsi c;refine wls V V (zab (vs:=[a]) Tryz.func139 V V V (ar1 V) (zdx M a G _ (a3.rd (Sc.stab _)) Y) ?_);rintro _ aA ⟨i,rfl,aC,a1,a6⟩;refine ⟨_,rfl,?_⟩;have a5:OwK (Sc u8) aA (i::[a]) 5 i G:=OwK.scal a6 _;have a2:=Nw.ext A a1;have Q:=A.trans aC;refine av i V V<|wnt<|W_ret<|?_;obtain rfl:=osi c;refine rt1 i V V V a8 ?_;exact ⟨i,rfl,Q,a2,a5.weak (Sc.stab _) (fun _ _=>trivial)⟩
noncomputable def zha (d:Bool) (e:List UInt8) (f:List UInt8):Option (List UInt8×Int) :=
((ze0 e).bind fun b =>
((ze0 f).bind fun c =>
(if (!d)=true then some (([]:List UInt8),1)
else
(if (b.length:Int)=0 then some (([]:List UInt8),0)
else
(if (c.length:Int)=0 then some (([]:List UInt8),0)
else
(if 256<(wI ((wI ((b.length:Int)+(c.length:Int))) - 1)) then some (([]:List UInt8),4)
else
((makeL (wI ((wI ((b.length:Int)+(c.length:Int))) - 1)) (0:UInt8)).bind fun i =>
((iterC (fun a:List UInt8×Int =>
(if a.2<(b.length:Int) then
((idx b a.2).bind fun g =>
((subL a.1 a.2 (a.1.length:Int)).bind fun l =>
((subL a.1 a.2 (wI (a.2+(c.length:Int)))).bind fun h =>
((zdl d h g c).bind fun j => some (.inl (copyL a.1 a.2 j,wI (a.2+1)))))))
else some (.inr a.1))) (i,0)).bind fun k => some (k,0)))))))))
theorem zix (D:Bool) (H:List UInt8) (I:List UInt8) (s:Value) (z:Value) (A:Value) (P:List UInt8×Int) (w0:World) (a2:Fd w0 [] s D) (aM:By w0 [] z H) (aN:By w0 [] A I) (c:zha D H I=some P) :
  Calls Tryz.prog 126 [s,z,A].toArray w0 (fun aD a9=>∃ S:Value,aD=.returned (.tuple #[S,i64 P.2])/\Ext w0 a9/\Nw w0 S/\OwK (Sc u8) a9 [] 5 S P.1):=by
 have Y:Ext w0 w0:=Ext.refl w0;unfold zha at c;refine zai (n:=66) Tryz.func126 V V V<|W_sr<|av (.slice none 0 0) V V<|av (i64 0) V V<|wnt<|W_sr<|mv z V V<|?_;obtain ⟨x,aO,c⟩:=bsi c;refine wls V V (zab (vs:=[z]) Tryz.func139 V V V (ar1 V) (zdx H z x _ (aM.lift (le_ Y)) aO) ?_);rintro _ b6 ⟨o,rfl,bA,aV,aZ⟩;refine ⟨_,rfl,?_⟩;have l:By b6 [] o x:=OwK.slk (Sc.stab _) _ (OwK.scal aZ (o::[])) (fun p y=>(Old.nil _) p (aV p y)) (fun _ r=>r.2);have X:=Y.trans bA;refine mv A V V ?_;obtain ⟨j,aR,c⟩:=bsi c;refine wls V V (zab (vs:=[A]) Tryz.func139 V V V (ar1 V) (zdx I A j _ (aN.lift (le_ X)) aR) ?_);rintro _ b9 ⟨g,rfl,aA,aX,b2⟩;refine ⟨_,rfl,?_⟩;have w:By b9 [] g j:=OwK.slk (Sc.stab _) _ (OwK.scal b2 (g::[])) (fun p y=>(Old.nil _) p (aX p y)) (fun _ r=>r.2);replace l:=l.lift (le_ aA);have q:=X.trans aA;refine av o V V<|av g V V<|wnt<|W_seq<|zac<|W_sr<|mv s V V<|wa V (q_eqF V V V V (a2.lift (le_ q)))<|av (.bool (!D)) V V<|wnt<|zam _ V V (fun J=>?_) (fun J=>?_)
 ·replace c:=(if_pos J).symm.trans c;refine W_sr<|av (.slice none 0 0) V V<|av (i64 1) V V<|wnt<|W_ret<|bk_r<|th_r<|?_;obtain rfl:=osi c;refine rt2 (.slice none 0 0) (i64 1) V V V V V V ?_;exact ⟨.slice none 0 0,rfl,q,Nw.nil _,OwK.nil _ _ _ _⟩
 replace c:=(if_neg (ne_true_of_eq_false J)).symm.trans c;refine W_sr<|mv o V V<|wa V (q_len V T22.sl V l)<|wa V (q_eqI V V V)<|wlb V V (zbd (v:=(.bool (decide ((x.length:Int)=0)))) V V) (fun K=>?_) (fun K=>?_)
 ·replace c:=ifp K c;refine wk V<|wk V<|wk V<|wa V (zaw (v:=(.bool true)) V V V)<|av (.bool true) V V<|wnt<|zam true V V (fun _=>?_) (fun aK=>by cases aK);refine W_sr<|av (.slice none 0 0) V V<|av (i64 0) V V<|wnt<|W_ret<|bk_r<|th_r<|?_;obtain rfl:=osi c;refine rt2 (.slice none 0 0) (i64 0) V V V V V V ?_;exact ⟨.slice none 0 0,rfl,q,Nw.nil _,OwK.nil _ _ _ _⟩
 replace c:=ifn K c;refine mv g V V<|wa V (q_len V T22.sl V w)<|wa V (q_eqI V V V)<|wa V (zaq (v:=(.bool (decide ((j.length:Int)=0)))) V V V)<|av (.bool (decide ((j.length:Int)=0))) V V<|wnt<|wci c V V (fun c=>?_) (fun c=>?_)
 ·refine W_sr<|av (.slice none 0 0) V V<|av (i64 0) V V<|wnt<|W_ret<|bk_r<|th_r<|?_;obtain rfl:=osi c;refine rt2 (.slice none 0 0) (i64 0) V V V V V V ?_;exact ⟨.slice none 0 0,rfl,q,Nw.nil _,OwK.nil _ _ _ _⟩
 refine W_sr<|mv o V V<|wa V (q_len V T22.sl V l)<|mv g V V<|wa V (q_len V T22.sl V w)<|wa V (zak V V V)<|wa V (za9 V V V)<|wa V (q_gtI V V V)<|av (.bool (decide (256<(wI ((wI ((x.length:Int)+(j.length:Int))) - 1))))) V V<|wnt<|wci c V V (fun c=>?_) (fun c=>?_)
 ·refine W_sr<|av (.slice none 0 0) V V<|av (i64 4) V V<|wnt<|W_ret<|bk_r<|th_r<|?_;obtain rfl:=osi c;refine rt2 (.slice none 0 0) (i64 4) V V V V V V ?_;exact ⟨.slice none 0 0,rfl,q,Nw.nil _,OwK.nil _ _ _ _⟩
 refine zae<|bk_n<|W_th<|W_sr<|mv o V V<|wa V (q_len V T22.sl V l)<|mv g V V<|wa V (q_len V T22.sl V w)<|wa V (zak V V V)<|wa V (za9 V V V)<|?_;obtain ⟨bD,aL,c⟩:=bsi c;refine wls V V (zb3 (L:=[]) (R:=Sc u8) V T22 V V aL (fun _ _=>rfl) ?_);intro d bH b3 O aI bE;have U:=zaa aI;replace l:=l.lift (Lift.call _ U O);replace w:=w.lift (Lift.call _ U O);have aU:=Nw.ext q O;have aE:=q.trans U;refine av d V V<|wnt<|W_seq<|W_sr<|mv o V V<|wa V (q_len V T22.sl V l)<|mv (i64 0) V V<|wnt ?_;obtain ⟨bB,aB,c⟩:=bsi c;refine W_mid (fun h t=>h 8=d/\h 66=undef/\Ext w0 t/\OwK (Sc u8) t [d] 5 d bB/\Nw w0 d) ?_ ?_
 ·refine zac<|zau (fun e h t=>h 0=s/\h 2=g/\h 8=d/\h 42=o/\h 43=i64 (x.length:Int)/\h 44=i64 e.2/\h 66=undef/\Ext w0 t/\OwK (Sc u8) t [d] 5 d e.1/\Nw w0 d/\By t [d] g j/\By t [d] o x) aB ?_ ?_
  ·exact ⟨rfl,rfl,rfl,rfl,rfl,rfl,rfl,aE,b3,aU,w,l⟩
  rintro e _ _ b7 ⟨a5,Q,G,a6,a7,F,a8,Z,i,N,k,m⟩ f aP;refine W_sr<|wa V (q_ltI V F a7)<|wnt<|W_seq<|wci f V V (fun f=>?_) (fun f=>?_)
  ·refine zae<|W_th<|W_seq<|zac<|W_sr<|mv (i64 e.2) V F<|bse f fun E a0 f=>wa V (q_adr V T22 a6 F m a0)<|wq V (zao V T22 V m a0)<|av (i64 e.2) V V<|av (u8 E) V V<|wnt<|zba [] [(0,0),(1,0),(2,0),(3,0),(4,0),(5,0),(6,0),(7,0),(8,0),(9,0),(10,0),(11,0),(12,0),(13,2),(14,2)] mixed (by kernel_rfl) (by kernel_rfl) (by kernel_rfl) (by kernel_rfl) ?_;have B:=Ext.drew b7;replace k:=k.lift (le_ B);replace m:=m.lift (le_ B);replace i:=i.extL (Sc.stab _) B (le_ B);have W:=Z.trans B;refine sv d V V G<|sv (i64 e.2) V V V<|bse f fun bC M f=>sa V V (zdv (a:=e.2) (b:=(e.1.length:Int)) V T22 V (i.rd (Sc.stab _)) V V M)<|sv s V V a5<|sv d V V G<|sv (i64 e.2) V V V<|sv (i64 e.2) V V V<|sv g V V Q<|sa V V (q_len V T22.sl V k)<|sa V V (zak V V V)<|bse f fun aC a1 f=>sa V V (zdv (a:=e.2) (b:=wI (e.2+(j.length:Int))) V T22 V (i.rd (Sc.stab _)) V V a1)<|sv (u8 E) V V V<|sv g V V Q<|?_;obtain ⟨a4,aQ,f⟩:=bsi f;refine wsc V (by kernel_rfl) V V (zab (vs:=[s,subV d (e.2:Int).toNat ((wI (e.2+(j.length:Int))):Int).toNat,u8 E,g]) Tryz.func72 V V V (ar4 V V V V) (zdt D aC E j s (subV d (e.2:Int).toNat ((wI (e.2+(j.length:Int))):Int).toNat) g a4 _ (a2.lift (le_ W)) (SlK.cut (L:=[]) (i.rd (Sc.stab _)) a1) (k.lift (Lift.sub (L':=[]) (fun _ _=>trivial))) aQ) ?_);rintro _ b8 ⟨T,rfl,C,aW,b0⟩;refine ⟨_,rfl,?_⟩;have aS:By b8 [d] T a4:=OwK.slk (Sc.stab _) _ (OwK.scal b0 (T::[d])) (fun p y=>(Old.cons (Old.nil _) i.lt) p (aW p y)) (fun _ r=>r.2);replace k:=k.lift (le_ C);replace m:=m.lift (le_ C);replace i:=i.extL (Sc.stab _) C (le_ C);have aF:=W.trans C;refine wsc V (by kernel_rfl) V V (stp_copy (R:=Sc u8) (off:=e.2) (dv:=subV d (e.2:Int).toNat ((e.1.length:Int):Int).toNat) (u:=T) (Sc.stab _) [] [] V T22 V V i V (ze9.1 M).1.1 (subL_lo M) aS (fun _ _ r=>r) oc_u8 ?_)
   intro bF b1 aH a3;replace k:=k.lift a3;replace m:=m.lift a3;have aG:=aF.grown aH N;refine za1<|bk_n<|W_th<|W_rg<|wa V (zak V F V)<|mv (i64 (wI (e.2+1))) V V<|zag<|?_;obtain rfl:=osi f;exact ⟨_,rfl,a5,Q,G,a6,a7,rfl,a8,aG,b1,N,k,m⟩
  refine zar<|th_x<|?_;obtain rfl:=osi f;obtain rfl:=aP _ rfl;refine th_x<|bk_x<|?_;exact ⟨G,a8,Z,i,N⟩
 rintro _ bG ⟨b5,b4,aJ,aY,aT⟩;refine W_th<|W_sr<|mv d V b5<|av d V V<|av (i64 0) V V<|wnt<|W_ret<|?_;obtain rfl:=osi c;refine rt2 d (i64 0) V V V V V b4 ?_;exact ⟨d,rfl,aJ,aT,aY.weak (Sc.stab _) (fun _ _=>trivial)⟩
noncomputable def zh7 (c:Bool) (b:List UInt8):Option (List UInt8×Int) :=
(if (!c)=true then some (([]:List UInt8),1)
else
(if 255<(b.length:Int) then some (([]:List UInt8),4)
else
((iterC (fun a:List UInt8×Int =>
(if a.2<(b.length:Int) then
((idx b a.2).bind fun d =>
((zha c a.1 ([d,(1:UInt8)]:List UInt8)).bind fun e => some (.inl (e.1,wI (a.2+1)))))
else some (.inr a.1))) (([(1:UInt8)]:List UInt8),0)).bind fun f => some (f,0))))
theorem poly_Vanish_calls (o:Bool) (p:List UInt8) (e:Value) (i:Value) (y:List UInt8×Int) (w0:World) (G:Fd w0 [] e o) (r:By w0 [] i p) (a:zh7 o p=some y) :
  Calls Tryz.prog 122 [e,i].toArray w0 (fun S P=>∃ B:Value,S=.returned (.tuple #[B,i64 y.2])/\Ext w0 P/\Nw w0 B/\OwK (Sc u8) P [] 5 B y.1):=by
 have g:Ext w0 w0:=Ext.refl w0;unfold zh7 at a;refine zai (n:=33) Tryz.func122 V V V<|W_sr<|av (.slice none 0 0) V V<|av (i64 0) V V<|wnt<|W_seq<|zac<|W_seq<|W_rg<|mv e V V<|wa V (q_eqF V V V V (G.lift (le_ g)))<|av (.bool (!o)) V V<|wnt<|zam _ V V (fun x=>?_) (fun x=>?_)
 ·replace a:=(if_pos x).symm.trans a;refine W_sr<|av (.slice none 0 0) V V<|av (i64 1) V V<|wnt<|W_ret<|bk_r<|th_r<|?_;obtain rfl:=osi a;refine rt2 (.slice none 0 0) (i64 1) V V V V V V ?_;exact ⟨.slice none 0 0,rfl,g,Nw.nil _,OwK.nil _ _ _ _⟩
 replace a:=(if_neg (ne_true_of_eq_false x)).symm.trans a;refine W_sr<|mv i V V<|wa V (q_len V T22.sl V (r.lift (le_ g)))<|wa V (q_gtI V V V)<|av (.bool (decide (255<(p.length:Int)))) V V<|wnt<|wci a V V (fun a=>?_) (fun a=>?_)
 ·refine W_sr<|av (.slice none 0 0) V V<|av (i64 4) V V<|wnt<|W_ret<|bk_r<|th_r<|?_;obtain rfl:=osi a;refine rt2 (.slice none 0 0) (i64 4) V V V V V V ?_;exact ⟨.slice none 0 0,rfl,g,Nw.nil _,OwK.nil _ _ _ _⟩
 refine zae<|bk_n<|W_th<|W_sr<|wls V V (zaz (L:=[]) (R:=Sc u8) [u8 1] ([(1:UInt8)]:List UInt8) V T22 V (by exact ⟨rfl,cst8 (1:UInt8) V,trivial⟩) V (litC u8 zbi (us:=[u8 1]) (l:=([(1:UInt8)]:List UInt8)) V) V (litS u8 (us:=[u8 1]) (l:=([(1:UInt8)]:List UInt8)) V) ?_);intro O aO aD a7 W aM;have aJ:=zaa W;have a8:=Nw.ext g a7;have E:=g.trans aJ;refine av O V V<|wnt<|W_seq<|W_sr<|mv i V V<|wa V (q_len V T22.sl V (r.lift (le_ E)))<|mv (i64 0) V V<|wnt ?_;obtain ⟨aK,Q,a⟩:=bsi a;refine W_mid (fun d m=>∃ u:Value,d 6=u/\d 33=undef/\Ext w0 m/\OwK (Sc u8) m [u] 5 u aK/\Nw w0 u) ?_ ?_
 ·refine zac<|zau (fun j d m=>∃ s:Value,d 0=e/\d 6=s/\d 17=i/\d 18=i64 (p.length:Int)/\d 19=i64 j.2/\d 33=undef/\Ext w0 m/\OwK (Sc u8) m [s] 5 s j.1/\Nw w0 s) Q ?_ ?_
  ·exact ⟨O,rfl,rfl,rfl,rfl,rfl,rfl,E,aD,a8⟩
  rintro j _ _ aP ⟨f,I,N,J,K,A,M,q,h,a3⟩ c a0;refine W_sr<|wa V (q_ltI V A K)<|wnt<|W_seq<|wci c V V (fun c=>?_) (fun c=>?_)
  ·refine zae<|W_th<|W_seq<|zac<|W_sr<|bse c fun b F c=>wa V (q_adr V T22 J A (r.lift (le_ q)) F)<|wq V (zao V T22 V (r.lift (le_ q)) F)<|av (u8 b) V V<|wnt<|W_rg<|mv e V I<|mv f V N<|mv (u8 b) V V<|wls V V (zaz (L:=[f]) (R:=Sc u8) [u8 b,u8 1] ([b,(1:UInt8)]:List UInt8) V T22 V (by exact ⟨rfl,rfl,rfl,cst8 (1:UInt8) V,trivial⟩) V (litC u8 zbi (us:=[u8 b,u8 1]) (l:=([b,(1:UInt8)]:List UInt8)) V) V (litS u8 (us:=[u8 b,u8 1]) (l:=([b,(1:UInt8)]:List UInt8)) V) ?_);intro C aG aA a4 U aL;have D:=zaa U;have a1:By aG [f] C ([b,(1:UInt8)]:List UInt8):=OwK.slk (Sc.stab _) _ aA (fun H Y=>(Old.cons (Old.nil _) h.lt) H (a4 H Y)) (fun _ w=>w.2);replace h:=h.extL (Sc.stab _) D (le_ D);have v:=q.trans D;obtain ⟨z,Z,c⟩:=bsi c;refine wls V V (zab (vs:=[e,f,C]) Tryz.func126 V V V (ar3 V V V) (zix o j.1 ([b,(1:UInt8)]:List UInt8) e f C z _ (G.lift (le_ v)) (h.rd (Sc.stab _)) (a1.lift (Lift.sub (L':=[]) (fun _ _=>trivial))) Z) ?_);rintro _ aH ⟨k,rfl,aI,a5,aC⟩;refine ⟨_,rfl,?_⟩;have aB:OwK (Sc u8) aH (k::[f]) 5 k z.1:=OwK.scal aC _;have a6:=Nw.ext v a5;have T:=v.trans aI;refine mv (.tuple #[k,i64 z.2]) V V<|wa V (zah V V V)<|wa V (zah V V V)<|av k V V<|zag<|bk_n<|W_th<|W_rg<|wa V (zak V A V)<|mv (i64 (wI (j.2+1))) V V<|zag<|?_;obtain rfl:=osi c;exact ⟨_,rfl,k,I,rfl,J,K,rfl,M,T,aB.weak (Sc.stab _) (fun _ w=>⟨w.1,trivial⟩),a6⟩
  refine zar<|th_x<|?_;obtain rfl:=osi c;obtain rfl:=a0 _ rfl;refine th_x<|bk_x<|?_;exact ⟨f,N,M,q,h,a3⟩
 rintro _ aN ⟨t,aF,aE,X,a9,a2⟩;refine W_th<|W_sr<|mv t V aF<|av t V V<|av (i64 0) V V<|wnt<|W_ret<|?_;obtain rfl:=osi a;refine rt2 t (i64 0) V V V V V aE ?_;exact ⟨t,rfl,X,a2,a9.weak (Sc.stab _) (fun _ _=>trivial)⟩
noncomputable def zh9 (a:Bool) (b:List UInt8) (c:UInt8):Option UInt8 :=
((lim b.length).bind fun i =>
((zjh (fun (f:UInt8) (h:(Int×UInt8)) =>
((zcj a f c).bind fun d =>
((zct d h.2).bind fun e => some e))) (revI b) (0:UInt8)).bind fun g =>
(if (!a)=true then some (0:UInt8)
else some g)))
theorem poly_Eval_calls (G:Bool) (m:List UInt8) (h:UInt8) (f:Value) (k:Value) (aB:UInt8) (w0:World) (L:Fd w0 [] f G) (M:By w0 [] k m) (b:zh9 G m h=some aB) :
  Calls Tryz.prog 69 [f,k,u8 h].toArray w0 (fun aF bW=>aF=.returned (u8 aB)/\Ext w0 bW):=by
 have I:Ext w0 w0:=Ext.refl w0;unfold zh9 at b;refine zai (n:=23) Tryz.func69 V V V<|W_sr<|wls V V (zb9 (v:=f) (cs:=#[f]) [] V V (zjz (L.lift (le_ I))) ?_);intro c cN e aY aJ c5;have c0:=zaa aJ;have b4:=Nw.ext I aY;have T:=I.trans c0;refine wls V V (zb9 (v:=u8 h) (cs:=#[u8 h]) [bp c] V V V ?_);intro d cR j a6 aK c7;have aD:=zaa aK;have bS:Nq (bp c) (bp d):=e.nq a6;replace e:=e.ext aD;have b7:=Nw.ext T a6;have X:=T.trans aD;refine av (u8 0) V (cst8 (0:UInt8) V)<|wnt<|W_sr<|wls V V (zeu (z:=u8 0) (cs:=#[u8 0]) [bp d,bp c] V Tryz.zeroValue5 V ?_);intro i cS E N aL c8;have Q:=zaa aL;have bT:Nq (bp d) (bp i):=j.nq N;have bK:Nq (bp c) (bp i):=e.nq N;replace j:=j.ext Q;replace e:=e.ext Q;have aZ:=Nw.ext X N;have H:=X.trans Q;refine wnt<|W_seq<|W_sr<|mv k V V<|wls V V (zab (vs:=[k]) Tryz.func96 V V V (ar1 V) (zib _ (zb4 _ _ (M.lift (le_ H))) _) ?_);rintro _ bX ⟨a,rfl,D,a7,F⟩;refine ⟨_,rfl,?_⟩;have bL:Nq (bp i) (bp a):=E.nq D;have bM:Nq (bp d) (bp a):=j.nq D;have bN:Nq (bp c) (bp a):=e.nq D;replace E:=E.ext F;replace j:=j.ext F;replace e:=e.ext F;have b0:=Nw.ext H D;have C:=H.trans F;refine wnt<|zac<|?_;obtain ⟨c9,aP,b⟩:=bsi b;obtain ⟨P,aE,b⟩:=bsi b;refine W_rangeS (π:=fun g:BwEl (·=m)=>g.1) (xs:=revI m) (ea:=fun g=>i64 g.1.1) (eb:=fun g=>u8 g.1.2) (Rd:=RdB (·=m) a k) (gf:=128) (lb:=#[bp a]) aE V V V (enters Tryz.func128 V V) ((zg8 _).symm) (backward_gen (·=m) _ (fun a4 y=>congrArg List.length y) k a _ ⟨a7,_,rfl,M.lift (le_ C)⟩ (zjt aP)) (fun cT y=>bw_exact y) bw_mem (fun _ _ l y=>y.tn l) V V (fun r B=>Ext w0 B/\Blk B c 27 #[f]/\Nw w0 (bp c)/\Blk B d 5 #[u8 h]/\Nw w0 (bp d)/\Blk B i 5 #[u8 r]/\Nw w0 (bp i)/\Blk B a 22 #[k]/\Nw w0 (bp a)/\Nq (bp c) (bp d)/\Nq (bp c) (bp i)/\Nq (bp c) (bp a)/\Nq (bp d) (bp i)/\Nq (bp d) (bp a)/\Nq (bp i) (bp a)) ?_ ⟨C,e,b4,j,b7,E,aZ,a7,b0,bS,bK,bN,bT,bM,bL⟩ (fun g aI=>upd aI 9 (u8 g.1.2)) ?_ ?_ ?_
 ·rintro r W c2 l ⟨aN,b8,aW,bA,b1,bC,b3,bE,b5,bF,bH,bI,bO,bP,bR⟩;exact ⟨aN.tn l C.size,b8.tn l,aW,bA.tn l,b1,bC.tn l,b3,bE.tn l,b5,bF,bH,bI,bO,bP,bR⟩
 ·intro a4 g c3 c1 aO;refine W_rg<|av (u8 g.1.2) V V<|zag<|?_;exact aO
 ·rintro a4 ⟨R,c4⟩ r cM bY ⟨Y,o,aX,p,b2,A,a5,q,b6,bG,a8,bJ,a9,bQ,aA⟩ w;have aV:=KeepsFrom.refl bX.heap.size bY;refine zac<|W_rg<|wq V (zan (u:=f) V Tryz.isAgg27 V o V)<|wq V (zan (u:=u8 r) V Tryz.isAgg5 V A V)<|wq V (zan (u:=u8 h) V Tryz.isAgg5 V p V)<|?_;obtain ⟨O,aQ,w⟩:=bsi w;refine wls V V (zab (vs:=[f,u8 r,u8 h]) Tryz.func98 V V V (ar3 V V V) (zcr G r h f O _ (L.lift (le_ Y)) aQ) ?_);rintro _ cO ⟨rfl,s⟩;refine ⟨_,rfl,?_⟩;have aS:=aV.ext s;have aG:=Y.trans s;refine mv (u8 R.2) V V ?_;obtain ⟨aC,aR,w⟩:=bsi w;refine wls V V (zab (vs:=[u8 O,u8 R.2]) Tryz.func97 V V V (ar2 V V) (zei O R.2  aC _  aR) ?_);rintro _ cP ⟨rfl,t⟩;refine ⟨_,rfl,?_⟩;replace o:=(o.ext s).ext t;replace p:=(p.ext s).ext t;replace A:=(A.ext s).ext t;replace q:=(q.ext s).ext t;have aT:=aS.ext t;have aH:=aG.trans t;refine wln V V (zdu (u:=u8 aC) [bp c,bp d] [bp a] V Tryz.sizeOf5 V V A V ?_);intro cQ bB x c6;have aU:=aT.own x A.cl;replace o:=o.other x a8;replace p:=p.other x a9;replace q:=q.other x aA.symm;have U:=aH.grown x a5;refine zag<|bk_n<|?_;obtain rfl:=osi w;exact ⟨aU,⟨q,_,rfl,M.lift (le_ U)⟩,U,o,aX,p,b2,bB,a5,q,b6,bG,a8,bJ,a9,bQ,aA⟩
 intro S bZ aM ⟨J,b9,cA,cE,cB,bD,cC,cF,cD,cG,cH,cI,cJ,cK,cL⟩ Z;have a0:=Nat.le_trans C.size aM;have a3:=KeepsFrom.refl 0 bZ;refine bk_n<|W_th<|W_seq<|W_sr<|wq V (zan (u:=f) V Tryz.isAgg27 V b9 V)<|wa V (q_eqF V V V V (L.lift (le_ J)))<|wnt<|zam _ V V (fun K=>?_) (fun K=>?_)
 ·replace b:=(if_pos K).symm.trans b;refine W_sr<|av (u8 0) V (cst8 (0:UInt8) V)<|wnt<|W_ret<|th_r<|?_;obtain rfl:=osi b;have a1:=a3.same S _ (Nat.zero_le _) Z V;have bU:=Tn.put a1 a0 (.deferred none);refine rtm1 (u8 0) V V V V a1 ?_;exact ⟨rfl,J.tn bU (Nat.le_refl _)⟩
 replace b:=(if_neg (ne_true_of_eq_false K)).symm.trans b;refine zae<|W_th<|W_sr<|wq V (zan (u:=u8 P) V Tryz.isAgg5 V bD V)<|av (u8 P) V V<|wnt<|W_ret<|?_;obtain rfl:=osi b;have a2:=a3.same S _ (Nat.zero_le _) Z V;have bV:=Tn.put a2 a0 (.deferred none);refine rtm1 (u8 P) V V V V a2 ?_;exact ⟨rfl,J.tn bV (Nat.le_refl _)⟩
end Gk

/- Printed by gen.py: for each Go function a pure function, and that the Go code comes to it. No condition beside the equation that says what the pure function gives. -/
namespace Gk
open Go Go.Proofs
noncomputable def zfe (d:Bool) (e:List UInt8) (i:List UInt8):Option (List UInt8×List UInt8×Int) :=
((ze0 i).bind fun a =>
(if (!d)=true then some (([]:List UInt8),([]:List UInt8),1)
else
(if (a.length:Int)=0 then some (([]:List UInt8),([]:List UInt8),7)
else
(((idx a (wI ((a.length:Int) - 1))).bind fun j =>
((zgo d j).bind fun o => some o.1)).bind fun r =>
((zaj e).bind fun p =>
((makeL (if 0<(wI ((wI ((e.length:Int) - (a.length:Int)))+1)) then (wI ((wI ((e.length:Int) - (a.length:Int)))+1)) else 0) (0:UInt8)).bind fun f =>
((lim f.length).bind fun u =>
((zjh (fun (b:List UInt8×List UInt8) (c:Int) =>
((idx b.1 (wI ((wI (c+(a.length:Int))) - 1))).bind fun k =>
((zcj d k r).bind fun g =>
((idx b.2 c).bind fun s =>
((subL b.1 c (b.1.length:Int)).bind fun t =>
((subL b.1 c (wI (c+(a.length:Int)))).bind fun l =>
((zdl d l g a).bind fun q => some (copyL b.1 c q,b.2.set (c:Int).toNat g)))))))) (revN f.length) (p,f)).bind fun h =>
((ze0 h.2).bind fun m =>
((ze0 h.1).bind fun n => some (m,n,0)))))))))))
theorem zjv (aL:Bool) (bD:List UInt8) (bE:List UInt8) (p:Value) (aH:Value) (aI:Value) (b8:List UInt8×List UInt8×Int) (w0:World) (aN:Fd w0 [] p aL) (cQ:By w0 [] aH bD) (cR:By w0 [] aI bE) (k:zfe aL bD bE=some b8) :
  Calls Tryz.prog 125 [p,aH,aI].toArray w0 (fun eA c5=>∃ c2 c3:Value,eA=.returned (.tuple #[c2,c3,i64 b8.2.2])/\Ext w0 c5/\Nw w0 c2/\OwK (Sc u8) c5 [] 5 c2 b8.1/\Nw w0 c3/\OwK (Sc u8) c5 [] 5 c3 b8.2.1):=by
 have bL:Ext w0 w0:=Ext.refl w0;unfold zfe at k;refine zai (n:=81) Tryz.func125 V V V<|W_sr<|wls V V (zb9 (v:=p) (cs:=#[p]) [] V V (zjz (aN.lift (le_ bL))) ?_);intro c kF m fN eL j2;have iT:=zaa eL;have d1:=Nw.ext bL fN;have bF:=bL.trans iT;refine wls V V (zb9 (v:=aI) (cs:=#[aI]) [bp c] V V (zb4 _ _ (cR.lift (le_ bF))) ?_);intro e kK aU d2 eO j6;have e4:=zaa eO;have c0:Nq (bp c) (bp e):=m.nq d2;replace m:=m.ext e4;have bS:=Nw.ext bF d2;have cE:=bF.trans e4;refine av (.slice none 0 0) V V<|av (.slice none 0 0) V V<|av (i64 0) V V<|wnt<|W_sr<|wq V (zan (u:=aI) V Tryz.isAgg22 V aU V)<|?_;obtain ⟨a6,f4,k⟩:=bsi k;refine wls V V (zab (vs:=[aI]) Tryz.func139 V V V (ar1 V) (zdx bE aI a6 _ (cR.lift (le_ cE)) f4) ?_);rintro _ iQ ⟨y,rfl,c6,g8,gP⟩;refine ⟨_,rfl,?_⟩;have o:By iQ [bp e,bp c] y a6:=OwK.slk (Sc.stab _) _ (OwK.scal gP (y::[bp e,bp c])) (fun aR bP=>(Old.cons (Old.cons (Old.nil _) m.ltB) aU.ltB) aR (g8 aR bP)) (fun _ d=>d.2);replace aU:=aU.ext c6;have eI:=cE.trans c6;refine wln V V (zdu (u:=y) [] [bp c] V Tryz.sizeOf22 V V aU (oc_sl _ _ _ _ o) ?_);intro iJ q cI fK;replace o:=o.lift fK;replace m:=(m.ext c6).other cI c0;have b4:=eI.grown cI bS;refine wnt<|W_seq<|W_sr<|wq V (zan (u:=p) V Tryz.isAgg27 V m V)<|wa V (q_eqF V V V V (aN.lift (le_ b4)))<|wnt<|zam _ V V (fun bN=>?_) (fun bN=>?_)
 ·replace k:=(if_pos bN).symm.trans k;refine W_sr<|av (.slice none 0 0) V V<|av (.slice none 0 0) V V<|av (i64 1) V V<|wnt<|W_ret<|th_r<|?_;obtain rfl:=osi k;refine rt3 (.slice none 0 0) (.slice none 0 0) (i64 1) V V V V V V V V ?_;exact ⟨.slice none 0 0,.slice none 0 0,rfl,b4,Nw.nil _,OwK.nil _ _ _ _,Nw.nil _,OwK.nil _ _ _ _⟩
 replace k:=(if_neg (ne_true_of_eq_false bN)).symm.trans k;refine zae<|W_th<|W_seq<|W_sr<|wq V (zan (u:=y) V Tryz.isAgg22 V q V)<|wa V (q_len V T22.sl V o)<|wa V (q_eqI V V V)<|wnt<|wci k V V (fun k=>?_) (fun k=>?_)
 ·refine W_sr<|av (.slice none 0 0) V V<|av (.slice none 0 0) V V<|av (i64 7) V V<|wnt<|W_ret<|th_r<|?_;obtain rfl:=osi k;refine rt3 (.slice none 0 0) (.slice none 0 0) (i64 7) V V V V V V V V ?_;exact ⟨.slice none 0 0,.slice none 0 0,rfl,b4,Nw.nil _,OwK.nil _ _ _ _,Nw.nil _,OwK.nil _ _ _ _⟩
 refine zae<|W_th<|W_seq<|?_;obtain ⟨b0,a4,k⟩:=bsi k;refine W_mid (fun aA A=>∃ aM:Nat,aA 1=aH/\aA 3=bp c/\aA 5=bp e/\aA 9=bp aM/\aA 81=undef/\Ext w0 A/\Blk A c 27 #[p]/\Nw w0 (bp c)/\Blk A e 22 #[y]/\Nw w0 (bp e)/\Blk A aM 5 #[u8 b0]/\Nw w0 (bp aM)/\Nq (bp c) (bp e)/\Nq (bp c) (bp aM)/\Nq (bp e) (bp aM)/\By A [bp c,bp e,bp aM] y a6) ?_ ?_
 ·refine W_draw2 [0,1,2,6] [(0,1),(1,1),(2,1),(3,0),(4,0),(5,0),(6,1)] 7 11 [(8,0),(9,0),(10,0),(11,2),(12,2),(13,0)] [(7,2),(8,0),(9,0),(10,0),(12,2),(13,0)] mixed (by kernel_rfl) (by kernel_rfl) (by kernel_rfl) (by kernel_rfl) ?_;have bB:=Ext.drew iJ;replace o:=o.lift (le_ bB);replace q:=q.ext bB;replace m:=m.ext bB;have b5:=b4.trans bB;refine sq V V (zan (u:=p) V Tryz.isAgg27 V m V)<|sq V V (zan (u:=y) V Tryz.isAgg22 V q V)<|sq V V (zan (u:=y) V Tryz.isAgg22 V q V)<|sa V V (q_len V T22.sl V o)<|sa V V (za9 V V V)<|bse a4 fun b3 cL a4=>sa V V (q_adr V T22 V V o cL)<|sq V V (zao V T22 V o cL)<|za1 ⟨?_,?_⟩
  ·obtain ⟨aW,f1,a4⟩:=bsi a4;refine wsc V (by kernel_rfl) V V (zab (vs:=[p,u8 b3]) Tryz.func129 V V V (ar2 V V) (zfy aL b3 p aW _ (aN.lift (le_ b5)) f1) ?_);rintro _ iM ⟨rfl,a3⟩;refine ⟨_,rfl,?_⟩;replace q:=q.ext a3;replace m:=m.ext a3;have cA:=b5.trans a3;refine sv (.tuple #[u8 aW.1,i64 aW.2]) V V V<|sa V V (zah V V V)<|sa V V (zah V V V)<|wss V V V (zeu (z:=u8 0) (cs:=#[u8 0]) [bp e,bp c] V Tryz.zeroValue5 V ?_);intro bK kG gF b7 cK j4;refine ⟨zaa cK,?_⟩;have bC:=zaa cK;have dK:Nq (bp e) (bp bK):=q.nq b7;have dL:Nq (bp c) (bp bK):=m.nq b7;replace o:=(o.lift (le_ a3)).lift (Lift.call _ bC b7);have d0:=Nw.ext cA b7;have eC:=cA.trans bC;refine wsn V (by kernel_rfl) V V (zdu (u:=u8 aW.1) [] [bp e,bp c] V Tryz.sizeOf5 V V gF V ?_);intro iN bW aB bQ;replace o:=o.lift bQ;replace q:=(q.ext bC).other aB dK;replace m:=(m.ext bC).other aB dL;have bG:=eC.grown aB d0;refine sa V V (zat (v:=i64 aW.2) V V)<|za1 ?_;obtain rfl:=osi a4;exact ⟨bK,rfl,rfl,rfl,rfl,rfl,bG,m,d1,q,bS,bW,d0,c0,dL,dK,o.lift (Lift.sub (fun _ d=>⟨d.2.2.1,d.2.1,d.1,trivial⟩))⟩
  refine wss V V V (zeu (z:=u8 0) (cs:=#[u8 0]) [bp e,bp c] V Tryz.zeroValue5 V ?_);intro bJ iM bU b6 cJ j3;refine ⟨zaa cJ,?_⟩;have a3:=zaa cJ;have dC:Nq (bp e) (bp bJ):=q.nq b6;have dJ:Nq (bp c) (bp bJ):=m.nq b6;replace o:=o.lift (Lift.call _ a3 b6);have cZ:=Nw.ext b5 b6;have cB:=b5.trans a3;obtain ⟨aX,f2,a4⟩:=bsi a4;refine wsc V (by kernel_rfl) V V (zab (vs:=[p,u8 b3]) Tryz.func129 V V V (ar2 V V) (zfy aL b3 p aX _ (aN.lift (le_ cB)) f2) ?_);rintro _ kH ⟨rfl,b1⟩;refine ⟨_,rfl,?_⟩;replace bU:=bU.ext b1;replace q:=(q.ext a3).ext b1;replace m:=(m.ext a3).ext b1;have eD:=cB.trans b1;refine sv (.tuple #[u8 aX.1,i64 aX.2]) V V V<|sa V V (zah V V V)<|sa V V (zah V V V)<|wsn V (by kernel_rfl) V V (zdu (u:=u8 aX.1) [] [bp e,bp c] V Tryz.sizeOf5 V V bU V ?_);intro iN bW aB bQ;replace o:=(o.lift (le_ b1)).lift bQ;replace q:=q.other aB dC;replace m:=m.other aB dJ;have bG:=eD.grown aB cZ;refine sa V V (zat (v:=i64 aX.2) V V)<|za1 ?_;obtain rfl:=osi a4;exact ⟨bJ,rfl,rfl,rfl,rfl,rfl,bG,m,d1,q,bS,bW,cZ,c0,dJ,dC,o.lift (Lift.sub (fun _ d=>⟨d.2.2.1,d.2.1,d.1,trivial⟩))⟩
 rintro _ kI ⟨h,e0,e1,b9,iI,iH,bM,s,fL,r,fQ,x,fS,gS,gU,h1,J⟩;refine W_th<|W_sr<|mv aH V e0<|?_;obtain ⟨dY,f3,k⟩:=bsi k;refine wls V V (zab (vs:=[aH]) Tryz.func59 V V V (ar1 V) (zap bD aH dY _ (cQ.lift (le_ bM)) f3) ?_);rintro _ iO ⟨f,rfl,b2,aS,gG⟩;refine ⟨_,rfl,?_⟩;have w:OwK (Sc u8) iO (f::[bp c,bp e,bp h]) 5 f dY:=OwK.scal gG _;have h8:Nq (bp c) f:=s.nq aS;have hJ:Nq (bp e) f:=r.nq aS;have hK:Nq (bp h) f:=x.nq aS;replace s:=s.ext b2;replace r:=r.ext b2;replace x:=x.ext b2;have fV:=Nw.ext bM aS;have cC:=bM.trans b2;refine wls V V (zeu (z:=(.slice none 0 0)) (cs:=#[.slice none 0 0]) [f,bp c,bp e,bp h] V Tryz.zeroValue22 V ?_);intro i kJ gI aE eM j5;have aK:=zaa eM;have dM:Nq f (bp i):=w.nq aE;have dN:Nq (bp c) (bp i):=s.nq aE;have dO:Nq (bp e) (bp i):=r.nq aE;have dP:Nq (bp h) (bp i):=x.nq aE;replace J:=(J.lift (Lift.call _ b2 aS)).lift (Lift.call _ aK aE);replace w:=w.extL (Sc.stab _) aK (Lift.call _ aK aE);have d3:=Nw.ext cC aE;have eE:=cC.trans aK;refine wln V V (zdu (u:=f) [] [f,bp c,bp e,bp h] V Tryz.sizeOf22 V V gI (oc_own w) ?_);intro kL U aQ cS;replace J:=J.lift cS;replace w:=w.other (Sc.stab _) aQ dM cS;replace s:=(s.ext aK).other aQ dN;replace r:=(r.ext aK).other aQ dO;replace x:=(x.ext aK).other aQ dP;have bH:=eE.grown aQ d3;refine wnt<|W_sr<|mv aH V e0<|wa V (q_len V T22.sl V (cQ.lift (le_ bH)))<|wq V (zan (u:=y) V Tryz.isAgg22 (by exact b9) r V)<|wa V (q_len V T22.sl V J)<|wa V (za9 V V V)<|wa V (zak V V V)<|wa V (q_maxI V V V)<|?_;obtain ⟨aP,eW,k⟩:=bsi k;refine wls V V (zb3 (L:=[bp i,f,bp c,bp e,bp h]) (R:=Sc u8) V T22 V V eW (fun _ _=>rfl) ?_);intro g kM N a5 eN j7;have a8:=zaa eN;have hT:Nq (bp i) g:=U.nq a5;have hU:Nq f g:=w.nq a5;have hV:Nq (bp c) g:=s.nq a5;have hW:Nq (bp e) g:=r.nq a5;have hX:Nq (bp h) g:=x.nq a5;replace J:=J.lift (Lift.call _ a8 a5)
 replace U:=U.ext a8;replace w:=w.extL (Sc.stab _) a8 (Lift.call _ a8 a5);replace s:=s.ext a8;replace r:=r.ext a8;replace x:=x.ext a8;have g0:=Nw.ext bH a5;have cD:=bH.trans a8;refine wls V V (zeu (z:=(.slice none 0 0)) (cs:=#[.slice none 0 0]) [g,bp i,f,bp c,bp e,bp h] V Tryz.zeroValue22 V ?_);intro l kN gL T eP j8;have X:=zaa eP;have dQ:Nq g (bp l):=N.nq T;have dR:Nq (bp i) (bp l):=U.nq T;have dS:Nq f (bp l):=w.nq T;have dT:Nq (bp c) (bp l):=s.nq T;have dU:Nq (bp e) (bp l):=r.nq T;have dV:Nq (bp h) (bp l):=x.nq T;replace N:=N.extL (Sc.stab _) X (Lift.call _ X T);have d4:=Nw.ext cD T;have eF:=cD.trans X;refine wln V V (zdu (u:=g) [] [g,bp i,f,bp c,bp e,bp h] V Tryz.sizeOf22 V V gL (oc_own N) ?_);intro kO aV aC bR;replace J:=(J.lift (Lift.call _ X T)).lift bR;replace N:=N.other (Sc.stab _) aC dQ bR;replace U:=(U.ext X).other aC dR;replace w:=(w.extL (Sc.stab _) X (Lift.call _ X T)).other (Sc.stab _) aC dS bR;replace s:=(s.ext X).other aC dT;replace r:=(r.ext X).other aC dU;replace x:=(x.ext X).other aC dV;have cF:=eF.grown aC d4;refine wnt<|W_seq<|W_sr<|wq V (zan (u:=g) V Tryz.isAgg22 V aV V)<|wls V V (zab (vs:=[g]) Tryz.func96 V V V (ar1 V) (zib _ (cells_own N) _) ?_);rintro _ iP ⟨j,rfl,P,d5,S⟩;refine ⟨_,rfl,?_⟩;have i8:Nq (bp l) (bp j):=aV.nq P;have i9:Nq g (bp j):=N.nq P;have iA:Nq (bp i) (bp j):=U.nq P;have iB:Nq f (bp j):=w.nq P;have iC:Nq (bp c) (bp j):=s.nq P;have iD:Nq (bp e) (bp j):=r.nq P;have iG:Nq (bp h) (bp j):=x.nq P;replace J:=J.lift (Lift.call _ S P);replace aV:=aV.ext S;replace N:=N.extL (Sc.stab _) S (Lift.call _ S P);replace U:=U.ext S;replace w:=w.extL (Sc.stab _) S (Lift.call _ S P);replace s:=s.ext S;replace r:=r.ext S;replace x:=x.ext S;have g5:=Nw.ext cF P;have bI:=cF.trans S;refine wnt<|zac<|?_;obtain ⟨j9,eY,k⟩:=bsi k;obtain ⟨e5,e8,k⟩:=bsi k;refine W_rangeS (π:=fun a2:BwEl (fun aD=>aD.length=aP.length)=>a2.1.1) (xs:=revN aP.length) (ea:=fun a2=>i64 a2.1.1) (eb:=fun a2=>u8 a2.1.2) (Rd:=RdB (fun aD=>aD.length=aP.length) j g) (gf:=128) (lb:=#[bp j]) e8 iH V V (enters Tryz.func128 V V) ((revN_len _).symm) (backward_gen (fun aD=>aD.length=aP.length) _ (fun _ d=>d) g j _ ⟨d5,_,rfl,N.rd (Sc.stab _)⟩ (zjt eY)) (fun kS d=>d) bw_memN (fun _ _ O d=>d.tn O) V V (fun aJ A=>Ext w0 A/\OwK (Sc u8) A [f,g,bp c,bp e,bp h,bp i,bp l,bp j] 5 f aJ.1/\Nw w0 f/\OwK (Sc u8) A [f,g,bp c,bp e,bp h,bp i,bp l,bp j] 5 g aJ.2/\Nw w0 g/\Blk A c 27 #[p]/\Nw w0 (bp c)/\Blk A e 22 #[y]/\Nw w0 (bp e)/\Blk A h 5 #[u8 b0]/\Nw w0 (bp h)/\Blk A i 22 #[f]/\Nw w0 (bp i)/\Blk A l 22 #[g]/\Nw w0 (bp l)/\Blk A j 22 #[g]/\Nw w0 (bp j)/\Nq f g/\Nq f (bp c)/\Nq f (bp e)/\Nq f (bp h)/\Nq f (bp i)/\Nq f (bp l)/\Nq f (bp j)/\Nq g (bp c)/\Nq g (bp e)/\Nq g (bp h)/\Nq g (bp i)/\Nq g (bp l)/\Nq g (bp j)/\Nq (bp c) (bp e)/\Nq (bp c) (bp h)/\Nq (bp c) (bp i)/\Nq (bp c) (bp l)/\Nq (bp c) (bp j)/\Nq (bp e) (bp h)/\Nq (bp e) (bp i)/\Nq (bp e) (bp l)/\Nq (bp e) (bp j)/\Nq (bp h) (bp i)/\Nq (bp h) (bp l)/\Nq (bp h) (bp j)/\Nq (bp i) (bp l)/\Nq (bp i) (bp j)/\Nq (bp l) (bp j)/\By A [f,g,bp c,bp e,bp h,bp i,bp l,bp j] y a6/\(aJ.2).length=aP.length) ?_ ⟨bI,w.weak (Sc.stab _) (fun _ d=>⟨d.2.2.2.2.1,d.2.2.1,d.2.2.2.2.2.1,d.2.2.2.2.2.2.1,d.2.2.2.2.2.2.2.1,d.2.2.2.1,d.2.1,d.1,trivial⟩),fV,N.weak (Sc.stab _) (fun _ d=>⟨d.2.2.2.2.1,d.2.2.1,d.2.2.2.2.2.1,d.2.2.2.2.2.2.1,d.2.2.2.2.2.2.2.1,d.2.2.2.1,d.2.1,d.1,trivial⟩),g0,s,fL,r,fQ,x,fS,U,d3,aV,d4,d5,g5,hU,h8.symm,hJ.symm,hK.symm,dM,dS,iB,hV.symm,hW.symm,hX.symm,hT.symm,dQ,i9,gS,gU,dN,dT,iC,h1,dO,dU,iD,dP,dV,iG,dR,iA,i8,J.lift (Lift.sub (fun _ d=>⟨d.2.2.2.2.1,d.2.2.1,d.2.2.2.2.2.1,d.2.2.2.2.2.2.1,d.2.2.2.2.2.2.2.1,d.2.2.2.1,d.2.1,d.1,trivial⟩)),rfl⟩ (fun a2 aA=>upd aA 13 (i64 a2.1.1)) ?_ ?_ ?_
 ·rintro aJ W iW O ⟨eR,gA,fM,gE,fR,gH,fT,gJ,fW,gK,fY,gM,g1,gN,g3,gO,g6,gT,gV,gW,gX,gY,gZ,h0,h2,h3,h4,h5,h6,h7,h9,hB,hD,hF,hH,hL,hN,hP,hR,hY,i0,i2,i4,i6,iE,f7,iU⟩;exact ⟨eR.tn O bI.size,gA.tn (Sc.stab _) O,fM,gE.tn (Sc.stab _) O,fR,gH.tn O,fT,gJ.tn O,fW,gK.tn O,fY,gM.tn O,g1,gN.tn O,g3,gO.tn O,g6,gT,gV,gW,gX,gY,gZ,h0,h2,h3,h4,h5,h6,h7,h9,hB,hD,hF,hH,hL,hN,hP,hR,hY,i0,i2,i4,i6,iE,f7.lift (O.lift _),iU⟩
 ·intro aD a2 iX iV eU;refine W_rg<|av (i64 a2.1.1) V V<|zag<|?_;exact eU
 ·rintro aD ⟨⟨C,kT⟩,j0⟩ aJ kE e2 ⟨eS,t,cV,aF,cY,M,fU,E,fX,Q,fZ,F,g2,a0,g4,a1,g7,bZ,d6,d7,d8,d9,dA,dB,dD,dE,dF,dG,dH,dI,hA,hC,hE,hG,hI,hM,hO,hQ,hS,hZ,i1,i3,i5,i7,iF,K,e6⟩ D;have fJ:=KeepsFrom.refl iP.heap.size e2;refine zac<|W_seq<|zba [0,1,3,8,9] [(0,1),(1,1),(2,0),(3,1),(4,0),(5,0),(6,0),(7,0),(8,1),(9,1),(10,2),(11,0)] mixed (by kernel_rfl) (by kernel_rfl) (by kernel_rfl) (by kernel_rfl) ?_;have G:=Ext.drew e2;replace K:=K.lift (le_ G);replace t:=t.extL (Sc.stab _) G (le_ G);replace aF:=aF.extL (Sc.stab _) G (le_ G);replace M:=M.ext G;replace E:=E.ext G;replace Q:=Q.ext G;replace F:=F.ext G;have fC:=fJ.ext G;have cG:=eS.trans G;refine sq V V (zan (u:=p) V Tryz.isAgg27 (by exact e1) M V)<|sq V V (zan (u:=f) V Tryz.isAgg22 V F V)<|sv (i64 C) V V V<|sq V V (zan (u:=y) V Tryz.isAgg22 (by exact b9) E V)<|sa V V (q_len V T22.sl V K)<|sa V V (zak V V V)<|sa V V (za9 V V V)<|bse D fun c7 cM D=>sa V V (q_adr V T22 V V (t.rd (Sc.stab _)) cM)<|sq V V (zao V T22 V (t.rd (Sc.stab _)) cM)<|sq V V (zan (u:=u8 b0) V Tryz.isAgg5 (by exact iI) Q V)<|?_;obtain ⟨a7,f5,D⟩:=bsi D;refine wsc V (by kernel_rfl) V V (zab (vs:=[p,u8 c7,u8 b0]) Tryz.func98 V V V (ar3 V V V) (zcr aL c7 b0 p a7 _ (aN.lift (le_ cG)) f5) ?_);rintro _ kP ⟨rfl,H⟩;refine ⟨_,rfl,?_⟩;replace K:=K.lift (le_ H);replace t:=t.extL (Sc.stab _) H (le_ H);replace aF:=aF.extL (Sc.stab _) H (le_ H);replace M:=M.ext H;replace E:=E.ext H;replace Q:=Q.ext H;replace F:=F.ext H;replace a0:=(a0.ext G).ext H;replace a1:=(a1.ext G).ext H;have fD:=fC.ext H;have eG:=cG.trans H;refine sa V V (zat (v:=u8 a7) V V)<|za1<|W_th<|W_sr<|wq V (zan (u:=g) V Tryz.isAgg22 V a0 V)<|mv (i64 C) V V<|mv (u8 a7) V V<|?_;obtain ⟨iY,cN,D⟩:=bsi D
  refine wa V (q_adr V T22 V V (aF.rd (Sc.stab _)) cN)<|wln V V (zci (R:=Sc u8) (u:=u8 a7) (Sc.stab _) [f] [bp c,bp e,bp h,bp i,bp l,bp j] V T22 V V aF (zf6 a7 cN) V V ?_);intro iR aG Y cT;have fE:=fD.own Y aF.cl;have eH:=eG.grown Y cY;refine wnt<|zba [0,3,4,7,12] [(0,1),(1,0),(2,0),(3,1),(4,1),(5,0),(6,0),(7,1),(8,0),(9,0),(10,0),(11,0),(12,1),(13,2),(14,2)] mixed (by kernel_rfl) (by kernel_rfl) (by kernel_rfl) (by kernel_rfl) ?_;have I:=Ext.drew iR;replace K:=(K.lift cT).lift (le_ I);replace t:=(t.other (Sc.stab _) Y bZ cT).extL (Sc.stab _) I (le_ I);replace aG:=aG.extL (Sc.stab _) I (le_ I);replace M:=(M.other Y dD.symm).ext I;replace E:=(E.other Y dE.symm).ext I;replace Q:=(Q.other Y dF.symm).ext I;replace F:=(F.other Y dG.symm).ext I;replace a0:=(a0.other Y dH.symm).ext I;replace a1:=(a1.other Y dI.symm).ext I;have fF:=fE.ext I;have cH:=eH.trans I;refine sq V V (zan (u:=f) V Tryz.isAgg22 V F V)<|sv (i64 C) V V V<|bse D fun iZ bO D=>sa V V (zdv (a:=C) (b:=(aJ.1.length:Int)) V T22 V (t.rd (Sc.stab _)) V V bO)<|sq V V (zan (u:=p) V Tryz.isAgg27 (by exact e1) M V)<|sq V V (zan (u:=f) V Tryz.isAgg22 V F V)<|sv (i64 C) V V V<|sv (i64 C) V V V<|sq V V (zan (u:=y) V Tryz.isAgg22 (by exact b9) E V)<|sa V V (q_len V T22.sl V K)<|sa V V (zak V V V)<|bse D fun e9 cO D=>sa V V (zdv (a:=C) (b:=wI (C+(a6.length:Int))) V T22 V (t.rd (Sc.stab _)) V V cO)<|sv (u8 a7) V V V<|sq V V (zan (u:=y) V Tryz.isAgg22 (by exact b9) E V)<|?_;obtain ⟨dZ,f6,D⟩:=bsi D;refine wss V V V (zab (vs:=[p,subV f (C:Int).toNat ((wI (C+(a6.length:Int))):Int).toNat,u8 a7,y]) Tryz.func72 V V V (ar4 V V V V) (zdt aL e9 a7 a6 p (subV f (C:Int).toNat ((wI (C+(a6.length:Int))):Int).toNat) y dZ _ (aN.lift (le_ cH)) (SlK.cut (L:=[]) (t.rd (Sc.stab _)) cO) (K.lift (Lift.sub (L':=[]) (fun _ _=>trivial))) f6) ?_)
  rintro _ iS ⟨c4,rfl,B,g9,gQ⟩;refine ⟨_,rfl,B,?_⟩;have f8:By iS [f,g,bp c,bp e,bp h,bp i,bp l,bp j] c4 dZ:=OwK.slk (Sc.stab _) _ (OwK.scal gQ (c4::[f,g,bp c,bp e,bp h,bp i,bp l,bp j])) (fun aR bP=>(Old.cons (Old.cons (Old.cons (Old.cons (Old.cons (Old.cons (Old.cons (Old.cons (Old.nil _) a1.ltB) a0.ltB) F.ltB) Q.ltB) E.ltB) M.ltB) aG.lt) t.lt) aR (g9 aR bP)) (fun _ d=>d.2);replace t:=t.extL (Sc.stab _) B (le_ B);have fG:=fF.ext B;have eJ:=cH.trans B;refine wsc V (by kernel_rfl) V V (stp_copy (R:=Sc u8) (off:=C) (dv:=subV f (C:Int).toNat ((aJ.1.length:Int):Int).toNat) (u:=c4) (Sc.stab _) [] [g,bp c,bp e,bp h,bp i,bp l,bp j] V T22 V V t V (ze9.1 bO).1.1 (subL_lo bO) f8 (fun _ _ d=>d) oc_u8 ?_);intro kQ gR Z cU;have fH:=fG.own Z t.cl;replace K:=(K.lift (le_ B)).lift cU;replace aG:=(aG.extL (Sc.stab _) B (le_ B)).other (Sc.stab _) Z bZ.symm cU;replace M:=(M.ext B).other Z d6.symm;replace E:=(E.ext B).other Z d7.symm;replace Q:=(Q.ext B).other Z d8.symm;replace F:=(F.ext B).other Z d9.symm;replace a0:=(a0.ext B).other Z dA.symm;replace a1:=(a1.ext B).other Z dB.symm;have eK:=eJ.grown Z cV;refine za1<|bk_n ?_;obtain rfl:=osi D;exact ⟨fH,⟨a1,_,(by simpa using e6),aG.rd (Sc.stab _)⟩,eK,gR,cV,aG,cY,M,fU,E,fX,Q,fZ,F,g2,a0,g4,a1,g7,bZ,d6,d7,d8,d9,dA,dB,dD,dE,dF,dG,dH,dI,hA,hC,hE,hG,hI,hM,hO,hQ,hS,hZ,i1,i3,i5,i7,iF,K,(by simpa using e6)⟩
 intro e7 e3 eQ ⟨eT,aT,jA,bV,jB,jI,jC,jJ,jD,jK,jE,bX,jF,bY,jG,jL,jH,jM,jN,jO,jP,jQ,jR,jS,jT,jU,jV,jW,jX,jY,jZ,k0,k1,k2,k3,k4,k5,k6,k7,k8,k9,kA,kB,kC,kD,j1,kR⟩ eV;have eX:=Nat.le_trans bI.size eQ;have fI:=KeepsFrom.refl 0 e3;refine bk_n<|W_th<|W_seq<|zba [0,2] [(0,1),(2,1),(1,2),(3,2),(4,0),(5,0),(6,0)] mixed (by kernel_rfl) (by kernel_rfl) (by kernel_rfl) (by kernel_rfl) ?_;have a9:=Ext.drew e3;replace aT:=aT.extL (Sc.stab _) a9 (le_ a9);replace bV:=bV.extL (Sc.stab _) a9 (le_ a9);replace bX:=bX.ext a9;replace bY:=bY.ext a9;have f9:=fI.ext a9;have c8:=eT.trans a9;refine sq V V (zan (u:=g) V Tryz.isAgg22 V bY V)<|sq V V (zan (u:=f) V Tryz.isAgg22 V bX V)<|?_;obtain ⟨dW,eZ,k⟩:=bsi k;refine wss V V V (zab (vs:=[g]) Tryz.func139 V V V (ar1 V) (zdx e5.2 g dW _ (bV.rd (Sc.stab _)) eZ) ?_);rintro _ iK ⟨aO,rfl,aZ,cW,gB⟩;refine ⟨_,rfl,aZ,?_⟩;have bT:OwK (Sc u8) iK (aO::[f,g,bp c,bp e,bp h,bp i,bp l,bp j]) 5 aO dW:=OwK.scal gB _;replace aT:=aT.extL (Sc.stab _) aZ (Lift.call _ aZ cW);have fA:=f9.ext aZ;have fO:=Nw.ext c8 cW;have c9:=c8.trans aZ;obtain ⟨dX,f0,k⟩:=bsi k;refine wsc V (by kernel_rfl) V V (zab (vs:=[f]) Tryz.func139 V V V (ar1 V) (zdx e5.1 f dX _ (aT.rd (Sc.stab _)) f0) ?_);rintro _ iL ⟨aY,rfl,bA,cX,gD⟩;refine ⟨_,rfl,?_⟩;have gC:OwK (Sc u8) iL (aY::[aO,f,g,bp c,bp e,bp h,bp i,bp l,bp j]) 5 aY dX:=OwK.scal gD _
 replace bT:=bT.extL (Sc.stab _) bA (Lift.call _ bA cX);have fB:=fA.ext bA;have fP:=Nw.ext c9 cX;have eB:=c9.trans bA;refine sa V V (zat (v:=aO) V V)<|sa V V (zat (v:=aY) V V)<|sa V V (zat (v:=i64 0) V V)<|za1<|W_th<|W_ret<|?_;obtain rfl:=osi k;have cP:=fB.same e7 _ (Nat.zero_le _) eV V;have c1:=Tn.put cP eX (.deferred none);refine rtm3 aO aY (i64 0) V V V V V V V V cP ?_;exact ⟨aO,aY,rfl,eB.tn c1 (Nat.le_refl _),fO,((bT.tn (Sc.stab _) c1).weak (Sc.stab _) (fun _ _=>trivial)),fP,((gC.tn (Sc.stab _) c1).weak (Sc.stab _) (fun _ _=>trivial))⟩
noncomputable def zgd (b:Bool) (a:List UInt8):Option Int :=
((iterC (fun s4:(List (UInt8×Bool))×Int =>
(if s4.2<(a.length:Int) then
((idx a s4.2).bind fun c => some (.inl (mput s4.1 c true,wI (s4.2+1))))
else some (.inr s4.1))) (([]:List (UInt8×Bool)),0)).bind fun d =>
(if (!b)=true then some 1
else
(if (a.length:Int)=0 then some 5
else
(if 255<(a.length:Int) then some 4
else
(if (d.length:Int)=(a.length:Int) then some 0
else some 6)))))
theorem poly_check_calls (o:Bool) (g:List UInt8) (i:Value) (e:Value) (A:Int) (w0:World) (M:Fd w0 [] i o) (h:By w0 [] e g) (a:zgd o g=some A) :
  Calls Tryz.prog 99 [i,e].toArray w0 (fun I W=>I=.returned (i64 A)/\Ext w0 W):=by
 have x:Ext w0 w0:=Ext.refl w0;unfold zgd at a;refine zai (n:=35) Tryz.func99 V V V<|W_sr<|av (i64 0) V V<|wnt<|W_sr<|wls V V (stp_makeMap [] V ?_);intro c a1 R O K Y;have X:=zaa K;have P:=Nw.ext x O;have w:=x.trans X;refine av (mp c) V V<|wnt<|W_seq<|W_sr<|mv e V V<|wa V (q_len V T22.sl V (h.lift (le_ w)))<|mv (i64 0) V V<|wnt ?_;obtain ⟨G,H,a⟩:=bsi a;refine W_mid (fun b k=>b 0=i/\b 1=e/\b 5=mp c/\b 35=undef/\Ext w0 k/\Mp k c G/\Nw w0 (mp c)) ?_ ?_
 ·refine zac<|zau (fun m b k=>b 0=i/\b 1=e/\b 5=mp c/\b 9=e/\b 10=i64 (g.length:Int)/\b 11=i64 m.2/\b 35=undef/\Ext w0 k/\Mp k c m.1/\Nw w0 (mp c)) H ?_ ?_
  ·exact ⟨rfl,rfl,rfl,rfl,rfl,rfl,rfl,w,R,P⟩
  rintro m _ _ a3 ⟨B,D,u,F,C,s,E,l,z,r⟩ f N;refine W_sr<|wa V (q_ltI V s C)<|wnt<|W_seq<|wci f V V (fun f=>?_) (fun f=>?_)
  ·refine zae<|W_th<|W_seq<|zac<|W_sr<|bse f fun v y f=>wa V (q_adr V T22 F s (h.lift (le_ l)) y)<|wq V (zao V T22 V (h.lift (le_ l)) y)<|av (u8 v) V V<|wnt<|W_rg<|mv (mp c) V u<|mv (u8 v) V V<|wln V V (stp_mapUpdate [] [] (.inl V) Tryz.underlying91 Tryz.underlying5 V V V z ?_);intro a4 S L Z;have J:=l.grown L r;refine zag<|bk_n<|W_th<|W_rg<|wa V (zak V s V)<|mv (i64 (wI (m.2+1))) V V<|zag<|?_;obtain rfl:=osi f;exact ⟨_,rfl,B,D,u,F,C,rfl,E,J,S,r⟩
  refine zar<|th_x<|?_;obtain rfl:=osi f;obtain rfl:=N _ rfl;refine th_x<|bk_x<|?_;exact ⟨B,D,u,E,l,z,r⟩
 rintro _ a2 ⟨T,t,U,j,d,Q,a0⟩;refine W_th<|W_seq<|zac<|W_sr<|mv i V T<|wa V (q_eqF V V V V (M.lift (le_ d)))<|av (.bool (!o)) V V<|wnt<|zam _ V V (fun p=>?_) (fun p=>?_)
 ·replace a:=(if_pos p).symm.trans a;refine W_sr<|av (i64 1) V V<|wnt<|W_ret<|bk_r<|th_r<|?_;obtain rfl:=osi a;refine rt1 (i64 1) V V V j ?_;exact ⟨rfl,d⟩
 replace a:=(if_neg (ne_true_of_eq_false p)).symm.trans a;refine W_sr<|mv e V t<|wa V (q_len V T22.sl V (h.lift (le_ d)))<|wa V (q_eqI V V V)<|av (.bool (decide ((g.length:Int)=0))) V V<|wnt<|wci a V V (fun a=>?_) (fun a=>?_)
 ·refine W_sr<|av (i64 5) V V<|wnt<|W_ret<|bk_r<|th_r<|?_;obtain rfl:=osi a;refine rt1 (i64 5) V V V j ?_;exact ⟨rfl,d⟩
 refine W_sr<|mv e V t<|wa V (q_len V T22.sl V (h.lift (le_ d)))<|wa V (q_gtI V V V)<|av (.bool (decide (255<(g.length:Int)))) V V<|wnt<|wci a V V (fun a=>?_) (fun a=>?_)
 ·refine W_sr<|av (i64 4) V V<|wnt<|W_ret<|bk_r<|th_r<|?_;obtain rfl:=osi a;refine rt1 (i64 4) V V V j ?_;exact ⟨rfl,d⟩
 refine W_sr<|mv (mp c) V U<|wq V (q_lenMap V Tryz.underlying91 V Q)<|mv e V t<|wa V (q_len V T22.sl V (h.lift (le_ d)))<|wa V (q_neI V V V)<|av (.bool (!decide ((G.length:Int)=(g.length:Int)))) V V<|wnt<|zam _ V V (fun q=>?_) (fun q=>?_)
 ·replace a:=(if_neg (zbf q)).symm.trans a;refine W_sr<|av (i64 6) V V<|wnt<|W_ret<|bk_r<|th_r<|?_;obtain rfl:=osi a;refine rt1 (i64 6) V V V j ?_;exact ⟨rfl,d⟩
 replace a:=(if_pos (zbg q)).symm.trans a;refine zae<|bk_n<|W_th<|W_sr<|av (i64 0) V V<|wnt<|W_ret<|?_;obtain rfl:=osi a;refine rt1 (i64 0) V V V j ?_;exact ⟨rfl,d⟩
noncomputable def zdh (d:Bool) (c:List UInt8) (h:UInt8):Option (List UInt8×Int) :=
((zgd d c).bind fun f =>
(if f=0 then
((makeL (c.length:Int) (0:UInt8)).bind fun j =>
((iterC (fun b:List UInt8×Int =>
(if b.2<(c.length:Int) then
((idx c b.2).bind fun i =>
((iterC (fun a:UInt8×UInt8×Int =>
(if a.2.2<(c.length:Int) then
((idx c a.2.2).bind fun e =>
(if a.2.2=b.2 then some (.inl (a.1,a.2.1,wI (a.2.2+1)))
else
((zct h e).bind fun k =>
((zcj d a.1 k).bind fun l =>
((zct i e).bind fun m =>
((zcj d a.2.1 m).bind fun n => some (.inl (l,n,wI (a.2.2+1)))))))))
else some (.inr (a.1,a.2.1)))) ((1:UInt8),(1:UInt8),0)).bind fun g =>
((zf1 d g.1 g.2).bind fun o =>
((idx b.1 b.2).bind fun q => some (.inl (b.1.set (b.2:Int).toNat o.1,wI (b.2+1)))))))
else some (.inr b.1))) (j,0)).bind fun p => some (p,0)))
else some (([]:List UInt8),f)))
theorem zft (r:Bool) (p:List UInt8) (l:UInt8) (d:Value) (e:Value) (K:List UInt8×Int) (w0:World) (B:Fd w0 [] d r) (m:By w0 [] e p) (h:zdh r p l=some K) :
  Calls Tryz.prog 71 [d,e,u8 l].toArray w0 (fun aT aQ=>∃ a1:Value,aT=.returned (.tuple #[a1,i64 K.2])/\Ext w0 aQ/\Nw w0 a1/\OwK (Sc u8) aQ [] 5 a1 K.1):=by
 have G:Ext w0 w0:=Ext.refl w0;unfold zdh at h;refine zai (n:=67) Tryz.func71 V V V<|W_sr<|av (.slice none 0 0) V V<|av (i64 0) V V<|wnt<|W_seq<|W_sr<|mv d V V<|mv e V V<|?_;obtain ⟨s,b2,h⟩:=bsi h;refine wls V V (zab (vs:=[d,e]) Tryz.func99 V V V (ar2 V V) (poly_check_calls r p d e s _ (B.lift (le_ G)) (m.lift (le_ G)) b2) ?_);rintro _ c0 ⟨rfl,bT⟩;refine ⟨_,rfl,?_⟩;have A:=G.trans bT;refine av (i64 s) V V<|wnt<|W_sr<|mv (i64 s) V V<|wa V (q_neI V V V)<|wnt<|zam _ V V (fun I=>?_) (fun I=>?_)
 ·replace h:=(if_neg (zbf I)).symm.trans h;refine W_sr<|mv (i64 s) V V<|av (.slice none 0 0) V V<|av (i64 s) V V<|wnt<|W_ret<|th_r<|?_;obtain rfl:=osi h;refine rt2 (.slice none 0 0) (i64 s) V V V V V V ?_;exact ⟨.slice none 0 0,rfl,A,Nw.nil _,OwK.nil _ _ _ _⟩
 replace h:=(if_pos (zbg I)).symm.trans h;refine zae<|W_th<|W_sr<|mv e V V<|wa V (q_len V T22.sl V (m.lift (le_ A)))<|?_;obtain ⟨bX,b1,h⟩:=bsi h;refine wls V V (zb3 (L:=[]) (R:=Sc u8) V T22 V V b1 (fun _ _=>rfl) ?_);intro b cA bF bB aZ bZ;have bU:=zaa aZ;have bC:=Nw.ext A bB;have a9:=A.trans bU;refine av b V V<|wnt<|W_seq<|W_sr<|mv e V V<|wa V (q_len V T22.sl V (m.lift (le_ a9)))<|mv (i64 0) V V<|wnt ?_;obtain ⟨bV,aS,h⟩:=bsi h;refine W_mid (fun a k=>a 9=b/\a 67=undef/\Ext w0 k/\OwK (Sc u8) k [b] 5 b bV/\Nw w0 b) ?_ ?_
 ·refine zac<|zau (fun g a k=>a 0=d/\a 1=e/\a 2=u8 l/\a 9=b/\a 25=e/\a 26=i64 (p.length:Int)/\a 27=i64 g.2/\a 67=undef/\Ext w0 k/\OwK (Sc u8) k [b] 5 b g.1/\Nw w0 b) aS ?_ ?_
  ·exact ⟨rfl,rfl,rfl,rfl,rfl,rfl,rfl,rfl,a9,bF,bC⟩
  rintro g _ _ cB ⟨bG,aK,bP,aP,aL,aM,E,aN,w,aG,aF⟩ i b9;refine W_sr<|wa V (q_ltI V E aM)<|wnt<|W_seq<|wci i V V (fun i=>?_) (fun i=>?_)
  ·refine zae<|W_th<|W_seq<|zac<|W_sr<|mv (i64 g.2) V E<|bse i fun t aB i=>wa V (q_adr V T22 aL E (m.lift (le_ w)) aB)<|wq V (zao V T22 V (m.lift (le_ w)) aB)<|av (i64 g.2) V V<|av (u8 t) V V<|wnt<|W_sr<|av (u8 1) V (cst8 (1:UInt8) V)<|?_;refine av (u8 1) V (cst8 (1:UInt8) V)<|wnt<|W_seq<|W_sr<|mv e V aK<|wa V (q_len V T22.sl V (m.lift (le_ w)))<|mv (i64 0) V V<|wnt ?_;obtain ⟨o,aR,i⟩:=bsi i;refine W_mid (fun a k=>a 0=d/\a 1=e/\a 2=u8 l/\a 9=b/\a 10=i64 g.2/\a 12=u8 o.1/\a 13=u8 o.2/\a 25=e/\a 26=i64 (p.length:Int)/\a 27=i64 g.2/\a 67=undef/\Ext w0 k/\OwK (Sc u8) k [b] 5 b g.1/\Nw w0 b) ?_ ?_
   ·refine zac<|zau (fun f a k=>a 0=d/\a 1=e/\a 2=u8 l/\a 9=b/\a 10=i64 g.2/\a 11=u8 t/\a 12=u8 f.1/\a 13=u8 f.2.1/\a 25=e/\a 26=i64 (p.length:Int)/\a 27=i64 g.2/\a 32=e/\a 33=i64 (p.length:Int)/\a 34=i64 f.2.2/\a 67=undef/\Ext w0 k/\OwK (Sc u8) k [b] 5 b g.1/\Nw w0 b) aR ?_ ?_
    ·exact ⟨bG,aK,bP,aP,rfl,rfl,rfl,rfl,aL,aM,E,rfl,rfl,rfl,aN,w,aG,aF⟩
    rintro f _ _ c1 ⟨y,S,F,a0,D,O,P,Q,T,U,W,X,Y,z,Z,v,j,J⟩ c b3;refine W_sr<|wa V (q_ltI V z Y)<|wnt<|W_seq<|wci c V V (fun c=>?_) (fun c=>?_)
    ·refine zae<|W_th<|W_seq<|zac<|W_sr<|mv (i64 f.2.2) V z<|bse c fun q aC c=>wa V (q_adr V T22 X z (m.lift (le_ v)) aC)<|wq V (zao V T22 V (m.lift (le_ v)) aC)<|av (i64 f.2.2) V V<|av (u8 q) V V<|wnt<|W_sr<|mv (i64 f.2.2) V V<|?_;refine mv (i64 g.2) V D<|wa V (q_neI V V V)<|wnt<|zam _ V V (fun H=>?_) (fun H=>?_)
     ·replace c:=(if_neg (zbf H)).symm.trans c;refine W_rg<|mv d V y<|mv (u8 f.1) V P<|mv (u8 l) V F<|mv (u8 q) V V<|?_;obtain ⟨M,b4,c⟩:=bsi c;refine wls V V (zab (vs:=[u8 l,u8 q]) Tryz.func97 V V V (ar2 V V) (zei l q  M _  b4) ?_);rintro _ c2 ⟨rfl,a2⟩;refine ⟨_,rfl,?_⟩;replace j:=j.extL (Sc.stab _) a2 (le_ a2);have a7:=v.trans a2;obtain ⟨aH,b5,c⟩:=bsi c;refine wls V V (zab (vs:=[d,u8 f.1,u8 M]) Tryz.func98 V V V (ar3 V V V) (zcr r f.1 M d aH _ (B.lift (le_ a7)) b5) ?_);rintro _ c3 ⟨rfl,a3⟩;refine ⟨_,rfl,?_⟩;replace j:=j.extL (Sc.stab _) a3 (le_ a3);have aU:=a7.trans a3;refine mv d V y<|mv (u8 f.2.1) V Q<|mv (u8 t) V O<|mv (u8 q) V V<|?_;obtain ⟨N,b6,c⟩:=bsi c;refine wls V V (zab (vs:=[u8 t,u8 q]) Tryz.func97 V V V (ar2 V V) (zei t q  N _  b6) ?_);rintro _ c4 ⟨rfl,a4⟩;refine ⟨_,rfl,?_⟩;replace j:=j.extL (Sc.stab _) a4 (le_ a4);have a8:=aU.trans a4;obtain ⟨aI,b7,c⟩:=bsi c;refine wls V V (zab (vs:=[d,u8 f.2.1,u8 N]) Tryz.func98 V V V (ar3 V V V) (zcr r f.2.1 N d aI _ (B.lift (le_ a8)) b7) ?_);rintro _ c5 ⟨rfl,a5⟩;refine ⟨_,rfl,?_⟩;replace j:=j.extL (Sc.stab _) a5 (le_ a5);have aV:=a8.trans a5;refine av (u8 aH) V V<|av (u8 aI) V V<|zag<|bk_n<|W_th<|W_rg<|wa V (zak V z V)<|mv (i64 (wI (f.2.2+1))) V V<|zag ?_;obtain rfl:=osi c;exact ⟨_,rfl,y,S,F,a0,D,O,rfl,rfl,T,U,W,X,Y,rfl,Z,aV,j,J⟩
     replace c:=(if_pos (zbg H)).symm.trans c;refine zae<|bk_n<|W_th<|W_rg<|wa V (zak V z V)<|mv (i64 (wI (f.2.2+1))) V V<|zag<|?_;obtain rfl:=osi c;exact ⟨_,rfl,y,S,F,a0,D,O,P,Q,T,U,W,X,Y,rfl,Z,v,j,J⟩
    refine zar<|th_x<|?_;obtain rfl:=osi c;obtain rfl:=b3 _ rfl;refine th_x<|bk_x<|?_;exact ⟨y,S,F,a0,D,P,Q,T,U,W,Z,v,j,J⟩
   rintro _ c6 ⟨aJ,bK,bO,aO,bH,bI,bJ,bL,bM,bN,bQ,aA,C,aE⟩;refine W_th<|W_rg<|mv b V aO<|mv (i64 g.2) V bH<|mv d V aJ<|mv (u8 o.1) V bI<|mv (u8 o.2) V bJ<|?_;obtain ⟨x,b8,i⟩:=bsi i;refine wls V V (zab (vs:=[d,u8 o.1,u8 o.2]) Tryz.func100 V V V (ar3 V V V) (field_Div_calls r o.1 o.2 d x _ (B.lift (le_ aA)) b8) ?_);rintro _ c7 ⟨rfl,a6⟩;refine ⟨_,rfl,?_⟩;replace C:=C.extL (Sc.stab _) a6 (le_ a6);have aW:=aA.trans a6;refine mv (.tuple #[u8 x.1,i64 x.2]) V V<|wa V (zah V V V)<|wa V (zah V V V)<|bse i fun bW aD i=>wa V (q_adr V T22 V V (C.rd (Sc.stab _)) aD)<|wln V V (zci (R:=Sc u8) (u:=u8 x.1) (Sc.stab _) [] [] V T22 V V C (zf6 x.1 aD) V V ?_);intro c8 bE aY bY;have aX:=aW.grown aY aE;refine zag<|bk_n<|W_th<|W_rg<|wa V (zak V bN V)<|mv (i64 (wI (g.2+1))) V V<|zag<|?_;obtain rfl:=osi i;exact ⟨_,rfl,aJ,bK,bO,aO,bL,bM,rfl,bQ,aX,bE,aE⟩
  refine zar<|th_x<|?_;obtain rfl:=osi i;obtain rfl:=b9 _ rfl;refine th_x<|bk_x<|?_;exact ⟨aP,aN,w,aG,aF⟩
 rintro _ c9 ⟨bS,bR,b0,bD,bA⟩;refine W_th<|W_sr<|mv b V bS<|av b V V<|av (i64 0) V V<|wnt<|W_ret<|?_;obtain rfl:=osi h;refine rt2 b (i64 0) V V V V V bR ?_;exact ⟨b,rfl,b0,bA,bD.weak (Sc.stab _) (fun _ _=>trivial)⟩
noncomputable def zgt (d:Bool) (c:List UInt8) (e:List UInt8):Option (List UInt8×Int) :=
(if (c.length:Int)=(e.length:Int) then
((zgd d c).bind fun f =>
(if f=0 then
((zaj e).bind fun n =>
((iterC (fun b:List UInt8×Int =>
(if b.2<(b.1.length:Int) then
((iterC (fun a:List UInt8×Int =>
(if b.2<=a.2 then
((idx a.1 a.2).bind fun i =>
((idx a.1 (wI (a.2 - 1))).bind fun j =>
((idx c a.2).bind fun k =>
((idx c (wI (a.2 - b.2))).bind fun l =>
((zct i j).bind fun o =>
((zct k l).bind fun p =>
((zf1 d o p).bind fun q => some (.inl (a.1.set (a.2:Int).toNat q.1,wI (a.2 - 1))))))))))
else some (.inr a.1))) (b.1,wI ((b.1.length:Int) - 1))).bind fun u => some (.inl (u,wI (b.2+1))))
else some (.inr b.1))) (n,1)).bind fun g =>
((lim g.length).bind fun w =>
((zjh (fun (t:List UInt8) (h:(Int×UInt8)) =>
((idx c h.1).bind fun m =>
((zha d t ([m,(1:UInt8)]:List UInt8)).bind fun r =>
((ziq r.1 ([h.2]:List UInt8)).bind fun s => some s)))) (revI g) ([]:List UInt8)).bind fun v => some (v,0)))))
else some (([]:List UInt8),f)))
else some (([]:List UInt8),1))
theorem poly_Through_calls (aF:Bool) (b0:List UInt8) (b1:List UInt8) (k:Value) (m:Value) (a9:Value) (bL:List UInt8×Int) (w0:World) (aQ:Fd w0 [] k aF) (N:By w0 [] m b0) (cB:By w0 [] a9 b1) (h:zgt aF b0 b1=some bL) :
  Calls Tryz.prog 123 [k,m,a9].toArray w0 (fun d6 cZ=>∃ bP:Value,d6=.returned (.tuple #[bP,i64 bL.2])/\Ext w0 cZ/\Nw w0 bP/\OwK (Sc u8) cZ [] 5 bP bL.1):=by
 have b6:Ext w0 w0:=Ext.refl w0;unfold zgt at h;refine zai (n:=91) Tryz.func123 V V V<|W_sr<|wls V V (zb9 (v:=k) (cs:=#[k]) [] V V (zjz (aQ.lift (le_ b6))) ?_);intro b iH E eG dF hG;have hA:=zaa dF;have eQ:=Nw.ext b6 eG;have b2:=b6.trans hA;refine wls V V (zb9 (v:=m) (cs:=#[m]) [bp b] V V (zb4 _ _ (N.lift (le_ b2))) ?_);intro c iO X cI dH hI;have d1:=zaa dH;have gJ:Nq (bp b) (bp c):=E.nq cI;replace E:=E.ext d1;have eZ:=Nw.ext b2 cI;have a7:=b2.trans d1;refine av (.slice none 0 0) V V<|av (i64 0) V V<|wnt<|W_seq<|W_sr<|wq V (zan (u:=m) V Tryz.isAgg22 V X V)<|wa V (q_len V T22.sl V (N.lift (le_ a7)))<|mv a9 V V<|wa V (q_len V T22.sl V (cB.lift (le_ a7)))<|wa V (q_neI V V V)<|wnt<|zam _ V V (fun b8=>?_) (fun b8=>?_)
 ·replace h:=(if_neg (zbf b8)).symm.trans h;refine W_sr<|av (.slice none 0 0) V V<|av (i64 1) V V<|wnt<|W_ret<|th_r<|?_;obtain rfl:=osi h;refine rt2 (.slice none 0 0) (i64 1) V V V V V V ?_;exact ⟨.slice none 0 0,rfl,a7,Nw.nil _,OwK.nil _ _ _ _⟩
 replace h:=(if_pos (zbg b8)).symm.trans h;refine zae<|W_th<|W_seq<|W_sr<|wq V (zan (u:=k) V Tryz.isAgg27 V E V)<|wq V (zan (u:=m) V Tryz.isAgg22 V X V)<|?_;obtain ⟨aA,e0,h⟩:=bsi h;refine wls V V (zab (vs:=[k,m]) Tryz.func99 V V V (ar2 V V) (poly_check_calls aF b0 k m aA _ (aQ.lift (le_ a7)) (N.lift (le_ a7)) e0) ?_);rintro _ iS ⟨rfl,bT⟩;refine ⟨_,rfl,?_⟩;replace X:=X.ext bT;replace E:=E.ext bT;have aO:=a7.trans bT;refine av (i64 aA) V V<|wnt<|W_sr<|mv (i64 aA) V V<|wa V (q_neI V V V)<|wnt<|zam _ V V (fun b7=>?_) (fun b7=>?_)
 ·replace h:=(if_neg (zbf b7)).symm.trans h;refine W_sr<|mv (i64 aA) V V<|av (.slice none 0 0) V V<|av (i64 aA) V V<|wnt<|W_ret<|th_r<|?_;obtain rfl:=osi h;refine rt2 (.slice none 0 0) (i64 aA) V V V V V V ?_;exact ⟨.slice none 0 0,rfl,aO,Nw.nil _,OwK.nil _ _ _ _⟩
 replace h:=(if_pos (zbg b7)).symm.trans h;refine zae<|W_th<|W_sr<|mv a9 V V<|?_;obtain ⟨cR,dS,h⟩:=bsi h;refine wls V V (zab (vs:=[a9]) Tryz.func59 V V V (ar1 V) (zap b1 a9 cR _ (cB.lift (le_ aO)) dS) ?_);rintro _ h2 ⟨a,rfl,bS,bC,f6⟩;refine ⟨_,rfl,?_⟩;have f5:OwK (Sc u8) h2 (a::[bp c,bp b]) 5 a cR:=OwK.scal f6 _;have fV:Nq (bp c) a:=X.nq bC;have fW:Nq (bp b) a:=E.nq bC;replace X:=X.ext bS;replace E:=E.ext bS;have eH:=Nw.ext aO bC;have d7:=aO.trans bS;refine av a V V<|wnt<|W_seq<|W_sr<|av (i64 1) V V<|wnt<|?_;obtain ⟨aB,d3,h⟩:=bsi h;refine W_mid (fun f e=>f 3=bp b/\f 4=bp c/\f 9=a/\f 91=undef/\Ext w0 e/\OwK (Sc u8) e [a,bp b,bp c] 5 a aB/\Nw w0 a/\Blk e b 27 #[k]/\Nw w0 (bp b)/\Blk e c 22 #[m]/\Nw w0 (bp c)/\Nq a (bp b)/\Nq a (bp c)/\Nq (bp b) (bp c)) ?_ ?_
 ·refine zac<|zau (fun A f e=>f 3=bp b/\f 4=bp c/\f 9=a/\f 10=i64 A.2/\f 91=undef/\Ext w0 e/\OwK (Sc u8) e [a,bp b,bp c] 5 a A.1/\Nw w0 a/\Blk e b 27 #[k]/\Nw w0 (bp b)/\Blk e c 22 #[m]/\Nw w0 (bp c)/\Nq a (bp b)/\Nq a (bp c)/\Nq (bp b) (bp c)) d3 ?_ ?_
  ·exact ⟨rfl,rfl,rfl,rfl,rfl,d7,f5.weak (Sc.stab _) (fun _ d=>⟨d.1,d.2.2.1,d.2.1,trivial⟩),eH,E,eQ,X,eZ,fW.symm,fV.symm,gJ⟩
  rintro A _ _ iI ⟨cU,cV,aY,cT,cW,c3,aR,cD,cJ,cE,cK,cG,cM,cN,cO⟩ Z dT;refine W_seq<|W_sr<|mv (i64 A.2) V cT<|mv a V aY<|wa V (q_len V T22.sl V (aR.rd (Sc.stab _)))<|wa V (q_ltI V V V)<|wnt<|wci Z V V (fun Z=>?_) (fun Z=>?_)
  ·refine zae<|W_th<|W_seq<|zac<|W_sr<|mv a V aY<|wa V (q_len V T22.sl V (aR.rd (Sc.stab _)))<|wa V (za9 V V V)<|av (i64 (wI ((A.1.length:Int) - 1))) V V<|wnt<|?_;obtain ⟨hB,d4,Z⟩:=bsi Z;refine W_mid (fun f e=>f 3=bp b/\f 4=bp c/\f 9=a/\f 10=i64 A.2/\f 91=undef/\Ext w0 e/\OwK (Sc u8) e [a,bp b,bp c] 5 a hB/\Nw w0 a/\Blk e b 27 #[k]/\Nw w0 (bp b)/\Blk e c 22 #[m]/\Nw w0 (bp c)/\Nq a (bp b)/\Nq a (bp c)/\Nq (bp b) (bp c)) ?_ ?_
   ·refine zac<|zau (fun B f e=>f 3=bp b/\f 4=bp c/\f 9=a/\f 10=i64 A.2/\f 11=i64 B.2/\f 91=undef/\Ext w0 e/\OwK (Sc u8) e [a,bp b,bp c] 5 a B.1/\Nw w0 a/\Blk e b 27 #[k]/\Nw w0 (bp b)/\Blk e c 22 #[m]/\Nw w0 (bp c)/\Nq a (bp b)/\Nq a (bp c)/\Nq (bp b) (bp c)) d4 ?_ ?_
    ·exact ⟨cU,cV,aY,cT,rfl,cW,c3,aR,cD,cJ,cE,cK,cG,cM,cN,cO⟩
    rintro B _ _ h3 ⟨bO,aW,aK,aV,a6,cX,c4,o,bB,x,cF,w,cH,bF,bG,cP⟩ j dU;refine W_seq<|W_sr<|mv (i64 B.2) V a6<|mv (i64 A.2) V aV<|wa V (q_geI V V V)<|wnt<|wci j V V (fun j=>?_) (fun j=>?_)
    ·refine zae<|W_th<|W_seq<|zac<|zba [2,6,11,13,16,17,22] [(0,0),(1,0),(2,1),(3,0),(4,0),(5,0),(6,1),(7,0),(8,0),(9,0),(10,0),(11,1),(13,1),(14,0),(15,0),(16,1),(17,1),(18,0),(19,0),(20,0),(21,0),(22,1),(12,2),(23,2),(24,2),(25,0),(26,0),(27,0),(28,0),(29,2)] mixed (by kernel_rfl) (by kernel_rfl) (by kernel_rfl) (by kernel_rfl) ?_;have aL:=Ext.drew h3;replace o:=o.extL (Sc.stab _) aL (le_ aL);replace x:=x.ext aL;replace w:=w.ext aL;have aG:=c4.trans aL;refine sv a V V aK<|sv (i64 B.2) V V a6<|sq V V (zan (u:=k) V Tryz.isAgg27 (by exact bO) x V)<|sv a V V aK<|sv (i64 B.2) V V a6<|bse j fun bU aP j=>sa V V (q_adr V T22 V V (o.rd (Sc.stab _)) aP)<|sq V V (zao V T22 V (o.rd (Sc.stab _)) aP)<|sv a V V aK<|sv (i64 B.2) V V a6<|sa V V (za9 V V V)<|bse j fun bV c6 j=>sa V V (q_adr V T22 V V (o.rd (Sc.stab _)) c6)<|sq V V (zao V T22 V (o.rd (Sc.stab _)) c6)<|sq V V (zan (u:=m) V Tryz.isAgg22 (by exact aW) w V)<|sv (i64 B.2) V V a6<|?_;obtain ⟨bW,c7,j⟩:=bsi j;refine sa V V (q_adr V T22 V V (N.lift (le_ aG)) c7)<|sq V V (zao V T22 V (N.lift (le_ aG)) c7)<|sq V V (zan (u:=m) V Tryz.isAgg22 (by exact aW) w V)<|sv (i64 B.2) V V a6<|sv (i64 A.2) V V aV<|sa V V (za9 V V V)<|bse j fun bX c8 j=>sa V V (q_adr V T22 V V (N.lift (le_ aG)) c8)<|sq V V (zao V T22 V (N.lift (le_ aG)) c8)<|?_;obtain ⟨bM,dV,j⟩:=bsi j;refine wss V V V (zab (vs:=[u8 bU,u8 bV]) Tryz.func97 V V V (ar2 V V) (zei bU bV  bM _  dV) ?_);rintro _ iJ ⟨rfl,aC⟩;refine ⟨_,rfl,aC,?_⟩;replace o:=o.extL (Sc.stab _) aC (le_ aC);replace x:=x.ext aC;replace w:=w.ext aC;have d8:=aG.trans aC;obtain ⟨bN,dW,j⟩:=bsi j;refine wss V V V (zab (vs:=[u8 bW,u8 bX]) Tryz.func97 V V V (ar2 V V) (zei bW bX  bN _  dW) ?_)
     rintro _ iK ⟨rfl,aD⟩;refine ⟨_,rfl,aD,?_⟩;replace o:=o.extL (Sc.stab _) aD (le_ aD);have bY:=d8.trans aD;obtain ⟨aJ,dX,j⟩:=bsi j;refine wsc V (by kernel_rfl) V V (zab (vs:=[k,u8 bM,u8 bN]) Tryz.func100 V V V (ar3 V V V) (field_Div_calls aF bM bN k aJ _ (aQ.lift (le_ bY)) dX) ?_);rintro _ iL ⟨rfl,aM⟩;refine ⟨_,rfl,?_⟩;replace o:=o.extL (Sc.stab _) aM (le_ aM);replace x:=(x.ext aD).ext aM;replace w:=(w.ext aD).ext aM;have d9:=bY.trans aM;refine sv (.tuple #[u8 aJ.1,i64 aJ.2]) V V V<|sa V V (zah V V V)<|sa V V (zah V V V)<|sa V V (q_adr V T22 V V (o.rd (Sc.stab _)) aP)<|wsn V (by kernel_rfl) V V (zci (R:=Sc u8) (u:=u8 aJ.1) (Sc.stab _) [] [bp b,bp c] V T22 V V o (zf6 aJ.1 aP) V V ?_);intro iM fB b5 hH;replace x:=x.other b5 bF.symm;replace w:=w.other b5 bG.symm;have dA:=d9.grown b5 bB;refine za1<|bk_n<|W_th<|W_rg<|mv (i64 B.2) V a6<|wa V (za9 V V V)<|av (i64 (wI (B.2 - 1))) V V<|zag<|?_;obtain rfl:=osi j;exact ⟨_,rfl,bO,aW,aK,aV,rfl,cX,dA,fB,bB,x,cF,w,cH,bF,bG,cP⟩
    refine zar<|th_x<|?_;obtain rfl:=osi j;obtain rfl:=dU _ rfl;refine th_x<|bk_x<|?_;exact ⟨bO,aW,aK,aV,cX,c4,o,bB,x,cF,w,cH,bF,bG,cP⟩
   rintro _ iN ⟨gT,gV,gZ,gS,gX,dK,f2,eC,f7,eI,f9,eM,fL,fO,fX⟩;refine bk_n<|W_th<|W_rg<|mv (i64 A.2) V gS<|wa V (zak V V V)<|av (i64 (wI (A.2+1))) V V<|zag<|?_;obtain rfl:=osi Z;exact ⟨_,rfl,gT,gV,gZ,rfl,gX,dK,f2,eC,f7,eI,f9,eM,fL,fO,fX⟩
  refine zar<|th_x<|?_;obtain rfl:=osi Z;obtain rfl:=dT _ rfl;refine th_x<|bk_x<|?_;exact ⟨cU,cV,aY,cW,c3,aR,cD,cJ,cE,cK,cG,cM,cN,cO⟩
 rintro _ iP ⟨gU,gW,h0,gY,c5,O,eD,a3,eJ,a4,eN,fM,fP,fY⟩;refine W_th<|W_sr<|wls V V (zeu (z:=(.slice none 0 0)) (cs:=#[.slice none 0 0]) [a,bp b,bp c] V Tryz.zeroValue22 V ?_);intro i iQ aS aI dG hJ;have aN:=zaa dG;have gE:Nq a (bp i):=O.nq aI;have gF:Nq (bp b) (bp i):=a3.nq aI;have gG:Nq (bp c) (bp i):=a4.nq aI;replace O:=O.extL (Sc.stab _) aN (Lift.call _ aN aI);replace a3:=a3.ext aN;replace a4:=a4.ext aN;have eT:=Nw.ext c5 aI;have bZ:=c5.trans aN;refine wnt<|W_seq<|W_sr<|mv a V h0<|wls V V (zab (vs:=[a]) Tryz.func96 V V V (ar1 V) (zib _ (cells_own O) _) ?_);rintro _ h4 ⟨g,rfl,a8,cL,aE⟩;refine ⟨_,rfl,?_⟩;have gH:Nq (bp i) (bp g):=aS.nq a8;have gK:Nq a (bp g):=O.nq a8;have gL:Nq (bp b) (bp g):=a3.nq a8;have gM:Nq (bp c) (bp g):=a4.nq a8;replace aS:=aS.ext aE;replace O:=O.extL (Sc.stab _) aE (Lift.call _ aE a8);replace a3:=a3.ext aE;replace a4:=a4.ext aE;have eV:=Nw.ext bZ a8;have b3:=bZ.trans aE;refine wnt<|zac<|?_;obtain ⟨hM,dR,h⟩:=bsi h;obtain ⟨iU,d5,h⟩:=bsi h;refine W_rangeS (π:=fun D:BwEl (·=aB)=>D.1) (xs:=revI aB) (ea:=fun D=>i64 D.1.1) (eb:=fun D=>u8 D.1.2) (Rd:=RdB (·=aB) g a) (gf:=128) (lb:=#[bp g]) d5 gY V V (enters Tryz.func128 V V) ((zg8 _).symm) (backward_gen (·=aB) _ (fun l d=>congrArg List.length d) a g _ ⟨cL,_,rfl,O.rd (Sc.stab _)⟩ (zjt dR)) (fun iV d=>bw_exact d) bw_mem (fun _ _ S d=>d.tn S) V V (fun aX e=>∃ G:Value,Ext w0 e/\OwK (Sc u8) e [G,a,bp b,bp c,bp i,bp g] 5 G aX/\Nw w0 G/\OwK (Sc u8) e [G,a,bp b,bp c,bp i,bp g] 5 a aB/\Nw w0 a/\Blk e b 27 #[k]/\Nw w0 (bp b)/\Blk e c 22 #[m]/\Nw w0 (bp c)/\Blk e i 22 #[G]/\Nw w0 (bp i)/\Blk e g 22 #[a]/\Nw w0 (bp g)/\Nq G a/\Nq G (bp b)/\Nq G (bp c)/\Nq G (bp i)/\Nq G (bp g)/\Nq a (bp b)/\Nq a (bp c)/\Nq a (bp i)/\Nq a (bp g)/\Nq (bp b) (bp c)/\Nq (bp b) (bp i)/\Nq (bp b) (bp g)/\Nq (bp c) (bp i)/\Nq (bp c) (bp g)/\Nq (bp i) (bp g)) ?_ ⟨.slice none 0 0,b3,OwK.nil _ _ _ _,Nw.nil _,O.weak (Sc.stab _) (fun _ d=>⟨zfw,d.2.2.1,d.2.2.2.1,d.2.2.2.2.1,d.2.1,d.1,trivial⟩),eD,a3,eJ,a4,eN,aS,eT,cL,eV,Nq.nil _,Nq.nil _,Nq.nil _,Nq.nil _,Nq.nil _,fM,fP,gE,gK,fY,gF,gL,gG,gM,gH⟩ (fun D f=>upd (upd f 13 (i64 D.1.1)) 14 (u8 D.1.2)) ?_ ?_ ?_
 ·rintro aX W hD S ⟨h1,dL,f3,eE,f8,eK,fA,eO,fC,eR,fD,eU,fF,eW,fN,fQ,fR,fS,fU,fZ,g1,g3,g4,g6,g8,g9,gB,gC,gI⟩;exact ⟨h1,dL.tn S b3.size,f3.tn (Sc.stab _) S,eE,f8.tn (Sc.stab _) S,eK,fA.tn S,eO,fC.tn S,eR,fD.tn S,eU,fF.tn S,eW,fN,fQ,fR,fS,fU,fZ,g1,g3,g4,g6,g8,g9,gB,gC,gI⟩
 ·intro l D hE hC dO;refine W_sr<|av (i64 D.1.1) V V<|wnt<|W_rg<|av (u8 D.1.2) V V<|zag<|?_;exact dO
 ·rintro l ⟨M,hF⟩ aX iG d0 ⟨C,dM,P,hN,p,eL,q,eP,r,eS,y,bD,s,eX,hX,hZ,i1,fT,i4,g0,g2,bH,g5,g7,bI,gA,bJ,gD,bK⟩ a0;have eB:=KeepsFrom.refl h4.heap.size d0;refine zac<|W_seq<|zba [0,1,2,5] [(0,1),(1,1),(2,1),(3,0),(4,0),(5,1),(6,2),(7,2),(8,0),(9,0),(10,0),(11,2)] mixed (by kernel_rfl) (by kernel_rfl) (by kernel_rfl) (by kernel_rfl) ?_;have H:=Ext.drew d0;replace P:=P.extL (Sc.stab _) H (le_ H);replace p:=p.extL (Sc.stab _) H (le_ H);replace q:=q.ext H;replace r:=r.ext H;replace y:=y.ext H;replace s:=s.ext H;have e3:=eB.ext H;have b4:=dM.trans H;refine sq V V (zan (u:=k) V Tryz.isAgg27 (by exact gU) q V)<|sq V V (zan (u:=C) V Tryz.isAgg22 V y V)<|sq V V (zan (u:=m) V Tryz.isAgg22 (by exact gW) r V)<|sv (i64 M.1) V V V<|bse a0 fun T c9 a0=>sa V V (q_adr V T22 V V (N.lift (le_ b4)) c9)<|sq V V (zao V T22 V (N.lift (le_ b4)) c9)<|wss V V V (zaz (L:=[C,a,bp b,bp c,bp i,bp g]) (R:=Sc u8) [u8 T,u8 1] ([T,(1:UInt8)]:List UInt8) V T22 V (by exact ⟨rfl,rfl,rfl,cst8 (1:UInt8) V,trivial⟩) V (litC u8 zbi (us:=[u8 T,u8 1]) (l:=([T,(1:UInt8)]:List UInt8)) V) V (litS u8 (us:=[u8 T,u8 1]) (l:=([T,(1:UInt8)]:List UInt8)) V) ?_);intro bQ h5 fG eY c2 hK;refine ⟨zaa c2,?_⟩;have I:=zaa c2;have e1:By h5 [C,a,bp b,bp c,bp i,bp g] bQ ([T,(1:UInt8)]:List UInt8):=OwK.slk (Sc.stab _) _ fG (fun aH b9=>(Old.cons (Old.cons (Old.cons (Old.cons (Old.cons (Old.cons (Old.nil _) s.ltB) y.ltB) r.ltB) q.ltB) p.lt) P.lt) aH (eY aH b9)) (fun _ d=>d.2);replace P:=P.extL (Sc.stab _) I (le_ I);replace p:=p.extL (Sc.stab _) I (le_ I);replace q:=q.ext I;replace r:=r.ext I;replace y:=y.ext I;replace s:=s.ext I;have e4:=e3.ext I;have c0:=b4.trans I;obtain ⟨aU,dY,a0⟩:=bsi a0;refine wsc V (by kernel_rfl) V V (zab (vs:=[k,C,bQ]) Tryz.func126 V V V (ar3 V V V) (zix aF aX ([T,(1:UInt8)]:List UInt8) k C bQ aU _ (aQ.lift (le_ c0)) (P.rd (Sc.stab _)) (e1.lift (Lift.sub (L':=[]) (fun _ _=>trivial))) dY) ?_);rintro _ h6 ⟨t,rfl,J,bE,fH⟩
  refine ⟨_,rfl,?_⟩;have a5:OwK (Sc u8) h6 (t::[C,a,bp b,bp c,bp i,bp g]) 5 t aU.1:=OwK.scal fH _;have gN:Nq (bp i) t:=y.nq bE;replace y:=y.ext J;have e5:=e4.ext J;have dB:=c0.trans J;refine sv (.tuple #[t,i64 aU.2]) V V V<|sa V V (zah V V V)<|sa V V (zah V V V)<|wsn V (by kernel_rfl) V V (zdu (u:=t) [t,C,a,bp b,bp c] [bp g] V Tryz.sizeOf22 V V y (oc_own a5) ?_);intro iR Q U bA;have e6:=e5.own U y.cl;replace a5:=a5.other (Sc.stab _) U gN.symm bA;replace P:=(P.extL (Sc.stab _) J (Lift.call _ J bE)).other (Sc.stab _) U fT bA;replace p:=(p.extL (Sc.stab _) J (Lift.call _ J bE)).other (Sc.stab _) U bH bA;replace q:=(q.ext J).other U bI;replace r:=(r.ext J).other U bJ;replace s:=(s.ext J).other U bK.symm;have dC:=dB.grown U bD;refine za1<|W_th<|W_rg<|wq V (zan (u:=t) V Tryz.isAgg22 V Q V)<|mv (u8 M.2) V V<|wls V V (zaz (L:=[t,C,a,bp b,bp c,bp i,bp g]) (R:=Sc u8) [u8 M.2] ([M.2]:List UInt8) V T22 V (by exact ⟨rfl,rfl,trivial⟩) V (litC u8 zbi (us:=[u8 M.2]) (l:=([M.2]:List UInt8)) V) V (litS u8 (us:=[u8 M.2]) (l:=([M.2]:List UInt8)) V) ?_);intro bR h7 fI f0 dI hL;have K:=zaa dI;have e2:By h7 [t,C,a,bp b,bp c,bp i,bp g] bR ([M.2]:List UInt8):=OwK.slk (Sc.stab _) _ fI (fun aH b9=>(Old.cons (Old.cons (Old.cons (Old.cons (Old.cons (Old.cons (Old.cons (Old.nil _) s.ltB) Q.ltB) r.ltB) q.ltB) p.lt) P.lt) a5.lt) aH (f0 aH b9)) (fun _ d=>d.2);replace a5:=a5.extL (Sc.stab _) K (le_ K);replace p:=p.extL (Sc.stab _) K (le_ K);replace q:=q.ext K;replace r:=r.ext K;replace Q:=Q.ext K;replace s:=s.ext K;have e7:=e6.ext K;have c1:=dC.trans K;obtain ⟨cS,dZ,a0⟩:=bsi a0
  refine wls V V (zab (vs:=[t,bR]) Tryz.func127 V V V (ar2 V V) (poly_Add_calls aU.1 ([M.2]:List UInt8) t bR cS _ (a5.rd (Sc.stab _)) (e2.lift (Lift.sub (L':=[]) (fun _ _=>trivial))) dZ) ?_);rintro _ h8 ⟨F,rfl,Y,a2,fJ⟩;refine ⟨_,rfl,?_⟩;have aT:OwK (Sc u8) h8 (F::[t,C,a,bp b,bp c,bp i,bp g]) 5 F cS:=OwK.scal fJ _;have gO:Nq a F:=p.nq a2;have gP:Nq (bp b) F:=q.nq a2;have gQ:Nq (bp c) F:=r.nq a2;have cQ:Nq (bp i) F:=Q.nq a2;have gR:Nq (bp g) F:=s.nq a2;replace Q:=Q.ext Y;have e8:=e7.ext Y;have f1:=Nw.ext c1 a2;have dD:=c1.trans Y;refine wln V V (zdu (u:=F) [F,t,C,a,bp b,bp c] [bp g] V Tryz.sizeOf22 V V Q (oc_own aT) ?_);intro iT fK a1 cC;have e9:=e8.own a1 Q.cl;replace aT:=aT.other (Sc.stab _) a1 cQ.symm cC;replace p:=(p.extL (Sc.stab _) Y (Lift.call _ Y a2)).other (Sc.stab _) a1 bH cC;replace q:=(q.ext Y).other a1 bI;replace r:=(r.ext Y).other a1 bJ;replace s:=(s.ext Y).other a1 bK.symm;have dE:=dD.grown a1 bD;refine zag<|bk_n<|?_;obtain rfl:=osi a0;exact ⟨e9,⟨s,_,rfl,p.rd (Sc.stab _)⟩,F,dE,aT.weak (Sc.stab _) (fun _ d=>⟨d.1,d.2.2.2.1,d.2.2.2.2.1,d.2.2.2.2.2.1,d.2.2.2.2.2.2.1,d.2.2.2.2.2.2.2.1,trivial⟩),f1,p.weak (Sc.stab _) (fun _ d=>⟨d.1,d.2.2.2.1,d.2.2.2.2.1,d.2.2.2.2.2.1,d.2.2.2.2.2.2.1,d.2.2.2.2.2.2.2.1,trivial⟩),eL,q,eP,r,eS,fK,bD,s,eX,gO.symm,gP.symm,gQ.symm,cQ.symm,gR.symm,g0,g2,bH,g5,g7,bI,gA,bJ,gD,bK⟩
 intro d2 h9 dJ ⟨aZ,dN,f4,eF,hT,hO,hU,hP,hV,hQ,fE,hR,hW,hS,hY,i0,i2,i3,i5,i6,i7,i8,i9,iA,iB,iC,iD,iE,iF⟩ dP;have dQ:=Nat.le_trans b3.size dJ;have eA:=KeepsFrom.refl 0 h9;refine bk_n<|W_th<|W_sr<|wq V (zan (u:=aZ) V Tryz.isAgg22 V fE V)<|av aZ V V<|av (i64 0) V V<|wnt<|W_ret ?_;obtain rfl:=osi h;have cA:=eA.same d2 _ (Nat.zero_le _) dP V;have cY:=Tn.put cA dQ (.deferred none);refine rtm2 aZ (i64 0) V V V V V V cA ?_;exact ⟨aZ,rfl,dN.tn cY (Nat.le_refl _),eF,((f4.tn (Sc.stab _) cY).weak (Sc.stab _) (fun _ _=>trivial))⟩
end Gk

/- Printed by gen.py: for each Go function a pure function, and that the Go code comes to it. No condition beside the equation that says what the pure function gives. -/
namespace Gk
open Go Go.Proofs
noncomputable def zc7 (b:List UInt8) (c:UInt8):Option Int :=
((iterC (fun a:Int =>
(if a<(b.length:Int) then
((idx b a).bind fun d =>
(if c=d then some (.inr (.inr a))
else some (.inl (wI (a+1)))))
else some (.inr (.inl ())))) 0).bind (Sum.elim (fun f => some (-1)) (fun e=>some e)))
theorem zhc (h:List UInt8) (g:UInt8) (f:Value) (q:Int) (w0:World) (i:By w0 [] f h) (c:zc7 h g=some q) :
  Calls Tryz.prog 110 [f,u8 g].toArray w0 (fun w z=>w=.returned (i64 q)/\Ext w0 z):=by
 have m:Ext w0 w0:=Ext.refl w0;unfold zc7 at c;refine zai (n:=19) Tryz.func110 V V V<|W_sr<|av (i64 0) V V<|wnt<|W_seq<|W_sr<|mv f V V<|wa V (q_len V T22.sl V (i.lift (le_ m)))<|mv (i64 0) V V<|wnt<|?_;obtain ⟨A,v,c⟩:=bsi c;refine W_mid (fun d l=>∃ u,A=.inl u/\d 19=undef/\Ext w0 l) ?_ ?_
 ·refine zac<|zau (fun b d l=>d 0=f/\d 1=u8 g/\d 7=i64 (h.length:Int)/\d 8=i64 b/\d 19=undef/\Ext w0 l) v ?_ ?_
  ·exact ⟨rfl,rfl,rfl,rfl,rfl,m⟩
  rintro b _ _ C ⟨r,s,t,k,j,e⟩ a p;refine W_sr<|wa V (q_ltI V k t)<|wnt<|W_seq<|wci a V V (fun a=>?_) (fun a=>?_)
  ·refine zae<|W_th<|W_seq<|zac<|W_sr<|mv (i64 b) V k<|av (i64 b) V V<|?_;refine wnt<|W_sr<|mv (u8 g) V s<|mv f V r<|mv (i64 b) V V<|bse a fun B o a=>wa V (q_adr V T22 V V (i.lift (le_ e)) o)<|wq V (zao V T22 V (i.lift (le_ e)) o)<|wa V (q_eq8 V V V)<|wnt<|wci a V V (fun a=>?_) (fun a=>?_)
   ·refine W_sr<|mv (i64 b) V V<|av (i64 b) V V<|wnt<|W_ret<|bk_r<|th_r<|?_;obtain rfl:=osi a;obtain rfl:=p _ rfl;simp only [Sum.elim_inr] at c;refine th_r<|bk_r<|th_r<|th_r<|?_;obtain rfl:=osi c;refine rt1 (i64 b) V V V j ?_;exact ⟨rfl,e⟩
   refine zae<|bk_n<|W_th<|W_rg<|wa V (zak V k V)<|mv (i64 (wI (b+1))) V V<|zag<|?_;obtain rfl:=osi a;exact ⟨_,rfl,r,s,t,rfl,j,e⟩
  refine zar<|th_x<|?_;obtain rfl:=osi a;obtain rfl:=p _ rfl;refine th_x<|bk_x<|?_;exact ⟨_,rfl,j,e⟩
 rintro _ D ⟨u,rfl,y,x⟩;simp only [Sum.elim_inl] at c;refine W_th<|W_sr<|av (i64 (-1)) V V<|wnt<|W_ret<|?_;obtain rfl:=osi c;refine rt1 (i64 (-1)) V V V y ?_;exact ⟨rfl,x⟩
noncomputable def zb0 (a:List UInt8) (b:UInt8):Option Bool :=
((zc7 a b).bind fun c => some (decide (0<=c)))
theorem zgc (a0s:List UInt8) (a1v:UInt8) (p0:Value) (r:Bool) (w0:World) (hp0:By w0 [] p0 a0s) (H:zb0 a0s a1v=some r) :
  Calls Tryz.prog 82 [p0,(u8 a1v)].toArray w0 (fun e w'=>e=.returned (.bool r)/\Ext w0 w'):=by
 have hE:Ext w0 w0:=Ext.refl w0;unfold zb0 at H;refine zai (n:=9) Tryz.func82 rfl rfl rfl ?_;refine W_seq<|W_rg<|av (.bool false) rfl rfl<|wnt<|W_seq<|W_rg<|mv p0 rfl rfl<|mv (u8 a1v) rfl rfl<|?_;obtain ⟨r1,hr1,H⟩:=bsi H;refine wls rfl rfl (zab (vs:=[p0,(u8 a1v)]) Tryz.func110 rfl rfl rfl (ar2 rfl rfl) (zhc a0s a1v p0 r1 _ (hp0.lift (le_ hE)) hr1) ?_);rintro _ w1 ⟨rfl,x1⟩;refine ⟨_,rfl,?_⟩;have e2:=hE.trans x1;refine wa rfl (q_geI rfl rfl rfl)<|av (.bool ((decide (0<=r1)))) rfl rfl<|wnt<|W_ret<|?_;obtain rfl:=osi H;refine rt1 (.bool ((decide (0<=r1)))) rfl rfl rfl rfl ?_;exact ⟨rfl,e2⟩
noncomputable def zdf (a:Int):Option Bool :=
(if 1<=a then some (decide (a<=255))
else some false)
theorem zf5 (a0t:Int) (r:Bool) (w0:World) (H:zdf a0t=some r) :
  Calls Tryz.prog 81 [(i64 a0t)].toArray w0 (fun e w'=>e=.returned (.bool r)/\Ext w0 w'):=by
 have hE:Ext w0 w0:=Ext.refl w0;unfold zdf at H;refine zai (n:=9) Tryz.func81 rfl rfl rfl ?_;refine W_seq<|W_rg<|av (.bool false) rfl rfl<|wnt<|W_seq<|W_rg<|mv (i64 a0t) rfl rfl<|wa rfl (q_geI rfl rfl rfl)<|?_;refine wlb rfl rfl (zbd (v:=(.bool ((decide (1<=a0t))))) rfl rfl) (fun hb1=>?_) (fun hb1=>?_)
 ·replace H:=ifp hb1 H;refine mv (i64 a0t) rfl rfl<|wa rfl (q_leI rfl rfl rfl)<|wa rfl (zaw (v:=(.bool ((decide (a0t<=255))))) rfl rfl rfl)<|av (.bool ((decide (a0t<=255)))) rfl rfl<|wnt<|W_ret<|?_;obtain rfl:=osi H;refine rt1 (.bool ((decide (a0t<=255)))) rfl rfl rfl rfl ?_;exact ⟨rfl,hE⟩
 replace H:=ifn hb1 H;refine wk rfl<|wk rfl<|wa rfl (zaq (v:=(.bool false)) rfl rfl rfl)<|av (.bool false) rfl rfl<|wnt<|W_ret<|?_;obtain rfl:=osi H;refine rt1 (.bool false) rfl rfl rfl rfl ?_;exact ⟨rfl,hE⟩
noncomputable def zc6 (a:Int) (b:Int):Option Int :=
((zdf a).bind fun c =>
(if (!c)=true then some 0
else
(if b<0 then some 0
else some (wI ((wI (a - 1)) * b)))))
theorem zgw (b:Int) (c:Int) (f:Int) (w0:World) (a:zc6 b c=some f) :
  Calls Tryz.prog 51 [i64 b,i64 c].toArray w0 (fun h l=>h=.returned (i64 f)/\Ext w0 l):=by
 have i:Ext w0 w0:=Ext.refl w0;unfold zc6 at a;refine zai (n:=16) Tryz.func51 V V V<|W_sr<|av (i64 0) V V<|wnt<|W_seq<|W_sr<|mv (i64 b) V V<|?_;obtain ⟨g,k,a⟩:=bsi a;refine wls V V (zab (vs:=[i64 b]) Tryz.func81 V V V (ar1 V) (zf5 b  g _  k) ?_);rintro _ o ⟨rfl,m⟩;refine ⟨_,rfl,?_⟩;have d:=i.trans m;refine wa V (q_not V V)<|wlb V V (zbd (v:=(.bool (!g))) V V) (fun e=>?_) (fun e=>?_)
 ·replace a:=(if_pos e).symm.trans a;refine wk V<|wk V<|wa V (zaw (v:=(.bool true)) V V V)<|wnt<|zam true V V (fun _=>?_) (fun j=>by cases j);refine W_sr<|av (i64 0) V V<|wnt<|W_ret<|th_r<|?_;obtain rfl:=osi a;refine rt1 (i64 0) V V V V ?_;exact ⟨rfl,d⟩
 replace a:=(if_neg (ne_true_of_eq_false e)).symm.trans a;refine mv (i64 c) V V<|wa V (q_ltI V V V)<|wa V (zaq (v:=(.bool (decide (c<0)))) V V V)<|wnt<|wci a V V (fun a=>?_) (fun a=>?_)
 ·refine W_sr<|av (i64 0) V V<|wnt<|W_ret<|th_r<|?_;obtain rfl:=osi a;refine rt1 (i64 0) V V V V ?_;exact ⟨rfl,d⟩
 refine zae<|W_th<|W_sr<|mv (i64 b) V V<|wa V (za9 V V V)<|mv (i64 c) V V<|wa V (zco V V V)<|av (i64 (wI ((wI (b - 1)) * c))) V V<|wnt<|W_ret<|?_;obtain rfl:=osi a;refine rt1 (i64 (wI ((wI (b - 1)) * c))) V V V V ?_;exact ⟨rfl,d⟩
noncomputable def zgv (b:Bool) (a:Int) (c:List UInt8) (d:List UInt8) (e:List UInt8):Option Int :=
(if (!b)=true then some 1
else
((zdf a).bind fun f =>
(if (!f)=true then some 2
else
((zb0 e (0:UInt8)).bind fun g =>
(if g=true then some 2
else
((zc6 a (c.length:Int)).bind fun h =>
(if (d.length:Int)=h then some 0
else some 3)))))))
theorem shamir_check_calls (f:Bool) (b:Int) (d:List UInt8) (g:List UInt8) (h:List UInt8) (p:Value) (q:Value) (r:Value) (c:Value) (u:Int) (w0:World) (A:Fd w0 [] p f) (B:By w0 [] q d) (C:By w0 [] r g) (D:By w0 [] c h) (a:zgv f b d g h=some u) :
  Calls Tryz.prog 53 [p,i64 b,q,r,c].toArray w0 (fun y H=>y=.returned (i64 u)/\Ext w0 H):=by
 have j:Ext w0 w0:=Ext.refl w0;unfold zgv at a;refine zai (n:=30) Tryz.func53 V V V<|W_sr<|av (i64 0) V V<|wnt<|W_seq<|zac<|W_sr<|mv p V V<|wa V (q_eqF V V V V (A.lift (le_ j)))<|av (.bool (!f)) V V<|wnt<|zam _ V V (fun k=>?_) (fun k=>?_)
 ·replace a:=(if_pos k).symm.trans a;refine W_sr<|av (i64 1) V V<|wnt<|W_ret<|bk_r<|th_r<|?_;obtain rfl:=osi a;refine rt1 (i64 1) V V V V ?_;exact ⟨rfl,j⟩
 replace a:=(if_neg (ne_true_of_eq_false k)).symm.trans a;refine W_sr<|mv (i64 b) V V<|?_;obtain ⟨w,E,a⟩:=bsi a;refine wls V V (zab (vs:=[i64 b]) Tryz.func81 V V V (ar1 V) (zf5 b  w _  E) ?_);rintro _ L ⟨rfl,I⟩;refine ⟨_,rfl,?_⟩;have i:=j.trans I;refine wa V (q_not V V)<|wlb V V (zbd (v:=(.bool (!w))) V V) (fun m=>?_) (fun m=>?_)
 ·replace a:=(if_pos m).symm.trans a;refine wk V<|wk V<|wa V (zaw (v:=(.bool true)) V V V)<|av (.bool true) V V<|wnt<|zam true V V (fun _=>?_) (fun z=>by cases z);refine W_sr<|av (i64 2) V V<|wnt<|W_ret<|bk_r<|th_r<|?_;obtain rfl:=osi a;refine rt1 (i64 2) V V V V ?_;exact ⟨rfl,i⟩
 replace a:=(if_neg (ne_true_of_eq_false m)).symm.trans a;refine mv c V V ?_;obtain ⟨s,F,a⟩:=bsi a;refine wls V V (zab (vs:=[c,u8 0]) Tryz.func82 V V V (ar2 V (by exact (cst8 (0:UInt8) V))) (zgc h (0:UInt8) c s _ (D.lift (le_ i)) F) ?_);rintro _ M ⟨rfl,J⟩;refine ⟨_,rfl,?_⟩;have e:=i.trans J;refine wa V (zaq (v:=(.bool s)) V V V)<|av (.bool s) V V<|wnt<|zam _ V V (fun o=>?_) (fun o=>?_)
 ·replace a:=(if_pos o).symm.trans a;refine W_sr<|av (i64 2) V V<|wnt<|W_ret<|bk_r<|th_r<|?_;obtain rfl:=osi a;refine rt1 (i64 2) V V V V ?_;exact ⟨rfl,e⟩
 replace a:=(if_neg (ne_true_of_eq_false o)).symm.trans a;refine W_sr<|mv r V V<|wa V (q_len V T22.sl V (C.lift (le_ e)))<|mv (i64 b) V V<|mv q V V<|wa V (q_len V T22.sl V (B.lift (le_ e)))<|?_;obtain ⟨x,G,a⟩:=bsi a;refine wls V V (zab (vs:=[i64 b,i64 (d.length:Int)]) Tryz.func51 V V V (ar2 V V) (zgw b (d.length:Int)  x _  G) ?_);rintro _ N ⟨rfl,K⟩;refine ⟨_,rfl,?_⟩;have t:=e.trans K;refine wa V (q_neI V V V)<|av (.bool (!decide ((g.length:Int)=x))) V V<|wnt<|zam _ V V (fun l=>?_) (fun l=>?_)
 ·replace a:=(if_neg (zbf l)).symm.trans a;refine W_sr<|av (i64 3) V V<|wnt<|W_ret<|bk_r<|th_r<|?_;obtain rfl:=osi a;refine rt1 (i64 3) V V V V ?_;exact ⟨rfl,t⟩
 replace a:=(if_pos (zbg l)).symm.trans a;refine zae<|bk_n<|W_th<|W_sr<|av (i64 0) V V<|wnt<|W_ret<|?_;obtain rfl:=osi a;refine rt1 (i64 0) V V V V ?_;exact ⟨rfl,t⟩
noncomputable def zgs (c:Bool) (b:List UInt8) (d:List UInt8) (e:UInt8):Option (List UInt8) :=
((makeL (b.length:Int) (0:UInt8)).bind fun f =>
((iterC (fun a:List UInt8×Int =>
(if 0<=a.2 then
(if 0<(b.length:Int) then
((subL d a.2 (wI (a.2+(b.length:Int)))).bind fun g =>
((zdl c g e a.1).bind fun i => some (.inl (i,wI (a.2 - (b.length:Int))))))
else some (.inr a.1))
else some (.inr a.1))) (f,wI ((d.length:Int) - (b.length:Int)))).bind fun j =>
((zdl c b e j).bind fun h => some h)))
theorem shamir_share_calls (r:Bool) (c:List UInt8) (z:List UInt8) (g:UInt8) (h:Value) (j:Value) (k:Value) (T:List UInt8) (w0:World) (P:Fd w0 [] h r) (Q:By w0 [] j c) (D:By w0 [] k z) (i:zgs r c z g=some T) :
  Calls Tryz.prog 54 [h,j,k,u8 g].toArray w0 (fun a5 a0=>∃ I:Value,a5=.returned I/\Ext w0 a0/\Nw w0 I/\OwK (Sc u8) a0 [] 5 I T):=by
 have N:Ext w0 w0:=Ext.refl w0;unfold zgs at i;refine zai (n:=44) Tryz.func54 V V V<|W_sr<|av (.slice none 0 0) V V<|wnt<|W_sr<|mv j V V<|wa V (q_len V T22.sl V (Q.lift (le_ N)))<|av (i64 (c.length:Int)) V V<|wnt<|W_sr<|mv (i64 (c.length:Int)) V V<|?_;obtain ⟨a3,aA,i⟩:=bsi i;refine wls V V (zb3 (L:=[]) (R:=Sc u8) V T22 V V aA (fun _ _=>rfl) ?_);intro J aT aK aG a8 aZ;have aW:=zaa a8;have aE:By aT [] J a3:=OwK.slk (Sc.stab _) _ aK (fun m C=>(Old.nil _) m (aG m C)) (fun _ A=>A.2);have M:=N.trans aW;refine av J V V<|wnt<|W_seq<|W_sr<|mv k V V<|wa V (q_len V T22.sl V (D.lift (le_ M)))<|mv (i64 (c.length:Int)) V V<|wa V (za9 V V V)<|av (i64 (wI ((z.length:Int) - (c.length:Int)))) V V<|wnt<|?_;obtain ⟨a1,a2,i⟩:=bsi i;refine W_mid (fun f q=>∃ Z:Value,f 0=h/\f 1=j/\f 3=u8 g/\f 10=Z/\f 44=undef/\Ext w0 q/\By q [] Z a1) ?_ ?_
 ·refine zac<|zau (fun d f q=>∃ Y:Value,f 0=h/\f 1=j/\f 2=k/\f 3=u8 g/\f 9=i64 (c.length:Int)/\f 10=Y/\f 11=i64 d.2/\f 44=undef/\Ext w0 q/\By q [] Y d.1) a2 ?_ ?_
  ·exact ⟨J,rfl,rfl,rfl,rfl,rfl,rfl,rfl,rfl,M,aE⟩
  rintro d _ _ b1 ⟨o,t,G,X,w,x,F,u,H,l,E⟩ e S;refine W_seq<|W_sr<|mv (i64 d.2) V u<|wa V (q_geI V V V)<|wlb V V (zbd (v:=(.bool (decide (0<=d.2)))) V V) (fun B=>?_) (fun B=>?_)
  ·replace e:=ifp B e;refine mv (i64 (c.length:Int)) V x<|wa V (q_gtI V V V)<|wa V (zaw (v:=(.bool (decide (0<(c.length:Int))))) V V V)<|wnt<|wci e V V (fun e=>?_) (fun e=>?_)
   ·refine zae<|W_th<|W_seq<|zac<|W_rg<|mv h V t<|mv k V X<|mv (i64 d.2) V u<|mv (i64 d.2) V u<|mv (i64 (c.length:Int)) V x<|wa V (zak V V V)<|bse e fun a4 O e=>wa V (zdv (a:=d.2) (b:=wI (d.2+(c.length:Int))) V T22 V (D.lift (le_ l)) V V O)<|mv (u8 g) V w<|mv o V F<|?_;obtain ⟨W,aC,e⟩:=bsi e;refine wls V V (zab (vs:=[h,subV k (d.2:Int).toNat ((wI (d.2+(c.length:Int))):Int).toNat,u8 g,o]) Tryz.func72 V V V (ar4 V V V V) (zdt r a4 g d.1 h (subV k (d.2:Int).toNat ((wI (d.2+(c.length:Int))):Int).toNat) o W _ (P.lift (le_ l)) (SlK.cut (L:=[]) (D.lift (le_ l)) O) (E.lift (Lift.sub (L':=[]) (fun _ _=>trivial))) aC) ?_);rintro _ aV ⟨y,rfl,aY,aJ,aN⟩;refine ⟨_,rfl,?_⟩;have aF:By aV [] y W:=OwK.slk (Sc.stab _) _ (OwK.scal aN (y::[])) (fun m C=>(Old.nil _) m (aJ m C)) (fun _ A=>A.2);have a7:=l.trans aY;refine av y V V<|zag<|bk_n<|W_th<|W_rg<|mv (i64 d.2) V u<|mv (i64 (c.length:Int)) V x<|wa V (za9 V V V)<|av (i64 (wI (d.2 - (c.length:Int)))) V V<|zag<|?_;obtain rfl:=osi e;exact ⟨_,rfl,y,t,G,X,w,x,rfl,rfl,H,a7,aF⟩
   refine zar<|th_x<|?_;obtain rfl:=osi e;obtain rfl:=S _ rfl;refine th_x<|bk_x<|?_;exact ⟨o,t,G,w,F,H,l,E⟩
  replace e:=ifn B e;refine wk V<|wk V<|wa V (zaq (v:=(.bool false)) V V V)<|wnt<|zam false V V (fun a9=>by cases a9) (fun _=>?_);refine zar<|th_x<|?_;obtain rfl:=osi e;obtain rfl:=S _ rfl;refine th_x<|bk_x<|?_;exact ⟨o,t,G,w,F,H,l,E⟩
 rintro _ b0 ⟨K,aO,aQ,aR,aP,aS,s,aD⟩;refine W_th<|W_sr<|mv h V aO<|mv j V aQ<|mv (u8 g) V aR<|mv K V aP<|?_;obtain ⟨U,aB,i⟩:=bsi i;refine wls V V (zab (vs:=[h,j,u8 g,K]) Tryz.func72 V V V (ar4 V V V V) (zdt r c g a1 h j K U _ (P.lift (le_ s)) (Q.lift (le_ s)) (aD.lift (Lift.sub (L':=[]) (fun _ _=>trivial))) aB) ?_);rintro _ aU ⟨p,rfl,aX,aH,aM⟩;refine ⟨_,rfl,?_⟩;have aL:OwK (Sc u8) aU (p::[]) 5 p U:=OwK.scal aM _;have aI:=Nw.ext s aH;have a6:=s.trans aX;refine av p V V<|wnt<|W_ret<|?_;obtain rfl:=osi i;refine rt1 p V V V aS ?_;exact ⟨p,rfl,a6,aI,aL.weak (Sc.stab _) (fun _ _=>trivial)⟩
noncomputable def zfn (b:Bool) (f:Int) (c:List UInt8) (d:List UInt8) (a:List UInt8):Option (List (List UInt8)×Int) :=
((zgv b f c d a).bind fun e =>
(if e=0 then
((iterC (fun s4:List (List UInt8)×Int =>
(if s4.2<(a.length:Int) then
((idx a s4.2).bind fun h =>
((zgs b c d h).bind fun i =>
((appL s4.1 ([i]:List (List UInt8))).bind fun g => some (.inl (g,wI (s4.2+1))))))
else some (.inr s4.1))) (([]:List (List UInt8)),0)).bind fun j => some (j,0))
else some (([]:List (List UInt8)),e)))
theorem zim (t:Bool) (q:Int) (x:List UInt8) (y:List UInt8) (z:List UInt8) (f:Value) (g:Value) (h:Value) (m:Value) (M:List (List UInt8)×Int) (w0:World) (c:List Value) (W:Old w0 c) (Y:Fd w0 [] f t) (Z:By w0 [] g x) (a0:By w0 [] h y) (B:By w0 [] m z) (a:zfn t q x y z=some M) :
  Calls Tryz.prog 25 [f,i64 q,g,h,m].toArray w0 (fun aD aB=>∃ D:Value,aD=.returned (.tuple #[D,i64 M.2])/\Ext w0 aB/\Nw w0 D/\OwK By aB (D::c) 22 D M.1):=by
 have r:Ext w0 w0:=Ext.refl w0;unfold zfn at a;refine zai (n:=41) Tryz.func25 V V V<|W_sr<|av (.slice none 0 0) V V<|av (i64 0) V V<|wnt<|W_seq<|W_sr<|mv f V V<|mv (i64 q) V V<|mv g V V<|mv h V V<|mv m V V<|?_;obtain ⟨o,aJ,a⟩:=bsi a;refine wls V V (zab (vs:=[f,i64 q,g,h,m]) Tryz.func53 V V V (ar5 V V V V V) (shamir_check_calls t q x y z f g h m o _ (Y.lift (le_ r)) (Z.lift (le_ r)) (a0.lift (le_ r)) (B.lift (le_ r)) aJ) ?_);rintro _ b5 ⟨rfl,b0⟩;refine ⟨_,rfl,?_⟩;have H:=r.trans b0;refine av (i64 o) V V<|wnt<|W_sr<|mv (i64 o) V V<|wa V (q_neI V V V)<|wnt<|zam _ V V (fun I=>?_) (fun I=>?_)
 ·replace a:=(if_neg (zbf I)).symm.trans a;refine W_sr<|mv (i64 o) V V<|av (.slice none 0 0) V V<|av (i64 o) V V<|wnt<|W_ret<|th_r<|?_;obtain rfl:=osi a;refine rt2 (.slice none 0 0) (i64 o) V V V V V V ?_;exact ⟨.slice none 0 0,rfl,H,Nw.nil _,OwK.nil _ _ _ _⟩
 replace a:=(if_pos (zbg I)).symm.trans a;refine zae<|W_th<|W_sr<|av (.slice none 0 0) V V<|wnt<|W_seq<|W_seq<|W_rg<|mv m V V<|wa V (q_len V T22.sl V (B.lift (le_ H)))<|mv (i64 0) V V<|wnt<|?_;obtain ⟨b1,aC,a⟩:=bsi a;refine W_mid (fun d w=>∃ G:Value,d 13=G/\d 41=undef/\Ext w0 w/\OwK By w (G::c) 22 G b1/\Nw w0 G) ?_ ?_
 ·refine zac<|zau (fun C d w=>∃ E:Value,d 0=f/\d 2=g/\d 3=h/\d 13=E/\d 25=m/\d 26=i64 (z.length:Int)/\d 27=i64 C.2/\d 41=undef/\Ext w0 w/\OwK By w (E::c) 22 E C.1/\Nw w0 E) aC ?_ ?_
  ·exact ⟨.slice none 0 0,rfl,rfl,rfl,rfl,rfl,rfl,rfl,rfl,H,OwK.nil _ _ _ _,Nw.nil _⟩
  rintro C _ _ b8 ⟨i,a2,a6,a7,a3,a4,a5,N,a8,j,k,K⟩ b aK;refine W_sr<|wa V (q_ltI V N a5)<|wnt<|W_seq<|wci b V V (fun b=>?_) (fun b=>?_)
  ·refine zae<|W_th<|W_seq<|zac<|W_sr<|bse b fun A X b=>wa V (q_adr V T22 a4 N (B.lift (le_ j)) X)<|wq V (zao V T22 V (B.lift (le_ j)) X)<|av (u8 A) V V<|wnt<|W_rg<|mv i V a3<|mv f V a2<|mv g V a6<|?_;refine mv h V a7<|mv (u8 A) V V<|?_;obtain ⟨p,aL,b⟩:=bsi b;refine wls V V (zab (vs:=[f,g,h,u8 A]) Tryz.func54 V V V (ar4 V V V V) (shamir_share_calls t x y A f g h p _ (Y.lift (le_ j)) (Z.lift (le_ j)) (a0.lift (le_ j)) aL) ?_);rintro _ P ⟨O,rfl,S,aQ,aV⟩;refine ⟨_,rfl,?_⟩;have a1:By P (i::c) O p:=OwK.slk (Sc.stab _) _ (OwK.scal aV (O::(i::c))) (fun s J=>(Old.cons (W.ext j) k.lt) s (aQ s J)) (fun _ e=>e.2);replace k:=k.extL (SlK.stab (Sc.stab _)) S (le_ S);have U:=j.trans S;refine wls V V (zaz (L:=(i::c)) (R:=By) [O] ([p]:List (List UInt8)) V T29 V (by exact ⟨rfl,rfl,trivial⟩) V (LitR.cells (R:=By) (w:=P) (L:=(i::c)) (l:=([p]:List (List UInt8))) (LitR.cons a1 LitR.nil) (fun u aZ e=>zb4 u aZ e)) V (LitR.all (R:=By) (w:=P) (L:=(i::c)) (l:=([p]:List (List UInt8))) (SlK.stab (Sc.stab _)) (LitR.cons a1 LitR.nil)) ?_);intro a9 aY aT aO aF b3;have Q:=zaa aF;have aM:Rw aY (i::c) a9 ([p]:List (List UInt8)):=OwK.slk (SlK.stab (Sc.stab _)) _ aT (fun s J=>(Old.cons (W.ext U) k.lt) s (aO s J)) (fun _ e=>e.2);replace k:=k.extL (SlK.stab (Sc.stab _)) Q (le_ Q);have T:=U.trans Q;obtain ⟨b2,aI,b⟩:=bsi b;refine wls V V (zav (R:=By) (v:=i) (u:=a9) (SlK.stab (Sc.stab _)) [] c V T29 V V k aM (fun _ _ e=>e) aI oc_sl ?_);intro aA b6 aU aG aR b4;have aE:=T.grown aG K;have aP:=Nw.nxt T K aR;refine av aA V V<|zag<|bk_n<|W_th<|W_rg<|wa V (zak V N V)<|mv (i64 (wI (C.2+1))) V V<|zag<|?_;obtain rfl:=osi b;exact ⟨_,rfl,aA,a2,a6,a7,rfl,a4,a5,rfl,a8,aE,aU,aP⟩
  refine zar<|th_x<|?_;obtain rfl:=osi b;obtain rfl:=aK _ rfl;refine th_x<|bk_x<|?_;exact ⟨i,a3,a8,j,k,K⟩
 rintro _ b7 ⟨F,aW,aX,aH,aS,aN⟩;refine W_th<|W_sr<|mv F V aW<|av F V V<|av (i64 0) V V<|wnt<|W_ret<|?_;obtain rfl:=osi a;refine rt2 F (i64 0) V V V V V aX ?_;exact ⟨F,rfl,aH,aN,aS.weak (SlK.stab (Sc.stab _)) (fun _ e=>⟨e.1,e.2⟩)⟩
noncomputable def zfm (b:Bool) (d:Int) (e:List UInt8) (f:List UInt8) (a:Int):Option (List (List UInt8)×Int) :=
(if (!b)=true then some (([]:List (List UInt8)),1)
else
(if a<0 then some (([]:List (List UInt8)),2)
else
(if 1048576<a then some (([]:List (List UInt8)),2)
else
((makeL a (0:UInt8)).bind fun g =>
((zfn b d g e f).bind fun c => some (c.1,c.2))))))
theorem shamir_Delta_calls (o:Bool) (g:Int) (p:List UInt8) (q:List UInt8) (b:Int) (f:Value) (h:Value) (i:Value) (t:List (List UInt8)×Int) (w0:World) (c:List Value) (x:Old w0 c) (y:Fd w0 [] f o) (H:By w0 [] h p) (I:By w0 [] i q) (a:zfm o g p q b=some t) :
  Calls Tryz.prog 44 [f,i64 g,h,i,i64 b].toArray w0 (fun B A=>∃ m:Value,B=.returned (.tuple #[m,i64 t.2])/\Ext w0 A/\Nw w0 m/\OwK By A (m::c) 22 m t.1):=by
 have e:Ext w0 w0:=Ext.refl w0;unfold zfm at a;refine zai (n:=29) Tryz.func44 V V V<|W_sr<|av (.slice none 0 0) V V<|av (i64 0) V V<|wnt<|W_seq<|W_sr<|mv f V V<|wa V (q_eqF V V V V (y.lift (le_ e)))<|wnt<|zam _ V V (fun r=>?_) (fun r=>?_)
 ·replace a:=(if_pos r).symm.trans a;refine W_sr<|av (.slice none 0 0) V V<|av (i64 1) V V<|wnt<|W_ret<|th_r<|?_;obtain rfl:=osi a;refine rt2 (.slice none 0 0) (i64 1) V V V V V V ?_;exact ⟨.slice none 0 0,rfl,e,Nw.nil _,OwK.nil _ _ _ _⟩
 replace a:=(if_neg (ne_true_of_eq_false r)).symm.trans a;refine zae<|W_th<|W_seq<|W_sr<|mv (i64 b) V V<|wa V (q_ltI V V V)<|wlb V V (zbd (v:=(.bool (decide (b<0)))) V V) (fun s=>?_) (fun s=>?_)
 ·replace a:=ifp s a;refine wk V<|wk V<|wa V (zaw (v:=(.bool true)) V V V)<|wnt<|zam true V V (fun _=>?_) (fun E=>by cases E);refine W_sr<|av (.slice none 0 0) V V<|av (i64 2) V V<|wnt<|W_ret<|th_r<|?_;obtain rfl:=osi a;refine rt2 (.slice none 0 0) (i64 2) V V V V V V ?_;exact ⟨.slice none 0 0,rfl,e,Nw.nil _,OwK.nil _ _ _ _⟩
 replace a:=ifn s a;refine mv (i64 b) V V<|wa V (q_gtI V V V)<|wa V (zaq (v:=(.bool (decide (1048576<b)))) V V V)<|wnt<|wci a V V (fun a=>?_) (fun a=>?_)
 ·refine W_sr<|av (.slice none 0 0) V V<|av (i64 2) V V<|wnt<|W_ret<|th_r<|?_;obtain rfl:=osi a;refine rt2 (.slice none 0 0) (i64 2) V V V V V V ?_;exact ⟨.slice none 0 0,rfl,e,Nw.nil _,OwK.nil _ _ _ _⟩
 refine zae<|W_th<|W_sr<|mv f V V<|mv (i64 g) V V<|mv (i64 b) V V<|?_;obtain ⟨w,F,a⟩:=bsi a;refine wls V V (zb3 (L:=c) (R:=Sc u8) V T22 V V F (fun _ _=>rfl) ?_);intro u T P M D Y;have W:=zaa D;have K:By T c u w:=OwK.slk (Sc.stab _) _ P (fun z G=>(x.ext e) z (M z G)) (fun _ k=>k.2);have d:=e.trans W;refine mv h V V<|mv i V V<|?_;obtain ⟨l,J,a⟩:=bsi a;refine wls V V (zab (vs:=[f,i64 g,u,h,i]) Tryz.func25 V V V (ar5 V V V V V) (zim o g w p q f u h i l _ c (x.ext d) (y.lift (le_ d)) (K.lift (Lift.sub (L':=[]) (fun _ _=>trivial))) (H.lift (le_ d)) (I.lift (le_ d)) J) ?_);rintro _ U ⟨j,rfl,X,N,S⟩;refine ⟨_,rfl,?_⟩;have Q:OwK By U (j::c) 22 j l.1:=S;have O:=Nw.ext d N;have C:=d.trans X;refine wa V (zah V V V)<|wa V (zah V V V)<|av j V V<|av (i64 l.2) V V<|wnt<|W_ret<|?_;obtain rfl:=osi a;refine rt2 j (i64 l.2) V V V V V V ?_;exact ⟨j,rfl,C,O,Q.weak (SlK.stab (Sc.stab _)) (fun _ k=>⟨k.1,k.2⟩)⟩
noncomputable def zen (a:List UInt8) (b:List (List UInt8)):Option Bool :=
((idx b 0).bind fun c => some (!decide ((a.length:Int)=(c.length:Int))))
theorem shamir_unlike_1_calls (a0r:List UInt8) (b0:List (List UInt8)) (p0:Value) (gc0:Nat) (cv0:Value) (r:Bool) (w0:World) (hp0:By w0 [] p0 a0r) (hcB0:Blk w0 gc0 29 #[cv0]) (hcv0:Rw w0 [] cv0 b0) (H:zen a0r b0=some r) :
  Calls Tryz.prog 138 [p0,(bp gc0)].toArray w0 (fun e w'=>e=.returned (.bool r)/\Ext w0 w'):=by
 have hE:Ext w0 w0:=Ext.refl w0;unfold zen at H;refine zai (n:=11) Tryz.func138 rfl rfl rfl ?_;refine W_seq<|W_rg<|av (.bool false) rfl rfl<|wnt<|W_seq<|W_rg<|mv p0 rfl rfl<|wa rfl (q_len rfl T22.sl rfl (hp0.lift (le_ hE)))<|?_;refine wq rfl (zan (u:=cv0) rfl Tryz.isAgg29 rfl (hcB0.ext hE) rfl) ?_;obtain ⟨c1,hc1,H⟩:=bsi H;refine wa rfl (q_adr rfl T29 rfl rfl (hcv0.lift (le_ hE)) hc1) ?_;refine zdr rfl rfl rfl T29 rfl hcv0 hc1 hE (fun v2 ha2=>?_);refine wa rfl (q_len rfl T22.sl rfl (ha2.lift (le_ hE)))<|wa rfl (q_neI rfl rfl rfl)<|av (.bool ((!decide ((a0r.length:Int)=(c1.length:Int))))) rfl rfl<|wnt<|W_ret<|?_;obtain rfl:=osi H;refine rt1 (.bool ((!decide ((a0r.length:Int)=(c1.length:Int))))) rfl rfl rfl rfl ?_;exact ⟨rfl,hE⟩
noncomputable def zf0 (a:List (List UInt8)):Option Bool :=
((lim a.length).bind fun d =>
((anyO (fun c=>zen c a) a).bind fun b => some b))
theorem shamir_unlike_calls (a0l:List (List UInt8)) (p0:Value) (r:Bool) (w0:World) (hp0:Rw w0 [] p0 a0l) (H:zf0 a0l=some r) :
  Calls Tryz.prog 121 [p0].toArray w0 (fun e w'=>e=.returned (.bool r)/\Ext w0 w'):=by
 have hE:Ext w0 w0:=Ext.refl w0;unfold zf0 at H;refine zai (n:=6) Tryz.func121 rfl rfl rfl ?_;refine W_seq<|W_rg<|?_;refine wls rfl rfl (zb9 (v:=p0) (cs:=#[p0]) [] rfl rfl (zb4 _ _ (hp0.lift (le_ hE))) ?_);intro g1 w1 o1 n1 g1r l1;have x1:=zaa g1r;have e2:=hE.trans x1;refine av (.bool false) rfl rfl<|wnt<|W_seq<|W_rg<|wq rfl (zan (u:=p0) rfl Tryz.isAgg29 rfl o1 rfl)<|wa rfl (zgq (vs:=[(bp g1)]) rfl (ar1 rfl))<|?_;obtain ⟨lim4,hl4,H⟩:=bsi H;obtain ⟨r4,hr4,H⟩:=bsi H;refine wls rfl rfl (zab (vs:=[p0,(.func (.func 138) #[] [(bp g1)].toArray)]) Tryz.func34 rfl rfl rfl (ar2 rfl rfl) (zcc p0 a0l 138 _ Tryz.func138 rfl rfl [(bp g1)] (fun y4=>zen y4 a0l) r4 _ (hp0.lift (le_ e2)) (zjt hl4) hr4 (fun y4 _ b w' xE hb u hu=>shamir_unlike_1_calls y4 a0l u g1 p0 b w' hu (o1.ext xE) ((hp0.lift (le_ e2)).lift (le_ xE)) hb)) ?_);rintro _ w4 ⟨rfl,x4⟩;refine ⟨_,rfl,?_⟩;have e5:=e2.trans x4;refine av (.bool r4) rfl rfl<|wnt<|W_ret<|?_;obtain rfl:=osi H;refine rt1 (.bool r4) rfl rfl rfl rfl ?_;exact ⟨rfl,e5⟩
noncomputable def shamir_At (c:Bool) (e:List UInt8) (b:List (List UInt8)) (f:UInt8):Option (List UInt8×Int) :=
(if (!c)=true then some (([]:List UInt8),1)
else
(if (e.length:Int)=(b.length:Int) then
((zf0 b).bind fun l =>
(if l=true then some (([]:List UInt8),3)
else
((zdh c e f).bind fun d =>
(if d.2=0 then
((idx b 0).bind fun j =>
((makeL (j.length:Int) (0:UInt8)).bind fun g =>
((iterC (fun a:List UInt8×Int =>
(if a.2<(b.length:Int) then
((idx b a.2).bind fun h =>
((idx d.1 a.2).bind fun i =>
((zdl c a.1 i h).bind fun k => some (.inl (k,wI (a.2+1))))))
else some (.inr a.1))) (g,0)).bind fun m => some (m,0))))
else some (([]:List UInt8),d.2)))))
else some (([]:List UInt8),1)))
theorem shamir_At_calls (q:Bool) (r:List UInt8) (l:List (List UInt8)) (s:UInt8) (d:Value) (o:Value) (e:Value) (K:List UInt8×Int) (w0:World) (I:Fd w0 [] d q) (T:By w0 [] o r) (j:Rw w0 [] e l) (a:shamir_At q r l s=some K) :
  Calls Tryz.prog 91 [d,o,e,u8 s].toArray w0 (fun aD a8=>∃ M:Value,aD=.returned (.tuple #[M,i64 K.2])/\Ext w0 a8/\Nw w0 M/\OwK (Sc u8) a8 [] 5 M K.1):=by
 have h:Ext w0 w0:=Ext.refl w0;unfold shamir_At at a;refine zai (n:=60) Tryz.func91 V V V<|W_sr<|av (.slice none 0 0) V V<|av (i64 0) V V<|wnt<|W_seq<|zac<|W_seq<|W_rg<|mv d V V<|wa V (q_eqF V V V V (I.lift (le_ h)))<|wlb V V (zbd (v:=(.bool (!q))) V V) (fun E=>?_) (fun E=>?_)
 ·replace a:=(if_pos E).symm.trans a;refine wk V<|wk V<|wk V<|wk V<|wk V<|wa V (zaw (v:=(.bool true)) V V V)<|av (.bool true) V V<|wnt<|zam true V V (fun _=>?_) (fun aJ=>by cases aJ);refine W_sr<|av (.slice none 0 0) V V<|av (i64 1) V V<|wnt<|W_ret<|bk_r<|th_r<|?_;obtain rfl:=osi a;refine rt2 (.slice none 0 0) (i64 1) V V V V V V ?_;exact ⟨.slice none 0 0,rfl,h,Nw.nil _,OwK.nil _ _ _ _⟩
 replace a:=(if_neg (ne_true_of_eq_false E)).symm.trans a;refine mv o V V<|wa V (q_len V T22.sl V (T.lift (le_ h)))<|mv e V V<|wa V (q_len V T29.sl V (j.lift (le_ h)))<|wa V (q_neI V V V)<|wa V (zaq (v:=(.bool (!decide ((r.length:Int)=(l.length:Int))))) V V V)<|av (.bool (!decide ((r.length:Int)=(l.length:Int)))) V V<|wnt<|zam _ V V (fun F=>?_) (fun F=>?_)
 ·replace a:=(if_neg (zbf F)).symm.trans a;refine W_sr<|av (.slice none 0 0) V V<|av (i64 1) V V<|wnt<|W_ret<|bk_r<|th_r<|?_;obtain rfl:=osi a;refine rt2 (.slice none 0 0) (i64 1) V V V V V V ?_;exact ⟨.slice none 0 0,rfl,h,Nw.nil _,OwK.nil _ _ _ _⟩
 replace a:=(if_pos (zbg F)).symm.trans a;refine W_sr<|mv e V V<|?_;obtain ⟨a0,aO,a⟩:=bsi a;refine wls V V (zab (vs:=[e]) Tryz.func121 V V V (ar1 V) (shamir_unlike_calls l e a0 _ (j.lift (le_ h)) aO) ?_);rintro _ bE ⟨rfl,b5⟩;refine ⟨_,rfl,?_⟩;have y:=h.trans b5;refine av (.bool a0) V V<|wnt<|zam _ V V (fun G=>?_) (fun G=>?_)
 ·replace a:=(if_pos G).symm.trans a;refine W_sr<|av (.slice none 0 0) V V<|av (i64 3) V V<|wnt<|W_ret<|bk_r<|th_r<|?_;obtain rfl:=osi a;refine rt2 (.slice none 0 0) (i64 3) V V V V V V ?_;exact ⟨.slice none 0 0,rfl,y,Nw.nil _,OwK.nil _ _ _ _⟩
 replace a:=(if_neg (ne_true_of_eq_false G)).symm.trans a;refine zae<|bk_n<|W_th<|W_sr<|mv d V V<|mv o V V<|mv (u8 s) V V<|?_;obtain ⟨f,aP,a⟩:=bsi a;refine wls V V (zab (vs:=[d,o,u8 s]) Tryz.func71 V V V (ar3 V V V) (zft q r s d o f _ (I.lift (le_ y)) (T.lift (le_ y)) aP) ?_);rintro _ b3 ⟨k,rfl,b6,aU,aZ⟩;refine ⟨_,rfl,?_⟩;have J:By b3 [] k f.1:=OwK.slk (Sc.stab _) _ (OwK.scal aZ (k::[])) (fun U aL=>(Old.nil _) U (aU U aL)) (fun _ t=>t.2);have m:=y.trans b6;refine mv (.tuple #[k,i64 f.2]) V V<|wa V (zah V V V)<|wa V (zah V V V)<|av k V V<|av (i64 f.2) V V<|wnt<|W_seq<|W_seq<|W_rg<|mv (i64 f.2) V V<|wa V (q_neI V V V)<|wnt<|zam _ V V (fun H=>?_) (fun H=>?_)
 ·replace a:=(if_neg (zbf H)).symm.trans a;refine W_sr<|mv (i64 f.2) V V<|av (.slice none 0 0) V V<|av (i64 f.2) V V<|wnt<|W_ret<|th_r<|?_;obtain rfl:=osi a;refine rt2 (.slice none 0 0) (i64 f.2) V V V V V V ?_;exact ⟨.slice none 0 0,rfl,m,Nw.nil _,OwK.nil _ _ _ _⟩
 replace a:=(if_pos (zbg H)).symm.trans a;refine zae<|W_th<|W_sr<|mv e V V<|bse a fun b8 S a=>wa V (q_adr V T29 V V (j.lift (le_ m)) S)<|zdr V V V T29 V j S m (fun bA aH=>?_);refine wa V (q_len V T22.sl V (aH.lift (le_ m))) ?_;obtain ⟨b7,aK,a⟩:=bsi a;refine wls V V (zb3 (L:=[]) (R:=Sc u8) V T22 V V aK (fun _ _=>rfl) ?_);intro a7 bB aW W aF b9;have a9:=zaa aF;replace J:=J.lift (Lift.call _ a9 W);have aS:=Nw.ext m W;have O:=m.trans a9;refine av a7 V V<|wnt<|W_seq<|W_sr<|mv e V V<|wa V (q_len V T29.sl V (j.lift (le_ O)))<|mv (i64 0) V V<|wnt ?_;obtain ⟨b4,aB,a⟩:=bsi a;refine W_mid (fun c p=>∃ B:Value,c 12=B/\c 60=undef/\Ext w0 p/\OwK (Sc u8) p [B] 5 B b4/\Nw w0 B) ?_ ?_
 ·refine zac<|zau (fun g c p=>∃ x:Value,c 0=d/\c 10=k/\c 12=x/\c 43=e/\c 44=i64 (l.length:Int)/\c 45=i64 g.2/\c 60=undef/\Ext w0 p/\OwK (Sc u8) p [x] 5 x g.1/\Nw w0 x/\By p [x] k f.1) aB ?_ ?_
  ·exact ⟨a7,rfl,rfl,rfl,rfl,rfl,rfl,rfl,O,aW,aS,J⟩
  rintro g _ _ bC ⟨w,a1,a2,a3,a4,a5,z,a6,i,Y,aQ,u⟩ b aM;refine W_sr<|wa V (q_ltI V z a5)<|wnt<|W_seq<|wci b V V (fun b=>?_) (fun b=>?_)
  ·refine zae<|W_th<|W_seq<|zac<|W_sr<|mv (i64 g.2) V z<|bse b fun aC P b=>wa V (q_adr V T29 a4 z (j.lift (le_ i)) P)<|zdr V V V T29 V j P i (fun C aI=>?_);refine av (i64 g.2) V V<|av C V V<|wnt<|W_rg<|mv d V a1<|mv w V a3<|mv k V a2<|mv (i64 g.2) V V<|bse b fun N Q b=>wa V (q_adr V T22 V V u Q)<|wq V (zao V T22 V u Q)<|mv C V V<|?_;obtain ⟨Z,aN,b⟩:=bsi b;refine wls V V (zab (vs:=[d,w,u8 N,C]) Tryz.func72 V V V (ar4 V V V V) (zdt q g.1 N aC d w C Z _ (I.lift (le_ i)) (Y.rd (Sc.stab _)) (aI.lift (le_ i)) aN) ?_);rintro _ b2 ⟨D,rfl,aA,X,aY⟩;refine ⟨_,rfl,?_⟩;have aX:OwK (Sc u8) b2 (D::[w]) 5 D Z:=OwK.scal aY _;replace u:=u.lift (Lift.call _ aA X);have aT:=Nw.ext i X;have aE:=i.trans aA;refine av D V V<|zag<|bk_n<|W_th<|W_rg<|wa V (zak V z V)<|mv (i64 (wI (g.2+1))) V V<|zag<|?_;obtain rfl:=osi b;exact ⟨_,rfl,D,a1,a2,rfl,a4,a5,rfl,a6,aE,aX.weak (Sc.stab _) (fun _ t=>⟨t.1,trivial⟩),aT,u.lift (Lift.sub (fun _ t=>⟨t.1,trivial⟩))⟩
  refine zar<|th_x<|?_;obtain rfl:=osi b;obtain rfl:=aM _ rfl;refine th_x<|bk_x<|?_;exact ⟨w,a3,a6,i,Y,aQ⟩
 rintro _ bD ⟨A,b0,b1,aG,aV,aR⟩;refine W_th<|W_sr<|mv A V b0<|av A V V<|av (i64 0) V V<|wnt<|W_ret<|?_;obtain rfl:=osi a;refine rt2 A (i64 0) V V V V V b1 ?_;exact ⟨A,rfl,aG,aR,aV.weak (Sc.stab _) (fun _ _=>trivial)⟩
noncomputable def zeh (b:List UInt8) (c:List UInt8):Option (List UInt8) :=
((makeL (if (c.length:Int)<(b.length:Int) then (c.length:Int) else (b.length:Int)) (0:UInt8)).bind fun d =>
((iterC (fun a:List UInt8×Int =>
(if a.2<(d.length:Int) then
((idx b a.2).bind fun f =>
((idx c a.2).bind fun e =>
((idx a.1 a.2).bind fun h => some (.inl (a.1.set (a.2:Int).toNat (f^^^e),wI (a.2+1))))))
else some (.inr a.1))) (d,0)).bind fun g => some g))
theorem zed (t:List UInt8) (v:List UInt8) (h:Value) (i:Value) (D:List UInt8) (w0:World) (l:By w0 [] h t) (m:By w0 [] i v) (e:zeh t v=some D) :
  Calls Tryz.prog 56 [h,i].toArray w0 (fun M I=>∃ r:Value,M=.returned r/\Ext w0 I/\Nw w0 r/\OwK (Sc u8) I [] 5 r D):=by
 have k:Ext w0 w0:=Ext.refl w0;unfold zeh at e;refine zai (n:=32) Tryz.func56 V V V<|W_sr<|av (.slice none 0 0) V V<|wnt<|W_sr<|mv h V V<|wa V (q_len V T22.sl V (l.lift (le_ k)))<|mv i V V<|wa V (q_len V T22.sl V (m.lift (le_ k)))<|wa V (q_minI V V V)<|?_;obtain ⟨K,T,e⟩:=bsi e;refine wls V V (zb3 (L:=[]) (R:=Sc u8) V T22 V V T (fun _ _=>rfl) ?_);intro a a9 C X P a7;have a4:=zaa P;have Y:=Nw.ext k X;have O:=k.trans a4;refine av a V V<|wnt<|W_seq<|W_sr<|mv a V V<|wa V (q_len V T22.sl V (C.rd (Sc.stab _)))<|mv (i64 0) V V<|wnt ?_;obtain ⟨a5,J,e⟩:=bsi e;refine W_mid (fun c j=>c 5=a/\c 32=undef/\Ext w0 j/\OwK (Sc u8) j [a] 5 a a5/\Nw w0 a) ?_ ?_
 ·refine zac<|zau (fun d c j=>c 0=h/\c 1=i/\c 5=a/\c 14=i64 (K.length:Int)/\c 15=i64 d.2/\c 32=undef/\Ext w0 j/\OwK (Sc u8) j [a] 5 a d.1/\Nw w0 a) J ?_ ?_
  ·exact ⟨rfl,rfl,rfl,rfl,rfl,rfl,O,C,Y⟩
  rintro d _ _ a3 ⟨E,G,q,F,p,H,y,g,o⟩ b U;refine W_sr<|wa V (q_ltI V p F)<|wnt<|W_seq<|wci b V V (fun b=>?_) (fun b=>?_)
  ·refine zae<|W_th<|W_seq<|zac<|W_sr<|mv (i64 d.2) V p<|av (i64 d.2) V V<|wnt<|zba [5,9] [(0,0),(1,0),(2,0),(3,0),(4,0),(5,1),(6,0),(7,0),(8,0),(9,1),(10,0),(11,0),(12,2)] mixed (by kernel_rfl) (by kernel_rfl) (by kernel_rfl) (by kernel_rfl) ?_;have s:=Ext.drew a3;replace g:=g.extL (Sc.stab _) s (le_ s);have f:=y.trans s;refine sv a V V q<|sv (i64 d.2) V V V<|sv h V V E<|sv (i64 d.2) V V V<|bse b fun x B b=>sa V V (q_adr V T22 V V (l.lift (le_ f)) B)<|sq V V (zao V T22 V (l.lift (le_ f)) B)<|sv i V V G<|sv (i64 d.2) V V V<|bse b fun w z b=>sa V V (q_adr V T22 V V (m.lift (le_ f)) z)<|sq V V (zao V T22 V (m.lift (le_ f)) z)<|sa V V (zdb V V V)<|bse b fun a6 A b=>sa V V (q_adr V T22 V V (g.rd (Sc.stab _)) A)<|wsn V (by kernel_rfl) V V (zci (R:=Sc u8) (u:=u8 (x^^^w)) (Sc.stab _) [] [] V T22 V V g (zf6 (x^^^w) A) V V ?_);intro aA a0 Q a8;have N:=f.grown Q o;refine za1<|bk_n<|W_th<|W_rg<|wa V (zak V p V)<|mv (i64 (wI (d.2+1))) V V<|zag<|?_;obtain rfl:=osi b;exact ⟨_,rfl,E,G,q,F,rfl,H,N,a0,o⟩
  refine zar<|th_x<|?_;obtain rfl:=osi b;obtain rfl:=U _ rfl;refine th_x<|bk_x<|?_;exact ⟨q,H,y,g,o⟩
 rintro _ aB ⟨a2,a1,S,Z,W⟩;refine W_th<|W_sr<|mv a V a2<|av a V V<|wnt<|W_ret<|?_;obtain rfl:=osi e;refine rt1 a V V V a1 ?_;exact ⟨a,rfl,S,W,Z.weak (Sc.stab _) (fun _ _=>trivial)⟩
noncomputable def zfj (a:List (List UInt8)) (b:List (List UInt8)):Option (List (List UInt8)×Int) :=
(if (a.length:Int)=(b.length:Int) then
((iterC (fun s2:List (List UInt8)×Int =>
(if s2.2<(a.length:Int) then
((idx a s2.2).bind fun f =>
((idx b s2.2).bind fun g =>
(if (f.length:Int)=(g.length:Int) then
((idx a s2.2).bind fun c =>
((idx b s2.2).bind fun d =>
((zeh c d).bind fun i =>
((appL s2.1 ([i]:List (List UInt8))).bind fun e => some (.inl (e,wI (s2.2+1)))))))
else some (.inr (.inr (([]:List (List UInt8)),3))))))
else some (.inr (.inl s2.1)))) (([]:List (List UInt8)),0)).bind (Sum.elim (fun j => some (j,0)) (fun h=>some h)))
else some (([]:List (List UInt8)),1))
theorem shamir_Add_calls (A:List (List UInt8)) (T:List (List UInt8)) (k:Value) (o:Value) (F:List (List UInt8)×Int) (w0:World) (d:List Value) (Y:Old w0 d) (m:Rw w0 [] k A) (r:Rw w0 [] o T) (b:zfj A T=some F) :
  Calls Tryz.prog 45 [k,o].toArray w0 (fun aG aB=>∃ t:Value,aG=.returned (.tuple #[t,i64 F.2])/\Ext w0 aB/\Nw w0 t/\OwK By aB (t::d) 22 t F.1):=by
 have q:Ext w0 w0:=Ext.refl w0;unfold zfj at b;refine zai (n:=43) Tryz.func45 V V V<|W_sr<|av (.slice none 0 0) V V<|av (i64 0) V V<|wnt<|W_seq<|W_sr<|mv k V V<|wa V (q_len V T29.sl V (m.lift (le_ q)))<|mv o V V<|wa V (q_len V T29.sl V (r.lift (le_ q)))<|wa V (q_neI V V V)<|wnt<|zam _ V V (fun B=>?_) (fun B=>?_)
 ·replace b:=(if_neg (zbf B)).symm.trans b;refine W_sr<|av (.slice none 0 0) V V<|av (i64 1) V V<|wnt<|W_ret<|th_r<|?_;obtain rfl:=osi b;refine rt2 (.slice none 0 0) (i64 1) V V V V V V ?_;exact ⟨.slice none 0 0,rfl,q,Nw.nil _,OwK.nil _ _ _ _⟩
 replace b:=(if_pos (zbg B)).symm.trans b;refine zae<|W_th<|W_sr<|av (.slice none 0 0) V V<|wnt<|W_seq<|W_seq<|W_rg<|mv k V V<|wa V (q_len V T29.sl V (m.lift (le_ q)))<|mv (i64 0) V V<|wnt<|?_;obtain ⟨b5,aD,b⟩:=bsi b;refine W_mid (fun g w=>∃ S,b5=.inl S/\∃ z:Value,g 6=z/\g 43=undef/\Ext w0 w/\OwK By w (z::d) 22 z S/\Nw w0 z) ?_ ?_
 ·refine zac<|zau (fun f g w=>∃ x:Value,g 0=k/\g 1=o/\g 6=x/\g 14=i64 (A.length:Int)/\g 15=i64 f.2/\g 43=undef/\Ext w0 w/\OwK By w (x::d) 22 x f.1/\Nw w0 x) aD ?_ ?_
  ·exact ⟨.slice none 0 0,rfl,rfl,rfl,rfl,rfl,rfl,q,OwK.nil _ _ _ _,Nw.nil _⟩
  rintro f _ _ aC ⟨h,G,I,a6,a5,H,J,X,c,E⟩ a a3;refine W_sr<|wa V (q_ltI V H a5)<|wnt<|W_seq<|wci a V V (fun a=>?_) (fun a=>?_)
  ·refine zae<|W_th<|W_seq<|zac<|W_sr<|mv (i64 f.2) V H<|av (i64 f.2) V V<|wnt<|W_seq<|W_seq<|zba [3,8] [(0,0),(1,0),(2,0),(3,1),(4,0),(5,0),(6,0),(7,0),(8,1),(9,0),(10,0)] mixed (by kernel_rfl) (by kernel_rfl) (by kernel_rfl) (by kernel_rfl) ?_;have Q:=Ext.drew aC;replace c:=c.extL (SlK.stab (Sc.stab _)) Q (le_ Q);have j:=X.trans Q;refine sv k V V G<|sv (i64 f.2) V V V<|bse a fun b7 a1 a=>sa V V (q_adr V T29 V V (m.lift (le_ j)) a1)<|zhf V V V V T29 V m a1 j (fun bC aO=>?_);refine sa V V (q_len V T22.sl V (aO.lift (le_ j)))<|sv o V V I<|sv (i64 f.2) V V V<|bse a fun b8 a2 a=>sa V V (q_adr V T29 V V (r.lift (le_ j)) a2)<|zhf V V V V T29 V r a2 j (fun bB aL=>?_);refine sa V V (q_len V T22.sl V (aL.lift (le_ j)))<|sa V V (q_neI V V V)<|za1<|W_th<|zam _ V V (fun C=>?_) (fun C=>?_)
   ·replace a:=(if_neg (zbf C)).symm.trans a;refine W_sr<|av (.slice none 0 0) V V<|av (i64 3) V V<|wnt<|W_ret<|th_r<|bk_r<|th_r ?_;obtain rfl:=osi a;obtain rfl:=a3 _ rfl;simp only [Sum.elim_inr] at b;refine th_r<|bk_r<|th_r<|th_r<|?_;obtain rfl:=osi b;refine rt2 (.slice none 0 0) (i64 3) V V V V V J ?_;exact ⟨.slice none 0 0,rfl,j,Nw.nil _,OwK.nil _ _ _ _⟩
   replace a:=(if_pos (zbg C)).symm.trans a;refine zae<|W_th<|zba [4,8] [(0,0),(1,0),(2,0),(3,0),(4,1),(5,0),(6,0),(7,0),(8,1),(9,2),(10,2),(11,2),(12,0)] mixed (by kernel_rfl) (by kernel_rfl) (by kernel_rfl) (by kernel_rfl) ?_;have N:=Ext.drew (World.drew aC);replace c:=c.extL (SlK.stab (Sc.stab _)) N (le_ N);have i:=j.trans N;refine sv h V V a6<|sv k V V G<|sv (i64 f.2) V V V<|bse a fun aE Z a=>sa V V (q_adr V T29 V V (m.lift (le_ i)) Z)<|zhf V V V V T29 V m Z i (fun a7 aM=>?_);refine sv o V V I<|sv (i64 f.2) V V V<|bse a fun aF a0 a=>sa V V (q_adr V T29 V V (r.lift (le_ i)) a0)<|zhf V V V V T29 V r a0 i (fun a8 aN=>?_);obtain ⟨p,aQ,a⟩:=bsi a;refine wsc V (by kernel_rfl) V V (zab (vs:=[a7,a8]) Tryz.func56 V V V (ar2 V V) (zed aE aF a7 a8 p _ (aM.lift (le_ i)) (aN.lift (le_ i)) aQ) ?_);rintro _ M ⟨K,rfl,O,aT,aY⟩;refine ⟨_,rfl,?_⟩;have a4:By M (h::d) K p:=OwK.slk (Sc.stab _) _ (OwK.scal aY (K::(h::d))) (fun s D=>(Old.cons (Y.ext i) c.lt) s (aT s D)) (fun _ e=>e.2);replace c:=c.extL (SlK.stab (Sc.stab _)) O (le_ O);have U:=i.trans O;refine wsc V (by kernel_rfl) V V (zaz (L:=(h::d)) (R:=By) [K] ([p]:List (List UInt8)) V T29 V (by exact ⟨rfl,rfl,trivial⟩) V (LitR.cells (R:=By) (w:=M) (L:=(h::d)) (l:=([p]:List (List UInt8))) (LitR.cons a4 LitR.nil) (fun u b4 e=>zb4 u b4 e)) V (LitR.all (R:=By) (w:=M) (L:=(h::d)) (l:=([p]:List (List UInt8))) (SlK.stab (Sc.stab _)) (LitR.cons a4 LitR.nil)) ?_);intro a9 b3 aZ aU aI b9;have P:=zaa aI;have aR:Rw b3 (h::d) a9 ([p]:List (List UInt8)):=OwK.slk (SlK.stab (Sc.stab _)) _ aZ (fun s D=>(Old.cons (Y.ext U) c.lt) s (aU s D)) (fun _ e=>e.2);replace c:=c.extL (SlK.stab (Sc.stab _)) P (le_ P);have W:=U.trans P;obtain ⟨b6,aP,a⟩:=bsi a;refine wsc V (by kernel_rfl) V V (zav (R:=By) (v:=h) (u:=a9) (SlK.stab (Sc.stab _)) [] d V T29 V V c aR (fun _ _ e=>e) aP oc_sl ?_);intro aA bD b0 aJ aW bA;have aH:=W.grown aJ E;have aV:=Nw.nxt W E aW;refine sa V V (zat (v:=aA) V V) ?_
   refine za1<|bk_n<|W_th<|W_rg<|wa V (zak V H V)<|mv (i64 (wI (f.2+1))) V V<|zag<|?_;obtain rfl:=osi a;exact ⟨_,rfl,aA,G,I,rfl,a5,rfl,J,aH,b0,aV⟩
  refine zar<|th_x<|?_;obtain rfl:=osi a;obtain rfl:=a3 _ rfl;refine th_x<|bk_x<|?_;exact ⟨_,rfl,h,a6,J,X,c,E⟩
 rintro _ bE ⟨S,rfl,y,b2,b1,aK,aX,aS⟩;simp only [Sum.elim_inl] at b;refine W_th<|W_sr<|mv y V b2<|av y V V<|av (i64 0) V V<|wnt<|W_ret<|?_;obtain rfl:=osi b;refine rt2 y (i64 0) V V V V V b1 ?_;exact ⟨y,rfl,aK,aS,aX.weak (SlK.stab (Sc.stab _)) (fun _ e=>⟨e.1,e.2⟩)⟩
end Gk

/- Arrays: as values, and in blocks behind pointers. No condition. -/
namespace Gk
open Go Go.RowKit
def ac {α:Type} (enc:α->Value) (l:List α):Array Value:=(l.map enc).toArray
def ag {α:Type} (enc:α->Value) (l:List α):Value:=.agg (ac enc l)
theorem zkf {α:Type} (enc:α->Value) (l:List α):(ac enc l).size=l.length:=by simp [ac]
theorem ac_get {α:Type} (enc:α->Value) (l:List α) (i:Nat):(ac enc l)[i]?=(l[i]?).map enc:=by simp [ac]
theorem ac_set {α:Type} (enc:α->Value) (l:List α) (i:Nat) (x:α):(ac enc l).setIfInBounds i (enc x)=ac enc (l.set i x):=by
 apply Array.ext'
 simp [ac,List.map_set]
def lenA {α:Type} (n:Nat) (l:List α):Option Unit:=if l.length=n then some () else none
theorem zad {α:Type} {n:Nat} {l:List α} {u:Unit} (h:lenA n l=some u):l.length=n:=by
 unfold lenA at h;split at h
 ·assumption
 ·cases h
def Seg (cs:Array Value) (m:Nat) (us:List Value):Prop:=∀ j,j<us.length->cs[m+j]?=us[j]?
theorem zaf {α:Type} (enc:α->Value) (l:List α):Seg (ac enc l) 0 (l.map enc):=fun j _=>by simp [ac]
structure TyA (P:Program) (t e:TypeId) (n:Nat):Prop where
 und:P.underlying t=some (.array n e)
 agg:∀ w,(isAgg t).run P w=.ok true w
 size:∀ w,(Go.sizeOf t).run P w=.ok n w
 esz:∀ w,(Go.sizeOf e).run P w=.ok 1 w
 eagg:∀ w,(isAgg e).run P w=.ok false w
section
variable {P : Program} {o : Oper} {f : Nat → Value} {w : World} {x y : Operand} {t e T : TypeId} {g m n : Nat} {cs : Array Value} {u v : Value} {α : Type} {enc : α → Value} {l l' : List α} {i : Int} {a b : α}
theorem run_loadSeg (A:TyA P t e n) (h:Blk w g T cs) {us:List Value} (hs:Seg cs m us) (hl:us.length=n):(loadVar t ⟨g,m,none⟩).run P w=.ok (.agg us.toArray) w:=by
 have:=run_loadCells_list (P:=P) w ⟨g,m,none⟩ us (fun j v hj=>by
  have hlt:j<us.length:=(List.getElem?_eq_some_iff.1 hj).1
  rw [zcg,h.cell,hs j hlt];exact hj)
 rw [hl] at this
 simp [loadVar,A.agg,A.size,this]
theorem ziz (ho:o.op=.load t x) (A:TyA P t e n) (hx:ev f x=.pointer (some ⟨g,m,none⟩)) (h:Blk w g T cs) (hs:Seg cs m (l.map enc)) (hl:l.length=n):Qt P o f w (ag enc l):=by
 intro w' hE
 have:=run_loadSeg (w:=w') A (h.ext hE) hs (by simpa using hl)
 simp [execOp,ho,hx,Instr.loadAt,Instr.sureAddr,this,ag,ac]
def spl (cs:Array Value) (m:Nat) (us:List Value):Array Value:=(cs.toList.take m ++ us ++ cs.toList.drop (m+us.length)).toArray
theorem stp_storeSeg (ho:o.op=.store t x y) (A:TyA P t e n) (hx:ev f x=.pointer (some ⟨g,m,none⟩)) (hy:ev f y=ag enc l) (hl:l.length=n) (h:Blk w g T cs) (hm:m+n<=cs.size) (hc:∀ x,(enc x).oneCell'=true)
  {K:Value->World->Prop} (hk:∀ w',Blk w' g T (spl cs m (l.map enc))->w.grownBy w' (some g)->K undef w'):Stp P o f w K:=by
 have hrun:=run_storeCells_at (P:=P) g m T (l.map enc) 0 cs w h (by simp;omega) (fun v hv=>by obtain ⟨x,_,rfl⟩:=List.mem_map.1 hv;exact hc x)
 have hb:Blk (w.setRow g (spl cs m (l.map enc))) g T (spl cs m (l.map enc)):=setRow_heap w g cs _ T _ h
 have hg:w.grownBy (w.setRow g (spl cs m (l.map enc))) (some g):=⟨rfl,rfl,rfl,by simp [World.setRow],fun k _ hk=>setRow_other w g k _ (fun e=>hk (by rw [e]))⟩
 refine zh6 (w':=w.setRow g (spl cs m (l.map enc))) ?_ (hk _ hb hg)
 have hsz:(ac enc l).size=n:=by rw [zkf];exact hl
 simp only [Nat.add_zero] at hrun
 have hrun':(storeCells ⟨g,m,none⟩ (ac enc l).toList).run P w=.ok () (w.setRow g (spl cs m (l.map enc))):=by simpa [ac,spl] using hrun
 simp [execOp,ho,hx,hy,Instr.storeAt,Instr.sureAddr,storeVar,ag,Value.cells,A.size,hsz,hrun']
theorem spl_all (h:cs.size=l.length):spl cs 0 (l.map enc)=ac enc l:=by
 unfold spl ac
 apply Array.ext'
 simp [List.drop_eq_nil_of_le,h]
theorem zbm (L1 L2:List Value) (ho:o.op=.store t x y) (A:TyA P t e n) (hx:ev f x=bp g) (hy:ev f y=ag enc l') (hl:l.length=n) (hl':l'.length=n) (h:Blk w g T (ac enc l)) (hc:∀ x,(enc x).oneCell'=true)
  {K:Value->World->Prop} (hk:∀ w',Blk w' g T (ac enc l')->Gr w w' (bp g)->Lift w w' (L1 ++ bp g :: L2) (L1 ++ bp g :: L2)->K undef w'):Stp P o f w K :=
 stp_storeSeg (m:=0) ho A hx hy hl' h (by rw [zkf];omega) hc fun w' hB hg=>hk w' (by rw [spl_all (by rw [zkf];omega)] at hB;exact hB) (Gr.of hg) (Lift.own L1 L2 (Gr.of hg) (Nx.refl _ _))
abbrev bpo (g m:Nat):Value:=.pointer (some ⟨g,m,none⟩)
theorem q_ixA (ho:o.op=.indexAddr t x y) (A:TyA P t e n) (hx:ev f x=bpo g m) (hy:ev f y=i64 i) (hl:l.length=n) (hi:idx l i=some a):Qa P o f (bpo g (m+i.toNat)):=by
 obtain ⟨h0,h1,_⟩:=zb5.1 hi
 refine q_ixP (kk:=.i64) ho A.und A.esz hx (hy.trans ?_) (by omega)
 show Value.int .i64 i=_
 rw [show ((i.toNat:Nat):Int)=i by omega]
theorem q_ixA8 {c:UInt8} (ho:o.op=.indexAddr t x y) (A:TyA P t e n) (hx:ev f x=bpo g m) (hy:ev f y=u8 c) (hl:l.length=n) (hi:idx l (c.toNat:Int)=some a):Qa P o f (bpo g (m+(c.toNat:Int).toNat)):=by
 obtain ⟨h0,h1,_⟩:=zb5.1 hi
 exact q_ixP (kk:=.u8) ho A.und A.esz hx hy (by omega)
theorem zax (ho:o.op=.load e x) (A:TyA P t e n) (hx:ev f x=bpo g (m+i.toNat)) (h:Blk w g T cs) (hs:Seg cs m (l.map enc)) (hi:idx l i=some a):Qt P o f w (enc a):=by
 obtain ⟨h0,h1,h2⟩:=zb5.1 hi
 refine zan ho A.eagg hx h ?_
 rw [hs i.toNat (by simpa using h1)]
 simp [h1,h2]
theorem stp_storeE (ho:o.op=.store e x y) (A:TyA P t e n) (hx:ev f x=bpo g (m+i.toNat)) (hy:ev f y=enc b) (h:Blk w g T cs) (hm:m+l.length<=cs.size) (hi:idx l i=some a) (hc:(enc b).oneCell'=true)
  {K:Value->World->Prop} (hk:∀ w',Blk w' g T (cs.setIfInBounds (m+i.toNat) (enc b))->w.grownBy w' (some g)->K undef w'):Stp P o f w K:=by
 obtain ⟨h0,h1,h2⟩:=zb5.1 hi
 exact zdg ho A.esz hx hy h (by omega) hc hk
theorem zcz (L1 L2:List Value) (ho:o.op=.store e x y) (A:TyA P t e n) (hx:ev f x=bpo g (0+i.toNat)) (hy:ev f y=enc b) (h:Blk w g T (ac enc l)) (hi:idx l i=some a) (hc:(enc b).oneCell'=true)
  {K:Value->World->Prop} (hk:∀ w',Blk w' g T (ac enc (l.set i.toNat b))->Gr w w' (bp g)->Lift w w' (L1 ++ bp g :: L2) (L1 ++ bp g :: L2)->K undef w'):Stp P o f w K :=
 stp_storeE (m:=0) ho A hx hy h (by rw [zkf];omega) hi hc fun w' hB hg=>hk w' (by rw [Nat.zero_add,ac_set] at hB;exact hB) (Gr.of hg) (Lift.own L1 L2 (Gr.of hg) (Nx.refl _ _))
theorem q_index (ho:o.op=.index t x y) (A:TyA P t e n) (hx:ev f x=ag enc l) (hy:ev f y=i64 i) (hl:l.length=n) (hi:idx l i=some a):Qa P o f (enc a):=by
 intro w'
 obtain ⟨h0,h1,h2⟩:=zb5.1 hi
 have h3:i<(n:Int):=by omega
 have h4:(ac enc l)[i.toNat]?=some (enc a):=by rw [ac_get];simp [h1,h2]
 simp [execOp,ho,hx,hy,i64,Instr.index,asIntOf,run_underlying A.und,ag,h0,h3,A.esz,part,A.eagg,h4]
theorem q_buildA {z : α} {parts : List (Nat × Operand)} {us : List Value} (ho : o.op = .build t parts.toArray) (A : TyA P t e n) (hz : ∀ w, (zeroValue t).run P w = .ok (ag enc (List.replicate n z)) w) (hp : Parts f parts 0 us) (hus : us = l.map enc) (hl : l.length <= n) (h1 : ∀ x, (enc x).cells = #[enc x]) : Qa P o f (ag enc (l ++ List.replicate (n - l.length) z)) := by
 intro w'
 have hparts : (parts.toArray.map fun (i, x) => (i, ev f x)).toList = (us.zipIdx 0).map fun p => (p.2, p.1) := by
  rw [← Parts.eq parts 0 us hp]; simp
 have hf := fill_seq us 0 ((List.replicate n z).map enc) (by subst hus; simp; omega) (fun u hu => by subst hus; obtain ⟨x, _, rfl⟩ := List.mem_map.1 hu; exact h1 x)
 have hf' : Instr.fill (fun i => some (i * 1, 1)) (ac enc (List.replicate n z)) ((us.zipIdx 0).map fun p => (p.2, p.1)) = some (ac enc (l ++ List.replicate (n - l.length) z)) := by
  unfold ac at hf ⊢
  rw [hf]
  subst hus
  simp
 have hrun : (Instr.build t (parts.toArray.map fun (i, x) => (i, ev f x))).run P w' = .ok (ag enc (l ++ List.replicate (n - l.length) z)) w' := by
  unfold Instr.build
  simp only [Sem.run_bind, hz, Result.andThen_ok, Sem.run_pure, run_underlying A.und, A.esz, hparts]
  show Sem.run P (match Instr.fill (fun i => some (i * 1, 1)) (ac enc (List.replicate n z)) ((us.zipIdx 0).map fun p => (p.2, p.1)) with | some cells => pure (Value.agg cells) | x => stuck "build: a part of the wrong size") w' = _
  rw [hf']; rfl
 simp only [execOp, ho, Sem.run_bind, hrun, Result.andThen_ok, Sem.run_pure]
theorem q_buildAF {z:α} {parts:List (Nat×Operand)} {us:List Value} (ho:o.op=.build t parts.toArray) (A:TyA P t e n) (hz:∀ w,(zeroValue t).run P w=.ok (ag enc (List.replicate n z)) w) (hp:Parts f parts 0 us) (hus:us=l.map enc) (hl:l.length=n) (h1:∀ x,(enc x).cells=#[enc x]):Qa P o f (ag enc l):=by
 have:=q_buildA (l:=l) ho A hz hp hus (Nat.le_of_eq hl) h1
 rwa [hl,Nat.sub_self,List.replicate_zero,List.append_nil] at this
theorem zjx {z:α} {parts:List (Nat×Operand)} {us:List Value} (ho:o.op=.build t parts.toArray) (A:TyA P t e n) (hz:∀ w,(zeroValue t).run P w=.ok (ag enc (List.replicate n z)) w) (hp:Parts f parts 0 us) (hus:us=l.map enc) (hl:l.length=0) (h1:∀ x,(enc x).cells=#[enc x]):Qa P o f (ag enc (List.replicate n z)):=by
 have:=q_buildA (l:=l) ho A hz hp hus (by omega) h1
 have h0:=List.eq_nil_of_length_eq_zero hl
 subst h0
 simpa using this
end
theorem zio (x:UInt8):(u8 x).oneCell'=true:=rfl
theorem zdo (x:UInt32):(u32 x).oneCell'=true:=rfl
theorem one_i64 (x:Int):(i64 x).oneCell'=true:=rfl
theorem cel_u8 (x:UInt8):(u8 x).cells=#[u8 x]:=rfl
theorem cel_u32 (x:UInt32):(u32 x).cells=#[u32 x]:=rfl
section
variable {P : Program} {o : Oper} {f : Nat → Value} {w : World} {x y : Operand} {t t' : TypeId} {k : IntKind}
theorem q_not8 {a:UInt8} (ho:o.op=.unOp .xor t x) (hx:ev f x=u8 a):Qa P o f (u8 ((255:UInt8)^^^a)):=by
 intro w
 have h:=back_u8 ((255:UInt8)^^^a)
 rw [UInt8.toBitVec_xor,← bv_u8,← bv_u8] at h
 unfold execOp;rw [ho];dsimp only;rw [hx];exact congrArg (fun n:Int=>(Result.ok (Next.value (Value.int .u8 n)) w:Result Next)) h
theorem q_not32 {a:UInt32} (ho:o.op=.unOp .xor t x) (hx:ev f x=u32 a):Qa P o f (u32 ((4294967295:UInt32)^^^a)):=by
 intro w
 have h:=back_u32 ((4294967295:UInt32)^^^a)
 rw [UInt32.toBitVec_xor,← bv_u32,← bv_u32] at h
 unfold execOp;rw [ho];dsimp only;rw [hx];exact congrArg (fun n:Int=>(Result.ok (Next.value (Value.int .u32 n)) w:Result Next)) h
theorem q_not64 {a:UInt64} (ho:o.op=.unOp .xor t x) (hx:ev f x=u64 a):Qa P o f (u64 ((18446744073709551615:UInt64)^^^a)):=by
 intro w
 have h:=back_u64 ((18446744073709551615:UInt64)^^^a)
 rw [UInt64.toBitVec_xor,← bv_u64,← bv_u64] at h
 unfold execOp;rw [ho];dsimp only;rw [hx];exact congrArg (fun n:Int=>(Result.ok (Next.value (Value.int .u64 n)) w:Result Next)) h
theorem q_cvt648 {a:UInt8} (ho:o.op=.convert t t' x) (ht:P.underlying t=some (.int k)) (ht':P.underlying t'=some (.int .u64)) (hx:ev f x=u8 a):Qa P o f (u64 a.toUInt64):=by
 intro w
 have h:IntKind.u64.wrap (a.toNat:Int)=(a.toUInt64.toNat:Int):=by
  have:=a.toNat_lt
  rw [zj2];simp;omega
 simp [execOp,ho,hx,u8,convert,run_underlying ht,run_underlying ht',Conv.intToInt,h,u64]
theorem q_cvt3264 {a:UInt64} (ho:o.op=.convert t t' x) (ht:P.underlying t=some (.int k)) (ht':P.underlying t'=some (.int .u32)) (hx:ev f x=u64 a):Qa P o f (u32 a.toUInt32):=by
 intro w
 have h:IntKind.u32.wrap (a.toNat:Int)=(a.toUInt32.toNat:Int):=by
  rw [wrap_u32];simp
 simp [execOp,ho,hx,u64,convert,run_underlying ht,run_underlying ht',Conv.intToInt,h,u32]
theorem q_cvt832 {a:UInt32} (ho:o.op=.convert t t' x) (ht:P.underlying t=some (.int k)) (ht':P.underlying t'=some (.int .u8)) (hx:ev f x=u32 a):Qa P o f (u8 a.toUInt8):=by
 intro w
 have h:IntKind.u8.wrap (a.toNat:Int)=(a.toUInt8.toNat:Int):=by
  rw [wrap_u8];simp
 simp [execOp,ho,hx,u32,convert,run_underlying ht,run_underlying ht',Conv.intToInt,h,u8]
theorem q_cvt32I {a:Int} (ho:o.op=.convert t t' x) (ht:P.underlying t=some (.int k)) (ht':P.underlying t'=some (.int .u32)) (hx:ev f x=i64 a):Qa P o f (u32 (UInt32.ofInt a)):=by
 intro w
 have h:IntKind.u32.wrap a=((UInt32.ofInt a).toNat:Int):=by
  rw [wrap_u32];simp [UInt32.ofInt];omega
 simp [execOp,ho,hx,i64,convert,run_underlying ht,run_underlying ht',Conv.intToInt,h,u32]
theorem q_cvt328 {a:UInt8} (ho:o.op=.convert t t' x) (ht:P.underlying t=some (.int k)) (ht':P.underlying t'=some (.int .u32)) (hx:ev f x=u8 a):Qa P o f (u32 a.toUInt32):=by
 intro w
 have h:IntKind.u32.wrap (a.toNat:Int)=(a.toUInt32.toNat:Int):=by
  have:=a.toNat_lt
  rw [wrap_u32];simp;omega
 simp [execOp,ho,hx,u8,convert,run_underlying ht,run_underlying ht',Conv.intToInt,h,u32]
end
section
variable {P : Program} {fn : Func} {n : Nat} {R : Ending → World → Prop} {f : Nat → Value} {w : World} {t e T : TypeId} {a g m : Nat} {α : Type} {enc : α → Value} {l : List α}
theorem rtc1 (A:TyA P T e m) (hr:fn.results=#[.cell a T]) (ha:Nat.blt a n=true) (hv:f a=bp g) (hB:Blk w g t (ac enc l)) (hl:l.length=m) (hm:f n=undef) (h:R (.returned (ag enc l)) w):Rt P fn n R .ret f w:=by
 have hrun:=run_loadSeg A hB (zaf enc l) (by simpa using hl)
 refine .inl ⟨by rw [hm];rfl,ag enc l,?_,h⟩
 have hg:(fr n f).tmps.getD a undef=bp g:=by rw [zeo n f a ha,hv]
 simp [results,hr,← Array.getD_eq_getD_getElem?,hg,asAddr,hrun,ag,ac]
end
end Gk

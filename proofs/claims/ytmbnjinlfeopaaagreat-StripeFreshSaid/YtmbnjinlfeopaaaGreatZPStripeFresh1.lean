/- Parts Ga, Gb, Gc, Gd, Ge, Gf, Gg, Gh, R, K, S, Ma, Fa, F0, F1, Gj, Mb, Gi, Fb, Mc, Md, Mp, Mv, one behind the other. What is proved: said at the head of each part. No condition beside those said there. -/
import Derived.Test.YtmbnjinlfeopaaaGreatRows
import Derived.Orders
import Derived.Deep.Draws
import Derived.Laws.World
import Derived.KernelRfl
import Derived.OrdersIn
import Derived.TacticsIn
import Derived.RangeFuncCalls
import Derived.Deep.LoopGhost
import Derived.Tactics
import Derived.Sort.LoopGhostIn
import Derived.RangeFuncLeaves
import Derived.RangeFuncNested
import Derived.RangeFuncRecord
import Derived.Laws.Sem
import Derived.OwnWalk
import Derived.RangeFuncWrites
import Derived.Laws.IdiomCopy
import Derived.WalkKit
import Derived.ProofKit
import Derived.OpenShut
import Derived.ChangeOld
import Derived.Below
import Derived.Test.YtmbnjinlfeopaaaGreatProg
import Derived.MapKept
import Derived.Lib.AppendZerosOnto
import Derived.Laws.CopyRow
import Derived.Laws.Cells
import Derived.Lib.SlBytesConst
theorem Gk.bsi {α β : Type} {o : Option α} {f : α → Option β} {b : β} (h : o.bind f = some b) : ∃ a, o = some a ∧ f a = some b := Option.bind_eq_some_iff.1 h
theorem Gk.osi {α : Type} {a b : α} (h : some a = some b) : a = b := Option.some.inj h
theorem Gk.obs {α β : Type} (a : α) (f : α → Option β) : (some a).bind f = f a := rfl
set_option maxRecDepth 100000
set_option maxHeartbeats 8000000
set_option linter.unusedVariables false
set_option linter.unusedSimpArgs false
/- Frames as functions from slots to values, single steps of operations, and regions (in whatever order): the words on which all walks of this work rest. No condition. -/
namespace Gk
open Go
theorem alloc_new (w:World) (o:Obj):(w.alloc o).heap[w.heap.size]?=some o:=by
 show (w.heap.push o)[w.heap.size]?=_
 simp
theorem zgu (w:World) (o:Obj) (k:Nat) (h:k<w.heap.size):(w.alloc o).heap[k]?=w.heap[k]?:=by
 show (w.heap.push o)[k]?=_
 rw [Array.getElem?_push,if_neg (by omega)]
def upd (f:Nat->Value) (d:Nat) (v:Value):Nat->Value:=fun t=>cond (Nat.beq t d) v (f t)
def updO (f:Nat->Value):Option Nat->Value->Nat->Value
 | some d,v=>upd f d v
 | none,_=>f
def ev (f:Nat->Value):Operand->Value
 | .tmp t=>f t
 | .const v=>v
 | .global g=>.pointer (some ⟨g,0,none⟩)
 | .func g=>.func (.func g) #[] #[]
def dec:Value->List Deferred
 | .pointer (some a)=>[{ target:=.collected a.block,args:=#[] }]
 | .agg vs=>match vs.toList with
  | [.pointer (some a),.pointer (some b)]=>[{ target:=.collected a.block,args:=#[] },{ target:=.collected b.block,args:=#[] }]
  | _=>[]
 | _=>[]
def fr (n:Nat) (f:Nat->Value):Act:=⟨((List.range n).map f).toArray,dec (f n)⟩
def okD (n:Nat):Option Nat->Bool
 | some d=>Nat.blt d n
 | none=>true
def argsF:List Value->Nat->Value
 | [],_=>undef
 | v :: r,t=>cond (Nat.beq t 0) v (argsF r (t - 1))
theorem upd_eq (f:Nat->Value) (d:Nat) (v:Value):upd f d v d=v:=by simp [upd]
theorem upd_ne (f:Nat->Value) {d t:Nat} (v:Value) (h:t≠d):upd f d v t=f t:=by
 have:Nat.beq t d=false:=by
  cases h':Nat.beq t d
  ·rfl
  ·exact absurd (Nat.eq_of_beq_eq_true h') h
 simp [upd,this]
theorem fr_get (n:Nat) (f:Nat->Value) (t:Nat) (h:t<n):(fr n f).tmps[t]?=some (f t):=by
 simp [fr,h]
theorem zj8 (n:Nat) (f:Nat->Value) (t:Nat) (h:n<=t):(fr n f).tmps[t]?=none:=by
 simp [fr,h]
theorem fr_size (n:Nat) (f:Nat->Value):(fr n f).tmps.size=n:=by simp [fr]
theorem zgx (n : Nat) (f : Nat -> Value) (dst : Option Nat) (v : Value) (hd : okD n dst = true) : (fr n f).put dst v = fr n (updO f dst v) := by
  cases dst with
  | none => rfl
  | some d =>
    have : (fr n f).tmps.setIfInBounds d v = (fr n (upd f d v)).tmps := by
      apply Array.ext_getElem?
      intro i
      rw [Array.getElem?_setIfInBounds]
      by_cases hi : i < n
      · rw [fr_get n _ i hi, fr_get n _ i hi, fr_size]
        by_cases h : d = i
        · subst h; simp [upd_eq, hi]
        · rw [if_neg h, upd_ne f v (Ne.symm h)]
      · rw [zj8 n _ i (by omega), zj8 n _ i (by omega), fr_size]
        by_cases h : d = i
        · subst h; simp [hi]
        · rw [if_neg h]
    have hn : upd f d v n = f n := upd_ne f v (by have : d < n := by simpa [okD] using hd
                                                  omega)
    simp only [Act.put, updO, this]
    simp only [fr, hn]
def okO (n:Nat):Operand->Bool
 | .tmp t=>Nat.blt t n
 | _=>true
theorem fr_eval (n:Nat) (f:Nat->Value) (x:Operand) (h:okO n x=true):(fr n f).eval x=ev f x:=by
 cases x with
 | tmp t =>
  have ht:t<n:=by simpa [okO] using h
  simp [Act.eval,ev,Array.getD_eq_getD_getElem?,fr_get n f t ht]
 | _=>rfl
def notSelect:Op->Bool
 | .select ..=>false
 | _=>true
def zkj:Op->Bool
 | .defer _=>false
 | _=>true
theorem notDefer_spec {x:Op} (h:zkj x=true):∀ c,x≠.defer c:=by
 intro c e;rw [e] at h;cases h
def okOp (n:Nat) (o:Oper):Bool:=o.op.operands.toList.all (okO n)&&(notSelect o.op&&(zkj o.op&&okD n o.dst))
theorem okOp.dst {n:Nat} {o:Oper} (h:okOp n o=true):okD n o.dst=true:=by
 simp only [okOp,Bool.and_eq_true] at h
 exact h.2.2.2
theorem zjq (n:Nat) (f:Nat->Value) (o:Oper) (h:okOp n o=true):execOp (fr n f).eval o=execOp (ev f) o:=by
 simp only [okOp,Bool.and_eq_true] at h
 refine execOp_congr o (fun cs b e=>?_) (fun x hx=>fr_eval n f x ?_)
 ·rw [e] at h;simp [notSelect] at h
 ·exact List.all_eq_true.1 h.1 x (Array.mem_toList_iff.2 hx)
def Got (P:Program) (R:Value->World->Prop):Result Next->Prop
 | .ok (.value v) w'=>R v w'
 | .ok .skip w'=>R undef w'
 | .ok (.enter g args) w'=>Calls P g args w' fun e w''=>∃ v,e=.returned v/\R v w''
 | _=>False
def Stp (P:Program) (o:Oper) (f:Nat->Value) (w:World) (R:Value->World->Prop):Prop :=
 Got P R ((execOp (ev f) o).run P w)
theorem Got.mono {P:Program} {R R':Value->World->Prop} {r:Result Next} (h:Got P R r) (hr:∀ v w,R v w->R' v w):Got P R' r:=by
 cases r with
 | ok n w' =>
  cases n <;> simp only [Got] at h ⊢ <;> first
   | exact hr _ _ h
   | exact h.mono (fun e w'' ⟨v,he,hv⟩=>⟨v,he,hr _ _ hv⟩)
 | halt x w'=>exact h
theorem Stp.mono {P:Program} {o:Oper} {f:Nat->Value} {w:World} {R R':Value->World->Prop} (h:Stp P o f w R) (hr:∀ v w,R v w->R' v w):Stp P o f w R' :=
 Got.mono h hr
theorem Stp.wp {P:Program} {o:Oper} {n:Nat} {f:Nat->Value} {w:World} {R:Value->World->Prop} {K:Act->World->Prop} {Q:Exit->Act->World->Prop}
  (ho:okOp n o=true) (h:Stp P o f w R) (hk:∀ v w',R v w'->K (fr n (updO f o.dst v)) w'):o.wp P (fr n f) w K Q:=by
 unfold Oper.wp
 rw [zjq n f o ho]
 unfold Stp at h
 generalize (execOp (ev f) o).run P w=r at *
 cases r with
 | ok x w' =>
  cases x <;> simp only [Got] at h <;> simp only [Oper.upon]
  case value v=>rw [zgx _ _ _ _ (okOp.dst ho)];exact hk _ _ h
  case skip=>rw [zgx _ _ _ _ (okOp.dst ho)];exact hk _ _ h
  case enter g args =>
   refine h.mono fun e w'' ⟨v,he,hv⟩=>?_
   subst he
   dsimp only
   rw [zgx _ _ _ _ (okOp.dst ho)]
   exact hk _ _ hv
 | halt x w'=>exact h.elim
def StpR (P:Program) (o:Oper) (f:Nat->Value) (w:World) (R:Value->World->Prop):Prop :=
 Stp P o f w R∨∃ l g tmps assign body,(execOp (ev f) o).run P w=.ok (.round l g tmps assign body) w/\RoundIn Fence.wide 0 P l g tmps assign body w fun e w''=>∃ v,e=.returned v/\R v w''
theorem StpR.mono {P:Program} {o:Oper} {f:Nat->Value} {w:World} {R R':Value->World->Prop} (h:StpR P o f w R) (hr:∀ v w,R v w->R' v w):StpR P o f w R':=by
 rcases h with h | ⟨l,g,tmps,assign,body,h1,h2⟩
 ·exact .inl (h.mono hr)
 ·exact .inr ⟨l,g,tmps,assign,body,h1,h2.mono fun e w'' ⟨v,he,hv⟩=>⟨v,he,hr _ _ hv⟩⟩
def wantF (ops:Array Oper) (f:Nat->Value) (o:Oper):Bool :=
  match o.guard with
  | none=>true
  | some (j,want) =>
    (match (ops[j]?).bind (·.dst) with
     | some d=>(match f d with | .bool b=>some b | _=>none)
     | none=>none) == some want
def okGuard (n:Nat) (ops:Array Oper) (o:Oper):Bool :=
 match o.guard with
 | none=>true
 | some (j,_)=>match (ops[j]?).bind (·.dst) with
  | some d=>Nat.blt d n
  | none=>true
theorem wantF_fr (n:Nat) (ops:Array Oper) (f:Nat->Value) (o:Oper) (h:okGuard n ops o=true) :
  Region.wanted o (yielded ops (fr n f).tmps)=wantF ops f o:=by
 unfold Region.wanted wantF okGuard at *
 cases hg:o.guard with
 | none=>rfl
 | some jw =>
  obtain ⟨j,want⟩:=jw
  simp only [hg] at h ⊢
  unfold yielded
  cases hd:(ops[j]?).bind (·.dst) with
  | none=>rfl
  | some d =>
   simp only [hd] at h
   have hlt:d<n:=by simpa using h
   simp only [obs,fr_get n f d hlt]
   cases f d <;> rfl
def wl (P:Program) (ops:Array Oper) (K:(Nat->Value)->World->Prop):List Oper->(Nat->Value)->World->Prop
 | [],f,w=>K f w
 | o :: r,f,w=>if wantF ops f o=true then StpR P o f w (fun v w'=>wl P ops K r (updO f o.dst v) w') else wl P ops K r (updO f o.dst undef) w
def At (n:Nat) (K:(Nat->Value)->World->Prop) (a:Act) (w:World):Prop:=∃ f,a=fr n f/\K f w
theorem At.mk {n:Nat} {K:(Nat->Value)->World->Prop} {f:Nat->Value} {w:World} (h:K f w):At n K (fr n f) w:=⟨f,rfl,h⟩
def zb8 (n:Nat) (ops:Array Oper):Bool:=ops.toList.all fun o=>okOp n o&&okGuard n ops o
def noDefer (l:List Oper):Bool:=l.all fun o=>zkj o.op
section
variable {P : Program} {ops : Array Oper} {Q : Exit → Act → World → Prop} {md : Region.Mode} {E : World → World → Prop}
def zgh (P:Program) (ops:Array Oper) (E:World->World->Prop) (o:Oper) (v:Value) (a:Act) (w:World):Prop :=
 (Region.wanted o (yielded ops a.tmps)=true/\∀ w',E w w'->(execOp a.eval o).run P w'=.ok (.value v) w') ∨
 (Region.wanted o (yielded ops a.tmps)=false/\v=undef)
theorem zgh.wpOp {i:Nat} {o:Oper} {v:Value} {a:Act} {w:World} (hE:E w w) (hi:ops[i]?=some o) (hy:zgh P ops E o v a w)
  {K:Act->World->Prop} (h:K (a.put o.dst v) w):wpOp P ops Q i K a w:=by
 unfold Go.wpOp
 simp only [hi]
 rcases hy with ⟨hw,hv⟩ | ⟨hw,rfl⟩
 ·simp only [hw,if_true,Oper.wp,hv w hE,Oper.upon];exact .inl h
 ·simp only [hw,Bool.false_eq_true,if_false];exact h
theorem zgh.of_same {o:Oper} {v:Value} {a a':Act} {w w1:World} (hE:∀ w2,E w1 w2->E w w2) (hy:zgh P ops E o v a w) (he:execOp a'.eval o=execOp a.eval o)
  (hw:Region.wanted o (yielded ops a'.tmps)=Region.wanted o (yielded ops a.tmps)):zgh P ops E o v a' w1:=by
 unfold zgh at *
 rw [he,hw]
 exact hy.imp (fun h=>⟨h.1,fun w' h'=>h.2 w' (hE w' h')⟩) id
def reaches (md:Region.Mode) (ops:Array Oper):Nat->Nat->Nat->Bool
 | 0,_,_=>false
 | d+1,j,q=>((ops[j]?).map (·.after.any fun e=>Region.binds md e&&(Nat.beq e.on q||reaches md ops d e.on q))).getD false
def waits (md:Region.Mode) (ops:Array Oper) (j q:Nat):Bool:=(List.range 10).any fun d=>reaches md ops d j q
def zfh (md:Region.Mode) (ops:Array Oper) (qs:List Nat) (j:Nat):Bool :=
 qs.all fun q=>waits md ops j q||waits md ops q j
def zd1 (md:Region.Mode) (ops:Array Oper) (listed:Array Bool):Prop:=∀ k ok,ops[k]?=some ok->listed.getD k false=true->∀ e∈ok.after,Region.binds md e=true->listed.getD e.on false=true
theorem reaches_listed {md:Region.Mode} {ops:Array Oper} {listed:Array Bool} (hc:zd1 md ops listed) {i:Nat}:∀ (d j:Nat) (oj:Oper),ops[j]?=some oj->(∀ e∈oj.after,Region.binds md e=true->listed.getD e.on false=true)->reaches md ops d j i=true->listed.getD i false=true
 | 0,_,_,_,_,h=>by cases h
 | d+1,j,oj,hj,hall,h=>by
  unfold reaches at h
  rw [hj] at h
  simp only [Option.map_some,Option.getD_some] at h
  obtain ⟨e,he,h⟩:=(Array.any_eq_true'.1 h)
  simp only [Bool.and_eq_true,Bool.or_eq_true] at h
  obtain ⟨hb,h | h⟩:=h
  ·rw [← Nat.eq_of_beq_eq_true h];exact hall e he hb
  ·cases ho:ops[e.on]? with
   | none =>
    cases d with
    | zero=>cases h
    | succ d=>unfold reaches at h;rw [ho] at h;cases h
   | some ok=>exact reaches_listed hc d e.on ok ho (hc e.on ok ho (hall e he hb)) h
theorem waits_listed {md:Region.Mode} {ops:Array Oper} {listed:Array Bool} (hc:zd1 md ops listed) {i j:Nat} {oj:Oper} (hj:ops[j]?=some oj) (hall:∀ e∈oj.after,Region.binds md e=true->listed.getD e.on false=true) (hi:listed.getD i true=false):waits md ops j i=false:=by
 cases h:waits md ops j i with
 | false=>rfl
 | true =>
  obtain ⟨d,_,hd⟩:=List.any_eq_true.1 h
  have h1:=reaches_listed hc d j oj hj hall hd
  rcases Nat.lt_or_ge i listed.size with h' | h'
  ·simp [h'] at hi h1;rw [hi] at h1;cases h1
  ·simp [Array.getElem?_eq_none h'] at h1
theorem getD_set_ne' {l:Array Bool} {j k:Nat} (h:j≠k):(l.setIfInBounds j true).getD k false=l.getD k false:=by
 simp [Array.getD_eq_getD_getElem?,Array.getElem?_setIfInBounds,h]
theorem zd1.set {md:Region.Mode} {ops:Array Oper} {listed:Array Bool} (hc:zd1 md ops listed) {j:Nat} {oj:Oper} (hj:ops[j]?=some oj) (hall:∀ e∈oj.after,Region.binds md e=true->listed.getD e.on false=true):zd1 md ops (listed.setIfInBounds j true):=by
 have mono:∀ k,listed.getD k false=true->(listed.setIfInBounds j true).getD k false=true:=by
  intro k hk
  by_cases hkj:j=k
  ·subst hkj
   rcases Nat.lt_or_ge j listed.size with h' | h'
   ·simp [h']
   ·simp [Array.getElem?_eq_none h'] at hk
  ·rw [getD_set_ne' hkj];exact hk
 intro k ok hk hl e he hb
 by_cases hkj:j=k
 ·subst hkj
  rw [hj] at hk;cases hk
  exact mono _ (hall e he hb)
 ·rw [getD_set_ne' hkj] at hl
  exact mono _ (hc k ok hk hl e he hb)
theorem zd1.none (md:Region.Mode) (ops:Array Oper) (n:Nat):zd1 md ops (Array.replicate n false):=by
 intro k ok _ hl
 rcases Nat.lt_or_ge k n with h | h
 ·simp [h] at hl
 ·simp [h] at hl
def zdp (P:Program) (md:Region.Mode) (ops:Array Oper) (Q:Exit->Act->World->Prop) (E:World->World->Prop) (qs:List Nat):Nat->Array Bool->Act->World->Prop
 | 0,listed,a,w=>Region.ready md ops listed=[]/\Q .normal a w
 | fuel+1,listed,a,w =>
  (Region.ready md ops listed=[]->Q .normal a w) ∧
  ∀ i∈Region.ready md ops listed,wpOp P ops Q i (fun a' w'=>(E w w'∨zfh md ops qs i=true)/\zdp P md ops Q E qs fuel (listed.setIfInBounds i true) a' w') a w
theorem zjo {qs:List Nat}:∀ (fuel:Nat) (listed:Array Bool) (a:Act) (w:World),zdp P md ops Q E qs fuel listed a w->wpAny P md ops Q fuel listed a w
 | 0,_,_,_,h=>h
 | fuel+1,_,_,_,h=>⟨h.1,fun i hi=>wpOp_mono (fun a' w' h'=>zjo fuel _ a' w' h'.2) (h.2 i hi)⟩
theorem wpOp_putE {j:Nat} {oi oj:Oper} {v:Value} (hj:ops[j]?=some oj) (hap:oi.apart ops oj=true)
  (hsi:∀ cs b,oi.op≠.select cs b) (hsj:∀ cs b,oj.op≠.select cs b)
  (hQ:∀ c a w,Q (.panic c) (a.put oi.dst v) w->Q (.panic c) a w) (hE:∀ w1 w2 w3,E w1 w2->E w2 w3->E w1 w3)
  {K:Act->World->Prop} {a:Act} {w:World} (hy:zgh P ops E oi v a w)
  (h:wpOp P ops Q j (fun a' w'=>E w w'/\K a' w') (a.put oi.dst v) w) :
  wpOp P ops Q j (fun a' w'=>zgh P ops E oi v a' w'/\E w w'/\K (a'.put oi.dst v) w') a w:=by
 obtain ⟨h1,h2,h3⟩:=Oper.apart_spec hap
 have keep:∀ (a:Act) (w1 w2:World),E w1 w2->zgh P ops E oi v a w1->∀ u,zgh P ops E oi v (a.put oj.dst u) w2:=fun a w1 w2 e hy u =>
  hy.of_same (fun w3 h=>hE _ _ _ e h) (execOp_put oi hsi a oj.dst u h3) (wanted_put oi a oj.dst u h3)
 have keepD:∀ d (w1:World),zgh P ops E oi v a w1->zgh P ops E oi v { a with defers:=d :: a.defers } w1:=fun d w1 hy=>hy
 unfold wpOp at *
 simp only [hj] at *
 rw [wanted_put oj a oi.dst v h1] at h
 split
 ·rename_i hw
  simp only [hw,if_true] at h
  rcases h with h | ⟨hasks,hlets⟩
  case inr=>exact .inr ⟨by unfold Oper.asks at *;rw [execOp_put oj hsj a oi.dst v h1] at hasks;exact hasks,hlets⟩
  refine .inl ?_
  unfold Oper.wp at *
  rw [execOp_put oj hsj a oi.dst v h1] at h
  generalize (execOp a.eval oj).run P w=r at *
  cases r with
  | ok n w' =>
   cases n <;> simp only [Oper.upon] at h ⊢
   case value u=>exact ⟨keep a _ _ h.1 hy u,h.1,by rw [← Act.put_comm a v u h2];exact h.2⟩
   case skip=>exact ⟨keep a _ _ h.1 hy _,h.1,by rw [← Act.put_comm a v undef h2];exact h.2⟩
   case defer d =>
    refine ⟨keep _ _ _ h.1 (keepD d _ hy) _,h.1,?_⟩
    rw [← Act.put_comm _ v undef h2,← Act.put_defers]
    exact h.2
   case enter f args =>
    refine Calls.mono h fun e w'' he=>?_
    cases e with
    | returned u=>exact ⟨keep a _ _ he.1 hy u,he.1,by rw [← Act.put_comm a v u h2];exact he.2⟩
    | panicked c=>exact hQ _ _ _ he
    | outgrown=>exact he
   case row row args=>exact Rows.mono h fun u w'' he=>⟨keep a _ _ he.1 hy u,he.1,by rw [← Act.put_comm a v u h2];exact he.2⟩
  | halt x w' =>
   cases x <;> simp only [Oper.upon] at h ⊢
   case panic u=>exact hQ _ _ _ h
 ·rename_i hw
  simp only [hw] at h
  exact ⟨keep a _ _ h.1 hy _,h.1,by rw [← Act.put_comm a v undef h2];exact h.2⟩
theorem not_after {listed:Array Bool} {i:Nat} {oj:Oper} (hi:listed.getD i true=false) (hall:∀ e∈oj.after,Region.binds md e=true->listed.getD e.on false=true) :
  ∀ e∈oj.after,Region.binds md e=true->e.on≠i:=fun e he hb heq=>by
 have h1:=hall e he hb
 rw [heq] at h1
 rcases Nat.lt_or_ge i listed.size with h' | h'
 ·simp [h'] at hi h1;rw [hi] at h1;cases h1
 ·simp [Array.getElem?_eq_none h'] at h1
theorem wpAnyE_first {qs:List Nat} {i:Nat} {oi:Oper} {v:Value} (hq:i∈qs) (hi:ops[i]?=some oi) (hsel:∀ (j:Nat) (o:Oper) cs b,ops[j]?=some o->o.op≠.select cs b)
  (hQ:∀ c a w,Q (.panic c) (a.put oi.dst v) w->Q (.panic c) a w) (hr0:∀ w,E w w) (hE:∀ w1 w2 w3,E w1 w2->E w2 w3->E w1 w3) :
  ∀ (fuel:Nat) (listed:Array Bool) (a:Act) (w:World),zd1 md ops listed →
   (∀ j oj,ops[j]?=some oj->j≠i->listed.getD j true=false->(∀ e∈oj.after,Region.binds md e=true->e.on≠i)->oi.apart ops oj=true) →
   i∈Region.ready md ops listed->zgh P ops E oi v a w →
   zdp P md ops Q E qs fuel (listed.setIfInBounds i true) (a.put oi.dst v) w->zdp P md ops Q E qs (fuel+1) listed a w:=by
 intro fuel
 induction fuel with
 | zero =>
  intro listed a w _ _ hr hy H
  refine ⟨fun h=>(by rw [h] at hr;cases hr),fun j hj=>?_⟩
  by_cases hji:j=i
  ·subst hji;exact hy.wpOp (hr0 w) hi ⟨.inl (hr0 w),H⟩
  ·have:=ready_mono hj hji
   rw [H.1] at this
   cases this
 | succ fuel ih =>
  intro listed a w hcl hfree hr hy H
  refine ⟨fun h=>(by rw [h] at hr;cases hr),fun j hj=>?_⟩
  by_cases hji:j=i
  ·subst hji;exact hy.wpOp (hr0 w) hi ⟨.inl (hr0 w),H⟩
  ·have h1:=H.2 j (ready_mono hj hji)
   obtain ⟨hjun,oj,hoj,hall⟩:=mem_ready.1 hj
   obtain ⟨hiun,oi',hoi',halli⟩:=mem_ready.1 hr
   obtain rfl:oi'=oi:=by rw [hi] at hoi';exact (Option.some.inj hoi').symm
   have hnot:=not_after hiun hall
   have hnoti:=not_after hjun halli
   have hno:zfh md ops qs j=false:=by
    unfold zfh
    rw [List.all_eq_false]
    refine ⟨i,hq,?_⟩
    rw [waits_listed hcl hoj hall hiun,waits_listed hcl hoi' halli hjun]
    simp
   have h1':=wpOp_mono (K':=fun a' w'=>E w w'/\zdp P md ops Q E qs fuel ((listed.setIfInBounds i true).setIfInBounds j true) a' w') (fun a' w' h=>⟨h.1.resolve_right (by rw [hno];simp),h.2⟩) h1
   have h2:=wpOp_putE hoj (hfree j oj hoj hji hjun hnot) (fun cs b=>hsel i oi' cs b hi) (fun cs b=>hsel j oj cs b hoj) hQ hE hy h1'
   have hfree':∀ k ok,ops[k]?=some ok->k≠i->(listed.setIfInBounds j true).getD k true=false →
     (∀ e∈ok.after,Region.binds md e=true->e.on≠i)->oi'.apart ops ok=true:=fun k ok hk hki hun hno=>by
    refine hfree k ok hk hki ?_ hno
    by_cases hjk:j=k
    ·subst hjk;exact hjun
    ·rw [getD_set_ne true hjk] at hun;exact hun
   refine wpOp_mono (fun a' w' h3=>⟨.inl h3.2.1,ih (listed.setIfInBounds j true) a' w' (hcl.set hoj hall) hfree' (ready_mono hr (Ne.symm hji)) h3.1 ?_⟩) h2
   rw [Array.setIfInBounds_comm _ _ hji]
   exact h3.2.2
theorem wpAnyE_free {qs:List Nat} {i:Nat} {oi:Oper} {v:Value} (hi:ops[i]?=some oi) (hsel:∀ (j:Nat) (o:Oper) cs b,ops[j]?=some o->o.op≠.select cs b)
  (hQ:∀ c a w,Q (.panic c) (a.put oi.dst v) w->Q (.panic c) a w) (hr0:∀ w,E w w) :
  ∀ (fuel:Nat) (listed:Array Bool) (a:Act) (w:World),
   (∀ j oj,ops[j]?=some oj->j≠i->listed.getD j true=false->(∀ e∈oj.after,Region.binds md e=true->e.on≠i)->oi.apart ops oj=true) →
   i∈Region.ready md ops listed->Yields P ops oi v a →
   zdp P md ops Q E qs fuel (listed.setIfInBounds i true) (a.put oi.dst v) w->zdp P md ops Q E qs (fuel+1) listed a w:=by
 intro fuel
 induction fuel with
 | zero =>
  intro listed a w _ hr hy H
  refine ⟨fun h=>(by rw [h] at hr;cases hr),fun j hj=>?_⟩
  by_cases hji:j=i
  ·subst hji;exact hy.wpOp hi ⟨.inl (hr0 w),H⟩
  ·have:=ready_mono hj hji
   rw [H.1] at this
   cases this
 | succ fuel ih =>
  intro listed a w hfree hr hy H
  refine ⟨fun h=>(by rw [h] at hr;cases hr),fun j hj=>?_⟩
  by_cases hji:j=i
  ·subst hji;exact hy.wpOp hi ⟨.inl (hr0 w),H⟩
  ·have h1:=H.2 j (ready_mono hj hji)
   obtain ⟨hjun,oj,hoj,hall⟩:=mem_ready.1 hj
   obtain ⟨hiun,-⟩:=mem_ready.1 hr
   have hnot:=not_after hiun hall
   have h2:=wpOp_put hoj (hfree j oj hoj hji hjun hnot) (fun cs b=>hsel i oi cs b hi) (fun cs b=>hsel j oj cs b hoj) hQ hy h1
   have hfree':∀ k ok,ops[k]?=some ok->k≠i->(listed.setIfInBounds j true).getD k true=false →
     (∀ e∈ok.after,Region.binds md e=true->e.on≠i)->oi.apart ops ok=true:=fun k ok hk hki hun hno=>by
    refine hfree k ok hk hki ?_ hno
    by_cases hjk:j=k
    ·subst hjk;exact hjun
    ·rw [getD_set_ne true hjk] at hun;exact hun
   refine wpOp_mono (fun a' w' h3=>⟨h3.2.1,ih (listed.setIfInBounds j true) a' w' hfree' (ready_mono hr (Ne.symm hji)) h3.1 ?_⟩) h2
   rw [Array.setIfInBounds_comm _ _ hji]
   exact h3.2.2
end
structure Ext (w w':World):Prop where
 os:w'.os=w.os
 output:w'.output=w.output
 size:w.heap.size<=w'.heap.size
 blk:∀ k,k<w.heap.size->w'.heap[k]?=w.heap[k]?
theorem Ext.refl (w:World):Ext w w:=⟨rfl,rfl,Nat.le_refl _,fun _ _=>rfl⟩
theorem Ext.trans {a b c:World} (h:Ext a b) (k:Ext b c):Ext a c :=
 ⟨k.os.trans h.os,k.output.trans h.output,Nat.le_trans h.size k.size,fun i hi=>(k.blk i (Nat.lt_of_lt_of_le hi h.size)).trans (h.blk i hi)⟩
theorem Ext.drew (w:World):Ext w w.drew:=⟨rfl,rfl,Nat.le_refl _,fun _ _=>rfl⟩
def Qa (P:Program) (o:Oper) (f:Nat->Value) (v:Value):Prop:=∀ w,(execOp (ev f) o).run P w=.ok (.value v) w
def Qt (P:Program) (o:Oper) (f:Nat->Value) (w:World) (v:Value):Prop:=∀ w',Ext w w'->(execOp (ev f) o).run P w'=.ok (.value v) w'
theorem Qa.qt {P:Program} {o:Oper} {f:Nat->Value} {v:Value} (h:Qa P o f v) (w:World):Qt P o f w v:=fun w' _=>h w'
theorem Qt.stp {P:Program} {o:Oper} {f:Nat->Value} {w:World} {v:Value} {R:Value->World->Prop} (h:Qt P o f w v) (hr:R v w):Stp P o f w R:=by
 unfold Stp;rw [h w (Ext.refl w)];exact hr
def ws (P:Program) (ops:Array Oper) (qs:List Nat) (K:(Nat->Value)->World->Prop):List (Nat×Nat)->(Nat->Value)->World->Prop
  | [],f,w=>K f w
  | (i,t) :: r,f,w =>
    match ops[i]? with
    | none=>False
    | some o =>
      if wantF ops f o=true then
        (match t with
         | 0=>∃ v,Qa P o f v/\ws P ops qs K r (updO f o.dst v) w
         | 1=>∃ v,Qt P o f w v/\ws P ops qs K r (updO f o.dst v) w
         | _=>Stp P o f w (fun v w'=>(Ext w w'∨zfh .any ops qs i=true)/\ws P ops qs K r (updO f o.dst v) w'))
      else ws P ops qs K r (updO f o.dst undef) w
def schOKe (ops:Array Oper) (qs:List Nat) (fin:Array Bool->Bool):List (Nat×Nat)->Array Bool->Bool
  | [],listed=>fin listed
  | (i,t) :: r,listed =>
    (match t with
     | 0=>(Region.ready .any ops listed).contains i&&Region.free .any ops listed i
     | 1=>(Region.ready .any ops listed).contains i&&Region.free .any ops listed i&&qs.contains i
     | _=>Region.ready .any ops listed == [i])&&schOKe ops qs fin r (listed.setIfInBounds i true)
def schOK (ops:Array Oper) (qs:List Nat):List (Nat×Nat)->Array Bool->Bool:=schOKe ops qs (fun listed=>(Region.ready .any ops listed).isEmpty)
theorem zdj {P:Program} {n:Nat} {ops:Array Oper} {qs:List Nat} {K0 K:(Nat->Value)->World->Prop} (hok:zb8 n ops=true) (hns:Region.noSelect ops=true) {fin:Array Bool->Bool} {m:Nat}
  (hfin:∀ (listed:Array Bool) (f:Nat->Value) (w:World),zd1 .any ops listed->fin listed=true->K f w->zdp P .any ops (fun e a w=>e=.normal/\At n K0 a w) Ext qs m listed (fr n f) w) :
  ∀ (sch:List (Nat×Nat)) (listed:Array Bool) (f:Nat->Value) (w:World),zd1 .any ops listed->schOKe ops qs fin sch listed=true->ws P ops qs K sch f w →
   zdp P .any ops (fun e a w=>e=.normal/\At n K0 a w) Ext qs (m+sch.length) listed (fr n f) w
 | [],listed,f,w,hcl,hs,h=>hfin listed f w hcl hs h
 | (i,t) :: r,listed,f,w,hcl,hs,h=>by
  simp only [schOKe,Bool.and_eq_true] at hs
  obtain ⟨hst,hsr⟩:=hs
  unfold ws at h
  cases ho:ops[i]? with
  | none=>rw [ho] at h;exact h.elim
  | some o =>
   rw [ho] at h
   dsimp only at h
   have hmem:o∈ops:=Array.mem_of_getElem? ho
   have hall:=List.all_eq_true.1 hok o (Array.mem_toList_iff.2 hmem)
   simp only [Bool.and_eq_true] at hall
   have hwant:=wantF_fr n ops f o hall.2
   have hcl':i∈Region.ready .any ops listed->zd1 .any ops (listed.setIfInBounds i true):=fun hi=>by
    obtain ⟨_,o',ho',hall'⟩:=mem_ready.1 hi
    exact hcl.set ho' hall'
   have key0:∀ v,(Region.wanted o (yielded ops (fr n f).tmps)=true/\∀ w,(execOp (fr n f).eval o).run P w=.ok (.value v) w)∨(Region.wanted o (yielded ops (fr n f).tmps)=false/\v=undef) →
     (Region.ready .any ops listed).contains i=true->Region.free .any ops listed i=true->ws P ops qs K r (updO f o.dst v) w →
     zdp P .any ops (fun e a w=>e=.normal/\At n K0 a w) Ext qs (m+r.length+1) listed (fr n f) w:=fun v hy hr hf hk =>
    wpAnyE_free ho (Region.noSelect_spec hns) (fun _ _ _ h=>by cases h.1) Ext.refl _ listed _ w (Region.free_spec ho hf) (by simpa using hr) hy
     (by rw [zgx _ _ _ _ (okOp.dst hall.1)];exact zdj hok hns hfin r _ _ _ (hcl' (by simpa using hr)) hsr hk)
   by_cases hw:wantF ops f o=true
   ·rw [if_pos hw] at h
    match t,hst,h with
    | 0,hst,⟨v,hv,hk⟩ =>
     simp only [Bool.and_eq_true] at hst
     exact key0 v (.inl ⟨hwant.trans hw,fun w=>by rw [zjq n f o hall.1];exact hv w⟩) hst.1 hst.2 hk
    | 1,hst,⟨v,hv,hk⟩ =>
     simp only [Bool.and_eq_true] at hst
     refine wpAnyE_first (by simpa using hst.2) ho (Region.noSelect_spec hns) (fun _ _ _ h=>by cases h.1) Ext.refl (fun _ _ _=>Ext.trans) _ listed _ w hcl (Region.free_spec ho hst.1.2) (by simpa using hst.1.1)
      (.inl ⟨hwant.trans hw,fun w' hw'=>by rw [zjq n f o hall.1];exact hv w' hw'⟩) ?_
     rw [zgx _ _ _ _ (okOp.dst hall.1)];exact zdj hok hns hfin r _ _ _ (hcl' (by simpa using hst.1.1)) hsr hk
    | t+2,hst,h =>
     have hr:Region.ready .any ops listed=[i]:=by simpa using hst
     show zdp P .any ops _ Ext qs (m+r.length+1) listed _ w
     refine ⟨fun h0=>(by rw [hr] at h0;cases h0),fun j hj=>?_⟩
     obtain rfl:j=i:=by rw [hr] at hj;simpa using hj
     unfold wpOp
     rw [ho]
     dsimp only
     rw [if_pos (hwant.trans hw)]
     exact .inl (Stp.wp hall.1 h fun v w' hv=>⟨hv.1,zdj hok hns hfin r _ _ _ (hcl' hj) hsr hv.2⟩)
   ·rw [if_neg hw] at h
    have hwf:Region.wanted o (yielded ops (fr n f).tmps)=false:=hwant.trans (by simpa using hw)
    match t,hst with
    | 0,hst =>
     simp only [Bool.and_eq_true] at hst
     exact key0 undef (.inr ⟨hwf,rfl⟩) hst.1 hst.2 h
    | 1,hst =>
     simp only [Bool.and_eq_true] at hst
     exact key0 undef (.inr ⟨hwf,rfl⟩) hst.1.1 hst.1.2 h
    | t+2,hst =>
     have hr:Region.ready .any ops listed=[i]:=by simpa using hst
     show zdp P .any ops _ Ext qs (m+r.length+1) listed _ w
     refine ⟨fun h0=>(by rw [hr] at h0;cases h0),fun j hj=>?_⟩
     obtain rfl:j=i:=by rw [hr] at hj;simpa using hj
     unfold wpOp
     rw [ho]
     dsimp only
     rw [if_neg (by rw [hwf];simp)]
     rw [zgx _ _ _ _ (okOp.dst hall.1)]
     exact ⟨.inl (Ext.refl w),zdj hok hns hfin r _ _ _ (hcl' hj) hsr h⟩
theorem wpAnyE_of_ws {P:Program} {n:Nat} {ops:Array Oper} {qs:List Nat} {K:(Nat->Value)->World->Prop} (hok:zb8 n ops=true) (hns:Region.noSelect ops=true)
  (sch:List (Nat×Nat)) (listed:Array Bool) (f:Nat->Value) (w:World) (hcl:zd1 .any ops listed) (hs:schOK ops qs sch listed=true) (h:ws P ops qs K sch f w) :
   zdp P .any ops (fun e a w=>e=.normal/\At n K a w) Ext qs sch.length listed (fr n f) w:=by
 have:=zdj (m:=0) (K0:=K) hok hns (fun listed f w _ hf hk=>by
  rw [List.isEmpty_iff] at hf
  exact ⟨hf,rfl,At.mk hk⟩) sch listed f w hcl hs h
 rwa [Nat.zero_add] at this
def stepT (P:Program) (ops:Array Oper) (qs:List Nat) (i:Nat) (K:(Nat->Value)->World->Prop) (f:Nat->Value) (w:World):Prop :=
 match ops[i]? with
 | none=>False
 | some o=>if wantF ops f o=true then Stp P o f w (fun v w'=>(Ext w w'∨zfh .any ops qs i=true)/\K (updO f o.dst v) w') else K (updO f o.dst undef) w
def schOK2 (ops:Array Oper) (qs:List Nat) (i j:Nat) (ri rj:List (Nat×Nat)) (listed:Array Bool):Bool :=
 Region.ready .any ops listed == [i,j]&&(schOK ops qs ri (listed.setIfInBounds i true)&&(schOK ops qs rj (listed.setIfInBounds j true)&&Nat.beq ri.length rj.length))
theorem stepT.wpOp {P:Program} {n:Nat} {ops:Array Oper} {qs:List Nat} {K:(Nat->Value)->World->Prop} (hok:zb8 n ops=true) (hns:Region.noSelect ops=true) {i:Nat} {r:List (Nat×Nat)} {listed:Array Bool} {f:Nat->Value} {w:World}
  (hcl:zd1 .any ops (listed.setIfInBounds i true)) (hs:schOK ops qs r (listed.setIfInBounds i true)=true) (h:stepT P ops qs i (ws P ops qs K r) f w) :
  wpOp P ops (fun e a w=>e=.normal/\At n K a w) i (fun a' w'=>(Ext w w'∨zfh .any ops qs i=true)/\zdp P .any ops (fun e a w=>e=.normal/\At n K a w) Ext qs r.length (listed.setIfInBounds i true) a' w') (fr n f) w:=by
 unfold stepT at h
 unfold Go.wpOp
 cases ho:ops[i]? with
 | none=>rw [ho] at h;exact h.elim
 | some o =>
  rw [ho] at h
  dsimp only at h ⊢
  have hmem:o∈ops:=Array.mem_of_getElem? ho
  have hall:=List.all_eq_true.1 hok o (Array.mem_toList_iff.2 hmem)
  simp only [Bool.and_eq_true] at hall
  have hwant:=wantF_fr n ops f o hall.2
  by_cases hw:wantF ops f o=true
  ·rw [if_pos hw] at h
   rw [if_pos (hwant.trans hw)]
   exact .inl (Stp.wp hall.1 h fun v w' hv=>⟨hv.1,wpAnyE_of_ws hok hns r _ _ _ hcl hs hv.2⟩)
  ·rw [if_neg hw] at h
   have hwf:Region.wanted o (yielded ops (fr n f).tmps)=false:=hwant.trans (by simpa using hw)
   rw [if_neg (by rw [hwf];simp)]
   rw [zgx _ _ _ _ (okOp.dst hall.1)]
   exact ⟨.inl (Ext.refl w),wpAnyE_of_ws hok hns r _ _ _ hcl hs h⟩
theorem wpAnyE_of_ws2 {P:Program} {n:Nat} {ops:Array Oper} {qs:List Nat} {K:(Nat->Value)->World->Prop} (hok:zb8 n ops=true) (hns:Region.noSelect ops=true) {i j:Nat} {ri rj:List (Nat×Nat)}
  (sch:List (Nat×Nat)) (listed:Array Bool) (f:Nat->Value) (w:World) (hcl:zd1 .any ops listed) (hs:schOKe ops qs (schOK2 ops qs i j ri rj) sch listed=true)
  (h:ws P ops qs (fun f w=>stepT P ops qs i (ws P ops qs K ri) f w/\stepT P ops qs j (ws P ops qs K rj) f w) sch f w) :
   zdp P .any ops (fun e a w=>e=.normal/\At n K a w) Ext qs (ri.length+1+sch.length) listed (fr n f) w:=by
 refine zdj (K0:=K) hok hns (fun listed f w hcl hf hk=>?_) sch listed f w hcl hs h
 simp only [schOK2,Bool.and_eq_true] at hf
 obtain ⟨hr,hsi,hsj,hl⟩:=hf
 have hr':Region.ready .any ops listed=[i,j]:=by simpa using hr
 have hl':ri.length=rj.length:=Nat.eq_of_beq_eq_true hl
 refine ⟨fun h0=>(by rw [hr'] at h0;cases h0),fun k hk'=>?_⟩
 have hcl':zd1 .any ops (listed.setIfInBounds k true):=by
  obtain ⟨_,o',ho',hall'⟩:=mem_ready.1 hk'
  exact hcl.set ho' hall'
 rw [hr'] at hk'
 simp only [List.mem_cons,List.not_mem_nil,or_false] at hk'
 rcases hk' with rfl | rfl
 ·exact stepT.wpOp hok hns hcl' hsi hk.1
 ·rw [hl'];exact stepT.wpOp hok hns hcl' hsj hk.2
def Fn:Option Nat->Fence
 | none=>Fence.wide
 | some l=>Fence.wide.inRound l
theorem zb8.noDefer {n:Nat} {ops:Array Oper} (h:zb8 n ops=true):noDefer ops.toList=true:=by
 refine List.all_eq_true.2 fun o ho=>?_
 have h1:=List.all_eq_true.1 h o ho
 simp only [okOp,Bool.and_eq_true] at h1
 exact h1.1.2.2.1
theorem Fn.round (ro:Option Nat):(Fn ro).round=ro:=by cases ro <;> rfl
theorem Fn.fn (ro:Option Nat) (f:FuncId):(Fn ro).fn f:=by cases ro <;> trivial
theorem Fn.depth (ro:Option Nat):(Fn ro).depth=none:=by cases ro <;> rfl
theorem Fn.calls {ro:Option Nat} {m:Nat} {P:Program} {f:FuncId} {args:Array Value} {w:World} {R:Ending->World->Prop} (h:Calls P f args w R):CallsIn (Fn ro) m P f args w R:=by
 have h1:CallsIn Fence.wide m P f args w R:=callsIn_wide.2 h
 cases ro with
 | none=>exact h1
 | some l=>exact h1.inRound l
theorem Fn.rows {ro:Option Nat} {m:Nat} {P:Program} {row:String} {args:Array Value} {w:World} {R:Value->World->Prop} (h:Rows P row args w R):RowsIn (Fn ro) m P row args w R:=by
 have h1:RowsIn Fence.wide m P row args w R:=fun c cs _=>let ⟨v,w',r,s⟩:=h c cs;⟨v,w',r,stepsIn_wide.2 s⟩
 cases ro with
 | none=>exact h1
 | some l=>exact h1
theorem semAt_fn (ro:Option Nat) (ρ:Operand->Value) (o:Oper) (h:zkj o.op=true):Oper.semAt (Fn ro).round ρ o=execOp ρ o:=by
 rw [Fn.round]
 cases ro with
 | none=>exact Oper.semAt_none _ _
 | some l=>exact Oper.semAt_some l ρ o (notDefer_spec h)
theorem oper_in {ro:Option Nat} {m:Nat} {P:Program} {o:Oper} {a:Act} {w:World} {K:Act->World->Prop} {Q:Exit->Act->World->Prop} (hd:zkj o.op=true) (h:o.wp P a w K Q):o.wpIn (Fn ro) m P a w K Q:=by
 unfold Oper.wp at h
 unfold Oper.wpIn
 refine ⟨fun f _=>Fn.fn ro f,?_⟩
 rw [semAt_fn ro _ o hd]
 have hdep:(Fn ro).depth.isSome=true->1<=m:=fun e=>by rw [Fn.depth] at e;cases e
 generalize (execOp a.eval o).run P w=r at *
 cases r with
 | ok x w' =>
  cases x <;> simp only [Oper.upon,Oper.uponIn] at h ⊢ <;>
   first
    | exact h
    | exact ⟨hdep,Fn.calls h⟩
    | exact ⟨hdep,Fn.rows h⟩
    | exact h.elim
 | halt x w'=>cases x <;> simp only [Oper.upon,Oper.uponIn] at h ⊢ <;> exact h
theorem op_in {ro:Option Nat} {m:Nat} {P:Program} {ops:Array Oper} {Q:Exit->Act->World->Prop} (hl:¬ LetsOut Q) (hd:noDefer ops.toList=true) {i:Nat} {K:Act->World->Prop} {a:Act} {w:World} (h:wpOp P ops Q i K a w):wpOpIn (Fn ro) m P ops Q i K a w:=by
 unfold wpOp at h
 unfold wpOpIn
 cases ho:ops[i]? with
 | none=>rw [ho] at h;exact h
 | some o =>
  rw [ho] at h
  dsimp only at h ⊢
  have hn:zkj o.op=true:=List.all_eq_true.1 hd o (Array.mem_toList_iff.2 (Array.mem_of_getElem? ho))
  split
  ·rename_i hw;rw [if_pos hw] at h;exact oper_in hn (h.resolve_right (fun e=>hl e.2))
  ·rename_i hw;rw [if_neg hw] at h;exact ⟨fun f _=>Fn.fn ro f,h⟩
theorem any_in {ro:Option Nat} {m:Nat} {P:Program} {md:Region.Mode} {ops:Array Oper} {Q:Exit->Act->World->Prop} (hl:¬ LetsOut Q) (hd:noDefer ops.toList=true):∀ (fuel:Nat) (listed:Array Bool) (a:Act) (w:World),wpAny P md ops Q fuel listed a w->wpAnyIn (Fn ro) m P md ops Q fuel listed a w
 | 0,_,_,_,h=>h
 | fuel+1,_,a,w,h=>⟨h.1,fun i hi=>op_in hl hd (wpOp_mono (fun a w h=>any_in hl hd fuel _ a w h) (h.2 i hi))⟩
theorem no_out {n:Nat} {K:(Nat->Value)->World->Prop}:¬ LetsOut (fun e a w=>e=.normal/\At n K a w):=by
 rintro ⟨a,w,h,_⟩;cases h
theorem StpR.wpIn {ro:Option Nat} {m:Nat} {P:Program} {o:Oper} {n:Nat} {f:Nat->Value} {w:World} {R:Value->World->Prop} {K:Act->World->Prop} {Q:Exit->Act->World->Prop}
  (ho:okOp n o=true) (h:StpR P o f w R) (hk:∀ v w',R v w'->K (fr n (updO f o.dst v)) w'):o.wpIn (Fn ro) m P (fr n f) w K Q:=by
 have hnd:zkj o.op=true:=by
  simp only [okOp,Bool.and_eq_true] at ho
  exact ho.2.2.1
 rcases h with h | ⟨l,g,tmps,assign,body,h1,h2⟩
 ·exact oper_in hnd (Stp.wp ho h hk)
 ·unfold Oper.wpIn
  refine ⟨fun f _=>Fn.fn ro f,?_⟩
  rw [semAt_fn ro _ o hnd,zjq n f o ho,h1]
  simp only [Oper.uponIn]
  refine ⟨fun e=>(by rw [Fn.depth] at e;cases e),?_⟩
  have h3:RoundIn Fence.wide (m - 1) P l g tmps assign body w (fun | .returned v,w''=>K ((fr n f).put o.dst v) w'' | .panicked chain,w''=>Q (.panic chain) (fr n f) w'' | .outgrown,_=>LetsOut Q):=by
   refine ⟨h2.1,fun c cs _=>?_⟩
   obtain ⟨e,w',⟨v,rfl,hv⟩,hs⟩:=h2.2 c cs (room_wide _)
   refine ⟨.returned v,w',?_,hs⟩
   show K ((fr n f).put o.dst v) w'
   rw [zgx _ _ _ _ (okOp.dst ho)]
   exact hk _ _ hv
  cases ro with
  | none=>exact h3
  | some l'=>exact h3
theorem wpOpsIn_of_wl {ro:Option Nat} {m:Nat} {P:Program} {n:Nat} {ops:Array Oper} {K:(Nat->Value)->World->Prop} {Q:Exit->Act->World->Prop}
  (hok:zb8 n ops=true) (hQ:∀ f w,K f w->Q .normal (fr n f) w) (l:List Oper) :
  ∀ k,(∀ j,l[j]?=ops[k+j]?)->∀ f w,wl P ops K l f w->wpOpsIn (Fn ro) m P ops Q (List.range' k l.length) (fr n f) w:=by
 induction l with
 | nil=>intro k _ f w h;exact hQ f w h
 | cons o l ih =>
  intro k hl f w h
  have h0:ops[k]?=some o:=by simpa using (hl 0).symm
  have hmem:o∈ops:=Array.mem_of_getElem? h0
  have hall:=List.all_eq_true.1 hok o (Array.mem_toList_iff.2 hmem)
  simp only [Bool.and_eq_true] at hall
  have ih':=ih (k+1) (fun j=>by have:=hl (j+1);simpa [Nat.add_assoc,Nat.add_comm 1 j] using this)
  simp only [List.length_cons,List.range'_succ,wpOpsIn,h0]
  rw [wantF_fr n ops f o hall.2]
  unfold wl at h
  by_cases hw:wantF ops f o=true
  ·rw [if_pos hw] at h ⊢
   exact StpR.wpIn hall.1 h fun v w' hv=>ih' _ _ hv
  ·rw [if_neg hw] at h ⊢
   rw [zgx _ _ _ _ (okOp.dst hall.1)]
   exact ⟨fun f _=>Fn.fn ro f,ih' _ _ h⟩
theorem wpIn_reg {ro:Option Nat} {m:Nat} {P:Program} {n:Nat} {id:Nat} {l:List Oper} {Q:Exit->Act->World->Prop} {f:Nat->Value} {w:World}
  (hok:zb8 n l.toArray=true) (h:wl P l.toArray (fun f w=>Q .normal (fr n f) w) l f w):(Code.region id l.toArray false).wpIn (Fn ro) m P Q (fr n f) w:=by
 refine wpIn_region ?_
 have:=wpOpsIn_of_wl (ro:=ro) (m:=m) (Q:=Q) hok (fun _ _ h=>h) l 0 (by simp) f w h
 rw [List.range_eq_range']
 simpa using this
theorem wpIn_reg_draw {ro:Option Nat} {m:Nat} {P:Program} {n:Nat} {id:Nat} {l:List Oper} {Q:Exit->Act->World->Prop} {f:Nat->Value} {w:World} (qs:List Nat) (sch:List (Nat×Nat))
  (hm:P.follows .mixedOrders=true) (hok:zb8 n l.toArray=true) (hns:Region.noSelect l.toArray=true) (hlen:sch.length=l.toArray.size) (hs:schOK l.toArray qs sch (Array.replicate l.toArray.size false)=true)
  (h:ws P l.toArray qs (fun f w=>Q .normal (fr n f) w) sch f w.drew):(Code.region id l.toArray true).wpIn (Fn ro) m P Q (fr n f) w:=by
 have h1:=wpAnyE_of_ws hok hns sch _ f _ (zd1.none _ _ _) hs h
 rw [hlen] at h1
 have h2:=any_in (ro:=ro) (m:=m) no_out (zb8.noDefer hok) _ _ _ _ (zjo _ _ _ _ h1)
 refine Code.wpIn_mono ?_ (wpIn_region_any (id:=id) hm h2)
 rintro e a w' ⟨rfl,f',rfl,hk⟩
 exact hk
theorem wpIn_reg_draw2 {ro:Option Nat} {m:Nat} {P:Program} {n:Nat} {id:Nat} {l:List Oper} {Q:Exit->Act->World->Prop} {f:Nat->Value} {w:World} (qs:List Nat) (sch:List (Nat×Nat)) (i j:Nat) (ri rj:List (Nat×Nat))
  (hm:P.follows .mixedOrders=true) (hok:zb8 n l.toArray=true) (hns:Region.noSelect l.toArray=true) (hlen:ri.length+1+sch.length=l.toArray.size) (hs:schOKe l.toArray qs (schOK2 l.toArray qs i j ri rj) sch (Array.replicate l.toArray.size false)=true)
  (h:ws P l.toArray qs (fun f w=>stepT P l.toArray qs i (ws P l.toArray qs (fun f w=>Q .normal (fr n f) w) ri) f w/\stepT P l.toArray qs j (ws P l.toArray qs (fun f w=>Q .normal (fr n f) w) rj) f w) sch f w.drew) :
  (Code.region id l.toArray true).wpIn (Fn ro) m P Q (fr n f) w:=by
 have h1:=wpAnyE_of_ws2 hok hns sch _ f _ (zd1.none _ _ _) hs h
 rw [hlen] at h1
 have h2:=any_in (ro:=ro) (m:=m) no_out (zb8.noDefer hok) _ _ _ _ (zjo _ _ _ _ h1)
 refine Code.wpIn_mono ?_ (wpIn_region_any (id:=id) hm h2)
 rintro e a w' ⟨rfl,f',rfl,hk⟩
 exact hk
end Gk

/- The walk through code, over frames as functions: sequences, tests, blocks, loops, entering and leaving a function. No condition. -/
namespace Gk
open Go
def W {ro:Option Nat} (P:Program) (n:Nat) (c:Code) (Q:Exit->(Nat->Value)->World->Prop) (f:Nat->Value) (w:World):Prop :=
 c.wpIn (Fn ro) 0 P (fun e a w=>∃ f',a=fr n f'/\Q e f' w) (fr n f) w
@[reducible] def Th (N : (Nat -> Value) -> World -> Prop) (Q : Exit -> (Nat -> Value) -> World -> Prop) : Exit -> (Nat -> Value) -> World -> Prop
 | .normal, f, w => N f w
 | e, f, w => Q e f w
/-- What is asked inside block 'id'. -/
@[reducible] def Bk (id : Nat) (Q : Exit -> (Nat -> Value) -> World -> Prop) : Exit -> (Nat -> Value) -> World -> Prop
 | .exit id', f, w => cond (Nat.beq id' id) (Q .normal f w) (Q (.exit id') f w)
 | e, f, w => Q e f w
section
variable {ro : Option Nat} {P : Program} {n : Nat} {Q Q' : Exit -> (Nat -> Value) -> World -> Prop} {f : Nat -> Value} {w : World}
theorem W.mono {c : Code} (h : W (ro := ro) P n c Q f w) (hq : ∀ e f w, Q e f w -> Q' e f w) : W (ro := ro) P n c Q' f w :=
 wpIn_mono h fun e a w ⟨f', ha, q⟩ => ⟨f', ha, hq _ _ _ q⟩
theorem W_seq {x y:Code} (h:W (ro:=ro) P n x (Th (W (ro:=ro) P n y Q) Q) f w):W (ro:=ro) P n (.seq x y) Q f w:=by
 refine wpIn_seq (wpIn_mono h ?_)
 rintro e a w' ⟨f',rfl,q⟩
 cases e <;> first | exact q | exact ⟨f',rfl,q⟩
theorem W_reg {id:Nat} {l:List Oper} (hok:zb8 n l.toArray=true) (h:wl P l.toArray (Q .normal) l f w):W (ro:=ro) P n (.region id l.toArray false) Q f w:=by
 refine wpIn_reg hok ?_
 have:(fun (f:Nat->Value) w=>∃ f',fr n f=fr n f'/\Q .normal f' w)=fun f w=>∃ f',fr n f=fr n f'/\Q .normal f' w:=rfl
 exact wl_mono (fun f w q=>⟨f,rfl,q⟩) l f w h
where
 wl_mono {P:Program} {ops:Array Oper} {K K':(Nat->Value)->World->Prop} (hk:∀ f w,K f w->K' f w):∀ (l:List Oper) (f:Nat->Value) (w:World),wl P ops K l f w->wl P ops K' l f w
  | [],_,_,h=>hk _ _ h
  | o :: r,f,w,h=>by
   unfold wl at h ⊢
   split
   ·rename_i hw;rw [if_pos hw] at h;exact h.mono fun v w' h'=>wl_mono hk r _ _ h'
   ·rename_i hw;rw [if_neg hw] at h;exact wl_mono hk r _ _ h
theorem zit {ops:Array Oper} {qs:List Nat} {K K':(Nat->Value)->World->Prop} (hk:∀ f w,K f w->K' f w):∀ (l:List (Nat×Nat)) (f:Nat->Value) (w:World),ws P ops qs K l f w->ws P ops qs K' l f w
 | [],_,_,h=>hk _ _ h
 | (i,t) :: r,f,w,h=>by
  unfold ws at h ⊢
  cases ho:ops[i]? with
  | none=>rw [ho] at h;exact h.elim
  | some o =>
   rw [ho] at h
   dsimp only at h ⊢
   by_cases hw:wantF ops f o=true
   ·rw [if_pos hw] at h ⊢
    match t,h with
    | 0,⟨v,hv,h'⟩=>exact ⟨v,hv,zit hk r _ _ h'⟩
    | 1,⟨v,hv,h'⟩=>exact ⟨v,hv,zit hk r _ _ h'⟩
    | t+2,h=>exact Stp.mono h fun v w' h'=>⟨h'.1,zit hk r _ _ h'.2⟩
   ·rw [if_neg hw] at h ⊢
    exact zit hk r _ _ h
theorem zba {id:Nat} {l:List Oper} (qs:List Nat) (sch:List (Nat×Nat)) (hm:P.follows .mixedOrders=true) (hok:zb8 n l.toArray=true) (hns:Region.noSelect l.toArray=true)
  (hlen:sch.length=l.toArray.size) (hs:schOK l.toArray qs sch (Array.replicate l.toArray.size false)=true)
  (h:ws P l.toArray qs (Q .normal) sch f w.drew):W (ro:=ro) P n (.region id l.toArray true) Q f w :=
 wpIn_reg_draw qs sch hm hok hns hlen hs (zit (fun f _ q=>⟨f,rfl,q⟩) _ _ _ h)
theorem stepT_of_ws {ops:Array Oper} {qs:List Nat} {K K':(Nat->Value)->World->Prop} (hk:∀ f w,K f w->K' f w) {i:Nat} {r:List (Nat×Nat)} (h:ws P ops qs K ((i,2) :: r) f w):stepT P ops qs i (ws P ops qs K' r) f w:=by
 unfold ws at h
 unfold stepT
 cases ho:ops[i]? with
 | none=>rw [ho] at h;exact h
 | some o =>
  rw [ho] at h
  dsimp only at h ⊢
  by_cases hw:wantF ops f o=true
  ·rw [if_pos hw] at h ⊢
   exact Stp.mono h fun v w' h'=>⟨h'.1,zit hk r _ _ h'.2⟩
  ·rw [if_neg hw] at h ⊢
   exact zit hk r _ _ h
theorem W_draw2 {id:Nat} {l:List Oper} (qs:List Nat) (sch:List (Nat×Nat)) (i j:Nat) (ri rj:List (Nat×Nat)) (hm:P.follows .mixedOrders=true) (hok:zb8 n l.toArray=true) (hns:Region.noSelect l.toArray=true)
  (hlen:ri.length+1+sch.length=l.toArray.size) (hs:schOKe l.toArray qs (schOK2 l.toArray qs i j ri rj) sch (Array.replicate l.toArray.size false)=true)
  (h:ws P l.toArray qs (fun f w=>ws P l.toArray qs (Q .normal) ((i,2) :: ri) f w/\ws P l.toArray qs (Q .normal) ((j,2) :: rj) f w) sch f w.drew):W (ro:=ro) P n (.region id l.toArray true) Q f w :=
 wpIn_reg_draw2 qs sch i j ri rj hm hok hns hlen hs (zit (fun f _ q=>⟨stepT_of_ws (fun f _ q=>⟨f,rfl,q⟩) q.1,stepT_of_ws (fun f _ q=>⟨f,rfl,q⟩) q.2⟩) _ _ _ h)
theorem zae (h:Q .normal f w):W (ro:=ro) P n .skip Q f w:=wpIn_skip ⟨f,rfl,h⟩
theorem zar {id:Nat} (h:Q (.exit id) f w):W (ro:=ro) P n (.exit id) Q f w:=wpIn_exit ⟨f,rfl,h⟩
theorem W_ret (h:Q .ret f w):W (ro:=ro) P n .ret Q f w:=wpIn_ret ⟨f,rfl,h⟩
theorem zam {c:Operand} {x y:Code} (b:Bool) (ho:okO n c=true) (hc:ev f c=.bool b) (ht:b=true->W (ro:=ro) P n x Q f w) (hf:b=false->W (ro:=ro) P n y Q f w):W (ro:=ro) P n (.cond c x y) Q f w :=
 wpIn_cond_split (t:=b) (by rw [fr_eval n f c ho];exact hc) ht hf
theorem zac {id:Nat} {c:Code} (h:W (ro:=ro) P n c (Bk id Q) f w):W (ro:=ro) P n (.block id c) Q f w:=by
 refine wpIn_block (wpIn_mono h ?_)
 rintro e a w' ⟨f',rfl,q⟩
 cases e with
 | exit id' =>
  simp only [Exit.inBlock,Bk] at *
  by_cases hid:id'=id
  ·rw [if_pos hid]
   subst hid
   have:Nat.beq id' id'=true:=by simp
   rw [this] at q
   exact ⟨f',rfl,q⟩
  ·rw [if_neg hid]
   have:Nat.beq id' id=false:=by
    cases h':Nat.beq id' id
    ·rfl
    ·exact absurd (Nat.eq_of_beq_eq_true h') hid
   rw [this] at q
   exact ⟨f',rfl,q⟩
 | _=>exact ⟨f',rfl,q⟩
theorem W_mid (A:(Nat->Value)->World->Prop) {x:Code} (h:W (ro:=ro) P n x (Th A Q) f w) (hy:∀ f w,A f w->Q .normal f w):W (ro:=ro) P n x Q f w :=
 h.mono fun e f w q=>by cases e <;> first | exact hy _ _ q | exact q
theorem W_th {y:Code} (h:W (ro:=ro) P n y Q f w):Th (W (ro:=ro) P n y Q) Q' .normal f w:=h
theorem th_x {N:(Nat->Value)->World->Prop} {id:Nat} (h:Q (.exit id) f w):Th N Q (.exit id) f w:=h
theorem th_r {N:(Nat->Value)->World->Prop} (h:Q .ret f w):Th N Q .ret f w:=h
theorem bk_n {id:Nat} (h:Q .normal f w):Bk id Q .normal f w:=h
theorem bk_r {id:Nat} (h:Q .ret f w):Bk id Q .ret f w:=h
theorem bk_x {id:Nat} (h:Q .normal f w):Bk id Q (.exit id) f w:=by
 show cond (Nat.beq id id) _ _
 have:Nat.beq id id=true:=by simp
 rw [this];exact h
def iterN {S X:Type} (body:S->Option (S⊕X)):Nat->S->Option X
 | 0,_=>none
 | k+1,s=>match body s with
  | none=>none
  | some (.inl s')=>iterN body k s'
  | some (.inr x)=>some x
theorem iterN_mono {S X:Type} (body:S->Option (S⊕X)):∀ (k:Nat) (s:S) (x:X),iterN body k s=some x->∀ m,k<=m->iterN body m s=some x
 | 0,_,_,h,_,_=>by simp [iterN] at h
 | k+1,s,x,h,m,hm=>by
  obtain ⟨m,rfl⟩:∃ j,m=j+1:=⟨m - 1,by omega⟩
  unfold iterN at h ⊢
  cases hb:body s with
  | none=>rw [hb] at h;cases h
  | some r =>
   rw [hb] at h
   cases r with
   | inl s'=>exact iterN_mono body k s' x h m (by omega)
   | inr y=>exact h
noncomputable def iterC {S X:Type} (a:S->Option (S⊕X)) (d:S):Option X :=
 @dite _ (∃ c e,iterN a c d=some e) (Classical.propDecidable _) (fun b=>some (Classical.choose (Classical.choose_spec b))) (fun _=>none)
theorem zec {S X:Type} {body:S->Option (S⊕X)} {s:S} {x:X}:iterC body s=some x ↔ ∃k,iterN body k s=some x:=by
 unfold iterC
 constructor
 ·intro h
  split at h
  ·rename_i h'
   exact ⟨_,by rw [← h];exact Classical.choose_spec (Classical.choose_spec h')⟩
  ·cases h
 ·rintro ⟨k,hk⟩
  have h':∃ k x,iterN body k s=some x:=⟨k,x,hk⟩
  rw [dif_pos h']
  have h2:=Classical.choose_spec (Classical.choose_spec h')
  have h3:=iterN_mono body _ _ _ h2 (max (Classical.choose h') k) (by omega)
  have h4:=iterN_mono body _ _ _ hk (max (Classical.choose h') k) (by omega)
  rw [h3] at h4
  exact h4
theorem zbq {S X:Type} (body:S->Option (S⊕X)) (s:S) :
  iterC body s=(body s).bind fun | .inl s'=>iterC body s' | .inr x=>some x:=by
 apply Option.ext
 intro x
 rw [zec]
 constructor
 ·rintro ⟨k,hk⟩
  cases k with
  | zero=>simp [iterN] at hk
  | succ k =>
   unfold iterN at hk
   cases hb:body s with
   | none=>rw [hb] at hk;cases hk
   | some r =>
    rw [hb] at hk
    cases r with
    | inl s'=>simp only [obs];exact zec.2 ⟨k,hk⟩
    | inr y=>simpa using hk
 ·intro h
  cases hb:body s with
  | none=>rw [hb] at h;cases h
  | some r =>
   rw [hb] at h
   cases r with
   | inl s' =>
    simp only [obs] at h
    obtain ⟨k,hk⟩:=zec.1 h
    exact ⟨k+1,by unfold iterN;rw [hb];exact hk⟩
   | inr y=>exact ⟨1,by unfold iterN;rw [hb];simpa using h⟩
theorem zau {S X:Type} {body:S->Option (S⊕X)} (Inv:S->(Nat->Value)->World->Prop) {x:X} {s0:S} {c:Code} (H:iterC body s0=some x) (h0:Inv s0 f w)
  (round:∀ s r f w,Inv s f w->body s=some r->(∀ y,r=.inr y->y=x)->W (ro:=ro) P n c (Th (fun f' w'=>∃ s',r=.inl s'/\Inv s' f' w') Q) f w):W (ro:=ro) P n (.loop c) Q f w:=by
 obtain ⟨k,hk⟩:=zec.1 H
 refine wpIn_loop_ghost (fun k a w=>∃ s f,a=fr n f/\Inv s f w/\iterN body k s=some x) k ⟨s0,f,rfl,h0,hk⟩ ?_
 rintro k a w ⟨s,f,rfl,hI,hk⟩
 cases k with
 | zero=>simp [iterN] at hk
 | succ k =>
  cases hb:body s with
  | none=>unfold iterN at hk;rw [hb] at hk;cases hk
  | some r =>
   have hr:∀ y,r=.inr y->y=x:=by
    rintro y rfl
    unfold iterN at hk
    rw [hb] at hk
    simpa using hk
   refine wpIn_mono (round s r f w hI hb hr) ?_
   rintro e a' w' ⟨f',rfl,q⟩
   cases e with
   | normal =>
    obtain ⟨s',rfl,hI'⟩:=q
    refine ⟨k,by omega,s',f',rfl,hI',?_⟩
    unfold iterN at hk
    rw [hb] at hk
    exact hk
   | _=>exact ⟨f',rfl,q⟩
theorem W_loopG (Inv:Nat->(Nat->Value)->World->Prop) (k:Nat) {c:Code} (h0:Inv k f w)
  (round:∀ k f w,Inv k f w->W (ro:=ro) P n c (Th (fun f' w'=>∃ k',k'<k/\Inv k' f' w') Q) f w):W (ro:=ro) P n (.loop c) Q f w:=by
 refine wpIn_loop_ghost (fun k a w=>∃ f,a=fr n f/\Inv k f w) k ⟨f,rfl,h0⟩ ?_
 rintro k a w ⟨f,rfl,hI⟩
 refine wpIn_mono (round k f w hI) ?_
 rintro e a' w' ⟨f',rfl,q⟩
 cases e with
 | normal =>
  obtain ⟨k',hk,hI'⟩:=q
  exact ⟨k',hk,f',rfl,hI'⟩
 | _=>exact ⟨f',rfl,q⟩
theorem argsF_get:∀ (l:List Value) (t:Nat),argsF l t=(l[t]?).getD undef
 | [],t=>by simp [argsF]
 | v :: r,t=>by
  unfold argsF
  cases t with
  | zero=>rfl
  | succ t =>
   have:Nat.beq (t+1) 0=false:=rfl
   rw [this]
   simp [argsF_get r t]
theorem frame_args (l:List Value) (n:Nat) (h:l.length<=n):({ tmps:=l.toArray ++ Array.replicate (n - l.toArray.size) undef,defers:=[] }:Act)=fr n (argsF l):=by
 have:l.toArray ++ Array.replicate (n - l.toArray.size) undef=(fr n (argsF l)).tmps:=by
  apply Array.ext_getElem?
  intro i
  rw [Array.getElem?_append]
  by_cases hi:i<n
  ·rw [fr_get n _ i hi,argsF_get]
   by_cases h1:i<l.length
   ·rw [if_pos (by simpa using h1)];simp [h1]
   ·rw [if_neg (by simpa using h1),Array.getElem?_replicate,if_pos (by simp;omega)]
    simp [List.getElem?_eq_none (Nat.le_of_not_lt h1)]
  ·rw [zj8 n _ i (by omega),if_neg (by simp;omega),Array.getElem?_replicate,if_neg (by simp;omega)]
 have hd:dec (argsF l n)=[]:=by
  rw [argsF_get,List.getElem?_eq_none h];rfl
 rw [this]
 simp only [fr,hd]
abbrev mk2 (D D':Nat):Value:=.agg #[.pointer (some ⟨D,0,none⟩),.pointer (some ⟨D',0,none⟩)]
def Rt (P:Program) (fn:Func) (n:Nat) (R:Ending->World->Prop):Exit->(Nat->Value)->World->Prop
 | .normal,f,w | .ret,f,w =>
  (dec (f n)=[]/\∃ v,(results fn (fr n f).tmps).run P w=.ok v w/\R (.returned v) w) ∨
  (∃ D,f n=.pointer (some ⟨D,0,none⟩)/\w.heap[D]?=some (.deferred (some []))/\∃ v,(results fn (fr n f).tmps).run P (w.putObj D (.deferred none))=.ok v (w.putObj D (.deferred none))/\R (.returned v) (w.putObj D (.deferred none))) ∨
  (∃ D D',f n=mk2 D D'/\D≠D'/\w.heap[D]?=some (.deferred (some []))/\w.heap[D']?=some (.deferred (some []))/\∃ v,(results fn (fr n f).tmps).run P ((w.putObj D (.deferred none)).putObj D' (.deferred none))=.ok v ((w.putObj D (.deferred none)).putObj D' (.deferred none))/\R (.returned v) ((w.putObj D (.deferred none)).putObj D' (.deferred none)))
 | _,_,_=>False
theorem zai {g:FuncId} {fn:Func} {c:Code} {l:List Value} {R:Ending->World->Prop} (hf:P.funcs[g]?=some fn) (hb:fn.body=some c) (hn:fn.ntmps=n) (hl:Nat.ble l.length n=true)
  (h:W (ro:=none) P n c (Rt P fn n R) (argsF l) w):Calls P g l.toArray w R:=by
 refine (callsIn_wide (n:=0)).1 (callsIn_of_wp_marks hf hb trivial ?_ rfl)
 rw [hn,frame_args l n (Nat.le_of_ble_eq_true hl)]
 refine wpIn_mono h ?_
 rintro e a w' ⟨f',rfl,q⟩
 have key:Rt P fn n R .ret f' w'->LeavesInM Fence.wide 0 P fn (fr n f').tmps R (fr n f').defers .returning w':=by
  rintro (⟨h0,v,hv,hR⟩ | ⟨D,hD,hK,v,hv,hR⟩ | ⟨D,D',hD,hne,hK,hK',v,hv,hR⟩)
  ·show LeavesInM Fence.wide 0 P fn (fr n f').tmps R (dec (f' n)) .returning w'
   rw [h0]
   exact ⟨v,hv,hR⟩
  ·show LeavesInM Fence.wide 0 P fn (fr n f').tmps R (dec (f' n)) .returning w'
   rw [hD]
   exact ⟨by simp,.inl ⟨D,_,rfl,run_takeDeferred hK,⟨v,hv,hR⟩⟩⟩
  ·show LeavesInM Fence.wide 0 P fn (fr n f').tmps R (dec (f' n)) .returning w'
   rw [hD]
   have hK2:(w'.putObj D (.deferred none)).heap[D']?=some (.deferred (some [])):=(World.putObj_heap_other (Ne.symm hne)).trans hK'
   exact ⟨by simp,.inl ⟨D,_,rfl,run_takeDeferred hK,by simp,.inl ⟨D',_,rfl,run_takeDeferred hK2,⟨v,hv,hR⟩⟩⟩⟩
 cases e <;> first | exact q.elim | exact key q
theorem zeo (n:Nat) (f:Nat->Value) (t:Nat) (h:Nat.blt t n=true):(fr n f).tmps.getD t undef=f t:=by
 rw [Array.getD_eq_getD_getElem?,fr_get n f t (by simpa using h)];rfl
theorem rt0 {fn:Func} {R:Ending->World->Prop} (hr:fn.results=#[]) (hm:f n=undef) (h:R (.returned (.tuple #[])) w):Rt P fn n R .ret f w :=
 .inl ⟨by rw [hm];rfl,_,results_none hr _ _ _,h⟩
theorem rt1 {fn:Func} {R:Ending->World->Prop} {t:Nat} (v:Value) (hr:fn.results=#[.tmp t]) (ht:Nat.blt t n=true) (hv:f t=v) (hm:f n=undef) (h:R (.returned v) w):Rt P fn n R .ret f w :=
 .inl ⟨by rw [hm];rfl,v,by rw [results_tmp hr,zeo n f t ht,hv],h⟩
theorem rt2 {fn:Func} {R:Ending->World->Prop} {t u:Nat} (v1 v2:Value) (hr:fn.results=#[.tmp t,.tmp u]) (ht:Nat.blt t n=true) (hu:Nat.blt u n=true) (hv1:f t=v1) (hv2:f u=v2)
  (hm:f n=undef) (h:R (.returned (.tuple #[v1,v2])) w):Rt P fn n R .ret f w :=
 .inl ⟨by rw [hm];rfl,_,by rw [results_tmp2 hr,zeo n f t ht,zeo n f u hu,hv1,hv2],h⟩
theorem rt3 {fn:Func} {R:Ending->World->Prop} {t u s:Nat} (v1 v2 v3:Value) (hr:fn.results=#[.tmp t,.tmp u,.tmp s]) (ht:Nat.blt t n=true) (hu:Nat.blt u n=true) (hs:Nat.blt s n=true) (hv1:f t=v1) (hv2:f u=v2) (hv3:f s=v3)
  (hm:f n=undef) (h:R (.returned (.tuple #[v1,v2,v3])) w):Rt P fn n R .ret f w :=
 .inl ⟨by rw [hm];rfl,_,by simp [results,hr,← Array.getD_eq_getD_getElem?,zeo n f t ht,zeo n f u hu,zeo n f s hs,hv1,hv2,hv3],h⟩
theorem rtn {fn:Func} {R:Ending->World->Prop} (h:Rt P fn n R .ret f w):Rt P fn n R .normal f w:=h
end
section
variable {P : Program} {ops : Array Oper} {K : (Nat → Value) → World → Prop} {r : List Oper} {o : Oper} {f : Nat → Value} {w : World}
theorem zag (h:K f w):wl P ops K [] f w:=h
theorem wl_stp (hw:wantF ops f o=true) (h:Stp P o f w fun v w'=>wl P ops K r (updO f o.dst v) w'):wl P ops K (o :: r) f w:=by
 unfold wl;rw [if_pos hw];exact .inl h
theorem wl_yield {l:Nat} {g:FuncId} {tmps:Array Value} {assign body:Code} (hw:wantF ops f o=true) (hy:(execOp (ev f) o).run P w=.ok (.round l g tmps assign body) w)
  (h:RoundIn Fence.wide 0 P l g tmps assign body w fun e w'=>∃ v,e=.returned v/\wl P ops K r (updO f o.dst v) w'):wl P ops K (o :: r) f w:=by
 unfold wl;rw [if_pos hw];exact .inr ⟨l,g,tmps,assign,body,hy,h⟩
theorem wl_skip (hw:wantF ops f o=false) (h:wl P ops K r (updO f o.dst undef) w):wl P ops K (o :: r) f w:=by
 unfold wl;rw [if_neg (by rw [hw];simp)];exact h
theorem wl_q {v:Value} (hw:wantF ops f o=true) (hq:Qt P o f w v) (h:wl P ops K r (updO f o.dst v) w):wl P ops K (o :: r) f w :=
 wl_stp hw (hq.stp h)
theorem wl_a {v:Value} (hw:wantF ops f o=true) (hq:Qa P o f v) (h:wl P ops K r (updO f o.dst v) w):wl P ops K (o :: r) f w :=
 wl_stp hw ((hq.qt w).stp h)
end
section
variable {P : Program} {ops : Array Oper} {qs : List Nat} {K : (Nat → Value) → World → Prop} {r : List (Nat × Nat)} {i : Nat} {o : Oper} {f : Nat → Value} {w : World}
theorem za1 (h:K f w):ws P ops qs K [] f w:=h
theorem ws_a {v:Value} (ho:ops[i]?=some o) (hw:wantF ops f o=true) (hq:Qa P o f v) (h:ws P ops qs K r (updO f o.dst v) w):ws P ops qs K ((i,0) :: r) f w:=by
 unfold ws;rw [ho];dsimp only;rw [if_pos hw];exact ⟨v,hq,h⟩
theorem ws_q {v:Value} (ho:ops[i]?=some o) (hw:wantF ops f o=true) (hq:Qt P o f w v) (h:ws P ops qs K r (updO f o.dst v) w):ws P ops qs K ((i,1) :: r) f w:=by
 unfold ws;rw [ho];dsimp only;rw [if_pos hw];exact ⟨v,hq,h⟩
theorem ws_stp (ho:ops[i]?=some o) (hw:wantF ops f o=true) (h:Stp P o f w fun v w'=>(Ext w w'∨zfh .any ops qs i=true)/\ws P ops qs K r (updO f o.dst v) w'):ws P ops qs K ((i,2) :: r) f w:=by
 unfold ws;rw [ho];dsimp only;rw [if_pos hw];exact h
theorem ws_skip {t:Nat} (ho:ops[i]?=some o) (hw:wantF ops f o=false) (h:ws P ops qs K r (updO f o.dst undef) w):ws P ops qs K ((i,t) :: r) f w:=by
 unfold ws;rw [ho];dsimp only;rw [if_neg (by rw [hw];simp)];exact h
end
end Gk

/- What the operations that only compute come to: numbers, tests, tuples. No condition. -/
namespace Gk
open Go
def u8 (x:UInt8):Value:=.int .u8 (x.toNat:Int)
def u32 (x:UInt32):Value:=.int .u32 (x.toNat:Int)
def u64 (x:UInt64):Value:=.int .u64 (x.toNat:Int)
def i64 (x:Int):Value:=.int .i64 x
def bl (b:Bool):Value:=.bool b
def str (l:List UInt8):Value:=.string ⟨l.toArray⟩
def wI (x:Int):Int:=IntKind.i64.wrap x
theorem wI_of {x:Int} (h:-9223372036854775808<=x) (h':x<=9223372036854775807):wI x=x:=by
 simp only [wI,IntKind.wrap,IntKind.signed,IntKind.bits]
 simp
 omega
section
variable {P : Program} {o : Oper} {f : Nat → Value}
theorem zbd {x:Operand} {v:Value} (ho:o.op=.move x) (hx:ev f x=v):Qa P o f v:=by
 intro w;simp [execOp,ho,hx]
theorem zat {x:Operand} {v:Value} (ho:o.op=.assign x) (hx:ev f x=v):Qa P o f v:=by
 intro w;simp [execOp,ho,hx]
theorem zaw {c a b:Operand} {v:Value} (ho:o.op=.pick c a b) (hc:ev f c=.bool true) (ha:ev f a=v):Qa P o f v:=by
 intro w;simp [execOp,ho,hc,ha,asBool]
theorem zaq {c a b:Operand} {v:Value} (ho:o.op=.pick c a b) (hc:ev f c=.bool false) (hb:ev f b=v):Qa P o f v:=by
 intro w;simp [execOp,ho,hc,hb,asBool]
theorem zah {x:Operand} {i:Nat} {vs:Array Value} {v:Value} (ho:o.op=.extract x i) (hx:ev f x=.tuple vs) (hv:vs[i]?=some v):Qa P o f v:=by
 intro w;simp [execOp,ho,hx,Instr.extract,hv]
theorem q_not {t:TypeId} {x:Operand} {b:Bool} (ho:o.op=.unOp .not t x) (hx:ev f x=.bool b):Qa P o f (.bool !b):=by
 intro w;simp [execOp,ho,hx,Op.unary]
section
variable {x y : Operand} {t t' : TypeId} {a b : Int}
theorem zak (ho:o.op=.binOp .add t x y t') (hx:ev f x=i64 a) (hy:ev f y=i64 b):Qa P o f (i64 (wI (a+b))):=by
 intro w;simp [execOp,ho,hx,hy,i64,eqGuard,binOp,Op.intArith,wI]
theorem za9 (ho:o.op=.binOp .sub t x y t') (hx:ev f x=i64 a) (hy:ev f y=i64 b):Qa P o f (i64 (wI (a - b))):=by
 intro w;simp [execOp,ho,hx,hy,i64,eqGuard,binOp,Op.intArith,wI]
theorem zco (ho:o.op=.binOp .mul t x y t') (hx:ev f x=i64 a) (hy:ev f y=i64 b):Qa P o f (i64 (wI (a * b))):=by
 intro w;simp [execOp,ho,hx,hy,i64,eqGuard,binOp,Op.intArith,wI]
theorem q_ltI (ho:o.op=.binOp .lss t x y t') (hx:ev f x=i64 a) (hy:ev f y=i64 b):Qa P o f (.bool (decide (a<b))):=by
 intro w;simp [execOp,ho,hx,hy,i64,eqGuard,binOp,Op.intCmp]
theorem q_leI (ho:o.op=.binOp .leq t x y t') (hx:ev f x=i64 a) (hy:ev f y=i64 b):Qa P o f (.bool (decide (a<=b))):=by
 intro w;simp [execOp,ho,hx,hy,i64,eqGuard,binOp,Op.intCmp]
theorem q_gtI (ho:o.op=.binOp .gtr t x y t') (hx:ev f x=i64 a) (hy:ev f y=i64 b):Qa P o f (.bool (decide (b<a))):=by
 intro w;simp [execOp,ho,hx,hy,i64,eqGuard,binOp,Op.intCmp]
theorem q_geI (ho:o.op=.binOp .geq t x y t') (hx:ev f x=i64 a) (hy:ev f y=i64 b):Qa P o f (.bool (decide (b<=a))):=by
 intro w;simp [execOp,ho,hx,hy,i64,eqGuard,binOp,Op.intCmp]
theorem q_eqI (ho:o.op=.binOp .eql t x y t') (hx:ev f x=i64 a) (hy:ev f y=i64 b):Qa P o f (.bool (decide (a=b))):=by
 intro w;simp [execOp,ho,hx,hy,i64,eqGuard,binOp,Op.intCmp];rfl
theorem q_neI (ho:o.op=.binOp .neq t x y t') (hx:ev f x=i64 a) (hy:ev f y=i64 b):Qa P o f (.bool (!decide (a=b))):=by
 intro w;simp [execOp,ho,hx,hy,i64,eqGuard,binOp,Op.intCmp];rfl
end
theorem wrap_u8 (n:Int):IntKind.u8.wrap n=n % 256:=by
 simp [IntKind.wrap,IntKind.signed,IntKind.bits]
theorem bv_u8 (a:UInt8):BitVec.ofInt IntKind.u8.bits (a.toNat:Int)=a.toBitVec:=by
 apply BitVec.eq_of_toNat_eq
 simp [IntKind.bits]
theorem back_u8 (r:UInt8):IntKind.u8.wrap ((r.toBitVec.toNat:Nat):Int)=(r.toNat:Int):=by
 rw [wrap_u8]
 have:=r.toNat_lt
 have h:r.toBitVec.toNat=r.toNat:=rfl
 rw [h]
 omega
section
variable {x y : Operand} {t t' : TypeId} {a b : UInt8}
theorem zdb (ho:o.op=.binOp .xor t x y t') (hx:ev f x=u8 a) (hy:ev f y=u8 b):Qa P o f (u8 (a^^^b)):=by
 intro w
 have h:=back_u8 (a^^^b)
 rw [UInt8.toBitVec_xor,← bv_u8,← bv_u8] at h
 unfold execOp;rw [ho];dsimp only;rw [hx,hy];exact congrArg (fun n:Int=>(Result.ok (Next.value (Value.int .u8 n)) w:Result Next)) h
theorem q_and8 (ho:o.op=.binOp .and t x y t') (hx:ev f x=u8 a) (hy:ev f y=u8 b):Qa P o f (u8 (a &&& b)):=by
 intro w
 have h:=back_u8 (a &&& b)
 rw [UInt8.toBitVec_and,← bv_u8,← bv_u8] at h
 unfold execOp;rw [ho];dsimp only;rw [hx,hy];exact congrArg (fun n:Int=>(Result.ok (Next.value (Value.int .u8 n)) w:Result Next)) h
theorem q_or8 (ho:o.op=.binOp .or t x y t') (hx:ev f x=u8 a) (hy:ev f y=u8 b):Qa P o f (u8 (a ||| b)):=by
 intro w
 have h:=back_u8 (a ||| b)
 rw [UInt8.toBitVec_or,← bv_u8,← bv_u8] at h
 unfold execOp;rw [ho];dsimp only;rw [hx,hy];exact congrArg (fun n:Int=>(Result.ok (Next.value (Value.int .u8 n)) w:Result Next)) h
theorem q_add8 (ho:o.op=.binOp .add t x y t') (hx:ev f x=u8 a) (hy:ev f y=u8 b):Qa P o f (u8 (a+b)):=by
 intro w
 have h:IntKind.u8.wrap ((a.toNat:Int)+(b.toNat:Int))=((a+b).toNat:Int):=by
  rw [wrap_u8,UInt8.toNat_add];omega
 unfold execOp;rw [ho];dsimp only;rw [hx,hy];exact congrArg (fun n:Int=>(Result.ok (Next.value (Value.int .u8 n)) w:Result Next)) h
theorem q_rem8 (ho:o.op=.binOp .rem t x y t') (hx:ev f x=u8 a) (hy:ev f y=u8 b) (h0:b≠0):Qa P o f (u8 (a % b)):=by
 intro w
 have h:((a.toNat:Int).tmod (b.toNat:Int))=((a % b).toNat:Int):=by
  rw [UInt8.toNat_mod,← Int.ofNat_tmod]
 have h1:¬ ((b.toNat:Int)=0):=fun e=>h0 (UInt8.toNat_inj.1 (by simpa using e))
 unfold execOp;rw [ho];dsimp only;rw [hx,hy]
 simp only [u8,eqGuard,binOp,Op.intDiv,if_neg h1,h]
 rfl
theorem eqd_u8 (a b:UInt8):((a.toNat:Int) == (b.toNat:Int))=decide (a=b):=by
 by_cases h:a=b
 ·subst h;simp
 ·have:¬ ((a.toNat:Int)=(b.toNat:Int)):=fun e=>h (UInt8.toNat_inj.1 (by exact_mod_cast e))
  simp [h,this]
theorem q_eq8 (ho:o.op=.binOp .eql t x y t') (hx:ev f x=u8 a) (hy:ev f y=u8 b):Qa P o f (.bool (decide (a=b))):=by
 intro w
 have h:=eqd_u8 a b
 simp only [execOp,ho,hx,hy,u8,eqGuard,binOp,Op.intCmp]
 simp only [Sem.run_bind,Sem.run_pure,Result.andThen_ok,h,ne_eq,not_true_eq_false,if_false,bne]
 simp [h]
theorem q_ne8 (ho:o.op=.binOp .neq t x y t') (hx:ev f x=u8 a) (hy:ev f y=u8 b):Qa P o f (.bool (!decide (a=b))):=by
 intro w
 have h:=eqd_u8 a b
 simp only [execOp,ho,hx,hy,u8,eqGuard,binOp,Op.intCmp]
 simp only [Sem.run_bind,Sem.run_pure,Result.andThen_ok,h,ne_eq,not_true_eq_false,if_false,bne]
 simp [h]
end
theorem wrap_u32 (n:Int):IntKind.u32.wrap n=n % 4294967296:=by
 simp [IntKind.wrap,IntKind.signed,IntKind.bits]
theorem bv_u32 (a:UInt32):BitVec.ofInt IntKind.u32.bits (a.toNat:Int)=a.toBitVec:=by
 apply BitVec.eq_of_toNat_eq
 simp [IntKind.bits]
theorem back_u32 (r:UInt32):IntKind.u32.wrap ((r.toBitVec.toNat:Nat):Int)=(r.toNat:Int):=by
 rw [wrap_u32]
 have:=r.toNat_lt
 have h:r.toBitVec.toNat=r.toNat:=rfl
 rw [h]
 omega
section
variable {x y : Operand} {t t' : TypeId} {a b : UInt32}
theorem zdy (ho:o.op=.binOp .xor t x y t') (hx:ev f x=u32 a) (hy:ev f y=u32 b):Qa P o f (u32 (a^^^b)):=by
 intro w
 have h:=back_u32 (a^^^b)
 rw [UInt32.toBitVec_xor,← bv_u32,← bv_u32] at h
 unfold execOp;rw [ho];dsimp only;rw [hx,hy];exact congrArg (fun n:Int=>(Result.ok (Next.value (Value.int .u32 n)) w:Result Next)) h
theorem ziy (ho:o.op=.binOp .and t x y t') (hx:ev f x=u32 a) (hy:ev f y=u32 b):Qa P o f (u32 (a &&& b)):=by
 intro w
 have h:=back_u32 (a &&& b)
 rw [UInt32.toBitVec_and,← bv_u32,← bv_u32] at h
 unfold execOp;rw [ho];dsimp only;rw [hx,hy];exact congrArg (fun n:Int=>(Result.ok (Next.value (Value.int .u32 n)) w:Result Next)) h
theorem q_or32 (ho:o.op=.binOp .or t x y t') (hx:ev f x=u32 a) (hy:ev f y=u32 b):Qa P o f (u32 (a ||| b)):=by
 intro w
 have h:=back_u32 (a ||| b)
 rw [UInt32.toBitVec_or,← bv_u32,← bv_u32] at h
 unfold execOp;rw [ho];dsimp only;rw [hx,hy];exact congrArg (fun n:Int=>(Result.ok (Next.value (Value.int .u32 n)) w:Result Next)) h
theorem zdc (ho:o.op=.binOp .add t x y t') (hx:ev f x=u32 a) (hy:ev f y=u32 b):Qa P o f (u32 (a+b)):=by
 intro w
 have h:IntKind.u32.wrap ((a.toNat:Int)+(b.toNat:Int))=((a+b).toNat:Int):=by
  rw [wrap_u32,UInt32.toNat_add];omega
 unfold execOp;rw [ho];dsimp only;rw [hx,hy];exact congrArg (fun n:Int=>(Result.ok (Next.value (Value.int .u32 n)) w:Result Next)) h
theorem eqd_u32 (a b:UInt32):((a.toNat:Int) == (b.toNat:Int))=decide (a=b):=by
 by_cases h:a=b
 ·subst h;simp
 ·have:¬ ((a.toNat:Int)=(b.toNat:Int)):=fun e=>h (UInt32.toNat_inj.1 (by exact_mod_cast e))
  simp [h,this]
theorem q_ne32 (ho:o.op=.binOp .neq t x y t') (hx:ev f x=u32 a) (hy:ev f y=u32 b):Qa P o f (.bool (!decide (a=b))):=by
 intro w
 have h:=eqd_u32 a b
 simp only [execOp,ho,hx,hy,u32,eqGuard,binOp,Op.intCmp]
 simp only [Sem.run_bind,Sem.run_pure,Result.andThen_ok,h,ne_eq,not_true_eq_false,if_false,bne]
 simp [h]
end
theorem zj2 (n:Int):IntKind.u64.wrap n=n % 18446744073709551616:=by
 simp [IntKind.wrap,IntKind.signed,IntKind.bits]
theorem bv_u64 (a:UInt64):BitVec.ofInt IntKind.u64.bits (a.toNat:Int)=a.toBitVec:=by
 apply BitVec.eq_of_toNat_eq
 simp [IntKind.bits]
theorem back_u64 (r:UInt64):IntKind.u64.wrap ((r.toBitVec.toNat:Nat):Int)=(r.toNat:Int):=by
 rw [zj2]
 have:=r.toNat_lt
 have h:r.toBitVec.toNat=r.toNat:=rfl
 rw [h]
 omega
section
variable {x y : Operand} {t t' : TypeId} {a b : UInt64}
theorem q_or64 (ho:o.op=.binOp .or t x y t') (hx:ev f x=u64 a) (hy:ev f y=u64 b):Qa P o f (u64 (a ||| b)):=by
 intro w
 have h:=back_u64 (a ||| b)
 rw [UInt64.toBitVec_or,← bv_u64,← bv_u64] at h
 unfold execOp;rw [ho];dsimp only;rw [hx,hy];exact congrArg (fun n:Int=>(Result.ok (Next.value (Value.int .u64 n)) w:Result Next)) h
theorem q_add64 (ho:o.op=.binOp .add t x y t') (hx:ev f x=u64 a) (hy:ev f y=u64 b):Qa P o f (u64 (a+b)):=by
 intro w
 have h:IntKind.u64.wrap ((a.toNat:Int)+(b.toNat:Int))=((a+b).toNat:Int):=by
  rw [zj2,UInt64.toNat_add];omega
 unfold execOp;rw [ho];dsimp only;rw [hx,hy];exact congrArg (fun n:Int=>(Result.ok (Next.value (Value.int .u64 n)) w:Result Next)) h
theorem q_mul64 (ho:o.op=.binOp .mul t x y t') (hx:ev f x=u64 a) (hy:ev f y=u64 b):Qa P o f (u64 (a * b)):=by
 intro w
 have h:IntKind.u64.wrap ((a.toNat:Int) * (b.toNat:Int))=((a * b).toNat:Int):=by
  rw [zj2,UInt64.toNat_mul];simp
 unfold execOp;rw [ho];dsimp only;rw [hx,hy];exact congrArg (fun n:Int=>(Result.ok (Next.value (Value.int .u64 n)) w:Result Next)) h
theorem q_rem64 (ho:o.op=.binOp .rem t x y t') (hx:ev f x=u64 a) (hy:ev f y=u64 b) (h0:b≠0):Qa P o f (u64 (a % b)):=by
 intro w
 have h:((a.toNat:Int).tmod (b.toNat:Int))=((a % b).toNat:Int):=by
  rw [UInt64.toNat_mod,← Int.ofNat_tmod]
 have h1:¬ ((b.toNat:Int)=0):=fun e=>h0 (UInt64.toNat_inj.1 (by simpa using e))
 unfold execOp;rw [ho];dsimp only;rw [hx,hy]
 simp only [u64,eqGuard,binOp,Op.intDiv,if_neg h1,h]
 rfl
theorem q_quo64 (ho:o.op=.binOp .quo t x y t') (hx:ev f x=u64 a) (hy:ev f y=u64 b) (h0:b≠0):Qa P o f (u64 (a / b)):=by
 intro w
 have h:IntKind.u64.wrap ((a.toNat:Int).tdiv (b.toNat:Int))=((a / b).toNat:Int):=by
  have:=(a / b).toNat_lt
  rw [UInt64.toNat_div] at *
  rw [← Int.ofNat_tdiv,zj2]
  generalize a.toNat / b.toNat=q at *
  omega
 have h1:¬ ((b.toNat:Int)=0):=fun e=>h0 (UInt64.toNat_inj.1 (by simpa using e))
 unfold execOp;rw [ho];dsimp only;rw [hx,hy]
 simp only [u64,eqGuard,binOp,Op.intDiv,if_neg h1,h]
 rfl
theorem q_gt64 (ho:o.op=.binOp .gtr t x y t') (hx:ev f x=u64 a) (hy:ev f y=u64 b):Qa P o f (.bool (decide (b<a))):=by
 intro w;simp [execOp,ho,hx,hy,u64,eqGuard,binOp,Op.intCmp,UInt64.lt_iff_toNat_lt]
theorem eqd_u64 (a b:UInt64):((a.toNat:Int) == (b.toNat:Int))=decide (a=b):=by
 by_cases h:a=b
 ·subst h;simp
 ·have:¬ ((a.toNat:Int)=(b.toNat:Int)):=fun e=>h (UInt64.toNat_inj.1 (by exact_mod_cast e))
  simp [h,this]
theorem q_ne64 (ho:o.op=.binOp .neq t x y t') (hx:ev f x=u64 a) (hy:ev f y=u64 b):Qa P o f (.bool (!decide (a=b))):=by
 intro w
 have h:=eqd_u64 a b
 simp only [execOp,ho,hx,hy,u64,eqGuard,binOp,Op.intCmp]
 simp only [Sem.run_bind,Sem.run_pure,Result.andThen_ok,h,ne_eq,not_true_eq_false,if_false,bne]
 simp [h]
end
end
end Gk

/- Slices in memory: such as are read, and such as are owned; what becomes of them. No condition. -/
namespace Gk
open Go
def oB:Value->Option Nat
 | .slice (some a) _ (_+1)=>some a.block
 | .pointer (some a)=>some a.block
 | .map (some g)=>some g
 | _=>none
abbrev bp (g:Nat):Value:=.pointer (some ⟨g,0,none⟩)
theorem ze4 {a:Addr} {n cap:Nat} (h:0<cap):oB (.slice (some a) n cap)=some a.block:=by
 cases cap with
 | zero=>omega
 | succ c=>rfl
theorem oB_zero (p:Option Addr) (n:Nat):oB (.slice p n 0)=none:=by cases p <;> rfl
def Hs (v:Value) (k:Nat):Prop:=oB v=some k∨∃ vs,v=.tuple vs/\∃ u∈vs.toList,oB u=some k
theorem hs_sl {a:Option Addr} {n c k:Nat} (h:Hs (.slice a n c) k):oB (.slice a n c)=some k:=h.elim id (fun ⟨_,e,_⟩=>by cases e)
theorem hs_ptr {a:Option Addr} {k:Nat} (h:Hs (.pointer a) k):oB (.pointer a)=some k:=h.elim id (fun ⟨_,e,_⟩=>by cases e)
theorem hs_map {a:Option Nat} {k:Nat} (h:Hs (.map a) k):oB (.map a)=some k:=h.elim id (fun ⟨_,e,_⟩=>by cases e)
theorem hs_bp {g k:Nat} (h:Hs (bp g) k):g=k:=Option.some.inj (hs_ptr h)
theorem hs_bp' (g:Nat):Hs (bp g) g:=.inl rfl
theorem hs_tup {vs:Array Value} {k:Nat} (h:Hs (.tuple vs) k):∃ u∈vs.toList,oB u=some k:=h.elim (fun e=>by cases e) (fun ⟨_,e,h⟩=>by cases e;exact h)
theorem zfw {k:Nat}:¬ Hs (.slice none 0 0) k:=fun h=>by have:=hs_sl h;cases this
def Av:List Value->Nat->Prop
 | [],_=>True
 | u :: r,b=>¬ Hs u b/\Av r b
def Gr (w w':World) (v:Value):Prop:=∃ row,w.grownBy w' row/\∀ k,row=some k->Hs v k
theorem Gr.of {w w':World} {v:Value} (h:w.grownBy w' (oB v)):Gr w w' v:=⟨_,h,fun _ e=>.inl e⟩
theorem Gr.refl (w:World) (v:Value):Gr w w v:=⟨none,World.grownBy.refl w none,fun _ e=>by cases e⟩
theorem Gr.size {w w':World} {v:Value} (h:Gr w w' v):w.heap.size<=w'.heap.size:=by obtain ⟨_,h,_⟩:=h;exact h.size
theorem Gr.block {w w':World} {v:Value} (h:Gr w w' v) {k:Nat} (hk:k<w.heap.size) (hn:¬ Hs v k):w'.heap[k]?=w.heap[k]?:=by
 obtain ⟨row,h,hr⟩:=h
 exact h.block k hk (fun e=>hn (hr k e.symm))
def Sl (w:World) (L:List Value) (v:Value) (us:List Value):Prop :=
 ∃ p cap,v=.slice p us.length cap/\us.length<=cap/\(us≠[]->∃ b off,p=some ⟨b,off,none⟩/\Av L b/\∀ i (h:i<us.length),w.cell? ⟨b,off+i,none⟩=some us[i])
theorem cells_of_cell? {w:World} {a:Addr} {u:Value} (h:w.cell? a=some u):∃ o:Obj,w.heap[a.block]?=some o/\o.isCells=true:=by
 unfold World.cell? at h
 split at h
 ·rename_i c e f hc;exact ⟨_,hc,rfl⟩
 ·cases h
structure Lift (w w':World) (L L':List Value):Prop where
 blk:∀ k o,w.heap[k]?=some o->o.isCells=true->Av L k->w'.heap[k]?=some o
 av:∀ k,k<w.heap.size->Av L k->Av L' k
theorem Sl.lift {w w':World} {L L':List Value} {v:Value} {us:List Value} (h:Sl w L v us) (g:Lift w w' L L'):Sl w' L' v us:=by
 obtain ⟨p,cap,hv,hc,hne⟩:=h
 refine ⟨p,cap,hv,hc,fun hn=>?_⟩
 obtain ⟨b,off,hp,ha,hr⟩:=hne hn
 have h0:0<us.length:=List.length_pos_iff.2 hn
 have hb:=World.block_lt_of_cell? w _ (hr 0 h0)
 obtain ⟨o,ho,hc⟩:=cells_of_cell? (hr 0 h0)
 refine ⟨b,off,hp,g.av b hb ha,fun i hi=>?_⟩
 rw [World.cell?_of_block (w:=w) ((g.blk b o ho hc ha).trans ho.symm)]
 exact hr i hi
def Stab {α:Type} (R:World->List Value->Value->α->Prop):Prop :=
 ∀ w w' L L' v x,Lift w w' L L'->R w L v x->R w' L' v x
def Sc {α:Type} (enc:α->Value) (_:World) (_:List Value) (v:Value) (x:α):Prop:=v=enc x
theorem Sc.stab {α:Type} (enc:α->Value):Stab (Sc enc):=fun _ _ _ _ _ _ _ h=>h
def SlK {α:Type} (R:World->List Value->Value->α->Prop) (w:World) (L:List Value) (v:Value) (l:List α):Prop :=
 ∃ us,Sl w L v us/\us.length=l.length/\∀ i (h:i<us.length) (h':i<l.length),R w L us[i] l[i]
theorem SlK.stab {α:Type} {R:World->List Value->Value->α->Prop} (h:Stab R):Stab (SlK R) :=
 fun w w' L L' v x g ⟨us,hs,hl,he⟩=>⟨us,hs.lift g,hl,fun i h1 h2=>h _ _ _ _ _ _ g (he i h1 h2)⟩
def By:=SlK (Sc u8)
def In:=SlK (Sc i64)
def W64:=SlK (Sc u64)
def Rw:=SlK By
theorem By.lift {w w':World} {L L':List Value} {v:Value} {l:List UInt8} (h:By w L v l) (g:Lift w w' L L'):By w' L' v l:=SlK.stab (Sc.stab _) _ _ _ _ _ _ g h
theorem In.lift {w w':World} {L L':List Value} {v:Value} {l:List Int} (h:In w L v l) (g:Lift w w' L L'):In w' L' v l:=SlK.stab (Sc.stab _) _ _ _ _ _ _ g h
theorem W64.lift {w w':World} {L L':List Value} {v:Value} {l:List UInt64} (h:W64 w L v l) (g:Lift w w' L L'):W64 w' L' v l:=SlK.stab (Sc.stab _) _ _ _ _ _ _ g h
theorem Rw.lift {w w':World} {L L':List Value} {v:Value} {l:List (List UInt8)} (h:Rw w L v l) (g:Lift w w' L L'):Rw w' L' v l:=SlK.stab (SlK.stab (Sc.stab _)) _ _ _ _ _ _ g h
theorem zbp {w:World} {k:Nat} {o:Obj} (h:w.heap[k]?=some o):k<w.heap.size:=(Array.getElem?_eq_some_iff.1 h).1
theorem Lift.ext {w w':World} (h:Ext w w') (L:List Value):Lift w w' L L:=⟨fun k _ ho _ _=>(h.blk k (zbp ho)).trans ho,fun _ _ h=>h⟩
theorem Lift.sub {w:World} {L L':List Value} (h:∀ k,Av L k->Av L' k):Lift w w L L':=⟨fun _ _ h _ _=>h,fun k _=>h k⟩
theorem av_append {L M:List Value} {k:Nat}:Av (L ++ M) k ↔ Av L k/\Av M k:=by
 induction L with
 | nil=>simp [Av]
 | cons u r ih=>simp [Av,ih,and_assoc]
def Nx (w:World) (v v':Value):Prop:=∀ k,Hs v' k->Hs v k∨w.heap.size<=k
def Nw (w:World) (v:Value):Prop:=∀ k,Hs v k->w.heap.size<=k
def Nq (u v:Value):Prop:=∀ k,Hs u k->¬ Hs v k
theorem Nq.symm {u v:Value} (h:Nq u v):Nq v u:=fun k hv hu=>h k hu hv
theorem Nx.refl (w:World) (v:Value):Nx w v v:=fun _ h=>.inl h
theorem Nw.nx {w:World} {v:Value} (h:Nw w v) (u:Value):Nx w u v:=fun k hk=>.inr (h k hk)
theorem Nw.mk (w:World) (n c:Nat):Nw w (.slice (some ⟨w.heap.size,0,none⟩) n c):=by
 intro k hk
 have hk:=hs_sl hk
 cases c with
 | zero=>rw [oB_zero] at hk;cases hk
 | succ c=>have:=Option.some.inj hk;exact Nat.le_of_eq this
theorem Nw.nil (w:World):Nw w (.slice none 0 0):=fun k hk=>by have:=hs_sl hk;cases this
theorem Nq.nil (v:Value):Nq (.slice none 0 0) v:=fun k hk=>by have:=hs_sl hk;cases this
theorem Lift.own {w w':World} {v v':Value} (L1 L2:List Value) (hg:Gr w w' v) (hn:Nx w v v'):Lift w w' (L1 ++ v :: L2) (L1 ++ v' :: L2):=by
 refine ⟨fun k o ho hc ha=>?_,fun k hk ha=>?_⟩
 ·obtain ⟨h1,h2,h3⟩:=av_append.1 ha
  exact (hg.block (zbp ho) h2).trans ho
 ·obtain ⟨h1,h2,h3⟩:=av_append.1 ha
  refine av_append.2 ⟨h1,fun e=>?_,h3⟩
  rcases hn k e with h | h
  ·exact h2 h
  ·omega
theorem Lift.new {w w':World} {v:Value} (L:List Value) (hg:w.grownBy w' none) (hn:Nw w v):Lift w w' L (v :: L) :=
 ⟨fun k o ho _ _=>(hg.block k (zbp ho) (by simp)).trans ho,fun k hk ha=>⟨fun e=>by have:=hn k e;omega,ha⟩⟩
theorem Lift.call {w w':World} {v:Value} (L:List Value) (hg:Ext w w') (hn:Nw w v):Lift w w' L (v :: L) :=
 ⟨fun k o ho _ _=>(hg.blk k (zbp ho)).trans ho,fun k hk ha=>⟨fun e=>by have:=hn k e;omega,ha⟩⟩
theorem zaa {w w':World} (h:w.grownBy w' none):Ext w w':=⟨h.os,h.output,h.size,fun k hk=>h.block k hk (by simp)⟩
theorem Ext.grown {w0 w w':World} {v:Value} (h:Ext w0 w) (hg:Gr w w' v) (hn:Nw w0 v):Ext w0 w':=by
 obtain ⟨row,hg,hr⟩:=hg
 exact ⟨hg.os.trans h.os,hg.output.trans h.output,Nat.le_trans h.size hg.size,fun k hk =>
  (hg.block k (Nat.lt_of_lt_of_le hk h.size) (fun e=>by have:=hn k (hr k e.symm);omega)).trans (h.blk k hk)⟩
theorem Nw.ext {w0 w:World} {v:Value} (h:Ext w0 w) (hn:Nw w v):Nw w0 v:=fun k hk=>Nat.le_trans h.size (hn k hk)
theorem Nw.nxt {w0 w:World} {v v':Value} (h:Ext w0 w) (h0:Nw w0 v) (hn:Nx w v v'):Nw w0 v':=fun k hk=>(hn k hk).elim (h0 k) (Nat.le_trans h.size)
def Ow (w:World) (e:TypeId) (v:Value) (us:List Value):Prop :=
 (∃ p,v=.slice p 0 0/\us=[])∨∃ g cap,v=.slice (some ⟨g,0,none⟩) us.length cap/\0<cap/\w.ownsRow 0 e 1 (.slice (some ⟨g,0,none⟩) us.length cap) us.length us
theorem zfa {w:World} {e:TypeId} {g n cap:Nat} {us:List Value} (h:w.ownsRow 0 e 1 (.slice (some ⟨g,0,none⟩) n cap) n us) :
  ∃ cur,w.heap[g]?=some (.cells cur e (0,0))/\n<=cap/\cap<=maxLen/\cur.size=cap * 1/\cur.toList.take (n * 1)=us:=by
 rcases h.2 with ⟨h',_⟩ | ⟨g',cap',cur,hv,_,hg,hc,hm,hs,ht⟩
 ·cases h'
 ·simp only [Value.slice.injEq,Option.some.injEq,Addr.mk.injEq,and_true,true_and] at hv
  obtain ⟨rfl,rfl⟩:=hv
  exact ⟨cur,hg,hc,hm,hs,ht⟩
theorem Ow.lt {w:World} {e:TypeId} {v:Value} {us:List Value} (h:Ow w e v us):∀ k,Hs v k->k<w.heap.size:=by
 intro k hk
 rcases h with ⟨p,rfl,_⟩ | ⟨g,cap,rfl,hc,h⟩ <;> have hk:=hs_sl hk
 ·rw [oB_zero] at hk;cases hk
 ·rw [ze4 hc] at hk
  exact (World.ownsRow.lt h k hk).2
theorem Ow.nil (w:World) (e:TypeId):Ow w e (.slice none 0 0) []:=.inl ⟨none,rfl,rfl⟩
theorem Ow.mk {w:World} {e:TypeId} {g n cap:Nat} {us:List Value} (hn:n=us.length) (h:w.ownsRow 0 e 1 (.slice (some ⟨g,0,none⟩) n cap) n us):Ow w e (.slice (some ⟨g,0,none⟩) n cap) us:=by
 subst hn
 obtain ⟨cur,hg,hc,_⟩:=zfa h
 by_cases h0:0<cap
 ·exact .inr ⟨g,cap,rfl,h0,h⟩
 ·obtain rfl:cap=0:=by omega
  have:us=[]:=List.eq_nil_of_length_eq_zero (by omega)
  subst this
  exact .inl ⟨_,rfl,rfl⟩
theorem Ow.kept {w w':World} {row:Option Nat} {e:TypeId} {v:Value} {us:List Value} (h:Ow w e v us) (hg:w.grownBy w' row) (hne:∀ k,oB v=some k->row≠some k):Ow w' e v us:=by
 rcases h with h | ⟨g,cap,rfl,hc,h⟩
 ·exact .inl h
 ·refine .inr ⟨g,cap,rfl,hc,World.ownsRow.kept h hg (.inr (fun e=>hne g (ze4 hc) e.symm))⟩
theorem Ow.ext {w w':World} {e:TypeId} {v:Value} {us:List Value} (h:Ow w e v us) (hx:Ext w w'):Ow w' e v us:=by
 rcases h with h | ⟨g,cap,rfl,hc,h⟩
 ·exact .inl h
 ·obtain ⟨cur,hg,h1,h2,h3,h4⟩:=zfa h
  exact .inr ⟨g,cap,rfl,hc,h.1,.inr ⟨g,cap,cur,rfl,Nat.zero_le _,by rw [hx.blk g (Array.getElem?_eq_some_iff.1 hg).1];exact hg,h1,h2,h3,h4⟩⟩
theorem Ow.sl {w:World} {e:TypeId} {v:Value} {us:List Value} (L:List Value) (h:Ow w e v us) (ha:∀ k,Hs v k->Av L k):Sl w L v us:=by
 rcases h with ⟨p,rfl,rfl⟩ | ⟨g,cap,rfl,hc,h⟩
 ·exact ⟨p,0,rfl,Nat.le_refl _,fun hn=>absurd rfl hn⟩
 ·obtain ⟨cur,hg,h1,h2,h3,h4⟩:=zfa h
  refine ⟨_,cap,rfl,h1,fun _=>⟨g,0,rfl,ha g (.inl (ze4 hc)),fun i hi=>?_⟩⟩
  have:=World.ownsRow.cellAt h i (by omega)
  rw [Nat.zero_add,this]
  simp
theorem Ow.other {w w':World} {e:TypeId} {u v:Value} {us:List Value} (h:Ow w e u us) (hg:Gr w w' v) (hq:Nq u v):Ow w' e u us:=by
 obtain ⟨row,hg,hr⟩:=hg
 exact h.kept hg (fun k hk e=>hq k (.inl hk) (hr k e))
theorem Nq.nxt {w:World} {e:TypeId} {u v v':Value} {us:List Value} (hq:Nq u v) (h:Ow w e u us) (hn:Nx w v v'):Nq u v':=fun k hu hv=>by
 rcases hn k hv with h1 | h1
 ·exact hq k hu h1
 ·have:=h.lt k hu;omega
theorem Nq.new {w:World} {e:TypeId} {u v':Value} {us:List Value} (h:Ow w e u us) (hn:Nw w v'):Nq u v':=fun k hu hv=>by
 have:=h.lt k hu;have:=hn k hv;omega
def OwK {α:Type} (R:World->List Value->Value->α->Prop) (w:World) (L:List Value) (e:TypeId) (v:Value) (l:List α):Prop :=
 ∃ us,Ow w e v us/\us.length=l.length/\∀ i (h:i<us.length) (h':i<l.length),R w L us[i] l[i]
theorem OwK.lt {α:Type} {R:World->List Value->Value->α->Prop} {w:World} {L:List Value} {e:TypeId} {v:Value} {l:List α} (h:OwK R w L e v l):∀ k,Hs v k->k<w.heap.size:=by
 obtain ⟨us,h,_⟩:=h;exact h.lt
theorem OwK.nil {α:Type} (R:World->List Value->Value->α->Prop) (w:World) (L:List Value) (e:TypeId):OwK R w L e (.slice none 0 0) ([]:List α):=⟨[],Ow.nil w e,rfl,fun i h=>by simp at h⟩
theorem OwK.ext {α:Type} {R:World->List Value->Value->α->Prop} (hR:Stab R) {w w':World} {L:List Value} {e:TypeId} {v:Value} {l:List α} (h:OwK R w L e v l) (hx:Ext w w'):OwK R w' L e v l:=by
 obtain ⟨us,h,hl,he⟩:=h
 exact ⟨us,h.ext hx,hl,fun i h1 h2=>hR _ _ _ _ _ _ (Lift.ext hx L) (he i h1 h2)⟩
theorem OwK.other {α:Type} {R:World->List Value->Value->α->Prop} (hR:Stab R) {w w':World} {L L':List Value} {e:TypeId} {u v:Value} {l:List α} (h:OwK R w L e u l) (hg:Gr w w' v) (hq:Nq u v) (g:Lift w w' L L'):OwK R w' L' e u l:=by
 obtain ⟨us,h,hl,he⟩:=h
 exact ⟨us,h.other hg hq,hl,fun i h1 h2=>hR _ _ _ _ _ _ g (he i h1 h2)⟩
theorem OwK.extL {α:Type} {R:World->List Value->Value->α->Prop} (hR:Stab R) {w w':World} {L L':List Value} {e:TypeId} {u:Value} {l:List α} (h:OwK R w L e u l) (hx:Ext w w') (g:Lift w w' L L'):OwK R w' L' e u l:=by
 obtain ⟨us,h,hl,he⟩:=h
 exact ⟨us,h.ext hx,hl,fun i h1 h2=>hR _ _ _ _ _ _ g (he i h1 h2)⟩
theorem OwK.slk {α:Type} {R:World->List Value->Value->α->Prop} (hR:Stab R) {w:World} {L:List Value} (L':List Value) {e:TypeId} {v:Value} {l:List α} (h:OwK R w L e v l) (ha:∀ k,Hs v k->Av L' k) (hs:∀ k,Av L k->Av L' k):SlK R w L' v l:=by
 obtain ⟨us,h,hl,he⟩:=h
 exact ⟨us,h.sl L' ha,hl,fun i h1 h2=>hR _ _ _ _ _ _ (Lift.sub hs) (he i h1 h2)⟩
theorem OwK.rd {α:Type} {R:World->List Value->Value->α->Prop} (hR:Stab R) {w:World} {L:List Value} {e:TypeId} {v:Value} {l:List α} (h:OwK R w L e v l):SlK R w [] v l :=
 h.slk hR [] (fun _ _=>trivial) (fun _ _=>trivial)
theorem OwK.nq {α:Type} {R:World->List Value->Value->α->Prop} {w:World} {L:List Value} {e:TypeId} {u v':Value} {l:List α} (h:OwK R w L e u l) (hn:Nw w v'):Nq u v':=by
 obtain ⟨us,h,_⟩:=h;exact Nq.new h hn
theorem OwK.nxt {α:Type} {R:World->List Value->Value->α->Prop} {w:World} {L:List Value} {e:TypeId} {u v v':Value} {l:List α} (h:OwK R w L e u l) (hq:Nq u v) (hn:Nx w v v'):Nq u v':=by
 obtain ⟨us,h,_⟩:=h;exact Nq.nxt hq h hn
def Blk (w:World) (g:Nat) (T:TypeId) (cs:Array Value):Prop:=w.heap[g]?=some (.cells cs T (0,0))
theorem Blk.lt {w:World} {g:Nat} {T:TypeId} {cs:Array Value} (h:Blk w g T cs):g<w.heap.size:=(Array.getElem?_eq_some_iff.1 h).1
theorem Blk.ltB {w:World} {g:Nat} {T:TypeId} {cs:Array Value} (h:Blk w g T cs):∀ k,Hs (bp g) k->k<w.heap.size:=fun k e=>by
 have e':=hs_bp e
 subst e';exact h.lt
theorem Blk.ext {w w':World} {g:Nat} {T:TypeId} {cs:Array Value} (h:Blk w g T cs) (x:Ext w w'):Blk w' g T cs:=by
 unfold Blk;rw [x.blk g h.lt];exact h
theorem Blk.nq {w:World} {g:Nat} {T:TypeId} {cs:Array Value} {v:Value} (h:Blk w g T cs) (hn:Nw w v):Nq (bp g) v:=fun k hu hv=>by
 have:=h.ltB k hu;have:=hn k hv;omega
theorem Blk.nxt {w:World} {g:Nat} {T:TypeId} {cs:Array Value} {v v':Value} (h:Blk w g T cs) (hq:Nq (bp g) v) (hn:Nx w v v'):Nq (bp g) v':=fun k hu hv=>by
 rcases hn k hv with h1 | h1
 ·exact hq k hu h1
 ·have:=h.ltB k hu;omega
theorem Blk.other {w w':World} {g:Nat} {T:TypeId} {cs:Array Value} {v:Value} (h:Blk w g T cs) (hg:Gr w w' v) (hq:Nq (bp g) v):Blk w' g T cs:=by
 unfold Blk;rw [hg.block h.lt (hq g (hs_bp' g))];exact h
theorem Blk.grownO {w w':World} {g:Nat} {T:TypeId} {row:Option Nat} {cs:Array Value} (h:Blk w g T cs) (hg:w.grownBy w' row) (hn:∀ k,row=some k->g≠k):Blk w' g T cs:=by
 unfold Blk;rw [hg.block g h.lt (fun e=>hn g e.symm rfl)];exact h
def Tn (B:Nat) (w w':World):Prop:=∃ row,w.grownBy w' row/\∀ r,row=some r->B<=r/\∃ o:Obj,w.heap[r]?=some o/\o.isCells=false
theorem Tn.keep {B:Nat} {w w':World} (h:Tn B w w') {k:Nat} {o:Obj} (ho:w.heap[k]?=some o) (hc:o.isCells=true):w'.heap[k]?=some o:=by
 obtain ⟨row,hg,hr⟩:=h
 refine (hg.block k (zbp ho) (fun e=>?_)).trans ho
 obtain ⟨_,o',ho',hc'⟩:=hr k e.symm
 rw [ho] at ho';cases ho';rw [hc] at hc';cases hc'
theorem Tn.lift {B:Nat} {w w':World} (h:Tn B w w') (L:List Value):Lift w w' L L:=⟨fun _ _ ho hc _=>h.keep ho hc,fun _ _ h=>h⟩
theorem Blk.tn {B:Nat} {w w':World} {g:Nat} {T:TypeId} {cs:Array Value} (h:Blk w g T cs) (t:Tn B w w'):Blk w' g T cs:=t.keep h rfl
theorem Ow.tn {B:Nat} {w w':World} {e:TypeId} {v:Value} {us:List Value} (h:Ow w e v us) (t:Tn B w w'):Ow w' e v us:=by
 rcases h with h | ⟨g,cap,rfl,hc,h⟩
 ·exact .inl h
 ·obtain ⟨cur,hg,h1,h2,h3,h4⟩:=zfa h
  exact .inr ⟨g,cap,rfl,hc,h.1,.inr ⟨g,cap,cur,rfl,Nat.zero_le _,t.keep hg rfl,h1,h2,h3,h4⟩⟩
theorem OwK.tn {α:Type} {R:World->List Value->Value->α->Prop} (hR:Stab R) {B:Nat} {w w':World} {L:List Value} {e:TypeId} {u:Value} {l:List α} (h:OwK R w L e u l) (t:Tn B w w'):OwK R w' L e u l:=by
 obtain ⟨us,h,hl,he⟩:=h
 exact ⟨us,h.tn t,hl,fun i h1 h2=>hR _ _ _ _ _ _ (t.lift L) (he i h1 h2)⟩
theorem Ext.tn {B:Nat} {w0 w w':World} (h:Ext w0 w) (t:Tn B w w') (hB:w0.heap.size<=B):Ext w0 w':=by
 obtain ⟨row,hg,hr⟩:=t
 exact ⟨hg.os.trans h.os,hg.output.trans h.output,Nat.le_trans h.size hg.size,fun k hk =>
  (hg.block k (Nat.lt_of_lt_of_le hk h.size) (fun e=>by have:=(hr k e.symm).1;omega)).trans (h.blk k hk)⟩
theorem _root_.Go.KeepsFrom.ext {B:Nat} {W w w':World} (h:KeepsFrom B W w) (x:Ext w w'):KeepsFrom B W w':=h.trans ⟨x.size,fun k o _ ho _=>(x.blk k (zbp ho)).trans ho⟩
def Cl (w:World) (v:Value):Prop:=∀ k,Hs v k->∃ o:Obj,w.heap[k]?=some o/\o.isCells=true
theorem _root_.Go.KeepsFrom.own {B:Nat} {W w w':World} {v:Value} (h:KeepsFrom B W w) (hg:Gr w w' v) (hc:Cl w v):KeepsFrom B W w':=h.trans ⟨hg.size,fun k o _ ho hn=>by
 refine (hg.block (zbp ho) (fun e=>?_)).trans ho
 obtain ⟨o',ho',hc'⟩:=hc k e
 rw [ho] at ho';cases ho';rw [hn] at hc';cases hc'⟩
theorem Blk.cl {w:World} {g:Nat} {T:TypeId} {cs:Array Value} (h:Blk w g T cs):Cl w (bp g):=fun k e=>by
 have e':=hs_bp e
 subst e';exact ⟨_,h,rfl⟩
theorem OwK.cl {α:Type} {R:World->List Value->Value->α->Prop} {w:World} {L:List Value} {e:TypeId} {v:Value} {l:List α} (h:OwK R w L e v l):Cl w v:=fun k hk=>by
 obtain ⟨us,h,_⟩:=h
 rcases h with ⟨p,rfl,_⟩ | ⟨g,cap,rfl,hc,h⟩ <;> have hk:=hs_sl hk
 ·rw [oB_zero] at hk;cases hk
 ·rw [ze4 hc] at hk
  obtain ⟨cur,hg,_⟩:=zfa h
  cases hk
  exact ⟨_,hg,rfl⟩
structure TyS (P:Program) (t e:TypeId) (z:Value) (bytes:Nat):Prop where
 sl:P.underlying t=some (.slice e)
 info:(P.info? e).map (fun i=>(i.zero,i.size,i.bytes))=some (some z,1,bytes)
 cell:z.cells=#[z]
 agg:∀ w,(isAgg e).run P w=.ok false w
 fit:bytes<=24
end Gk

/- What the operations on memory come to: lengths, elements, cuts, make, stores, append, copy, literals, texts, calls. No condition. -/
namespace Gk
open Go
def idx {α:Type} (l:List α) (i:Int):Option α:=if 0<=i then l[i.toNat]? else none
def put {α:Type} (l:List α) (i:Int) (x:α):Option (List α):=if 0<=i/\i<l.length then some (l.set i.toNat x) else none
def subL {α:Type} (l:List α) (lo hi:Int):Option (List α):=if 0<=lo/\lo<=hi/\hi<=l.length then some ((l.take hi.toNat).drop lo.toNat) else none
def most:Nat:=5000000000000
def makeL {α:Type} (n:Int) (z:α):Option (List α):=if 0<=n/\n<=most then some (List.replicate n.toNat z) else none
def appL {α:Type} (l m:List α):Option (List α):=if l.length+m.length<=most then some (l ++ m) else none
def copyL {α:Type} (l:List α) (off:Int) (m:List α):List α:=l.take off.toNat ++ (m.take (l.length - off.toNat) ++ l.drop (off.toNat+min m.length (l.length - off.toNat)))
def divI (a b:Int):Option Int:=if b=0 then none else some (wI (a.tdiv b))
def remI (a b:Int):Option Int:=if b=0 then none else some (a.tmod b)
theorem zb5 {α:Type} {l:List α} {i:Int} {x:α}:idx l i=some x ↔ 0<=i/\∃ h:i.toNat<l.length,l[i.toNat]=x:=by
 unfold idx
 by_cases h:0<=i
 ·rw [if_pos h,List.getElem?_eq_some_iff];simp [h]
 ·rw [if_neg h];simp [h]
theorem put_some {α:Type} {l m:List α} {i:Int} {x:α}:put l i x=some m ↔ (0<=i/\i<l.length)/\l.set i.toNat x=m:=by
 unfold put
 by_cases h:0<=i/\i<l.length
 ·rw [if_pos h];simp [h]
 ·rw [if_neg h];simp [h]
theorem zf6 {α:Type} {l:List α} {i:Int} {x:α} (y:α) (h:idx l i=some x):put l i y=some (l.set i.toNat y):=by
 obtain ⟨h0,h1,_⟩:=zb5.1 h
 exact put_some.2 ⟨⟨h0,by omega⟩,rfl⟩
def adr (v:Value) (i:Nat):Value:=match v with | .slice (some a) _ _=>.pointer (some (a.add i)) | _=>undef
def subV (v:Value) (lo hi:Nat):Value:=match v with | .slice a _ cap=>.slice (if cap=lo then a else a.map (·.add lo)) (hi - lo) (cap - lo) | v=>v
def subW (v:Value) (lo hi mx:Nat):Value:=match v with | .slice a _ _=>.slice (if mx=lo then a else a.map (·.add lo)) (hi - lo) (mx - lo) | v=>v
theorem zcg (b off i:Nat):(⟨b,off,none⟩:Addr).add i=⟨b,off+i,none⟩:=by unfold Addr.add;split <;> simp_all
section
variable {P : Program} {o : Oper} {f : Nat → Value} {w : World} {L : List Value}
theorem zby {b:Builtin} {xs:Array Operand} {ats:Array TypeId} (ρ:Operand->Value) (ho:o.op=.call ⟨.builtin b,xs,ats⟩) :
  execOp ρ o=builtin b ats o.type (xs.map fun | .const _=>true | _=>false) (xs.map ρ):=by
 unfold execOp;rw [ho];rfl
theorem SlK.shape {α:Type} {R:World->List Value->Value->α->Prop} {v:Value} {l:List α} (h:SlK R w L v l):∃ p cap,v=.slice p l.length cap/\l.length<=cap:=by
 obtain ⟨us,⟨p,cap,hv,hc,_⟩,hl,_⟩:=h
 exact ⟨p,cap,by rw [hv,hl],by omega⟩
theorem q_len {α:Type} {R:World->List Value->Value->α->Prop} {v:Value} {l:List α} {x:Operand} {t e:TypeId}
  (ho:o.op=.call ⟨.builtin .len,#[x],#[t]⟩) (ht:P.underlying t=some (.slice e)) (hx:ev f x=v) (h:SlK R w L v l):Qa P o f (i64 l.length):=by
 intro w'
 obtain ⟨p,cap,rfl,_⟩:=h.shape
 rw [zby _ ho]
 simp [builtin,Builtin.len_,run_underlying ht,hx,goInt,i64]
theorem q_len_nil {x:Operand} {t e:TypeId} (ho:o.op=.call ⟨.builtin .len,#[x],#[t]⟩) (ht:P.underlying t=some (.slice e)) (hx:ev f x=.slice none 0 0):Qa P o f (i64 0):=by
 intro w'
 rw [zby _ ho]
 simp [builtin,Builtin.len_,run_underlying ht,hx,goInt,i64]
theorem ty_size {t e:TypeId} {z:Value} {bytes:Nat} (T:TyS P t e z bytes) (w:World):(Go.sizeOf e).run P w=.ok 1 w:=by
 obtain ⟨i,hi,h1,h2,h3⟩:=info_parts T.info
 simp [Go.sizeOf,typeInfo,hi,h2]
theorem q_adr {α:Type} {R:World->List Value->Value->α->Prop} {v z:Value} {l:List α} {x y:Operand} {t e:TypeId} {bytes:Nat} {i:Int} {a:α}
  (ho:o.op=.indexAddr t x y) (T:TyS P t e z bytes) (hx:ev f x=v) (hy:ev f y=i64 i) (h:SlK R w L v l) (hi:idx l i=some a):Qa P o f (adr v i.toNat):=by
 intro w'
 obtain ⟨us,⟨p,cap,hv,hc,hne⟩,hl,_⟩:=h
 obtain ⟨h0,h1,_⟩:=zb5.1 hi
 have hn:us≠[]:=fun e=>by subst e;simp at hl;omega
 obtain ⟨b,off,rfl,_⟩:=hne hn
 subst hv
 have hlt:i<(us.length:Int):=by omega
 simp [execOp,ho,hx,hy,i64,Instr.indexAt,asIntOf,run_underlying T.sl,ty_size T,h0,hlt,adr]
theorem q_load {α:Type} {R:World->List Value->Value->α->Prop} {v z:Value} {l:List α} {x:Operand} {t e:TypeId} {bytes:Nat} {i:Int} {a:α}
  (ho:o.op=.load e x) (T:TyS P t e z bytes) (hx:ev f x=adr v i.toNat) (h:SlK R w L v l) (hi:idx l i=some a):∃ u,Qt P o f w u/\R w L u a:=by
 obtain ⟨us,⟨p,cap,hv,hc,hne⟩,hl,he⟩:=h
 obtain ⟨h0,h1,h2⟩:=zb5.1 hi
 have hn:us≠[]:=fun e=>by subst e;simp at hl;omega
 obtain ⟨b,off,rfl,_,hr⟩:=hne hn
 subst hv
 have hu:i.toNat<us.length:=by omega
 refine ⟨us[i.toNat],fun w' hx'=>?_,h2 ▸ he _ hu h1⟩
 have hc:=hr _ hu
 have hc':w'.cell? ⟨b,off+i.toNat,none⟩=some us[i.toNat]:=by
  rw [World.cell?_of_block (w:=w) (hx'.blk b (World.block_lt_of_cell? w _ hc))];exact hc
 simp [execOp,ho,hx,adr,Instr.loadAt,Instr.sureAddr,loadVar,T.agg,zcg,load,Sem.run,hc']
theorem zao {α:Type} {enc:α->Value} {v z:Value} {l:List α} {x:Operand} {t e:TypeId} {bytes:Nat} {i:Int} {a:α}
  (ho:o.op=.load e x) (T:TyS P t e z bytes) (hx:ev f x=adr v i.toNat) (h:SlK (Sc enc) w L v l) (hi:idx l i=some a):Qt P o f w (enc a):=by
 obtain ⟨u,hq,hu⟩:=q_load ho T hx h hi
 rw [← show u=enc a from hu]
 exact hq
theorem Qt.ext {w':World} {v:Value} (h:Qt P o f w v) (hx:Ext w w'):Qt P o f w' v:=fun w'' h'=>h w'' (hx.trans h')
theorem zfz {x:Value} {y:Nat} {c:BoundsCode} {i:Int} (hx:x=i64 i) (h0:0<=i) (h1:i<=y) (w:World):(Instr.sliceBound x y c).run P w=.ok i.toNat w:=by
 subst hx;simp [Instr.sliceBound,i64,asIntOf,h0,h1]
theorem ze9 {α:Type} {l m:List α} {lo hi:Int}:subL l lo hi=some m ↔ (0<=lo/\lo<=hi/\hi<=l.length)/\(l.take hi.toNat).drop lo.toNat=m:=by
 unfold subL
 by_cases h:0<=lo/\lo<=hi/\hi<=l.length
 ·rw [if_pos h];simp [h]
 ·rw [if_neg h];simp [h]
theorem Sl.cut {v:Value} {us:List Value} (h:Sl w L v us) (lo hi:Nat) (h1:lo<=hi) (h2:hi<=us.length):Sl w L (subV v lo hi) ((us.take hi).drop lo):=by
 obtain ⟨p,cap,rfl,hc,hne⟩:=h
 have hlen:((us.take hi).drop lo).length=hi - lo:=by simp;omega
 refine ⟨_,cap - lo,by unfold subV;rw [hlen],by rw [hlen];omega,fun hn=>?_⟩
 have h0:0<hi - lo:=by rw [← hlen];exact List.length_pos_iff.2 hn
 obtain ⟨b,off,rfl,ha,hr⟩:=hne (fun e=>by subst e;simp at h2;omega)
 refine ⟨b,off+lo,?_,ha,fun i hi'=>?_⟩
 ·rw [if_neg (by omega)];simp [zcg]
 ·rw [hlen] at hi'
  have:=hr (lo+i) (by omega)
  rw [Nat.add_assoc,this]
  simp
theorem SlK.cut {α:Type} {R:World->List Value->Value->α->Prop} {v:Value} {l m:List α} (h:SlK R w L v l) {lo hi:Int} (hs:subL l lo hi=some m):SlK R w L (subV v lo.toNat hi.toNat) m:=by
 obtain ⟨us,hu,hl,he⟩:=h
 obtain ⟨⟨h0,h1,h2⟩,rfl⟩:=ze9.1 hs
 refine ⟨_,hu.cut lo.toNat hi.toNat (by omega) (by omega),by simp [hl],fun i a b=>?_⟩
 simp only [List.getElem_drop,List.getElem_take]
 exact he _ _ _
theorem zdv {α:Type} {R:World->List Value->Value->α->Prop} {v z:Value} {l m:List α} {x:Operand} {t e:TypeId} {bytes:Nat} {lo hi:Option Operand} {a b:Int}
  (ho:o.op=.slice t x lo hi none) (T:TyS P t e z bytes) (hx:ev f x=v) (h:SlK R w L v l)
  (hlo:match lo with | none=>a=0 | some y=>ev f y=i64 a) (hhi:match hi with | none=>b=(l.length:Int) | some y=>ev f y=i64 b) (hs:subL l a b=some m):Qa P o f (subV v a.toNat b.toNat):=by
 intro w'
 obtain ⟨p,cap,rfl,hc⟩:=h.shape
 obtain ⟨⟨h0,h1,h2⟩,_⟩:=ze9.1 hs
 have hb:∀ c w,(Instr.sliceBound (i64 b) cap c).run P w=.ok b.toNat w:=fun c w=>zfz rfl (by omega) (by omega) w
 have ha:∀ c w,(Instr.sliceBound (i64 a) b.toNat c).run P w=.ok a.toNat w:=fun c w=>zfz rfl (by omega) (by omega) w
 have ha':b=(l.length:Int)->∀ c w,(Instr.sliceBound (i64 a) l.length c).run P w=.ok a.toNat w:=fun e c w=>zfz rfl (by omega) (by omega) w
 cases lo with
 | none =>
  cases hi with
  | none =>
   dsimp only at hlo hhi;subst hlo;subst hhi
   simp [execOp,ho,hx,Instr.sliceAt,run_underlying T.sl,Instr.slice,Instr.sliceBounds,ty_size T,subV]
  | some y =>
   dsimp only at hlo hhi;subst hlo
   simp [execOp,ho,hx,hhi,Instr.sliceAt,run_underlying T.sl,Instr.slice,Instr.sliceBounds,ty_size T,hb,subV]
 | some y =>
  cases hi with
  | none =>
   dsimp only at hlo hhi
   have:=ha' hhi
   subst hhi
   simp [execOp,ho,hx,hlo,Instr.sliceAt,run_underlying T.sl,Instr.slice,Instr.sliceBounds,ty_size T,this,subV]
  | some y' =>
   dsimp only at hlo hhi
   simp [execOp,ho,hx,hlo,hhi,Instr.sliceAt,run_underlying T.sl,Instr.slice,Instr.sliceBounds,ty_size T,ha,hb,subV]
end
end Gk

/- What the operations that make or write memory come to: make, stores, append, copy, literals; texts; calls. No condition. -/
namespace Gk
open Go
section
variable {P : Program} {o : Oper} {f : Nat → Value} {w : World} {L : List Value}
theorem zc5 {R:Value->World->Prop} {v:Value} {w':World} (h:(execOp (ev f) o).run P w=.ok (.value v) w') (hr:R v w'):Stp P o f w R:=by
 unfold Stp;rw [h];exact hr
theorem zh6 {R:Value->World->Prop} {w':World} (h:(execOp (ev f) o).run P w=.ok .skip w') (hr:R undef w'):Stp P o f w R:=by
 unfold Stp;rw [h];exact hr
theorem mem_most {n bytes:Nat} (h:n<=most) (hb:bytes<=24):n * bytes<=140737488355328/\bytes * n<=281474976710656/\n<=maxLen:=by
 have h1:n * bytes<=5000000000000 * 24:=Nat.mul_le_mul h hb
 refine ⟨by omega,by rw [Nat.mul_comm];omega,?_⟩
 simp only [maxLen];simp only [most] at h;omega
theorem zb3 {α:Type} {R:World->List Value->Value->α->Prop} {x y:Operand} {t e:TypeId} {z:Value} {bytes:Nat} {n:Int} {a:α} {l:List α}
  (ho:o.op=.makeSlice t x y) (T:TyS P t e z bytes) (hx:ev f x=i64 n) (hy:ev f y=i64 n) (hl:makeL n a=some l) (hz:∀ w L,R w L z a)
  {K:Value->World->Prop} (hk:∀ v w',OwK R w' (v :: L) e v l->Nw w v->w.grownBy w' none->Lift w w' L (v :: L)->K v w'):Stp P o f w K:=by
 obtain ⟨i,hi,h1,h2,h3⟩:=info_parts T.info
 unfold makeL at hl
 split at hl
 ·rename_i hn
  obtain ⟨hn0,hn1⟩:=hn
  obtain ⟨m,rfl⟩:=Int.eq_ofNat_of_zero_le hn0
  have hm:m<=most:=by omega
  obtain ⟨b1,b2,b3⟩:=mem_most hm T.fit
  obtain ⟨w',hr,hown,hg⟩:=run_make_full (P:=P) w 0 t e i z 1 T.sl hi h1 h2 .i64 .i64 m (by rw [h3];exact b2) b3 (Nat.zero_le _)
  have hcs:(madeCells z.cells (m * 1)).toList=List.replicate m z:=by rw [T.cell,Nat.mul_one,toList_madeCells_one]
  rw [hcs] at hown
  have hv:Nw w (.slice (some ⟨w.heap.size,0,none⟩) m m):=Nw.mk _ _ _
  refine zc5 (w':=w') (v:=.slice (some ⟨w.heap.size,0,none⟩) m m) (by simp [execOp,ho,hx,hy,i64,hr]) (hk _ _ ?_ hv hg (Lift.new L hg hv))
  simp only [Int.toNat_natCast,Option.some.injEq] at hl
  subst hl
  refine ⟨List.replicate m z,Ow.mk (by simp) (by simpa using hown),by simp,fun i a1 a2=>by simpa using hz w' _⟩
 ·cases hl
theorem zci {α:Type} {R:World->List Value->Value->α->Prop} (hR:Stab R) {x y:Operand} {t e:TypeId} {z v u:Value} {bytes:Nat} {i:Int} {a:α} {l l':List α} (L1 L2:List Value)
  (ho:o.op=.store e x y) (T:TyS P t e z bytes) (hx:ev f x=adr v i.toNat) (hy:ev f y=u) (h:OwK R w (L1 ++ v :: L2) e v l) (hp:put l i a=some l') (hu:R w (L1 ++ v :: L2) u a) (hc:u.oneCell'=true)
  {K:Value->World->Prop} (hk:∀ w',OwK R w' (L1 ++ v :: L2) e v l'->Gr w w' v->Lift w w' (L1 ++ v :: L2) (L1 ++ v :: L2)->K undef w'):Stp P o f w K:=by
 obtain ⟨i',hi,h1,h2,h3⟩:=info_parts T.info
 obtain ⟨us,hown,hl,he⟩:=h
 obtain ⟨⟨h0,hlt⟩,rfl⟩:=put_some.1 hp
 rcases hown with ⟨_,_,rfl⟩ | ⟨g,cap,hv,hpos,hown⟩
 ·simp at hl;omega
 ·subst hv
  obtain ⟨hst,hgr0⟩:=World.ownsRow.stored hown i.toNat u
  have hgr:Gr w (w.setCell ⟨g,i.toNat,none⟩ u) (.slice (some ⟨g,0,none⟩) us.length cap):=Gr.of (by rw [ze4 hpos];exact hgr0)
  have hcell:=World.ownsRow.cellAt hown i.toNat (by omega)
  have hfr:=World.ownsRow.frozenAt hown i.toNat
  have hlift:Lift w (w.setCell ⟨g,i.toNat,none⟩ u) (L1 ++ .slice (some ⟨g,0,none⟩) us.length cap :: L2) (L1 ++ .slice (some ⟨g,0,none⟩) us.length cap :: L2):=Lift.own L1 L2 hgr (Nx.refl _ _)
  refine zh6 (w':=w.setCell ⟨g,i.toNat,none⟩ u) ?_ (hk _ ?_ hgr hlift)
  ·have hcs:u.cells=#[u]:=by cases u <;> simp_all [Value.cells,Value.oneCell']
   have hcl:w.cell? ⟨g,0+i.toNat,none⟩=some (us[i.toNat]'(by omega)):=by rw [Nat.zero_add,hcell];simp
   simp only [execOp,ho,hx,hy,adr,Instr.storeAt,Instr.sureAddr,storeVar,hcs,zcg,Sem.run_bind,Sem.run_pure,Result.andThen_ok]
   simp [Go.sizeOf,typeInfo,hi,h2,storeCells,zcg,store,Addr.add]
   cases u <;> simp_all [Sem.run,Value.oneCell']
  ·refine ⟨us.set i.toNat u,Ow.mk (by simp) (by simpa using hst),by simp [hl],fun j a1 a2=>?_⟩
   simp only [List.getElem_set]
   split
   ·exact hR _ _ _ _ _ _ hlift hu
   ·exact hR _ _ _ _ _ _ hlift (he j (by simpa using a1) (by simpa using a2))
theorem zji {α:Type} {l m r:List α}:appL l m=some r ↔ l.length+m.length<=most/\l ++ m=r:=by
 unfold appL
 by_cases h:l.length+m.length<=most
 ·rw [if_pos h];simp [h]
 ·rw [if_neg h];simp [h]
theorem run_app {t ty e : TypeId} {z v x : Value} {bytes : Nat} {us ns : List Value} (T : TyS P t e z bytes) (h : Ow w e v us) (hx : Sl w [] x ns) (h1 : ∀ u ∈ ns, u.oneCell' = true) (hm : us.length + ns.length <= most) :
    ∃ v' w', (Builtin.append_ #[t, t] ty #[v, x]).run P w = .ok v' w' /\ Ow w' e v' (us ++ ns) /\ Gr w w' v /\ Nx w v v' /\ Ow w' e v us := by
  obtain ⟨i, hi, i1, i2, i3⟩ := info_parts T.info
  obtain ⟨p, cap, rfl, hcap, hne⟩ := hx
  have same : ns = [] -> ∃ v' w', (Builtin.append_ #[t, t] ty #[v, .slice p ns.length cap]).run P w = .ok v' w' /\ Ow w' e v' (us ++ ns) /\ Gr w w' v /\ Nx w v v' /\ Ow w' e v us := by
    intro hn
    subst hn
    refine ⟨v, w, ?_, by simpa using h, Gr.refl w v, Nx.refl w v, h⟩
    have hl0 : ∀ (a : Addr), (loadCells a 0).run P w = .ok #[] w := fun a => by simp [loadCells, loadCellsFrom]
    rcases h with ⟨pv, rfl, rfl⟩ | ⟨g, cap', rfl, hc0, h⟩
    · have hst : ∀ a : Addr, (storeCells a []).run P w = .ok () w := fun a => by simp [storeCells]
      cases pv <;> cases p <;> simp [Builtin.append_, run_underlying T.sl, Go.sizeOf, typeInfo, hi, Builtin.lenOf, Builtin.firstCells, hl0, hst]
    · obtain ⟨cur, hg, hc, _⟩ := zfa h
      have hst : ∀ a : Addr, (storeCells a []).run P w = .ok () w := fun a => by simp [storeCells]
      cases p <;> simp [Builtin.append_, run_underlying T.sl, Go.sizeOf, typeInfo, hi, Builtin.lenOf, Builtin.firstCells, hl0, hc, hst]
  by_cases hn : ns = []
  · exact same hn
  · obtain ⟨b, off, rfl, _, hr⟩ := hne hn
    have hpos : 0 < ns.length := List.length_pos_iff.2 hn
    have hnews : ∀ j u, ns[j]? = some u -> w.cell? ((⟨b, off, none⟩ : Addr).add j) = some u := fun j u hj => by
      obtain ⟨hj', rfl⟩ := List.getElem?_eq_some_iff.1 hj
      rw [zcg]; exact hr j hj'
    obtain ⟨b1, b2, b3⟩ := mem_most hm T.fit
    have h63 : ((us.length + ns.length : Nat) : Int) <= 9223372036854775807 := by simp only [most] at hm; omega
    have made : ∀ (old : Nat), (w.drew.alloc (.cells (us.toArray ++ ns.toArray ++ Builtin.zeroCells z.cells (grownCap w (us.length + ns.length) old e - (us.length + ns.length))) e)).ownsRow 0 e 1
          (.slice (some ⟨w.heap.size, 0, none⟩) (us.length + ns.length) (grownCap w (us.length + ns.length) old e)) (us.length + ns.length) (us ++ ns) := fun old => by
      have hge := grownCap_ge w (us.length + ns.length) old e
      refine ⟨by simp, .inr ⟨w.heap.size, _, _, rfl, Nat.zero_le _, heap_alloc_new w.drew _, hge, grownCap_le_maxLen w _ old e b3, ?_, ?_⟩⟩
      · simp only [Array.size_append, List.size_toArray, size_zeroCells, T.cell]
        simp; omega
      · simp only [Array.toList_append, List.append_assoc]
        rw [← List.append_assoc]
        exact List.take_left' (by simp)
    have hlen : (us ++ ns).length = us.length + ns.length := by simp
    have hnxn : ∀ (v : Value) (n c : Nat), Nx w v (.slice (some ⟨w.heap.size, 0, none⟩) n c) := fun v n c => (Nw.mk w n c).nx v
    rcases h with ⟨pv, rfl, rfl⟩ | ⟨g, cap', rfl, hc0, h⟩
    · cases pv with
      | some av =>
        have hr := run_append_grow (P := P) w t ty e i z T.sl hi i1 av 0 0 [] (by simp) (fun j u hj => by simp at hj) ⟨b, off, none⟩ ns.length cap ns (by rw [i2]; simp) hnews (by omega) (by simpa using h63) (by rw [i3]; exact growslice_fits (by omega) (by simpa using b1))
        have hmk := made 0
        exact ⟨_, _, hr, Ow.mk (by simp) hmk, Gr.of ⟨rfl, rfl, rfl, by simp, fun k hk _ => zgu w.drew _ k hk⟩, hnxn _ _ _, .inl ⟨_, rfl, rfl⟩⟩
      | none =>
      have hr := run_append_nil (P := P) w t ty e i z T.sl hi i1 ⟨b, off, none⟩ ns.length cap ns (by rw [i2]; simp) hnews hpos (by simpa using h63) (by rw [i3]; simp only [List.length_nil, Nat.zero_add] at b1; omega)
      have hmk := made 0
      simp only [List.length_nil, Nat.zero_add, List.nil_append, Array.empty_append] at hmk ⊢
      exact ⟨_, _, hr, Ow.mk rfl hmk, Gr.of ⟨rfl, rfl, rfl, by simp, fun k hk _ => zgu w.drew _ k hk⟩, hnxn _ _ _, .inl ⟨_, rfl, rfl⟩⟩
    · obtain ⟨cur, hg, hc, hcm, hcs, htake⟩ := zfa h
      by_cases hroom : us.length + ns.length <= cap'
      · have hfit : us.length * i.size + ns.length <= cur.size := by rw [hcs, i2]; omega
        have hr := run_append_room (P := P) w t ty e i T.sl hi g us.length cap' cur hg ⟨b, off, none⟩ ns.length cap ns (by rw [i2]; simp) hnews h1 hroom hfit
        refine ⟨_, _, hr, Ow.mk hlen.symm ⟨by simp, .inr ⟨g, cap', _, rfl, Nat.zero_le _, setRow_heap w g cur _ e _ hg, hroom, hcm, ?_, ?_⟩⟩,
          Gr.of ⟨rfl, rfl, rfl, by simp, fun k _ hk => setRow_other w g k _ (fun e => hk (by rw [ze4 hc0, e]))⟩, fun k hk => .inl (.inl (by have := hs_sl hk; rw [ze4 hc0] at *; exact this)),
          .inr ⟨g, cap', rfl, hc0, by simp, .inr ⟨g, cap', _, rfl, Nat.zero_le _, setRow_heap w g cur _ e _ hg, hc, hcm, ?_, ?_⟩⟩⟩
        · simp only [List.size_toArray, List.length_append, List.length_take, List.length_drop, Array.length_toList, i2]
          omega
        · rw [i2, htake]
          exact List.take_left' (by simp)
        · simp only [List.size_toArray, List.length_append, List.length_take, List.length_drop, Array.length_toList, i2]
          omega
        · rw [i2, htake, List.append_assoc]
          exact List.take_left' (by simp)
      · have holds : ∀ j u, us[j]? = some u -> w.cell? ((⟨g, 0, none⟩ : Addr).add j) = some u := World.ownsRow.cells h (g := g) rfl
        have hr := run_append_grow (P := P) w t ty e i z T.sl hi i1 ⟨g, 0, none⟩ us.length cap' us (by rw [i2]; simp) holds ⟨b, off, none⟩ ns.length cap ns (by rw [i2]; simp) hnews (by omega) h63 (by rw [i3]; exact growslice_fits (by omega) b1)
        exact ⟨_, _, hr, Ow.mk hlen.symm (made cap'), Gr.of ⟨rfl, rfl, rfl, by simp, fun k hk _ => zgu w.drew _ k hk⟩, hnxn _ _ _,
          Ow.kept (row := none) (.inr ⟨g, cap', rfl, hc0, h⟩) ⟨rfl, rfl, rfl, by simp, fun k hk _ => zgu w.drew _ k hk⟩ (fun _ _ e => by cases e)⟩
theorem stp_append2 {α:Type} {R:World->List Value->Value->α->Prop} (hR:Stab R) {s x:Operand} {t e:TypeId} {z v u:Value} {bytes:Nat} {l m r:List α} (L1 L2:List Value)
  (ho:o.op=.call ⟨.builtin .append,#[s,x],#[t,t]⟩) (T:TyS P t e z bytes) (hs:ev f s=v) (hx:ev f x=u) (h:OwK R w (L1 ++ v :: L2) e v l) {Lu:List Value} (hu:SlK R w Lu u m) (hLu:∀ u x,R w Lu u x->R w (L1 ++ v :: L2) u x) (hm:appL l m=some r) (h1:∀ w L u x,R w L u x->u.oneCell'=true)
  {K:Value->World->Prop} (hk:∀ v' w',OwK R w' (L1 ++ v' :: L2) e v' r->Gr w w' v->Nx w v v'->Lift w w' (L1 ++ v :: L2) (L1 ++ v' :: L2)->OwK R w' (L1 ++ v' :: L2) e v l->K v' w'):Stp P o f w K:=by
 obtain ⟨us,hown,hl,he⟩:=h
 obtain ⟨ns,hsl,hl',he0⟩:=hu
 have he':∀ i (h:i<ns.length) (h':i<m.length),R w (L1 ++ v :: L2) ns[i] m[i]:=fun i a b=>hLu _ _ (he0 i a b)
 obtain ⟨hmost,rfl⟩:=zji.1 hm
 have hsl0:Sl w [] u ns:=hsl.lift (Lift.sub (fun _ _=>trivial))
 obtain ⟨v',w',hr,h2,h3,h4,h5⟩:=run_app (ty:=o.type) T hown hsl0 (fun a ha=>by
  obtain ⟨j,hj,rfl⟩:=List.getElem_of_mem ha
  exact h1 _ _ _ _ (he' j hj (by omega))) (by omega)
 have hlift:=Lift.own L1 L2 h3 h4
 refine zc5 (v:=v') (w':=w') ?_ (hk _ _ ⟨us ++ ns,h2,by simp [hl,hl'],fun i a1 a2=>?_⟩ h3 h4 hlift ⟨us,h5,hl,fun i a1 a2=>hR _ _ _ _ _ _ hlift (he i a1 a2)⟩)
 ·rw [zby _ ho]
  simp [builtin,hs,hx,hr]
 ·by_cases hi:i<us.length
  ·rw [List.getElem_append_left hi,List.getElem_append_left (by omega)]
   exact hR _ _ _ _ _ _ hlift (he i hi (by omega))
  ·rw [List.getElem_append_right (by omega),List.getElem_append_right (by omega)]
   have:=he' (i - us.length) (by simp at a1;omega) (by simp at a2;omega)
   simp only [hl] at this ⊢
   exact hR _ _ _ _ _ _ hlift this
theorem zav {α:Type} {R:World->List Value->Value->α->Prop} (hR:Stab R) {s x:Operand} {t e:TypeId} {z v u:Value} {bytes:Nat} {l m r:List α} (L1 L2:List Value)
  (ho:o.op=.call ⟨.builtin .append,#[s,x],#[t,t]⟩) (T:TyS P t e z bytes) (hs:ev f s=v) (hx:ev f x=u) (h:OwK R w (L1 ++ v :: L2) e v l) {Lu:List Value} (hu:SlK R w Lu u m) (hLu:∀ u x,R w Lu u x->R w (L1 ++ v :: L2) u x) (hm:appL l m=some r) (h1:∀ w L u x,R w L u x->u.oneCell'=true)
  {K:Value->World->Prop} (hk:∀ v' w',OwK R w' (L1 ++ v' :: L2) e v' r->Gr w w' v->Nx w v v'->Lift w w' (L1 ++ v :: L2) (L1 ++ v' :: L2)->K v' w'):Stp P o f w K:=by
 refine stp_append2 hR L1 L2 ho T hs hx h hu hLu hm h1 fun v' w' a b c d _=>hk v' w' a b c d
theorem fill_seq (us:List Value):∀ (k:Nat) (cells:List Value),k+us.length<=cells.length->(∀ u∈us,u.cells=#[u]) →
  Instr.fill (fun i=>some (i * 1,1)) cells.toArray ((us.zipIdx k).map fun p=>(p.2,p.1))=some (cells.take k ++ us ++ cells.drop (k+us.length)).toArray:=by
 induction us with
 | nil=>intro k cells hk _;simp [Instr.fill]
 | cons u us ih =>
  intro k cells hk hu
  have hc:=hu u (by simp)
  simp only [List.length_cons] at hk
  simp only [List.zipIdx_cons,List.map_cons,Instr.fill,Nat.mul_one,hc]
  rw [if_neg (by simp;omega)]
  have hset:((#[u]:Array Value).zipIdx.foldl (fun cs (c,j)=>cs.setIfInBounds (k+j) c) cells.toArray)=(cells.set k u).toArray:=by simp [Array.zipIdx]
  rw [hset]
  have:=ih (k+1) (cells.set k u) (by simp;omega) (fun x hx=>hu x (by simp [hx]))
  simp only [Nat.mul_one] at this
  rw [this]
  congr 2
  rw [list_seg_step]
  ·simp [Nat.add_assoc,Nat.add_comm 1]
  ·simpa using hk
def Parts (f:Nat->Value):List (Nat×Operand)->Nat->List Value->Prop
 | [],_,[]=>True
 | (i,x) :: r,k,u :: us=>i=k/\ev f x=u/\Parts f r (k+1) us
 | _,_,_=>False
theorem Parts.eq {f:Nat->Value}:∀ (l:List (Nat×Operand)) (k:Nat) (us:List Value),Parts f l k us->(l.map fun (i,x)=>(i,ev f x))=(us.zipIdx k).map fun p=>(p.2,p.1)
 | [],_,[],_=>rfl
 | (i,x) :: r,k,u :: us,h=>by
  obtain ⟨rfl,rfl,h⟩:=h
  simp [Parts.eq r (i+1) us h]
theorem zaz {α:Type} {R:World->List Value->Value->α->Prop} {t e:TypeId} {z:Value} {bytes:Nat} {n:Nat} {parts:List (Nat×Operand)} (us:List Value) (l:List α)
  (ho:o.op=.buildSlice t n parts.toArray) (T:TyS P t e z bytes) (hn:Nat.ble n 16777216=true) (hp:Parts f parts 0 us) (hl:us.length=n) (hc:∀ u∈us,u.cells=#[u]) (hl':us.length=l.length)
  (hu:∀ w' L',Lift w w' L L'->∀ i (h:i<us.length) (h':i<l.length),R w' L' us[i] l[i])
  {K:Value->World->Prop} (hk:∀ v w',OwK R w' (v :: L) e v l->Nw w v->w.grownBy w' none->Lift w w' L (v :: L)->K v w'):Stp P o f w K:=by
 obtain ⟨i,hi,i1,i2,i3⟩:=info_parts T.info
 have hn':n<=16777216:=Nat.le_of_ble_eq_true hn
 have hlim:¬ (16777216<n):=by omega
 have hparts:(parts.toArray.map fun (i,x)=>(i,ev f x)).toList=(us.zipIdx 0).map fun p=>(p.2,p.1):=by
  rw [← Parts.eq parts 0 us hp];simp
 have hrun:(Instr.buildSlice t n (parts.toArray.map fun (i,x)=>(i,ev f x))).run P w=.ok (.slice (some ⟨w.heap.size,0,none⟩) n n) (w.alloc (.cells us.toArray e)):=by
  have hfill:∀ cells:List Value,cells.length=n->Instr.fill (fun i=>some (i,1)) cells.toArray ((us.zipIdx 0).map fun p=>(p.2,p.1))=some us.toArray:=fun cells hcl=>by
   have:=fill_seq us 0 cells (by omega) hc
   simp only [Nat.mul_one] at this
   rw [this]
   simp [List.drop_eq_nil_of_le (show cells.length<=us.length by omega)]
  unfold Instr.buildSlice
  simp only [Sem.run_bind,run_underlying T.sl,Result.andThen_ok,ty_size T,Nat.mul_one,hparts]
  rw [if_neg hlim]
  by_cases h0:n=0
  ·subst h0
   have hus:us=[]:=List.eq_nil_of_length_eq_zero hl
   subst hus
   have hr0:Array.range 0=#[]:=rfl
   simp [newRow,newObj,Sem.run,Instr.fill,hr0]
  ·have hz:(zeroValue e).run P w=.ok z w:=by simp [zeroValue,typeInfo,hi,i1]
   have hf2:=hfill ((List.range n).map (fun i=>(#[z])[i % 1]!)) (by simp)
   have hf3:Instr.fill (fun i=>some (i,1)) (Array.map (fun i=>(#[z])[i % 1]!) (Array.range n)) ((us.zipIdx 0).map fun p=>(p.2,p.1))=some us.toArray:=by
    rw [← hf2];congr 1
    apply Array.ext'
    simp
   have hf4:Instr.fill (fun i=>some (i,1)) (Array.map (fun x=>(#[z])[x % (#[z]:Array Value).size]!) (Array.range n)) ((us.zipIdx 0).map fun p=>(p.2,p.1))=some us.toArray:=hf3
   simp only [h0,if_false,Sem.run_bind,hz,T.cell,Result.andThen_ok,Sem.run_pure,hf4]
   simp [newRow,newObj,Sem.run]
 have hv:Nw w (.slice (some ⟨w.heap.size,0,none⟩) n n):=Nw.mk _ _ _
 have hg:=World.grownBy_alloc w (.cells us.toArray e) none
 refine zc5 (v:=.slice (some ⟨w.heap.size,0,none⟩) n n) (w':=w.alloc (.cells us.toArray e)) ?_ (hk _ _ ⟨us,?_,hl',hu _ _ (Lift.new L hg hv)⟩ hv hg (Lift.new L hg hv))
 ·simp only [execOp,ho,Sem.run_bind,hrun,Result.andThen_ok,Sem.run_pure]
 ·have:=World.ownsRow_lit (e:=e) (size:=1) w us.toArray n (Nat.zero_le _) (by simp only [maxLen];omega) (by simp [hl])
  exact Ow.mk hl.symm (by simpa using this)
def Rl {α:Type} (R:Value->α->Prop) (us:List Value) (l:List α):Prop:=us.length=l.length/\∀ i (h:i<us.length) (h':i<l.length),R us[i] l[i]
theorem Rl.take {α:Type} {R:Value->α->Prop} {us:List Value} {l:List α} (h:Rl R us l) (n:Nat):Rl R (us.take n) (l.take n) :=
 ⟨by simp [h.1],fun i a b=>by simp only [List.getElem_take];exact h.2 i _ _⟩
theorem Rl.drop {α:Type} {R:Value->α->Prop} {us:List Value} {l:List α} (h:Rl R us l) (n:Nat):Rl R (us.drop n) (l.drop n) :=
 ⟨by simp [h.1],fun i a b=>by simp only [List.getElem_drop];exact h.2 _ _ _⟩
theorem Rl.append {α:Type} {R:Value->α->Prop} {us vs:List Value} {l m:List α} (h:Rl R us l) (k:Rl R vs m):Rl R (us ++ vs) (l ++ m):=by
 refine ⟨by simp [h.1,k.1],fun i a b=>?_⟩
 have h1:=h.1
 by_cases hi:i<us.length
 ·rw [List.getElem_append_left hi,List.getElem_append_left (by omega)];exact h.2 i _ _
 ·rw [List.getElem_append_right (by omega),List.getElem_append_right (by omega)]
  have:=k.2 (i - us.length) (by simp at a;omega) (by simp at b;omega)
  simp only [h1] at this ⊢
  exact this
theorem splice_take {α:Type} (cur nt:List α) (n k:Nat) (h:k+nt.length<=n) (hn:n<=cur.length) :
  (cur.take k ++ nt ++ cur.drop (k+nt.length)).take n=(cur.take n).take k ++ (nt ++ (cur.take n).drop (k+nt.length)):=by
 apply List.ext_getElem?
 intro j
 rw [List.getElem?_take]
 by_cases hj:j<n
 ·rw [if_pos hj]
  by_cases hjk:j<k
  ·rw [List.append_assoc,List.getElem?_append_left (by simp;omega),List.getElem?_append_left (by simp;omega)]
   rw [List.getElem?_take,if_pos hjk,List.getElem?_take,if_pos hjk,List.getElem?_take,if_pos hj]
  ·have e1:(cur.take k).length=k:=by simp;omega
   have e2:((cur.take n).take k).length=k:=by simp;omega
   rw [List.append_assoc,List.getElem?_append_right (l₁:=cur.take k) (by omega),List.getElem?_append_right (l₁:=(cur.take n).take k) (by omega),e1,e2]
   by_cases hj2:j - k<nt.length
   ·rw [List.getElem?_append_left hj2,List.getElem?_append_left hj2]
   ·rw [List.getElem?_append_right (by omega),List.getElem?_append_right (by omega),List.getElem?_drop,List.getElem?_drop,List.getElem?_take,if_pos (by omega)]
 ·rw [if_neg hj,List.getElem?_eq_none]
  simp;omega
theorem stp_copy {α:Type} {R:World->List Value->Value->α->Prop} (hR:Stab R) {d x:Operand} {t e:TypeId} {z v dv u:Value} {bytes:Nat} {l m:List α} {off:Int} (L1 L2:List Value)
  (ho:o.op=.call ⟨.builtin .copy,#[d,x],#[t,t]⟩) (T:TyS P t e z bytes) (hd:ev f d=dv) (hx:ev f x=u) (h:OwK R w (L1 ++ v :: L2) e v l)
  (hdv:dv=subV v off.toNat l.length) (h0:0<=off) (hoff:off<=l.length)
  {Lu:List Value} (hu:SlK R w Lu u m) (hLu:∀ u x,R w Lu u x->R w (L1 ++ v :: L2) u x) (h1:∀ w L u x,R w L u x->u.oneCell'=true)
  {K:Value->World->Prop} (hk:∀ w',OwK R w' (L1 ++ v :: L2) e v (copyL l off m)->Gr w w' v->Lift w w' (L1 ++ v :: L2) (L1 ++ v :: L2)->K (i64 (min m.length (l.length - off.toNat):Nat)) w'):Stp P o f w K:=by
 obtain ⟨us,hown,hl,he⟩:=h
 obtain ⟨ns,⟨p,cap,hp,hcap,hne⟩,hl',he0⟩:=hu
 have he':∀ i (h:i<ns.length) (h':i<m.length),R w (L1 ++ v :: L2) ns[i] m[i]:=fun i a b=>hLu _ _ (he0 i a b)
 obtain ⟨i,hi,i1,i2,i3⟩:=info_parts T.info
 have hsz:(P.info? e).map (·.size)=some 1:=by rw [hi];simp [i2]
 obtain ⟨k,rfl⟩:=Int.eq_ofNat_of_zero_le h0
 simp only [Int.toNat_natCast] at *
 have hkl:k<=us.length:=by omega
 have hmin:Nat.min ns.length (us.length - k)=min m.length (l.length - k):=by rw [hl,hl']
 by_cases hz:Nat.min ns.length (us.length - k)=0
 ·have hrun:(Builtin.copy_ #[t,t] o.type #[dv,u]).run P w=.ok (goInt 0) w:=by
   rcases hown with ⟨pv,rfl,rfl⟩ | ⟨g,cap',rfl,hc0,hown⟩
   ·subst hdv;subst hp
    cases pv <;> exact run_copy_none (P:=P) w t t o.type e _ _ _ _ _ _ T.sl hsz (by rw [← hl];exact hz)
   ·subst hdv;subst hp
    exact run_copy_none (P:=P) w t t o.type e _ _ _ _ _ _ T.sl hsz (by rw [← hl];exact hz)
  refine zc5 (v:=goInt 0) (w':=w) (by rw [zby _ ho];simp [builtin,hd,hx,hrun]) ?_
  have hk':=hk w ⟨us,hown,?_,?_⟩ (Gr.refl w _) (Lift.sub (fun _ h=>h))
  ·rw [show min m.length (l.length - k)=0 by omega] at hk'
   exact hk'
  ·have h2:min m.length (l.length - k)=0:=by omega
   simp only [copyL,Int.toNat_natCast,List.length_append,List.length_take,List.length_drop];omega
  ·have:copyL l (k:Int) m=l:=by
    unfold copyL
    simp only [Int.toNat_natCast]
    have h2:min m.length (l.length - k)=0:=by omega
    rw [h2]
    rcases Nat.eq_zero_or_pos (l.length - k) with h3 | h3
    ·rw [h3];simp
    ·have:m.length=0:=by omega
     rw [List.eq_nil_of_length_eq_zero this];simp
   rw [this]
   exact he
 ·have hpos:0<Nat.min ns.length (us.length - k):=Nat.pos_of_ne_zero hz
  have hns0:0<ns.length:=by have:=Nat.min_le_left ns.length (us.length - k);omega
  have hus0:0<us.length - k:=by have:=Nat.min_le_right ns.length (us.length - k);omega
  obtain ⟨b,so,rfl,_,hr⟩:=hne (List.length_pos_iff.1 hns0)
  rcases hown with ⟨pv,rfl,rfl⟩ | ⟨g,cap',rfl,hc0,hown⟩
  ·simp at hus0
  ·obtain ⟨cur,hg,hc,hcm,hcs,htake⟩:=zfa hown
   have hn:(ns.take (us.length - k)).length=Nat.min ns.length (us.length - k):=by simp;exact Nat.min_comm _ _
   have hadr:dv=.slice (some ⟨g,k,none⟩) (us.length - k) (cap' - k):=by
    rw [hdv,← hl];simp only [subV];rw [if_neg (by omega)];simp [zcg]
   have hrun:=run_copy_row (P:=P) w t t o.type e g k (us.length - k) (cap' - k) ⟨b,so,none⟩ ns.length cap cur e (ns.take (us.length - k)) T.sl hsz hg hn
    (fun j v hj=>by
     obtain ⟨hj',rfl⟩:=List.getElem?_eq_some_iff.1 hj
     rw [zcg,hr j (by simp at hj';omega)];simp)
    (by rw [hn,hcs];have:=Nat.min_le_right ns.length (us.length - k);omega)
    (fun a ha=>by
     obtain ⟨j,hj,rfl⟩:=List.getElem_of_mem ha
     simp only [List.getElem_take]
     exact h1 _ _ _ _ (he' j (by simp at hj;omega) (by simp at hj;omega)))
   generalize hw':w.setRow g (cur.toList.take k ++ ns.take (us.length - k) ++ cur.toList.drop (k+(ns.take (us.length - k)).length)).toArray=w' at hrun
   have hgr:Gr w w' (.slice (some ⟨g,0,none⟩) us.length cap'):=Gr.of (by rw [ze4 hc0];rw [← hw'];exact ⟨rfl,rfl,rfl,by simp,fun j _ hj=>setRow_other w g j _ (fun e=>hj (by rw [e]))⟩)
   have hlift:Lift w w' (L1 ++ .slice (some ⟨g,0,none⟩) us.length cap' :: L2) (L1 ++ .slice (some ⟨g,0,none⟩) us.length cap' :: L2):=Lift.own L1 L2 hgr (Nx.refl _ _)
   have hnew:(us.take k ++ (ns.take (us.length - k) ++ us.drop (k+(ns.take (us.length - k)).length))).length=us.length:=by
    simp;omega
   refine zc5 (v:=goInt (ns.take (us.length - k)).length) (w':=w') (by rw [zby _ ho];simp [builtin,hd,hx,hadr,hp,hrun]) ?_
   have hk':=hk w' ⟨us.take k ++ (ns.take (us.length - k) ++ us.drop (k+(ns.take (us.length - k)).length)),?_,?_,?_⟩ hgr hlift
   ·rw [← hmin,← hn] at hk';exact hk'
   ·refine Ow.mk hnew.symm ⟨by simpa using hnew,.inr ⟨g,cap',_,rfl,Nat.zero_le _,by rw [← hw'];exact setRow_heap w g cur _ e _ hg,hc,hcm,?_,?_⟩⟩
    ·simp only [List.size_toArray,List.length_append,List.length_take,List.length_drop,Array.length_toList,hcs]
     omega
    ·have hl1:(ns.take (us.length - k)).length<=us.length - k:=by simp;omega
     simp only [Nat.mul_one] at htake ⊢
     rw [splice_take cur.toList _ us.length k (by omega) (by have h9:cur.toList.length=cur.size:=Array.length_toList;simp at hcs;omega),htake]
   ·simp [copyL];omega
   ·have r1:Rl (R w' (L1 ++ .slice (some ⟨g,0,none⟩) us.length cap' :: L2)) us l:=⟨hl,fun i h h'=>hR _ _ _ _ _ _ hlift (he i h h')⟩
    have r2:Rl (R w' (L1 ++ .slice (some ⟨g,0,none⟩) us.length cap' :: L2)) ns m:=⟨hl',fun i h h'=>hR _ _ _ _ _ _ hlift (he' i h h')⟩
    have r3:=(r1.take k).append ((r2.take (us.length - k)).append (r1.drop (k+(ns.take (us.length - k)).length)))
    have e5:min m.length (us.length - k)=(ns.take (us.length - k)).length:=by simp [hl'];exact Nat.min_comm _ _
    have e4:copyL l (k:Int) m=l.take k ++ (m.take (us.length - k) ++ l.drop (k+(ns.take (us.length - k)).length)):=by
     unfold copyL;simp only [Int.toNat_natCast,← hl,e5]
    rw [e4]
    exact r3.2
theorem q_str {x:Operand} {t d e:TypeId} {z v:Value} {bytes:Nat} {l:List UInt8} (ho:o.op=.convert t d x) (T:TyS P t e z bytes) (hd:P.underlying d=some .string) (he:P.underlying e=some (.int .u8)) (hx:ev f x=v) (h:By w L v l):Qt P o f w (str l):=by
 intro w' hx'
 obtain ⟨us,⟨p,cap,hv,hc,hne⟩,hl,hr⟩:=h
 have hus:us=l.map u8:=List.ext_getElem (by simp [hl]) fun i a1 a2=>by have:=hr i a1 (by simpa using a2);simpa [Sc] using this
 subst hv
 have hrun:(convert t d (.slice p us.length cap)).run P w'=.ok (str l) w':=by
  by_cases hn:us=[]
  ·subst hn
   have hl0:l=[]:=List.eq_nil_of_length_eq_zero (by simpa using hl.symm)
   subst hl0
   cases p with
   | none=>exact run_convert_bytes_nil w' t e T.sl he _ _ d hd
   | some a=>exact run_convert_bytes_back w' t d e a cap [] T.sl he hd (fun j hj=>by simp at hj)
  ·obtain ⟨b,off,rfl,_,hr⟩:=hne hn
   rw [show us.length=l.length from hl]
   refine run_convert_bytes_back w' t d e _ cap l T.sl he hd fun j hj=>?_
   have hc:=hr j (by omega)
   rw [zcg,World.cell?_of_block (w:=w) (hx'.blk b (World.block_lt_of_cell? w _ hc)),hc]
   simp [hus,u8]
 simp [execOp,ho,hx,hrun]
theorem q_eqS {x y:Operand} {t t':TypeId} {a b:List UInt8} (ho:o.op=.binOp .eql t x y t') (hx:ev f x=str a) (hy:ev f y=str b):Qa P o f (.bool (decide (a=b))):=by
 intro w
 have h:(a == b)=decide (a=b):=by rw [Bool.eq_iff_iff];simp
 simp [execOp,ho,hx,hy,str,eqGuard,binOp,Op.stringOp,h]
theorem q_neS {x y:Operand} {t t':TypeId} {a b:List UInt8} (ho:o.op=.binOp .neq t x y t') (hx:ev f x=str a) (hy:ev f y=str b):Qa P o f (.bool (!decide (a=b))):=by
 intro w
 have h:(a == b)=decide (a=b):=by rw [Bool.eq_iff_iff];simp
 simp [execOp,ho,hx,hy,str,eqGuard,binOp,Op.stringOp,bne]
 simp [h]
theorem enters {g : FuncId} {fn : Func} (hf : P.funcs[g]? = some fn) (hn : (fn.name == "runtime.NumGoroutine") = false) (hb : fn.body.isNone = false) (args : Array Value) (w : World) : (callFunc g args).run P w = .ok (.enter g args) w := by
 have hn' : ¬ (fn.name = "runtime.NumGoroutine") := by intro e; rw [e] at hn; simp at hn
 have hb' : ¬ (fn.body = none) := by intro e; rw [e] at hb; simp at hb
 simp [callFunc, Sem.run_bind, program, Sem.run, hf, hn', hb']
theorem zab {g : FuncId} {fn : Func} {xs : Array Operand} {ats : Array TypeId} {vs : List Value} {R' : Ending -> World -> Prop} (hf : P.funcs[g]? = some fn) (hn : (fn.name == "runtime.NumGoroutine") = false) (hb : fn.body.isNone = false)
  (ho : o.op = .call ⟨.value (.func g), xs, ats⟩) (hx : xs.toList.map (ev f) = vs) (hc : Calls P g vs.toArray w R') {K : Value -> World -> Prop} (hk : ∀ e w', R' e w' -> ∃ v, e = .returned v /\ K v w') : Stp P o f w K := by
 have hxs : xs.map (ev f) = vs.toArray := by subst hx; apply Array.ext'; simp
 unfold Stp
 have : (execOp (ev f) o).run P w = .ok (.enter g vs.toArray) w := by
  have h1 := enters (P := P) hf hn hb vs.toArray w
  unfold execOp
  rw [ho]
  dsimp only
  simp only [resolve, ev, Deferred.ofValue, hxs, Sem.run_bind, Sem.run_pure, Result.andThen_ok, invoke]
  simpa using h1
 rw [this]
 exact hc.mono hk
end
end Gk

/- The walk's single steps, as the printed walks use them; further operations; the field's memory. No condition. -/
namespace Gk
open Go
section
variable {P : Program} {ops : Array Oper} {K : (Nat → Value) → World → Prop} {r : List Oper} {o : Oper} {f : Nat → Value} {w : World} {d : Nat} {v : Value}
theorem wla (hw:wantF ops f o=true) (hd:o.dst=some d) (hq:Qa P o f v) (h:wl P ops K r (upd f d v) w):wl P ops K (o :: r) f w :=
 wl_a hw hq (by rw [hd];exact h)
theorem wlq (hw:wantF ops f o=true) (hd:o.dst=some d) (hq:Qt P o f w v) (h:wl P ops K r (upd f d v) w):wl P ops K (o :: r) f w :=
 wl_q hw hq (by rw [hd];exact h)
theorem wls (hw:wantF ops f o=true) (hd:o.dst=some d) (h:Stp P o f w (fun v w'=>wl P ops K r (upd f d v) w')):wl P ops K (o :: r) f w :=
 wl_stp hw (by rw [hd];exact h)
theorem wln (hw:wantF ops f o=true) (hd:o.dst=none) (h:Stp P o f w (fun _ w'=>wl P ops K r f w')):wl P ops K (o :: r) f w :=
 wl_stp hw (by rw [hd];exact h)
theorem wlk (hw:wantF ops f o=false) (hd:o.dst=some d) (h:wl P ops K r (upd f d undef) w):wl P ops K (o :: r) f w :=
 wl_skip hw (by rw [hd];exact h)
theorem wlb {b:Bool} (hw:wantF ops f o=true) (hd:o.dst=some d) (hq:Qa P o f (.bool b)) (ht:b=true->wl P ops K r (upd f d (.bool true)) w) (hf:b=false->wl P ops K r (upd f d (.bool false)) w):wl P ops K (o :: r) f w:=by
 refine wla hw hd hq ?_
 cases b
 ·exact hf rfl
 ·exact ht rfl
end
section
variable {P : Program} {ops : Array Oper} {qs : List Nat} {K : (Nat → Value) → World → Prop} {r : List (Nat × Nat)} {i : Nat} {o : Oper} {f : Nat → Value} {w : World} {d : Nat} {v : Value}
theorem wsa (ho:ops[i]?=some o) (hw:wantF ops f o=true) (hd:o.dst=some d) (hq:Qa P o f v) (h:ws P ops qs K r (upd f d v) w):ws P ops qs K ((i,0) :: r) f w :=
 ws_a ho hw hq (by rw [hd];exact h)
theorem wsq (ho:ops[i]?=some o) (hw:wantF ops f o=true) (hd:o.dst=some d) (hq:Qt P o f w v) (h:ws P ops qs K r (upd f d v) w):ws P ops qs K ((i,1) :: r) f w :=
 ws_q ho hw hq (by rw [hd];exact h)
theorem wss (ho:ops[i]?=some o) (hw:wantF ops f o=true) (hd:o.dst=some d) (h:Stp P o f w (fun v w'=>Ext w w'/\ws P ops qs K r (upd f d v) w')):ws P ops qs K ((i,2) :: r) f w :=
 ws_stp ho hw (h.mono fun v w' h=>⟨.inl h.1,by rw [hd];exact h.2⟩)
theorem wsc (ho:ops[i]?=some o) (hc:zfh .any ops qs i=true) (hw:wantF ops f o=true) (hd:o.dst=some d) (h:Stp P o f w (fun v w'=>ws P ops qs K r (upd f d v) w')):ws P ops qs K ((i,2) :: r) f w :=
 ws_stp ho hw (h.mono fun v w' h=>⟨.inr hc,by rw [hd];exact h⟩)
theorem wsn (ho:ops[i]?=some o) (hc:zfh .any ops qs i=true) (hw:wantF ops f o=true) (hd:o.dst=none) (h:Stp P o f w (fun _ w'=>ws P ops qs K r f w')):ws P ops qs K ((i,2) :: r) f w :=
 ws_stp ho hw (h.mono fun v w' h=>⟨.inr hc,by rw [hd];exact h⟩)
theorem wsk {t:Nat} (ho:ops[i]?=some o) (hw:wantF ops f o=false) (hd:o.dst=some d) (h:ws P ops qs K r (upd f d undef) w):ws P ops qs K ((i,t) :: r) f w :=
 ws_skip ho hw (by rw [hd];exact h)
theorem wsb {b:Bool} (ho:ops[i]?=some o) (hw:wantF ops f o=true) (hd:o.dst=some d) (hq:Qa P o f (.bool b)) (ht:b=true->ws P ops qs K r (upd f d (.bool true)) w) (hf:b=false->ws P ops qs K r (upd f d (.bool false)) w):ws P ops qs K ((i,0) :: r) f w:=by
 refine wsa ho hw hd hq ?_
 cases b
 ·exact hf rfl
 ·exact ht rfl
end
theorem cst8 {f:Nat->Value} (n:UInt8) {m:Int} (h:(n.toNat:Int)=m):ev f (.const (.int .u8 m))=u8 n:=by subst h;rfl
theorem cst32 {f:Nat->Value} (n:UInt32) {m:Int} (h:(n.toNat:Int)=m):ev f (.const (.int .u32 m))=u32 n:=by subst h;rfl
theorem cst64 {f:Nat->Value} (n:UInt64) {m:Int} (h:(n.toNat:Int)=m):ev f (.const (.int .u64 m))=u64 n:=by subst h;rfl
section
variable {f : Nat → Value} {x1 x2 x3 x4 x5 x6 x7 x8 : Operand} {v1 v2 v3 v4 v5 v6 v7 v8 : Value}
theorem ar0:([]:List Operand).map (ev f)=[]:=rfl
theorem ar1 (h1:ev f x1=v1):[x1].map (ev f)=[v1]:=by simp [*]
theorem ar2 (h1:ev f x1=v1) (h2:ev f x2=v2):[x1,x2].map (ev f)=[v1,v2]:=by simp [*]
theorem ar3 (h1:ev f x1=v1) (h2:ev f x2=v2) (h3:ev f x3=v3):[x1,x2,x3].map (ev f)=[v1,v2,v3]:=by simp [*]
theorem ar4 (h1:ev f x1=v1) (h2:ev f x2=v2) (h3:ev f x3=v3) (h4:ev f x4=v4):[x1,x2,x3,x4].map (ev f)=[v1,v2,v3,v4]:=by simp [*]
theorem ar5 (h1:ev f x1=v1) (h2:ev f x2=v2) (h3:ev f x3=v3) (h4:ev f x4=v4) (h5:ev f x5=v5):[x1,x2,x3,x4,x5].map (ev f)=[v1,v2,v3,v4,v5]:=by simp [*]
end
def Old (w:World) (L:List Value):Prop:=∀ k,w.heap.size<=k->Av L k
theorem Old.nil (w:World):Old w []:=fun _ _=>trivial
theorem Old.ext {w w':World} {L:List Value} (h:Old w L) (hx:Ext w w'):Old w' L:=fun k hk=>h k (Nat.le_trans hx.size hk)
theorem Old.cons {w:World} {L:List Value} {v:Value} (h:Old w L) (hv:∀ k,Hs v k->k<w.heap.size):Old w (v :: L) :=
 fun k hk=>⟨fun e=>by have:=hv k e;omega,h k hk⟩
theorem OwK.weak {α:Type} {R:World->List Value->Value->α->Prop} (hR:Stab R) {w:World} {L L':List Value} {e:TypeId} {u:Value} {l:List α} (h:OwK R w L e u l) (hs:∀ k,Av L k->Av L' k):OwK R w L' e u l:=by
 obtain ⟨us,h,hl,he⟩:=h
 exact ⟨us,h,hl,fun i h1 h2=>hR _ _ _ _ _ _ (Lift.sub hs) (he i h1 h2)⟩
theorem oc_u8:∀ (w:World) (L:List Value) (u:Value) (x:UInt8),Sc u8 w L u x->u.oneCell'=true:=fun _ _ _ _ h=>h ▸ rfl
theorem oc_i64:∀ (w:World) (L:List Value) (u:Value) (x:Int),Sc i64 w L u x->u.oneCell'=true:=fun _ _ _ _ h=>h ▸ rfl
theorem oc_u64:∀ (w:World) (L:List Value) (u:Value) (x:UInt64),Sc u64 w L u x->u.oneCell'=true:=fun _ _ _ _ h=>h ▸ rfl
theorem oc_sl {α:Type} {R:World->List Value->Value->α->Prop}:∀ (w:World) (L:List Value) (u:Value) (x:List α),SlK R w L u x->u.oneCell'=true:=fun _ _ _ _ h=>by
 obtain ⟨p,cap,rfl,_⟩:=h.shape;rfl
section
variable {P : Program} {o : Oper} {f : Nat → Value}
theorem q_minI {x y:Operand} {ats:Array TypeId} {a b:Int} (ho:o.op=.call ⟨.builtin .min,#[x,y],ats⟩) (hx:ev f x=i64 a) (hy:ev f y=i64 b):Qa P o f (i64 (if b<a then b else a)):=by
 intro w;rw [zby _ ho];simp [builtin,Builtin.min_,Builtin.min2,hx,hy,i64]
theorem q_maxI {x y:Operand} {ats:Array TypeId} {a b:Int} (ho:o.op=.call ⟨.builtin .max,#[x,y],ats⟩) (hx:ev f x=i64 a) (hy:ev f y=i64 b):Qa P o f (i64 (if a<b then b else a)):=by
 intro w;rw [zby _ ho];simp [builtin,Builtin.max_,Builtin.max2,hx,hy,i64]
theorem q_divI {x y:Operand} {t t':TypeId} {a b c:Int} (ho:o.op=.binOp .quo t x y t') (hx:ev f x=i64 a) (hy:ev f y=i64 b) (h:divI a b=some c):Qa P o f (i64 c):=by
 intro w
 unfold divI at h
 split at h
 ·cases h
 ·rename_i hb
  obtain rfl:=Option.some.inj h
  unfold execOp;rw [ho];dsimp only;rw [hx,hy]
  simp only [i64,eqGuard,binOp,Op.intDiv,if_neg hb,wI]
  rfl
theorem zdm {x y:Operand} {t t':TypeId} {a b c:Int} (ho:o.op=.binOp .rem t x y t') (hx:ev f x=i64 a) (hy:ev f y=i64 b) (h:remI a b=some c):Qa P o f (i64 c):=by
 intro w
 unfold remI at h
 split at h
 ·cases h
 ·rename_i hb
  obtain rfl:=Option.some.inj h
  unfold execOp;rw [ho];dsimp only;rw [hx,hy]
  simp only [i64,eqGuard,binOp,Op.intDiv,if_neg hb]
  rfl
theorem run_eqP {t e:TypeId} (d:Nat) (p:Option Addr) (ht:P.underlying t=some (.pointer e)) (w:World):(Op.equalIn (d+1) t (.pointer p) (.pointer none)).run P w=.ok p.isNone w:=by
 cases p <;> simp [Op.equalIn,run_underlying ht]
theorem q_eqP {x y:Operand} {t t' e:TypeId} {p:Option Addr} (ho:o.op=.binOp .eql t x y t') (ht:P.underlying t=some (.pointer e)) (hx:ev f x=.pointer p) (hy:ev f y=.pointer none):Qa P o f (.bool p.isNone):=by
 intro w
 have h:(Op.equalIn 10000 t (.pointer p) (.pointer none)).run P w=.ok p.isNone w:=run_eqP (P:=P) 9999 p ht w
 unfold execOp;rw [ho];dsimp only;rw [hx,hy]
 simp only [eqGuard,binOp,Op.equal,Op.maxDepth,Sem.run_bind,Sem.run_pure,Result.andThen_ok,h,Bool.not_true,Bool.false_eq_true,if_false]
theorem zey {x:Operand} {t t':TypeId} {k:IntKind} {a:Int} (ho:o.op=.convert t t' x) (ht:P.underlying t=some (.int k)) (ht':P.underlying t'=some (.int .u8)) (hx:ev f x=i64 a):Qa P o f (u8 (UInt8.ofInt a)):=by
 intro w
 have h:IntKind.u8.wrap a=((UInt8.ofInt a).toNat:Int):=by
  rw [wrap_u8];simp [UInt8.ofInt];omega
 simp [execOp,ho,hx,i64,convert,run_underlying ht,run_underlying ht',Conv.intToInt,h,u8]
theorem q_cvtI8 {x:Operand} {t t':TypeId} {k:IntKind} {a:UInt8} (ho:o.op=.convert t t' x) (ht:P.underlying t=some (.int k)) (ht':P.underlying t'=some (.int .i64)) (hx:ev f x=u8 a):Qa P o f (i64 (a.toNat:Int)):=by
 intro w
 have h:IntKind.i64.wrap (a.toNat:Int)=(a.toNat:Int):=wI_of (by omega) (by have:=a.toNat_lt;omega)
 simp [execOp,ho,hx,i64,convert,run_underlying ht,run_underlying ht',Conv.intToInt,h,u8]
theorem zgi {x:Operand} {t t':TypeId} {k:IntKind} {a:Int} (ho:o.op=.convert t t' x) (ht:P.underlying t=some (.int k)) (ht':P.underlying t'=some (.int .u64)) (hx:ev f x=i64 a):Qa P o f (u64 (UInt64.ofInt a)):=by
 intro w
 have h:IntKind.u64.wrap a=((UInt64.ofInt a).toNat:Int):=by
  rw [zj2];simp [UInt64.ofInt];omega
 simp [execOp,ho,hx,i64,convert,run_underlying ht,run_underlying ht',Conv.intToInt,h,u64]
theorem q_cvtI64 {x:Operand} {t t':TypeId} {k:IntKind} {a:UInt64} (ho:o.op=.convert t t' x) (ht:P.underlying t=some (.int k)) (ht':P.underlying t'=some (.int .i64)) (hx:ev f x=u64 a):Qa P o f (i64 (wI (a.toNat:Int))):=by
 intro w
 simp [execOp,ho,hx,i64,convert,run_underlying ht,run_underlying ht',Conv.intToInt,wI,u64]
theorem q_cvt864 {x:Operand} {t t':TypeId} {k:IntKind} {a:UInt64} (ho:o.op=.convert t t' x) (ht:P.underlying t=some (.int k)) (ht':P.underlying t'=some (.int .u8)) (hx:ev f x=u64 a):Qa P o f (u8 a.toUInt8):=by
 intro w
 have h:IntKind.u8.wrap (a.toNat:Int)=(a.toUInt8.toNat:Int):=by
  rw [wrap_u8];simp
 simp [execOp,ho,hx,u64,convert,run_underlying ht,run_underlying ht',Conv.intToInt,h,u8]
end
end Gk

namespace Gk
open Go Go.Proofs
section
variable {ro : Option Nat} {P : Program} {n : Nat} {ops : Array Oper} {K : (Nat → Value) → World → Prop} {r : List Oper} {o : Oper} {f : Nat → Value} {w : World} {d : Nat} {x : Operand}
theorem wa {v : Value} (h : (wantF ops f o, o.dst) = (true, some d)) (hq : Qa P o f v) (k : wl P ops K r (upd f d v) w) : wl P ops K (o :: r) f w := wla (congrArg Prod.fst h) (congrArg Prod.snd h) hq k
theorem mv (v : Value) (h : (wantF ops f o, o.dst, o.op) = (true, some d, .move x)) (hx : ev f x = v) (k : wl P ops K r (upd f d v) w) : wl P ops K (o :: r) f w := wla (congrArg (·.1) h) (congrArg (·.2.1) h) (zbd (congrArg (·.2.2) h) hx) k
theorem av (v : Value) (h : (wantF ops f o, o.dst, o.op) = (true, some d, .assign x)) (hx : ev f x = v) (k : wl P ops K r (upd f d v) w) : wl P ops K (o :: r) f w := wla (congrArg (·.1) h) (congrArg (·.2.1) h) (zat (congrArg (·.2.2) h) hx) k
theorem W_rg {Q : Exit → (Nat → Value) → World → Prop} {id : Nat} {l : List Oper} (h : wl P l.toArray (Q .normal) l f w) (hok : zb8 n l.toArray = true := by kernel_rfl) : W (ro := ro) P n (.region id l.toArray false) Q f w := W_reg hok h
theorem W_sr {Q : Exit → (Nat → Value) → World → Prop} {id : Nat} {l : List Oper} {c : Code} (h : wl P l.toArray (Th (W (ro := ro) P n c Q) Q .normal) l f w) (hok : zb8 n l.toArray = true := by kernel_rfl) : W (ro := ro) P n (.seq (.region id l.toArray false) c) Q f w := W_seq (W_reg hok h)
theorem wnt {Q Q' : Exit → (Nat → Value) → World → Prop} {y : Code} (h : W (ro := ro) P n y Q f w) : wl P ops (Th (W (ro := ro) P n y Q) Q' .normal) [] f w := h
theorem sv {qs : List Nat} {i : Nat} {r : List (Nat × Nat)} (v : Value) (ho : ops[i]? = some o) (h : (wantF ops f o, o.dst, o.op) = (true, some d, .move x)) (hx : ev f x = v) (k : ws P ops qs K r (upd f d v) w) : ws P ops qs K ((i, 0) :: r) f w := wsa ho (congrArg (·.1) h) (congrArg (·.2.1) h) (zbd (congrArg (·.2.2) h) hx) k
theorem wq {v : Value} (h : (wantF ops f o, o.dst) = (true, some d)) (hq : Qt P o f w v) (k : wl P ops K r (upd f d v) w) : wl P ops K (o :: r) f w := wlq (congrArg Prod.fst h) (congrArg Prod.snd h) hq k
theorem sa {qs : List Nat} {i : Nat} {r : List (Nat × Nat)} {v : Value} (ho : ops[i]? = some o) (h : (wantF ops f o, o.dst) = (true, some d)) (hq : Qa P o f v) (k : ws P ops qs K r (upd f d v) w) : ws P ops qs K ((i, 0) :: r) f w := wsa ho (congrArg Prod.fst h) (congrArg Prod.snd h) hq k
theorem sq {qs : List Nat} {i : Nat} {r : List (Nat × Nat)} {v : Value} (ho : ops[i]? = some o) (h : (wantF ops f o, o.dst) = (true, some d)) (hq : Qt P o f w v) (k : ws P ops qs K r (upd f d v) w) : ws P ops qs K ((i, 1) :: r) f w := wsq ho (congrArg Prod.fst h) (congrArg Prod.snd h) hq k
theorem wk (h : (wantF ops f o, o.dst) = (false, some d)) (k : wl P ops K r (upd f d undef) w) : wl P ops K (o :: r) f w := wlk (congrArg Prod.fst h) (congrArg Prod.snd h) k
theorem wci {c : Operand} {y z : Code} {Q : Exit → (Nat → Value) → World → Prop} {α : Type} {p : Prop} [Decidable p] {a b r : α} (H : (if p then a else b) = r) (ho : okO n c = true) (hc : ev f c = .bool (decide p)) (ht : a = r → W (ro := ro) P n y Q f w) (hf : b = r → W (ro := ro) P n z Q f w) : W (ro := ro) P n (.cond c y z) Q f w :=
  zam _ ho hc (fun h => ht ((if_pos (of_decide_eq_true h)).symm.trans H)) (fun h => hf ((if_neg (of_decide_eq_false h)).symm.trans H))
end
theorem bse {α β : Type} {o : Option α} {g : α → Option β} {b : β} {G : Prop} (h : o.bind g = some b) (k : ∀ a, o = some a → g a = some b → G) : G := by obtain ⟨a, h1, h2⟩ := Option.bind_eq_some_iff.1 h; exact k a h1 h2
theorem V {α : Sort _} {a : α} : a = a := Eq.refl a
theorem le_ {w w' : World} {L : List Value} (x : Ext w w') : Lift w w' L L := Lift.ext x L
theorem ifn {α : Type} {c : Prop} [Decidable c] {a b r : α} (h : decide c = false) (H : (if c then a else b) = r) : b = r := (if_neg (of_decide_eq_false h)).symm.trans H
theorem ifp {α : Type} {c : Prop} [Decidable c] {a b r : α} (h : decide c = true) (H : (if c then a else b) = r) : a = r := (if_pos (of_decide_eq_true h)).symm.trans H
theorem lt2 {a b : Nat} {v : Value} (h : a ≤ b) (m : ∀ k, Hs v k → b ≤ k) : ∀ k, Hs v k → a ≤ k := fun k hk => Nat.le_trans h (m k hk)
end Gk

/- Small words of the printed walks: tests, literals, elements that are references, the field's pointer. No condition. -/
namespace Gk
open Go
theorem zbf {p:Prop} [Decidable p] (h:(!decide p)=true):¬ p:=by simpa using h
theorem zbg {p:Prop} [Decidable p] (h:(!decide p)=false):p:=by simpa using h
theorem SlK.nil {α:Type} (R:World->List Value->Value->α->Prop) (w:World) (L:List Value):SlK R w L (.slice none 0 0) ([]:List α) :=
 ⟨[],⟨none,0,rfl,Nat.le_refl _,fun h=>absurd rfl h⟩,rfl,fun i h=>by simp at h⟩
theorem OwK.scal {α:Type} {enc:α->Value} {w:World} {L:List Value} {e:TypeId} {v:Value} {l:List α} (h:OwK (Sc enc) w L e v l) (L':List Value):OwK (Sc enc) w L' e v l:=h
theorem Lift.arg {w0 w:World} {L:List Value} (h:Ext w0 w) (hL:∀ k,k<w0.heap.size->Av L k):Lift w0 w [] L:=⟨fun k _ ho _ _=>(h.blk k (zbp ho)).trans ho,fun k hk _=>hL k hk⟩
theorem nv_nil {w0:World}:∀ k,k<w0.heap.size->Av [] k:=fun _ _=>trivial
theorem nv_cons {w0:World} {v:Value} {L:List Value} (h:Nw w0 v) (hL:∀ k,k<w0.heap.size->Av L k):∀ k,k<w0.heap.size->Av (v :: L) k :=
 fun k hk=>⟨fun e=>by have:=h k e;omega,hL k hk⟩
def nz {α:Type} [DecidableEq α] [OfNat α 0] (b:α):Option Unit:=if b=0 then none else some ()
theorem nz_ne {α:Type} [DecidableEq α] [OfNat α 0] {b:α} {u:Unit} (h:nz b=some u):b≠0:=by
 unfold nz at h;split at h
 ·cases h
 ·assumption
theorem subL_lo {α:Type} {l m:List α} {lo hi:Int} (h:subL l lo hi=some m):lo<=(l.length:Int):=by
 obtain ⟨⟨_,h1,h2⟩,_⟩:=ze9.1 h;omega
theorem copy_whole {α:Type} {R:World->List Value->Value->α->Prop} {w:World} {L:List Value} {e:TypeId} {v:Value} {l:List α} (h:OwK R w L e v l):v=subV v (0:Int).toNat l.length:=by
 obtain ⟨us,h,hl,_⟩:=h
 rcases h with ⟨p,rfl,rfl⟩ | ⟨g,cap,rfl,_⟩
 ·have:l.length=0:=by simpa using hl.symm
  rw [this];cases p <;> rfl
 ·simp [subV,hl,Addr.add]
section
variable {P : Program} {ops : Array Oper} {K : (Nat → Value) → World → Prop} {r : List Oper} {o : Oper} {f : Nat → Value} {w w1 : World} {d : Nat}
variable {α : Type} {R : World → List Value → Value → α → Prop} {v z : Value} {L : List Value} {l : List α} {x : Operand} {t e : TypeId} {bytes : Nat} {i : Int} {a : α}
theorem zdr (hw:wantF ops f o=true) (hd:o.dst=some d) (ho:o.op=.load e x) (T:TyS P t e z bytes) (hx:ev f x=adr v i.toNat) (h:SlK R w1 L v l) (hi:idx l i=some a) (hE:Ext w1 w)
  (hk:∀ u,R w1 L u a->wl P ops K r (upd f d u) w):wl P ops K (o :: r) f w:=by
 obtain ⟨u,hq,hu⟩:=q_load ho T hx h hi
 exact wlq hw hd (hq.ext hE) (hk u hu)
theorem wlq_loadO (hR:Stab R) (hw:wantF ops f o=true) (hd:o.dst=some d) (ho:o.op=.load e x) (T:TyS P t e z bytes) (hx:ev f x=adr v i.toNat) (h:OwK R w L e v l) (hi:idx l i=some a)
  (hk:∀ u,R w L u a->wl P ops K r (upd f d u) w):wl P ops K (o :: r) f w:=by
 obtain ⟨us,hown,hl,he⟩:=h
 obtain ⟨h0,h1,h2⟩:=zb5.1 hi
 have hs:SlK (fun _ _ u a=>R w L u a) w [] v l:=⟨us,hown.sl [] (fun _ _=>trivial),hl,he⟩
 obtain ⟨u,hq,hu⟩:=q_load ho T hx hs hi
 exact wlq hw hd hq (hk u hu)
end
section
variable {P : Program} {ops : Array Oper} {qs : List Nat} {K : (Nat → Value) → World → Prop} {r : List (Nat × Nat)} {j : Nat} {o : Oper} {f : Nat → Value} {w w1 : World} {d : Nat}
variable {α : Type} {R : World → List Value → Value → α → Prop} {v z : Value} {L : List Value} {l : List α} {x : Operand} {t e : TypeId} {bytes : Nat} {i : Int} {a : α}
theorem zhf (hj:ops[j]?=some o) (hw:wantF ops f o=true) (hd:o.dst=some d) (ho:o.op=.load e x) (T:TyS P t e z bytes) (hx:ev f x=adr v i.toNat) (h:SlK R w1 L v l) (hi:idx l i=some a) (hE:Ext w1 w)
  (hk:∀ u,R w1 L u a->ws P ops qs K r (upd f d u) w):ws P ops qs K ((j,1) :: r) f w:=by
 obtain ⟨u,hq,hu⟩:=q_load ho T hx h hi
 exact wsq hj hw hd (hq.ext hE) (hk u hu)
theorem wsq_loadO (hR:Stab R) (hj:ops[j]?=some o) (hw:wantF ops f o=true) (hd:o.dst=some d) (ho:o.op=.load e x) (T:TyS P t e z bytes) (hx:ev f x=adr v i.toNat) (h:OwK R w L e v l) (hi:idx l i=some a)
  (hk:∀ u,R w L u a->ws P ops qs K r (upd f d u) w):ws P ops qs K ((j,1) :: r) f w:=by
 obtain ⟨us,hown,hl,he⟩:=h
 have hs:SlK (fun _ _ u a=>R w L u a) w [] v l:=⟨us,hown.sl [] (fun _ _=>trivial),hl,he⟩
 obtain ⟨u,hq,hu⟩:=q_load ho T hx hs hi
 exact wsq hj hw hd hq (hk u hu)
end
theorem litS {α:Type} (enc:α->Value) {us:List Value} {l:List α} (h:us=l.map enc) {w:World} {L:List Value}:∀ w' L',Lift w w' L L'->∀ i (h:i<us.length) (h':i<l.length),Sc enc w' L' us[i] l[i]:=by
 subst h;intro w' _ _ i _ _;simp [Sc]
theorem litC {α:Type} (enc:α->Value) (hc:∀ x,(enc x).cells=#[enc x]) {us:List Value} {l:List α} (h:us=l.map enc):∀ u∈us,u.cells=#[u]:=by
 subst h;intro u hu;obtain ⟨x,_,rfl⟩:=List.mem_map.1 hu;exact hc x
theorem zbi (x:UInt8):(u8 x).cells=#[u8 x]:=rfl
theorem oneC_i64 (x:Int):(i64 x).cells=#[i64 x]:=rfl
theorem zj1 (x:UInt64):(u64 x).cells=#[u64 x]:=rfl
inductive LitR {α:Type} (R:World->List Value->Value->α->Prop) (w:World) (L:List Value):List Value->List α->Prop
 | nil:LitR R w L [] []
 | cons {u:Value} {x:α} {us:List Value} {l:List α} (h:R w L u x) (t:LitR R w L us l):LitR R w L (u :: us) (x :: l)
theorem LitR.all {α:Type} {R:World->List Value->Value->α->Prop} (hR:Stab R) {w:World} {L:List Value} {us:List Value} {l:List α} (h:LitR R w L us l):∀ w' L',Lift w w' L L'->∀ i (h:i<us.length) (h':i<l.length),R w' L' us[i] l[i]:=by
 induction h with
 | nil=>intro w' _ _ i h;simp at h
 | cons h t ih =>
  intro w' L' hx i h1 h2
  cases i with
  | zero=>exact hR _ _ _ _ _ _ hx h
  | succ i=>exact ih w' L' hx i (by simpa using h1) (by simpa using h2)
theorem LitR.cells {α:Type} {R:World->List Value->Value->α->Prop} {w:World} {L:List Value} {us:List Value} {l:List α} (h:LitR R w L us l) (hc:∀ u x,R w L u x->u.cells=#[u]):∀ u∈us,u.cells=#[u]:=by
 induction h with
 | nil=>intro u hu;simp at hu
 | cons h t ih =>
  intro u hu
  rcases List.mem_cons.1 hu with rfl | hu
  ·exact hc _ _ h
  ·exact ih u hu
theorem zb4 {α:Type} {R:World->List Value->Value->α->Prop} {w:World} {L:List Value} (u:Value) (x:List α) (h:SlK R w L u x):u.cells=#[u]:=by
 obtain ⟨p,cap,rfl,_⟩:=h.shape;rfl
def zbz (pw:List UInt8) (lg:List Int):Array Value:=(pw.map u8 ++ lg.map i64).toArray
def FdT (pw:List UInt8) (lg:List Int) (T:TypeId) (w:World) (L:List Value) (v:Value) (b:Bool):Prop :=
 (b=false/\v=.pointer none)∨(b=true/\∃ g,v=.pointer (some ⟨g,0,none⟩)/\Av L g/\w.heap[g]?=some (.cells (zbz pw lg) T (0,0)))
theorem FdT.lift {pw:List UInt8} {lg:List Int} {T:TypeId} {w w':World} {L L':List Value} {v:Value} {b:Bool} (h:FdT pw lg T w L v b) (g:Lift w w' L L'):FdT pw lg T w' L' v b:=by
 rcases h with h | ⟨hb,k,hv,ha,hk⟩
 ·exact .inl h
 ·have hlt:k<w.heap.size:=(Array.getElem?_eq_some_iff.1 hk).1
  exact .inr ⟨hb,k,hv,g.av k hlt ha,g.blk k _ hk rfl ha⟩
section
variable {P : Program} {o : Oper} {f : Nat → Value} {pw : List UInt8} {lg : List Int} {T : TypeId} {w : World} {L : List Value} {v : Value} {b : Bool} {x y : Operand} {t t' e : TypeId}
theorem q_eqF (ho:o.op=.binOp .eql t x y t') (ht:P.underlying t=some (.pointer e)) (hx:ev f x=v) (hy:ev f y=.pointer none) (h:FdT pw lg T w L v b):Qa P o f (.bool (!b)):=by
 rcases h with ⟨rfl,rfl⟩ | ⟨rfl,g,rfl,_⟩
 ·exact q_eqP ho ht hx hy
 ·exact q_eqP ho ht hx hy
end
def cnt (c:Int):Option Nat:=if 0<=c then some c.toNat else none
theorem zew {c:Int} {m:Nat} (h:cnt c=some m):c=(m:Int):=by
 unfold cnt at h;split at h
 ·have:=Option.some.inj h;omega
 ·cases h
def shl8 (a:UInt8) (n:Nat):UInt8:=UInt8.ofNat (a.toNat * 2 ^ min n 8)
def shr8 (a:UInt8) (n:Nat):UInt8:=UInt8.ofNat (a.toNat / 2 ^ min n 8)
def shl32 (a:UInt32) (n:Nat):UInt32:=UInt32.ofNat (a.toNat * 2 ^ min n 32)
def shr32 (a:UInt32) (n:Nat):UInt32:=UInt32.ofNat (a.toNat / 2 ^ min n 32)
def shl64 (a:UInt64) (n:Nat):UInt64:=UInt64.ofNat (a.toNat * 2 ^ min n 64)
def shr64 (a:UInt64) (n:Nat):UInt64:=UInt64.ofNat (a.toNat / 2 ^ min n 64)
def shlI (a:Int) (n:Nat):Int:=wI (a * 2 ^ min n 64)
def shrI (a:Int) (n:Nat):Int:=a.fdiv (2 ^ min n 64)
section
variable {P : Program} {o : Oper} {f : Nat → Value} {x y : Operand} {t t' : TypeId} {yk : IntKind} {b : Int}
theorem run_shl {k:IntKind} (a:Int) (m:Nat) (hb:b=(m:Int)) (w:World):(Op.shift .shl k a yk b).run P w=.ok (.int k (k.wrap (a * 2 ^ min m k.bits))) w:=by
 subst hb;simp [Op.shift];omega
theorem run_shr {k:IntKind} (a:Int) (m:Nat) (hb:b=(m:Int)) (w:World):(Op.shift .shr k a yk b).run P w=.ok (.int k (a.fdiv (2 ^ min m k.bits))) w:=by
 subst hb;simp [Op.shift];omega
theorem q_shl8 {a:UInt8} (m:Nat) (ho:o.op=.binOp .shl t x y t') (hx:ev f x=u8 a) (hy:ev f y=.int yk b) (hb:b=(m:Int)):Qa P o f (u8 (shl8 a m)):=by
 intro w
 have h:=run_shl (P:=P) (k:=.u8) (yk:=yk) (a.toNat:Int) m hb w
 have e:IntKind.u8.wrap ((a.toNat:Int) * 2 ^ min m IntKind.u8.bits)=((shl8 a m).toNat:Int):=by
  rw [wrap_u8];unfold shl8;simp [IntKind.bits]
 rw [e] at h
 unfold execOp;rw [ho];dsimp only;rw [hx,hy]
 simp only [u8,eqGuard,binOp,Sem.run_bind,Sem.run_pure,Result.andThen_ok,Bool.not_false,if_true,h]
theorem q_shr8 {a:UInt8} (m:Nat) (ho:o.op=.binOp .shr t x y t') (hx:ev f x=u8 a) (hy:ev f y=.int yk b) (hb:b=(m:Int)):Qa P o f (u8 (shr8 a m)):=by
 intro w
 have h:=run_shr (P:=P) (k:=.u8) (yk:=yk) (a.toNat:Int) m hb w
 have e:(a.toNat:Int).fdiv (2 ^ min m IntKind.u8.bits)=((shr8 a m).toNat:Int):=by
  unfold shr8
  rw [Int.fdiv_eq_ediv_of_nonneg _ (by exact Int.le_of_lt (Int.pow_pos (by decide)))]
  have h1:(a.toNat / 2 ^ min m 8)<256:=Nat.lt_of_le_of_lt (Nat.div_le_self _ _) a.toNat_lt
  simp only [IntKind.bits,UInt8.toNat_ofNat',Nat.mod_eq_of_lt h1]
  norm_cast
 rw [e] at h
 unfold execOp;rw [ho];dsimp only;rw [hx,hy]
 simp only [u8,eqGuard,binOp,Sem.run_bind,Sem.run_pure,Result.andThen_ok,Bool.not_false,if_true,h]
theorem q_shl32 {a:UInt32} (m:Nat) (ho:o.op=.binOp .shl t x y t') (hx:ev f x=u32 a) (hy:ev f y=.int yk b) (hb:b=(m:Int)):Qa P o f (u32 (shl32 a m)):=by
 intro w
 have h:=run_shl (P:=P) (k:=.u32) (yk:=yk) (a.toNat:Int) m hb w
 have e:IntKind.u32.wrap ((a.toNat:Int) * 2 ^ min m IntKind.u32.bits)=((shl32 a m).toNat:Int):=by
  rw [wrap_u32];unfold shl32;simp [IntKind.bits]
 rw [e] at h
 unfold execOp;rw [ho];dsimp only;rw [hx,hy]
 simp only [u32,eqGuard,binOp,Sem.run_bind,Sem.run_pure,Result.andThen_ok,Bool.not_false,if_true,h]
theorem zhv {a:UInt32} (m:Nat) (ho:o.op=.binOp .shr t x y t') (hx:ev f x=u32 a) (hy:ev f y=.int yk b) (hb:b=(m:Int)):Qa P o f (u32 (shr32 a m)):=by
 intro w
 have h:=run_shr (P:=P) (k:=.u32) (yk:=yk) (a.toNat:Int) m hb w
 have e:(a.toNat:Int).fdiv (2 ^ min m IntKind.u32.bits)=((shr32 a m).toNat:Int):=by
  unfold shr32
  rw [Int.fdiv_eq_ediv_of_nonneg _ (by exact Int.le_of_lt (Int.pow_pos (by decide)))]
  have h1:(a.toNat / 2 ^ min m 32)<4294967296:=Nat.lt_of_le_of_lt (Nat.div_le_self _ _) a.toNat_lt
  simp only [IntKind.bits,UInt32.toNat_ofNat',Nat.mod_eq_of_lt h1]
  norm_cast
 rw [e] at h
 unfold execOp;rw [ho];dsimp only;rw [hx,hy]
 simp only [u32,eqGuard,binOp,Sem.run_bind,Sem.run_pure,Result.andThen_ok,Bool.not_false,if_true,h]
theorem q_shl64 {a:UInt64} (m:Nat) (ho:o.op=.binOp .shl t x y t') (hx:ev f x=u64 a) (hy:ev f y=.int yk b) (hb:b=(m:Int)):Qa P o f (u64 (shl64 a m)):=by
 intro w
 have h:=run_shl (P:=P) (k:=.u64) (yk:=yk) (a.toNat:Int) m hb w
 have e:IntKind.u64.wrap ((a.toNat:Int) * 2 ^ min m IntKind.u64.bits)=((shl64 a m).toNat:Int):=by
  rw [zj2];unfold shl64;simp [IntKind.bits]
 rw [e] at h
 unfold execOp;rw [ho];dsimp only;rw [hx,hy]
 simp only [u64,eqGuard,binOp,Sem.run_bind,Sem.run_pure,Result.andThen_ok,Bool.not_false,if_true,h]
theorem q_shr64 {a:UInt64} (m:Nat) (ho:o.op=.binOp .shr t x y t') (hx:ev f x=u64 a) (hy:ev f y=.int yk b) (hb:b=(m:Int)):Qa P o f (u64 (shr64 a m)):=by
 intro w
 have h:=run_shr (P:=P) (k:=.u64) (yk:=yk) (a.toNat:Int) m hb w
 have e:(a.toNat:Int).fdiv (2 ^ min m IntKind.u64.bits)=((shr64 a m).toNat:Int):=by
  unfold shr64
  rw [Int.fdiv_eq_ediv_of_nonneg _ (by exact Int.le_of_lt (Int.pow_pos (by decide)))]
  have h1:(a.toNat / 2 ^ min m 64)<18446744073709551616:=Nat.lt_of_le_of_lt (Nat.div_le_self _ _) a.toNat_lt
  simp only [IntKind.bits,UInt64.toNat_ofNat',Nat.mod_eq_of_lt h1]
  norm_cast
 rw [e] at h
 unfold execOp;rw [ho];dsimp only;rw [hx,hy]
 simp only [u64,eqGuard,binOp,Sem.run_bind,Sem.run_pure,Result.andThen_ok,Bool.not_false,if_true,h]
theorem q_shlI {a:Int} (m:Nat) (ho:o.op=.binOp .shl t x y t') (hx:ev f x=i64 a) (hy:ev f y=.int yk b) (hb:b=(m:Int)):Qa P o f (i64 (shlI a m)):=by
 intro w
 have h:=run_shl (P:=P) (k:=.i64) (yk:=yk) a m hb w
 unfold execOp;rw [ho];dsimp only;rw [hx,hy]
 simp only [i64,eqGuard,binOp,Sem.run_bind,Sem.run_pure,Result.andThen_ok,Bool.not_false,if_true,h]
 rfl
theorem q_shrI {a:Int} (m:Nat) (ho:o.op=.binOp .shr t x y t') (hx:ev f x=i64 a) (hy:ev f y=.int yk b) (hb:b=(m:Int)):Qa P o f (i64 (shrI a m)):=by
 intro w
 have h:=run_shr (P:=P) (k:=.i64) (yk:=yk) a m hb w
 unfold execOp;rw [ho];dsimp only;rw [hx,hy]
 simp only [i64,eqGuard,binOp,Sem.run_bind,Sem.run_pure,Result.andThen_ok,Bool.not_false,if_true,h]
 rfl
def xorI (a b:Int):Int:=wI ((BitVec.ofInt 64 a^^^BitVec.ofInt 64 b).toNat:Int)
def andI (a b:Int):Int:=wI ((BitVec.ofInt 64 a &&& BitVec.ofInt 64 b).toNat:Int)
theorem q_xorI {a b:Int} (ho:o.op=.binOp .xor t x y t') (hx:ev f x=i64 a) (hy:ev f y=i64 b):Qa P o f (i64 (xorI a b)):=by
 intro w;unfold execOp;rw [ho];dsimp only;rw [hx,hy];rfl
theorem q_andI {a b:Int} (ho:o.op=.binOp .and t x y t') (hx:ev f x=i64 a) (hy:ev f y=i64 b):Qa P o f (i64 (andI a b)):=by
 intro w;unfold execOp;rw [ho];dsimp only;rw [hx,hy];rfl
theorem q_negI {a:Int} (ho:o.op=.unOp .neg t x) (hx:ev f x=i64 a):Qa P o f (i64 (wI (0 - a))):=by
 intro w;unfold execOp;rw [ho];dsimp only;rw [hx];rfl
end
end Gk

/- From a statement's arguments to what the walks are told of them; and back. No condition. -/
namespace Gk
open Go Go.ChangeShapes Go.WideShapes Go.ChangeAt Go.RowKit
section
variable {H : Type} {enc : TypeId × Value → H} {P : Program} {W : World} {t e : TypeId} {v : Value} {d : DataW H} {p : List MemPlace} {r : Reach} {b0 : Nat}
def El {α:Type} (H:Type) (enc:TypeId×Value->H) (P:Program) (W:World) (e:TypeId) (R:World->List Value->Value->α->Prop):Prop :=
 ∀ (fuel:Nat) (u:Value) (y:DataW H×List MemPlace),DataW.trod enc P W 0 (fun _=>true) true fuel e [u]=some y->∃ x,R W [] u x
theorem of_wf_u8 {n:Int} (h:(Lit.int .u8 n).wf=true):Value.int .u8 n=u8 (UInt8.ofNat n.toNat):=by
 simp [Lit.wf,IntKind.has,IntKind.min,IntKind.max,IntKind.signed,IntKind.bits] at h
 simp only [u8,Value.int.injEq,true_and]
 have:(UInt8.ofNat n.toNat).toNat=n.toNat:=by simp;omega
 rw [this];omega
theorem of_wf_i64 {n:Int} (h:(Lit.int .i64 n).wf=true):-9223372036854775808<=n/\n<=9223372036854775807:=by
 simp [Lit.wf,IntKind.has,IntKind.min,IntKind.max,IntKind.signed,IntKind.bits] at h
 omega
theorem el_u8 (he:P.underlying e=some (.int .u8)):El H enc P W e (Sc u8):=by
 intro fuel u y h
 obtain ⟨n,hc,_,hw⟩:=DataW.trod_int he h
 simp at hc;subst hc
 exact ⟨_,of_wf_u8 hw⟩
theorem el_sl {α:Type} {R:World->List Value->Value->α->Prop} (ht:P.underlying t=some (.slice e)) (hc:P.cellsOf e=1) (hR:El H enc P W e R):El H enc P W t (SlK R):=by
 intro fuel u y h
 rcases DataW.trod_slice ht h with ⟨hcs,_⟩ | ⟨a,len,cap,elems,rest,n,_,hcs,_,_,hl,_,hlen,hel,_,_⟩
 ·simp at hcs;subst hcs;exact ⟨[],SlK.nil _ _ _⟩
 ·simp at hcs;subst hcs
  have each:∀ i,i<len->∃ c x,W.cell? (a.add i)=some c/\R W [] c x:=by
   intro i hi
   have h1:=hel i hi
   rw [hc,Nat.mul_one] at h1
   have h2:i<elems.length:=by omega
   rw [List.getElem?_eq_getElem h2,Option.bind_eq_some_iff] at h1
   obtain ⟨cs,hcs,hy⟩:=h1
   have hl1:=World.cells?_some hcs
   match cs,hl1 with
   | [c],hl1 =>
    obtain ⟨x,hx⟩:=hR _ _ _ hy
    refine ⟨c,x,?_,hx⟩
    have:=hl1.2.2 0 (by omega)
    simpa [Addr.add] using this
   | [],hl1=>exact absurd hl1.2.1 (by simp)
   | _ :: _ :: _,hl1=>exact absurd hl1.2.1 (by simp)
  by_cases h0:len=0
  ·subst h0
   exact ⟨[],[],⟨some a,cap,rfl,hl,fun hn=>absurd rfl hn⟩,rfl,fun i hi=>by simp at hi⟩
  ·obtain ⟨b,off,spot⟩:=a
   have hspot:spot=none:=by
    obtain ⟨c,x,hc,_⟩:=each 0 (by omega)
    simpa [Addr.add] using World.cell?_spot hc
   subst hspot
   have each':∀ i,i<len->∃ c x,W.cell? ⟨b,off+i,none⟩=some c/\R W [] c x:=fun i hi=>by
    have:=each i hi
    rwa [zcg] at this
   have hch:∃ us:List Value,∃ l:List α,us.length=len/\l.length=len/\∀ i (h:i<us.length) (h':i<l.length),W.cell? ⟨b,off+i,none⟩=some us[i]/\R W [] us[i] l[i]:=by
    refine ⟨(List.range len).attach.map (fun i=>Classical.choose (each' i.1 (List.mem_range.1 i.2))),(List.range len).attach.map (fun i=>Classical.choose (Classical.choose_spec (each' i.1 (List.mem_range.1 i.2)))),by simp,by simp,fun i h1 h2=>?_⟩
    have hi:i<len:=by simpa using h1
    have hs:=Classical.choose_spec (Classical.choose_spec (each' i hi))
    simp only [List.getElem_map,List.getElem_attach,List.getElem_range]
    exact hs
   obtain ⟨us,l,hu,hll,hE⟩:=hch
   refine ⟨l,us,⟨some ⟨b,off,none⟩,cap,by rw [hu],by omega,fun _=>⟨b,off,rfl,trivial,fun i hi=>(hE i hi (by omega)).1⟩⟩,by omega,fun i h1 h2=>(hE i h1 h2).2⟩
theorem rd_i64 (ht:P.underlying t=some (.int .i64)) (hval:Value.okWide P W r b0 t v) (h:DataW.Trod enc P W 0 (fun _=>true) true t v d p):∃ a,v=i64 a/\-9223372036854775808<=a/\a<=9223372036854775807:=by
 obtain ⟨x,rfl,_,_,wx⟩:=open_int ht hval h
 exact ⟨x,rfl,of_wf_i64 wx⟩
theorem rd_bl (ht:P.underlying t=some .bool) (hval:Value.okWide P W r b0 t v) (h:DataW.Trod enc P W 0 (fun _=>true) true t v d p):∃ a,v=bl a:=by
 obtain ⟨x,rfl,_,_⟩:=open_bool ht hval h
 exact ⟨x,rfl⟩
theorem rd_sl {α:Type} {R:World->List Value->Value->α->Prop} (ht:P.underlying t=some (.slice e)) (hc:P.cellsOf e=1) (hR:El H enc P W e R) (hval:Value.okWide P W r b0 t v)
  (h:DataW.Trod enc P W 0 (fun _=>true) true t v d p):∃ l,SlK R W [] v l:=by
 obtain ⟨a0,len0,cap0,rfl⟩:=okWide_slice ht hval
 obtain ⟨fuel,hf⟩:=h
 exact el_sl ht hc hR fuel _ _ (by simpa [Value.cells] using hf)
theorem rd_slL {α:Type} {R:World->List Value->Value->α->Prop} (ht:P.underlying t=some (.slice e)) (hc:P.cellsOf e=1) (hR:El H enc P W e R) (hval:Value.okWide P W r b0 t v)
  (h:DataW.Trod enc P W 0 (fun _=>true) true t v d p):∃ l,SlK R W [] v l/\l.length<=9223372036854775807:=by
 obtain ⟨l,hl⟩:=rd_sl ht hc hR hval h
 refine ⟨l,hl,?_⟩
 obtain ⟨p,cap,rfl,hcap⟩:=hl.shape
 simp only [Value.okWide,ht,Cell.okWide,Cell.ok] at hval
 cases p with
 | none =>
  have h0:l.length=0:=by
   cases hn:l.length with
   | zero=>rfl
   | succ n=>rw [hn] at hval;cases cap <;> exact hval.elim
  omega
 | some a =>
  have h2:(cap:Int)<=IntKind.i64.max:=hval.2.1
  have h3:IntKind.i64.max=9223372036854775807:=rfl
  rw [h3] at h2
  omega
theorem Ext.same {W W':World} (h:Ext W W') {q:MemPlace} (hq:q.block<W.heap.size):W.sameAt W' q:=by
 cases q with
 | cell b o=>exact World.cell?_of_block (w:=W) (h.blk b hq)
 | map b=>exact h.blk b hq
theorem Ext.trod {W':World} (hl:laidOutB P=true) (hr:P.readableRec t=true) (hrow:t<P.types.size) (h:DataW.Trod enc P W 0 (fun _=>true) true t v d p) (x:Ext W W') :
  DataW.Trod enc P W' 0 (fun b=>decide (b<W.heap.size)) true t v d p:=by
 have hlt:∀ q∈p,q.block<W.heap.size:=by obtain ⟨m,hm⟩:=h;exact DataW.trod_lt m _ _ _ hm
 exact WideElems.Trod_stays hl hr hrow h (fun q hq=>x.same (hlt q hq)) (fun q hq=>by simpa using hlt q hq)
theorem Ext.frame {W':World} (h:Ext W W') (may:MemPlace->Prop):W.keptBut W' may:=by
 refine ⟨h.os,h.output,fun i hi=>?_⟩
 rw [h.blk i hi]
 cases hx:W.heap[i]? with
 | none=>rfl
 | some o=>cases o <;> simp
end
end Gk

/- Facts of the whole translation that each statement's step asks for. No condition. -/
namespace Go.Proofs.YtmbnjinlfeopaaaGreat
open Go.ChangeShapes Go.WideShapes Go.ChangeAt Go.RowKit
theorem zgj (r:List Char):∀ w:List Char,w.all (fun c=>c != Char.ofNat 32)=true->wordsSigns (w ++ Char.ofNat 32 :: r)=w :: wordsSigns r
 | [],_=>rfl
 | c :: w,h=>by
  simp only [List.all_cons,Bool.and_eq_true] at h
  have ih:=zgj r w h.2
  have hc:c≠Char.ofNat 32:=by simpa using h.1
  simp only [List.cons_append]
  rw [wordsSigns.eq_3 _ _ (fun h=>hc h),ih]
theorem words_of {S a b c r : String} (h : S = a ++ (" " ++ (b ++ (" " ++ (c ++ (" " ++ r)))))) (ha : a.toList.all (fun c => c != Char.ofNat 32) = true) (hb : b.toList.all (fun c => c != Char.ofNat 32) = true) (hc : c.toList.all (fun c => c != Char.ofNat 32) = true) :
  wordsSigns S.toList = a.toList :: b.toList :: c.toList :: wordsSigns r.toList := by
 have sp : " ".toList = [Char.ofNat 32] := by kernel_rfl
 rw [h, String.toList_append, String.toList_append, String.toList_append, String.toList_append, String.toList_append, String.toList_append, sp]
 simp only [List.cons_append, List.nil_append]
 rw [zgj _ _ ha, zgj _ _ hb, zgj _ _ hc]
theorem behind {b : List Char} {r : List (List Char)} (hs : isSumSigns b = true) : behindMainWord ("harness".toList :: b :: "cut".toList :: r) = "cut".toList :: r := by
 simp only [behindMainWord, hs, beq_self_eq_true, Bool.true_or, Bool.and_self, if_true]
theorem mayEnter_of {P : Program} {b : List Char} {r : List (List Char)} (h : wordsSigns P.initOrder.toList = "harness".toList :: b :: "cut".toList :: r) (hs : isSumSigns b = true)
  (hl : P.laysLater = false) (hr : P.bearsReflect = false) (hd : P.doorFits [] = true) : P.mayEnter = true := by
 have e1 : stripLifts liftWords ("cut".toList :: r) = ([], "cut".toList :: r) := by kernel_rfl
 unfold Program.mayEnter
 rw [h]
 have e2 := behind (r := r) hs
 rw [e2]
 show _ = true
 simp only [e1, hl, hr, hd]
 kernel_rfl
theorem liftsFinal_of {P : Program} {b : List Char} {r : List (List Char)} (h : wordsSigns P.initOrder.toList = "harness".toList :: b :: "cut".toList :: r) (hs : isSumSigns b = true) : P.liftsFinal = false := by
 have e1 : stripLifts liftWords ("cut".toList :: r) = ([], "cut".toList :: r) := by kernel_rfl
 have e2 := behind (r := r) hs
 unfold Program.liftsFinal Program.headLifts
 dsimp only
 rw [h, e2, e1]
 show _ = false
 kernel_rfl
theorem make_of {P : Program} {b : List Char} {r : List (List Char)} (h : wordsSigns P.initOrder.toList = "harness".toList :: b :: "cut".toList :: r) (hs : isSumSigns b = true) : P.make = some .cut := by
 have e2 := behind (r := r) hs
 unfold Program.make
 rw [h, e2]
 show _ = some Make.cut
 kernel_rfl
theorem io : Tryz.checked.prog.initOrder = "harness" ++ (" " ++ ("5dda8e44c14bdaabd2dab25406ecd27fa089cd4a7347f09eb05d1eb3f3cf7824" ++ (" " ++ ("cut" ++ (" " ++ "at largesse/largesselaw17.StripeTells largesse/largesselaw17.StripeFresh largesse/largesselaw17.StripeForms"))))) := by kernel_rfl
theorem sumOk : isSumSigns "5dda8e44c14bdaabd2dab25406ecd27fa089cd4a7347f09eb05d1eb3f3cf7824".toList = true := by kernel_rfl
theorem words : wordsSigns Tryz.checked.prog.initOrder.toList = "harness".toList :: "5dda8e44c14bdaabd2dab25406ecd27fa089cd4a7347f09eb05d1eb3f3cf7824".toList :: "cut".toList :: wordsSigns "at largesse/largesselaw17.StripeTells largesse/largesselaw17.StripeFresh largesse/largesselaw17.StripeForms".toList :=
 words_of io (by kernel_rfl) (by kernel_rfl) (by kernel_rfl)
theorem mayEnterT:Tryz.checked.prog.mayEnter=true:=mayEnter_of words sumOk (by as_aux_lemma=>kernel_rfl) (by as_aux_lemma=>kernel_rfl) (by as_aux_lemma=>kernel_rfl)
theorem liftsFinalF:Tryz.checked.prog.liftsFinal=false:=liftsFinal_of words sumOk
theorem makeT:Tryz.checked.prog.make=some .cut:=make_of words sumOk
theorem ownKnobs:ownKnob Tryz.prog.godebug=none:=by kernel_rfl
theorem laidOut:laidOutB Tryz.prog=true:=by kernel_rfl
theorem mapsRowedT:mapsRowed Tryz.checked.prog=true:=by kernel_rfl
theorem plainKeysT:Tryz.checked.prog.plainKeys=true:=by kernel_rfl
theorem stopsHeardT:Tryz.checked.prog.stopsHeard=true:=by kernel_rfl
theorem andT {a b:Bool} (h:a=true) (k:b=true):(a&&b)=true:=by rw [h,k];rfl
/-- The row's closed facts, out of their parts. -/
theorem joined {f : FuncId} {fn : Func} {s : ChangeSpec} {c : OpenClaim}
  (j0 : c.wf (OpenSpec.ofChange s) = true) (j3 : fn.params.all (Tryz.checked.prog.readableRec ·) = true) (j4 : namedTie Tryz.checked.prog c.named s.vars = true)
  (j5 : (c.stops == []) = true) (j6 : (Tryz.checked.prog.stops == []) = true) (j7 : (c.knobs == []) = true) (j8 : (Tryz.checked.prog.stopKnobs == []) = true)
  (j9 : (c.inPlace == Tryz.checked.prog.inPlace f) = true) (j10 : (c.unfollowed == Tryz.checked.prog.unfollowed f) = true) (j11 : (c.recurses == Tryz.checked.prog.recurses f) = true) (j12 : (c.named == Tryz.checked.prog.varsNamed f) = true)
  (j13 : (c.maps == (fn.params.toList ++ s.plain.varTypes Tryz.checked.prog).any (Tryz.checked.prog.mapsRec ·)) = true) (j14 : (c.ifaces == (fn.params.toList ++ s.plain.varTypes Tryz.checked.prog).any (Tryz.checked.prog.ifacesRec ·)) = true)
  (j15 : (c.mapsOut == Tryz.checked.prog.mapsAmong fn.resultTypes.toList) = true) (j16 : (c.loops == (fn.params.toList ++ s.plain.varTypes Tryz.checked.prog).any (Tryz.checked.prog.loopsFrom ·)) = true)
  (j17 : (c.wideKeys == (fn.params.toList ++ s.plain.varTypes Tryz.checked.prog ++ fn.resultTypes.toList).any (Tryz.checked.prog.wideKeysFrom ·)) = true) (j18 : s.vars.all (Tryz.checked.prog.varReadable ·) = true)
  (j19 : fn.resultTypes.all (fun t => Tryz.checked.prog.readableRec t && decide (t < Tryz.checked.prog.types.size)) = true) (j20 : (c.ifacesOut == fn.resultTypes.toList.any (Tryz.checked.prog.ifacesRec ·)) = true)
  (j21 : (c.loopsOut == fn.resultTypes.toList.any (Tryz.checked.prog.loopsFrom ·)) = true) (j22 : c.plainKeys = true) (j23 : c.shortTexts.isNone = true) (j26 : c.lifted = false) (j27 : c.make = .cut)
  (j28 : (c.kinds == (if c.domain.isEmpty then [] else fn.params.toList.map fun t => match Tryz.checked.prog.underlying t with | some (.int k) => some k | _ => none)) = true) (j29 : (c.pinned == c.pinnedBy) = true)
  (j30 : (c.veiled == (fn.params.toList ++ s.plain.varTypes Tryz.checked.prog ++ fn.resultTypes.toList).any (Tryz.checked.prog.veiledRec ·)) = true)
  (j31 : c.veiledFits Tryz.checked.prog fn.params.toList (fn.params.toList ++ s.plain.varTypes Tryz.checked.prog ++ fn.resultTypes.toList) = true) : joinedFacts Tryz.checked.prog f fn s c = true := by
 have h1 : laidOutB Tryz.checked.prog = true := laidOut
 have h2 : (c.plainKeys == Tryz.checked.prog.plainKeys) = true := by rw [j22, plainKeysT]; rfl
 have h3 : (c.lifted == Tryz.checked.prog.liftsFinal) = true := by rw [j26, liftsFinalF]; rfl
 have h4 : (Tryz.checked.prog.make == some c.make) = true := by rw [j27, makeT]; rfl
 unfold joinedFacts
 exact andT (andT (andT (andT (andT (andT (andT (andT (andT (andT (andT (andT (andT (andT (andT (andT (andT (andT (andT (andT (andT (andT (andT (andT (andT (andT (andT (andT (andT (andT (andT j0 h1) mapsRowedT) j3) j4) j5) j6) j7) j8) j9) j10) j11) j12) j13) j14) j15) j16) j17) j18) j19) j20) j21) h2) j23) stopsHeardT) mayEnterT) h3) h4) j28) j29) j30) j31
end Go.Proofs.YtmbnjinlfeopaaaGreat

/- Facts of this seat's program: its element types; the field's type. No condition. -/
namespace Gk
open Go Go.Proofs
theorem mixed:Tryz.prog.follows .mixedOrders=true:=by kernel_rfl
theorem T22:TyS Tryz.prog 22 5 (u8 0) 1:=⟨Tryz.underlying22,by kernel_rfl,rfl,Tryz.isAgg5,by decide⟩
theorem T35:TyS Tryz.prog 35 3 (i64 0) 8:=⟨Tryz.underlying35,by kernel_rfl,rfl,Tryz.isAgg3,by decide⟩
theorem T29:TyS Tryz.prog 29 22 (.slice none 0 0) 24:=⟨Tryz.underlying29,by kernel_rfl,rfl,Tryz.isAgg22,by decide⟩
theorem T124:TyS Tryz.prog 124 4 (.bool false) 1:=⟨Tryz.underlying124,by kernel_rfl,rfl,Tryz.isAgg4,by decide⟩
theorem T137:TyS Tryz.prog 137 105 (u64 0) 8:=⟨Tryz.underlying137,by kernel_rfl,rfl,Tryz.isAgg105,by decide⟩
end Gk

/- The field of 256 numbers, in plain Lean: products bit by bit, the field's laws, powers of 3, and the tables of powers. No program here; no condition. -/
namespace Gf
def dbl (a:UInt8):UInt8:=if a.toNat<128 then UInt8.ofNat (2 * a.toNat) else UInt8.ofNat (2 * a.toNat)^^^27
def bit (b:UInt8) (i:Nat):Bool:=b.toNat.testBit i
def sel (c:Bool) (a:UInt8):UInt8:=if c then a else 0
def dblN:Nat->UInt8->UInt8
 | 0,a=>a
 | n+1,a=>dblN n (dbl a)
def mul (a b:UInt8):UInt8 :=
 sel (bit b 0) (dblN 0 a)^^^sel (bit b 1) (dblN 1 a)^^^sel (bit b 2) (dblN 2 a)^^^sel (bit b 3) (dblN 3 a) ^^^
 sel (bit b 4) (dblN 4 a)^^^sel (bit b 5) (dblN 5 a)^^^sel (bit b 6) (dblN 6 a)^^^sel (bit b 7) (dblN 7 a)
theorem all8 {P:UInt8->Prop} (h:∀ n:Fin 256,P (UInt8.ofNat n.val)) (a:UInt8):P a:=by
 have:=h ⟨a.toNat,a.toNat_lt⟩
 simpa using this
theorem xor_comm (a b:UInt8):a^^^b=b^^^a:=UInt8.xor_comm a b
theorem xor_assoc (a b c:UInt8):a^^^b^^^c=a^^^(b^^^c):=UInt8.xor_assoc a b c
theorem xor_self (a:UInt8):a^^^a=0:=UInt8.xor_self
theorem xor_zero (a:UInt8):a^^^0=a:=UInt8.xor_zero
theorem zero_xor (a:UInt8):0^^^a=a:=UInt8.zero_xor
theorem xor_left_comm (a b c:UInt8):a^^^(b^^^c)=b^^^(a^^^c):=by rw [← xor_assoc,xor_comm a b,xor_assoc]
theorem xor_cancel (a b:UInt8):a^^^(a^^^b)=b:=by rw [← xor_assoc,xor_self,zero_xor]
theorem zd7 {a b:UInt8} (h:a^^^b=0):a=b:=by
 have:=xor_cancel a b;rw [h,xor_zero] at this;exact this
theorem zii (a b c d:UInt8):(a^^^b)^^^(c^^^d)=(a^^^c)^^^(b^^^d):=by
 rw [xor_assoc,xor_assoc,xor_left_comm b c d]
def Add (f:UInt8->UInt8):Prop:=∀ x y,f (x^^^y)=f x^^^f y
theorem Add.zero {f:UInt8->UInt8} (h:Add f):f 0=0:=by
 have:=h 0 0
 rw [xor_zero] at this
 rw [this,xor_self]
def bas (i:Nat):UInt8:=UInt8.ofNat (2 ^ i)
theorem split8 (a:UInt8):a=sel (bit a 0) (bas 0)^^^sel (bit a 1) (bas 1)^^^sel (bit a 2) (bas 2)^^^sel (bit a 3) (bas 3) ^^^
  sel (bit a 4) (bas 4)^^^sel (bit a 5) (bas 5)^^^sel (bit a 6) (bas 6)^^^sel (bit a 7) (bas 7):=by
 revert a;refine all8 ?_;decide +kernel
theorem Add.sel {f:UInt8->UInt8} (h:Add f) (c:Bool) (a:UInt8):f (Gf.sel c a)=Gf.sel c (f a):=by
 cases c
 ·exact h.zero
 ·rfl
theorem lin_ext {f g:UInt8->UInt8} (hf:Add f) (hg:Add g) (h:∀ i,i<8->f (bas i)=g (bas i)) (a:UInt8):f a=g a:=by
 rw [split8 a]
 simp only [hf _ _,hg _ _,hf.sel,hg.sel]
 rw [h 0 (by decide),h 1 (by decide),h 2 (by decide),h 3 (by decide),h 4 (by decide),h 5 (by decide),h 6 (by decide),h 7 (by decide)]
theorem bit_xor (a b:UInt8) (i:Nat):bit (a^^^b) i=(bit a i ^^ bit b i):=by simp [bit,Nat.testBit_xor]
theorem sel_xor (c d:Bool) (a:UInt8):sel (c ^^ d) a=sel c a^^^sel d a:=by cases c <;> cases d <;> simp [sel]
theorem sel_add (c:Bool) (a b:UInt8):sel c (a^^^b)=sel c a^^^sel c b:=by cases c <;> simp [sel]
theorem dbl_bits (a:UInt8):dbl a=sel (bit a 0) 2^^^sel (bit a 1) 4^^^sel (bit a 2) 8^^^sel (bit a 3) 16^^^sel (bit a 4) 32^^^sel (bit a 5) 64^^^sel (bit a 6) 128^^^sel (bit a 7) 27:=by
 revert a;refine all8 ?_;decide +kernel
theorem dbl_add:Add dbl:=by
 intro a b
 simp only [dbl_bits,bit_xor,sel_xor]
 ac_rfl
theorem dblN_add (n:Nat):Add (dblN n):=by
 induction n with
 | zero=>intro a b;rfl
 | succ n ih=>intro a b;simp only [dblN];rw [dbl_add,ih]
theorem add_mul (a b c:UInt8):mul (a^^^b) c=mul a c^^^mul b c:=by
 simp only [mul,dblN_add _ _ _,sel_add]
 ac_rfl
theorem mul_add (a b c:UInt8):mul a (b^^^c)=mul a b^^^mul a c:=by
 simp only [mul,bit_xor,sel_xor]
 ac_rfl
theorem addL (c:UInt8):Add (fun a=>mul a c):=fun a b=>add_mul a b c
theorem addR (a:UInt8):Add (fun b=>mul a b):=fun b c=>mul_add a b c
theorem mul_comm (a b:UInt8):mul a b=mul b a:=by
 refine lin_ext (addL b) (addR b) (fun i hi=>?_) a
 refine lin_ext (f:=fun b=>mul (bas i) b) (g:=fun b=>mul b (bas i)) (addR _) (addL _) (fun j hj=>?_) b
 have:(List.range 8).all (fun i=>(List.range 8).all (fun j=>mul (bas i) (bas j) == mul (bas j) (bas i)))=true:=by decide +kernel
 have h1:=List.all_eq_true.1 (List.all_eq_true.1 this i (List.mem_range.2 hi)) j (List.mem_range.2 hj)
 exact eq_of_beq h1
theorem mul_assoc (a b c:UInt8):mul (mul a b) c=mul a (mul b c):=by
 have e1:∀ a b,Add (fun c=>mul a (mul b c)):=fun a b x y=>by show mul a (mul b (x^^^y))=_;rw [mul_add,mul_add]
 have e2:∀ a c,Add (fun b=>mul a (mul b c)):=fun a b x y=>by show mul a (mul (x^^^y) b)=_;rw [add_mul,mul_add]
 have e3:∀ a c,Add (fun b=>mul (mul a b) c):=fun a b x y=>by show mul (mul a (x^^^y)) b=_;rw [mul_add,add_mul]
 have e4:∀ b c,Add (fun a=>mul (mul a b) c):=fun a b x y=>by show mul (mul (x^^^y) a) b=_;rw [add_mul,add_mul]
 refine lin_ext (e4 b c) (addL _) (fun i hi=>?_) a
 refine lin_ext (e3 _ c) (e2 _ c) (fun j hj=>?_) b
 refine lin_ext (addR _) (e1 _ _) (fun k hk=>?_) c
 have:(List.range 8).all (fun i=>(List.range 8).all (fun j=>(List.range 8).all (fun k=>mul (mul (bas i) (bas j)) (bas k) == mul (bas i) (mul (bas j) (bas k)))))=true:=by decide +kernel
 have h1:=List.all_eq_true.1 (List.all_eq_true.1 (List.all_eq_true.1 this i (List.mem_range.2 hi)) j (List.mem_range.2 hj)) k (List.mem_range.2 hk)
 exact eq_of_beq h1
theorem mul_zero (a:UInt8):mul a 0=0:=(addR a).zero
theorem zero_mul (a:UInt8):mul 0 a=0:=(addL a).zero
theorem mul_one (a:UInt8):mul a 1=a:=by revert a;refine all8 ?_;decide +kernel
theorem one_mul (a:UInt8):mul 1 a=a:=by rw [mul_comm,mul_one]
theorem mul_left_comm (a b c:UInt8):mul a (mul b c)=mul b (mul a c):=by rw [← mul_assoc,mul_comm a b,mul_assoc]
def pw:Nat->UInt8
 | 0=>1
 | n+1=>mul (pw n) 3
def pl:Nat->UInt8->List UInt8
 | 0,_=>[]
 | n+1,x=>x :: pl n (mul x 3)
def E:List UInt8:=[1,3,5,15,17,51,85,255,26,46,114,150,161,248,19,53,95,225,56,72,216,115,149,164,247,2,6,10,30,34,102,170,229,52,92,228,55,89,235,38,106,190,217,112,144,171,230,49,83,245,4,12,20,60,68,204,79,209,104,184,211,110,178,205,76,212,103,169,224,59,77,215,98,166,241,8,24,40,120,136,131,158,185,208,107,189,220,127,129,152,179,206,73,219,118,154,181,196,87,249,16,48,80,240,11,29,39,105,187,214,97,163,254,25,43,125,135,146,173,236,47,113,147,174,233,32,96,160,251,22,58,78,210,109,183,194,93,231,50,86,250,21,63,65,195,94,226,61,71,201,64,192,91,237,44,116,156,191,218,117,159,186,213,100,172,239,42,126,130,157,188,223,122,142,137,128,155,182,193,88,232,35,101,175,234,37,111,177,200,67,197,84,252,31,33,99,165,244,7,9,27,45,119,153,176,203,70,202,69,207,74,222,121,139,134,145,168,227,62,66,198,81,243,14,18,54,90,238,41,123,141,140,143,138,133,148,167,242,13,23,57,75,221,124,132,151,162,253,28,36,108,180,199,82,246]
theorem pl_eq:pl 255 1=E:=by decide +kernel
theorem pl_get:∀ n i k,k<n->(pl n (pw i))[k]?=some (pw (i+k))
 | 0,_,_,h=>by omega
 | n+1,i,0,_=>by simp [pl]
 | n+1,i,k+1,h=>by
  have:=pl_get n (i+1) k (by omega)
  simp only [pl,List.getElem?_cons_succ]
  have e:i+(k+1)=i+1+k:=by omega
  rw [e,← this];rfl
theorem E_get (k:Nat) (h:k<255):E[k]?=some (pw k):=by
 have:=pl_get 255 0 k h
 rw [Nat.zero_add] at this
 rw [← pl_eq];exact this
theorem E_len:E.length=255:=by decide +kernel
theorem E_nodup:E.Nodup:=by decide +kernel
theorem E_all (a:UInt8):a≠0->a∈E:=by revert a;refine all8 ?_;decide +kernel
theorem pw_inj {i j:Nat} (hi:i<255) (hj:j<255) (h:pw i=pw j):i=j:=by
 have h1:=E_get i hi
 have h2:=E_get j hj
 rw [h,← h2] at h1
 exact (List.getElem?_inj (by rw [E_len];exact hi) E_nodup).1 h1
theorem pw_add (i j:Nat):pw (i+j)=mul (pw i) (pw j):=by
 induction j with
 | zero=>simp [pw,mul_one]
 | succ j ih=>rw [Nat.add_succ];simp only [pw];rw [ih,mul_assoc]
theorem pw_255:pw 255=1:=by
 have h:=E_get 254 (by decide)
 have h2:E[254]?=some 246:=by decide +kernel
 rw [h2] at h
 have h3:pw 254=246:=(Option.some.inj h).symm
 show mul (pw 254) 3=1
 rw [h3];decide +kernel
theorem pw_mod (n:Nat):pw (n % 255)=pw n:=by
 have h:∀ k m,pw (255 * k+m)=pw m:=by
  intro k m
  induction k with
  | zero=>simp
  | succ k ih=>rw [show 255 * (k+1)+m=(255 * k+m)+255 by omega,pw_add,pw_255,mul_one,ih]
 have:=h (n / 255) (n % 255)
 rw [Nat.div_add_mod] at this
 exact this.symm
theorem pw_ne (n:Nat):pw n≠0:=by
 intro h
 have h1:=pw_add n (255 * n - n)
 rw [h,zero_mul,show n+(255 * n - n)=255 * n by omega,← pw_mod,Nat.mul_mod_right] at h1
 exact absurd h1 (by decide)
def lg (a:UInt8):Nat:=E.idxOf a % 255
theorem lg_lt (a:UInt8):lg a<255:=Nat.mod_lt _ (by decide)
theorem pw_lg {a:UInt8} (h:a≠0):pw (lg a)=a:=by
 have h1:=List.idxOf_lt_length_of_mem (E_all a h)
 have h2:=E_get (E.idxOf a) (by rw [← E_len];exact h1)
 rw [List.getElem?_eq_getElem h1,List.getElem_idxOf h1] at h2
 unfold lg
 rw [pw_mod];exact (Option.some.inj h2).symm
theorem lg_zero:lg 0=0:=by decide +kernel
theorem zj4 {a b:UInt8} (h:mul a b=0):a=0∨b=0:=by
 by_cases ha:a=0
 ·exact .inl ha
 ·by_cases hb:b=0
  ·exact .inr hb
  ·rw [← pw_lg ha,← pw_lg hb,← pw_add] at h;exact absurd h (pw_ne _)
theorem mul_ne {a b:UInt8} (ha:a≠0) (hb:b≠0):mul a b≠0:=fun h=>(zj4 h).elim ha hb
theorem mul_pw {a b:UInt8} (ha:a≠0) (hb:b≠0):pw (lg a+lg b)=mul a b:=by rw [pw_add,pw_lg ha,pw_lg hb]
def inv (a:UInt8):UInt8:=if a=0 then 0 else pw (255 - lg a)
theorem mul_inv {a:UInt8} (h:a≠0):mul a (inv a)=1:=by
 unfold inv;rw [if_neg h]
 have h1:=lg_lt a
 have:mul (pw (lg a)) (pw (255 - lg a))=1:=by rw [← pw_add,show lg a+(255 - lg a)=255 by omega,pw_255]
 rwa [pw_lg h] at this
theorem inv_mul {a:UInt8} (h:a≠0):mul (inv a) a=1:=by rw [mul_comm,mul_inv h]
theorem inv_zero:inv 0=0:=by simp [inv]
theorem inv_ne {a:UInt8} (h:a≠0):inv a≠0:=fun e=>by have:=mul_inv h;rw [e,mul_zero] at this;exact absurd this (by decide)
theorem mul_cancel {a b c:UInt8} (h:a≠0) (e:mul a b=mul a c):b=c:=by
 have:mul (inv a) (mul a b)=mul (inv a) (mul a c):=by rw [e]
 rwa [← mul_assoc,← mul_assoc,inv_mul h,one_mul,one_mul] at this
theorem inv_uniq {a b:UInt8} (h:mul a b=1):b=inv a:=by
 have ha:a≠0:=fun e=>by rw [e,zero_mul] at h;exact absurd h (by decide)
 exact mul_cancel ha (by rw [h,mul_inv ha])
def pow (a:UInt8):Nat->UInt8
 | 0=>1
 | n+1=>mul (pow a n) a
def tabN:Nat->List UInt8×List Int×UInt8
 | 0=>(List.replicate 510 0,List.replicate 256 0,1)
 | n+1 =>
  let t:=tabN n
  (((t.1.set n t.2.2).set (n+255) t.2.2),t.2.1.set t.2.2.toNat (n:Int),mul t.2.2 3)
def pwT:List UInt8:=(tabN 255).1
def lgT:List Int:=(tabN 255).2.1
theorem tab_pw (n:Nat):(tabN n).2.2=pw n:=by
 induction n with
 | zero=>rfl
 | succ n ih=>simp only [tabN,pw];rw [ih]
theorem tab_len (n:Nat):(tabN n).1.length=510/\(tabN n).2.1.length=256:=by
 induction n with
 | zero=>exact ⟨List.length_replicate,List.length_replicate⟩
 | succ n ih =>
  simp only [tabN,List.length_set]
  exact ih
theorem pwT_len:pwT.length=510:=(tab_len 255).1
theorem lgT_len:lgT.length=256:=(tab_len 255).2
theorem tab_get (n:Nat) (hn:n<=255):∀ k,k<n->(tabN n).1[k]?=some (pw k)/\(tabN n).1[k+255]?=some (pw k):=by
 induction n with
 | zero=>intro k h;omega
 | succ n ih =>
  intro k hk
  have hl:=(tab_len n).1
  simp only [tabN,tab_pw,List.getElem?_set,List.length_set]
  rw [hl]
  rw [if_neg (by omega)]
  by_cases hkn:k=n
  ·subst hkn
   simp only [if_pos trivial]
   rw [if_pos (by omega),if_pos (by omega)]
   exact ⟨rfl,rfl⟩
  ·obtain ⟨h1,h2⟩:=ih (by omega) k (by omega)
   rw [if_neg (fun e=>hkn e.symm),if_neg (by omega),if_neg (by omega)]
   exact ⟨h1,h2⟩
theorem tab_lg (n:Nat) (hn:n<=255):∀ k,k<n->(tabN n).2.1[(pw k).toNat]?=some (k:Int):=by
 induction n with
 | zero=>intro k h;omega
 | succ n ih =>
  intro k hk
  have hl:=(tab_len n).2
  simp only [tabN,tab_pw,List.getElem?_set]
  rw [hl]
  have h256:=(pw n).toNat_lt
  by_cases hkn:k=n
  ·subst hkn
   rw [if_pos rfl,if_pos h256]
  ·have hne:¬ (pw n).toNat=(pw k).toNat:=fun e=>hkn (pw_inj (by omega) (by omega) (UInt8.toNat_inj.1 e).symm)
   rw [if_neg hne]
   exact ih (by omega) k (by omega)
theorem tab_lg0 (n:Nat):(tabN n).2.1[0]?=some 0:=by
 induction n with
 | zero=>exact List.getElem?_replicate_of_lt (by decide)
 | succ n ih =>
  simp only [tabN,tab_pw,List.getElem?_set]
  rw [if_neg (fun e=>pw_ne n (UInt8.toNat_inj.1 (by simpa using e)))]
  exact ih
theorem pwT_get (k:Nat) (h:k<510):pwT[k]?=some (pw k):=by
 by_cases h1:k<255
 ·exact (tab_get 255 (Nat.le_refl _) k h1).1
 ·have:=(tab_get 255 (Nat.le_refl _) (k - 255) (by omega)).2
  rw [show k - 255+255=k by omega] at this
  have e:pw (k - 255)=pw k:=by
   rw [← pw_mod k,← pw_mod (k - 255)];exact congrArg pw (by omega)
  rw [e] at this;exact this
theorem lgT_get (a:UInt8):lgT[a.toNat]?=some (lg a:Int):=by
 by_cases h:a=0
 ·subst h;rw [lg_zero];exact tab_lg0 255
 ·have:=tab_lg 255 (Nat.le_refl _) (lg a) (lg_lt a)
  rw [pw_lg h] at this;exact this
end Gf

/- The field's memory: its pointer, its tables, and how they are read. No condition. -/
namespace Gk
open Go Go.Proofs
def Fd (w:World) (L:List Value) (v:Value) (b:Bool):Prop:=FdT Gf.pwT Gf.lgT 56 w L v b
theorem Fd.lift {w w':World} {L L':List Value} {v:Value} {b:Bool} (h:Fd w L v b) (g:Lift w w' L L'):Fd w' L' v b:=FdT.lift h g
def padd (v:Value) (n:Nat):Value:=match v with | .pointer (some a)=>.pointer (some (a.add n)) | v=>v
def grd (b:Bool):Option Unit:=if b then some () else none
theorem zfk {b:Bool} {u:Unit} (h:grd b=some u):b=true:=by cases b <;> simp_all [grd]
theorem fieldAt0 (a:Addr) (w:World):(Instr.fieldAt 56 (.pointer (some a)) 0).run Tryz.prog w=.ok (.pointer (some (a.add 0))) w:=by
 simp [Instr.fieldAt,Instr.sureAddr,fieldPlace]
theorem fieldAt1 (a:Addr) (w:World):(Instr.fieldAt 56 (.pointer (some a)) 1).run Tryz.prog w=.ok (.pointer (some (a.add 510))) w:=by
 simp [Instr.fieldAt,Instr.sureAddr,fieldPlace]
section
variable {o : Oper} {f : Nat → Value} {w : World} {L : List Value} {v : Value} {b : Bool} {x y : Operand} {t e : TypeId}
theorem q_nilF (ho:o.op=.nilCheck x) (hx:ev f x=v) (h:Fd w L v b) (hb:b=true):Qa Tryz.prog o f v:=by
 intro w'
 rcases h with ⟨h1,_⟩ | ⟨_,g,rfl,_⟩
 ·rw [hb] at h1;cases h1
 ·simp [execOp,ho,hx]
theorem q_fld0 (ho:o.op=.fieldAddr 56 x 0) (hx:ev f x=v) (h:Fd w L v b) (hb:b=true):Qa Tryz.prog o f (padd v 0):=by
 intro w'
 rcases h with ⟨h1,_⟩ | ⟨_,g,rfl,_⟩
 ·rw [hb] at h1;cases h1
 ·simp [execOp,ho,hx,fieldAt0,padd]
theorem q_fld1 (ho:o.op=.fieldAddr 56 x 1) (hx:ev f x=v) (h:Fd w L v b) (hb:b=true):Qa Tryz.prog o f (padd v 510):=by
 intro w'
 rcases h with ⟨h1,_⟩ | ⟨_,g,rfl,_⟩
 ·rw [hb] at h1;cases h1
 ·simp [execOp,ho,hx,fieldAt1,padd]
theorem q_fix {k:IntKind} {i:Int} {n off:Nat} {α:Type} {l:List α} {c:α} (ho:o.op=.indexAddr t x y) (ht:Tryz.prog.underlying t=some (.array n e)) (hs:∀ w,(Go.sizeOf e).run Tryz.prog w=.ok 1 w) (hl:l.length=n)
  (hx:ev f x=padd v off) (hy:ev f y=.int k i) (h:Fd w L v b) (hb:b=true) (hi:idx l i=some c):Qa Tryz.prog o f (padd v (off+i.toNat)):=by
 intro w'
 obtain ⟨h0,h1,_⟩:=zb5.1 hi
 rcases h with ⟨h2,_⟩ | ⟨_,g,rfl,_⟩
 ·rw [hb] at h2;cases h2
 ·have h3:i<(n:Int):=by omega
  simp [execOp,ho,hx,hy,Instr.indexAt,asIntOf,run_underlying ht,Instr.sureAddr,padd,h0,h3,hs,zcg]
theorem fieldCells_pw (pw:List UInt8) (lg:List Int) (i:Nat) (c:UInt8) (h:pw[i]?=some c):(zbz pw lg)[i]?=some (u8 c):=by
 have hi:i<pw.length:=(List.getElem?_eq_some_iff.1 h).1
 simp [zbz,List.getElem?_append,hi]
 rw [(List.getElem?_eq_some_iff.1 h).2]
theorem fieldCells_lg (pw:List UInt8) (lg:List Int) (i:Nat) (c:Int) (h:lg[i]?=some c):(zbz pw lg)[pw.length+i]?=some (i64 c):=by
 simp [zbz,List.getElem?_append,h]
theorem q_fload (u:Value) (m:Nat) (ho:o.op=.load e x) (ha:∀ w,(isAgg e).run Tryz.prog w=.ok false w) (hx:ev f x=padd v m) (h:Fd w L v b) (hb:b=true) (hc:(zbz Gf.pwT Gf.lgT)[m]?=some u):Qt Tryz.prog o f w u:=by
 intro w' hE
 rcases h with ⟨h2,_⟩ | ⟨_,g,rfl,_,hg⟩
 ·rw [hb] at h2;cases h2
 ·have hlt:g<w.heap.size:=(Array.getElem?_eq_some_iff.1 hg).1
  have hg':w'.heap[g]?=some (.cells (zbz Gf.pwT Gf.lgT) 56 (0,0)):=by rw [hE.blk g hlt];exact hg
  have hcell:w'.cell? ⟨g,m,none⟩=some u:=by rw [cell_of_row w' g m _ _ _ hg',hc]
  simp [execOp,ho,hx,padd,Instr.loadAt,Instr.sureAddr,loadVar,ha,zcg,load,Sem.run,hcell]
theorem q_fload0 {i:Int} {c:UInt8} (ho:o.op=.load 5 x) (hx:ev f x=padd v (0+i.toNat)) (h:Fd w L v b) (hb:b=true) (hi:idx Gf.pwT i=some c):Qt Tryz.prog o f w (u8 c):=by
 obtain ⟨h0,h1,h2⟩:=zb5.1 hi
 exact q_fload _ _ ho Tryz.isAgg5 hx h hb (by rw [Nat.zero_add];exact fieldCells_pw _ _ _ _ (List.getElem?_eq_some_iff.2 ⟨h1,h2⟩))
theorem q_fload1 {i:Int} {c:Int} (ho:o.op=.load 3 x) (hx:ev f x=padd v (510+i.toNat)) (h:Fd w L v b) (hb:b=true) (hi:idx Gf.lgT i=some c):Qt Tryz.prog o f w (i64 c):=by
 obtain ⟨h0,h1,h2⟩:=zb5.1 hi
 refine q_fload _ _ ho Tryz.isAgg3 hx h hb ?_
 have:=fieldCells_lg Gf.pwT Gf.lgT i.toNat c (List.getElem?_eq_some_iff.2 ⟨h1,h2⟩)
 rw [Gf.pwT_len] at this
 exact this
theorem q_fix0 {k:IntKind} {i:Int} {c:UInt8} (ho:o.op=.indexAddr 53 x y) (hx:ev f x=padd v 0) (hy:ev f y=.int k i) (h:Fd w L v b) (hb:b=true) (hi:idx Gf.pwT i=some c):Qa Tryz.prog o f (padd v (0+i.toNat)) :=
 q_fix ho Tryz.underlying53 Tryz.sizeOf5 Gf.pwT_len hx hy h hb hi
theorem q_fix1 {k:IntKind} {i:Int} {c:Int} (ho:o.op=.indexAddr 54 x y) (hx:ev f x=padd v 510) (hy:ev f y=.int k i) (h:Fd w L v b) (hb:b=true) (hi:idx Gf.lgT i=some c):Qa Tryz.prog o f (padd v (510+i.toNat)) :=
 q_fix ho Tryz.underlying54 Tryz.sizeOf3 Gf.lgT_len hx hy h hb hi
end
end Gk

/- Printed by gen.py: for each Go function a pure function, and that the Go code comes to it. No condition beside the equation that says what the pure function gives. -/
namespace Gk
open Go Go.Proofs
noncomputable def zct (a:UInt8) (b:UInt8):Option UInt8 := some (a^^^b)
theorem zei (a0a:UInt8) (a1b:UInt8) (r:UInt8) (w0:World) (H:zct a0a a1b=some r) :
  Calls Tryz.prog 97 [(u8 a0a),(u8 a1b)].toArray w0 (fun e w'=>e=.returned (u8 r)/\Ext w0 w'):=by
 have hE:Ext w0 w0:=Ext.refl w0;unfold zct at H;refine zai (n:=8) Tryz.func97 rfl rfl rfl ?_;refine W_seq<|W_rg<|av (u8 0) rfl (cst8 (0:UInt8) rfl)<|wnt<|W_seq<|W_rg<|mv (u8 a0a) rfl rfl<|mv (u8 a1b) rfl rfl<|?_;refine wa rfl (zdb rfl rfl rfl)<|av (u8 ((a0a^^^a1b))) rfl rfl<|wnt<|W_ret<|?_;obtain rfl:=osi H;refine rt1 (u8 ((a0a^^^a1b))) rfl rfl rfl rfl ?_;exact ⟨rfl,hE⟩
noncomputable def zd0 (a:UInt8):Option UInt8 :=
(if (shr8 a 7)=(1:UInt8) then some ((shl8 a 1)^^^(27:UInt8))
else some (shl8 a 1))
theorem zij (a0a:UInt8) (r:UInt8) (w0:World) (H:zd0 a0a=some r) :
  Calls Tryz.prog 52 [(u8 a0a)].toArray w0 (fun e w'=>e=.returned (u8 r)/\Ext w0 w'):=by
 have hE:Ext w0 w0:=Ext.refl w0;unfold zd0 at H;refine zai (n:=12) Tryz.func52 rfl rfl rfl ?_;refine W_seq<|W_rg<|av (u8 0) rfl (cst8 (0:UInt8) rfl)<|wnt<|W_seq<|W_rg<|mv (u8 a0a) rfl rfl<|wa rfl (q_shl8 1 rfl rfl rfl rfl)<|?_;refine av (u8 ((shl8 a0a 1))) rfl rfl<|wnt<|W_seq<|W_seq<|W_rg<|mv (u8 a0a) rfl rfl<|wa rfl (q_shr8 7 rfl rfl rfl rfl)<|wa rfl (q_eq8 rfl rfl (cst8 (1:UInt8) rfl))<|?_;refine wnt ?_;refine wci H rfl rfl (fun H=>?_) (fun H=>?_)
 ·refine W_rg<|mv (u8 ((shl8 a0a 1))) rfl rfl<|wa rfl (zdb rfl rfl (cst8 (27:UInt8) rfl))<|av (u8 (((shl8 a0a 1)^^^(27:UInt8)))) rfl rfl<|wnt<|W_seq<|W_rg<|mv (u8 (((shl8 a0a 1)^^^(27:UInt8)))) rfl rfl<|?_;refine av (u8 (((shl8 a0a 1)^^^(27:UInt8)))) rfl rfl<|wnt<|W_ret<|?_;obtain rfl:=osi H;refine rt1 (u8 (((shl8 a0a 1)^^^(27:UInt8)))) rfl rfl rfl rfl ?_;exact ⟨rfl,hE⟩
 refine zae<|W_th<|W_seq<|W_rg<|mv (u8 ((shl8 a0a 1))) rfl rfl<|av (u8 ((shl8 a0a 1))) rfl rfl<|wnt<|W_ret<|?_;obtain rfl:=osi H;refine rt1 (u8 ((shl8 a0a 1))) rfl rfl rfl rfl ?_;exact ⟨rfl,hE⟩
noncomputable def field_Slow (b:UInt8) (c:UInt8):Option UInt8 :=
((iterC (fun a:UInt8×UInt8×UInt8 =>
(if a.2.1=(0:UInt8) then some (.inr a.2.2)
else
(if (a.2.1 &&& (1:UInt8))=(1:UInt8) then
((zd0 a.1).bind fun d => some (.inl (d,shr8 a.2.1 1,(a.2.2^^^a.1))))
else
((zd0 a.1).bind fun e => some (.inl (e,shr8 a.2.1 1,a.2.2)))))) (b,c,(0:UInt8))).bind fun f => some f)
theorem field_Slow_calls (m:UInt8) (o:UInt8) (p:UInt8) (w0:World) (d:field_Slow m o=some p) :
  Calls Tryz.prog 23 [u8 m,u8 o].toArray w0 (fun t D=>t=.returned (u8 p)/\Ext w0 D):=by
 have w:Ext w0 w0:=Ext.refl w0;unfold field_Slow at d;refine zai (n:=19) Tryz.func23 V V V<|W_sr<|av (u8 0) V (cst8 (0:UInt8) V)<|wnt<|W_sr<|av (u8 0) V (cst8 (0:UInt8) V)<|wnt<|W_seq ?_;obtain ⟨f,s,d⟩:=bsi d;refine W_mid (fun c l=>c 5=u8 f/\c 19=undef/\Ext w0 l) ?_ ?_
 ·refine zac<|zau (fun a c l=>c 0=u8 a.1/\c 1=u8 a.2.1/\c 5=u8 a.2.2/\c 19=undef/\Ext w0 l) s ?_ ?_
  ·exact ⟨rfl,rfl,rfl,rfl,w⟩
  rintro a _ _ H ⟨i,e,k,j,g⟩ b y;refine W_seq<|W_sr<|mv (u8 a.2.1) V e<|wa V (q_ne8 V V (cst8 (0:UInt8) V))<|wnt<|zam _ V V (fun h=>?_) (fun h=>?_)
  ·replace b:=(if_neg (zbf h)).symm.trans b;refine zae<|W_th<|W_seq<|zac<|W_seq<|W_sr<|mv (u8 a.2.1) V e<|wa V (q_and8 V V (cst8 (1:UInt8) V))<|wa V (q_eq8 V V (cst8 (1:UInt8) V))<|wnt<|wci b V V (fun b=>?_) (fun b=>?_)
   ·refine W_rg<|mv (u8 a.2.2) V k<|mv (u8 a.1) V i<|wa V (zdb V V V)<|av (u8 (a.2.2^^^a.1)) V V<|wnt<|W_rg<|mv (u8 a.1) V i<|?_;obtain ⟨q,z,b⟩:=bsi b;refine wls V V (zab (vs:=[u8 a.1]) Tryz.func52 V V V (ar1 V) (zij a.1  q _  z) ?_);rintro _ I ⟨rfl,E⟩;refine ⟨_,rfl,?_⟩;have u:=g.trans E;refine av (u8 q) V V<|zag<|bk_n<|W_th<|W_rg<|mv (u8 a.2.1) V e<|wa V (q_shr8 1 V V V V)<|av (u8 (shr8 a.2.1 1)) V V<|zag ?_;obtain rfl:=osi b;exact ⟨_,rfl,rfl,rfl,rfl,j,u⟩
   refine zae<|W_th<|W_rg<|mv (u8 a.1) V i<|?_;obtain ⟨r,A,b⟩:=bsi b;refine wls V V (zab (vs:=[u8 a.1]) Tryz.func52 V V V (ar1 V) (zij a.1  r _  A) ?_);rintro _ J ⟨rfl,F⟩;refine ⟨_,rfl,?_⟩;have v:=g.trans F;refine av (u8 r) V V<|zag<|bk_n<|W_th<|W_rg<|mv (u8 a.2.1) V e<|wa V (q_shr8 1 V V V V)<|av (u8 (shr8 a.2.1 1)) V V<|zag ?_;obtain rfl:=osi b;exact ⟨_,rfl,rfl,rfl,k,j,v⟩
  replace b:=(if_pos (zbg h)).symm.trans b;refine zar<|th_x<|?_;obtain rfl:=osi b;obtain rfl:=y _ rfl;refine th_x<|bk_x<|?_;exact ⟨k,j,g⟩
 rintro _ G ⟨C,B,x⟩;refine W_th<|W_sr<|mv (u8 f) V C<|av (u8 f) V V<|wnt<|W_ret<|?_;obtain rfl:=osi d;refine rt1 (u8 f) V V V B ?_;exact ⟨rfl,x⟩
noncomputable def zc2 (c:UInt8) (d:UInt8):Option UInt8 :=
((iterC (fun b:Int×Int =>
(if b.2<8 then
((cnt b.2).bind fun h =>
(if ((shr8 d h) % (2:UInt8))=(1:UInt8) then
((cnt b.2).bind fun i => some (.inl (xorI b.1 (shlI (c.toNat:Int) i),wI (b.2+1))))
else some (.inl (b.1,wI (b.2+1)))))
else some (.inr b.1))) (0,0)).bind fun j =>
((iterC (fun a:Int×Int =>
(if 8<=a.2 then
((cnt a.2).bind fun e =>
((remI (shrI a.1 e) 2).bind fun f =>
(if f=1 then
((cnt (wI (a.2 - 8))).bind fun g => some (.inl (xorI a.1 (shlI 283 g),wI (a.2 - 1))))
else some (.inl (a.1,wI (a.2 - 1))))))
else some (.inr a.1))) (j,14)).bind fun k => some (UInt8.ofInt k)))
theorem zcd (h:UInt8) (k:UInt8) (x:UInt8) (w0:World) (g:zc2 h k=some x) :
  Calls Tryz.prog 105 [u8 h,u8 k].toArray w0 (fun C R=>C=.returned (u8 x)/\Ext w0 R):=by
 have D:Ext w0 w0:=Ext.refl w0;unfold zc2 at g;refine zai (n:=39) Tryz.func105 V V V<|W_sr<|av (u8 0) V (cst8 (0:UInt8) V)<|wnt<|W_sr<|av (i64 0) V V<|wnt<|W_seq<|W_sr<|av (i64 0) V V<|wnt<|?_;obtain ⟨S,y,g⟩:=bsi g;refine W_mid (fun b f=>b 5=i64 S/\b 39=undef/\Ext w0 f) ?_ ?_
 ·refine zac<|zau (fun e b f=>b 0=u8 h/\b 1=u8 k/\b 5=i64 e.1/\b 6=i64 e.2/\b 39=undef/\Ext w0 f) y ?_ ?_
  ·exact ⟨rfl,rfl,rfl,rfl,rfl,D⟩
  rintro e _ _ X ⟨q,r,u,i,t,p⟩ c L;refine W_seq<|W_sr<|mv (i64 e.2) V i<|wa V (q_ltI V V V)<|wnt<|wci c V V (fun c=>?_) (fun c=>?_)
  ·refine zae<|W_th<|W_seq<|zac<|W_sr<|mv (u8 k) V r<|mv (i64 e.2) V i<|bse c fun B J c=>wa V (q_shr8 B V V V (zew J))<|wa V (q_rem8 V V (cst8 (2:UInt8) V) (by decide))<|wa V (q_eq8 V V (cst8 (1:UInt8) V))<|wnt<|?_;refine wci c V V (fun c=>?_) (fun c=>?_)
   ·refine W_rg<|mv (i64 e.1) V u<|mv (u8 h) V q<|wa V (q_cvtI8 V V V V)<|mv (i64 e.2) V i<|bse c fun w K c=>wa V (q_shlI w V V V (zew K))<|wa V (q_xorI V V V)<|av (i64 (xorI e.1 (shlI (h.toNat:Int) w))) V V<|zag<|bk_n<|W_th<|W_rg<|mv (i64 e.2) V i<|?_;refine wa V (zak V V V)<|av (i64 (wI (e.2+1))) V V<|zag<|?_;obtain rfl:=osi c;exact ⟨_,rfl,q,r,rfl,rfl,t,p⟩
   refine zae<|bk_n<|W_th<|W_rg<|mv (i64 e.2) V i<|wa V (zak V V V)<|av (i64 (wI (e.2+1))) V V<|zag<|?_;obtain rfl:=osi c;exact ⟨_,rfl,q,r,u,rfl,t,p⟩
  refine zar<|th_x<|?_;obtain rfl:=osi c;obtain rfl:=L _ rfl;refine th_x<|bk_x<|?_;exact ⟨u,t,p⟩
 rintro _ Y ⟨Q,O,F⟩;refine W_th<|W_seq<|W_sr<|av (i64 14) V V<|wnt<|?_;obtain ⟨m,z,g⟩:=bsi g;refine W_mid (fun b f=>b 5=i64 m/\b 39=undef/\Ext w0 f) ?_ ?_
 ·refine zac<|zau (fun d b f=>b 5=i64 d.1/\b 7=i64 d.2/\b 39=undef/\Ext w0 f) z ?_ ?_
  ·exact ⟨Q,rfl,O,F⟩
  rintro d _ _ U ⟨l,j,s,o⟩ a M;refine W_seq<|W_sr<|mv (i64 d.2) V j<|wa V (q_geI V V V)<|wnt<|wci a V V (fun a=>?_) (fun a=>?_)
  ·refine zae<|W_th<|W_seq<|zac<|W_sr<|mv (i64 d.1) V l<|mv (i64 d.2) V j<|bse a fun A G a=>wa V (q_shrI A V V V (zew G)) ?_;obtain ⟨T,H,a⟩:=bsi a;refine wa V (zdm V V V H)<|wa V (q_eqI V V V)<|wnt<|wci a V V (fun a=>?_) (fun a=>?_)
   ·refine W_rg<|mv (i64 d.1) V l<|mv (i64 d.2) V j<|wa V (za9 V V V)<|bse a fun v I a=>wa V (q_shlI v V V V (zew I))<|wa V (q_xorI V V V)<|av (i64 (xorI d.1 (shlI 283 v))) V V<|zag<|bk_n<|W_th<|W_rg<|mv (i64 d.2) V j<|?_;refine wa V (za9 V V V)<|av (i64 (wI (d.2 - 1))) V V<|zag<|?_;obtain rfl:=osi a;exact ⟨_,rfl,rfl,rfl,s,o⟩
   refine zae<|bk_n<|W_th<|W_rg<|mv (i64 d.2) V j<|wa V (za9 V V V)<|av (i64 (wI (d.2 - 1))) V V<|zag<|?_;obtain rfl:=osi a;exact ⟨_,rfl,l,rfl,s,o⟩
  refine zar<|th_x<|?_;obtain rfl:=osi a;obtain rfl:=M _ rfl;refine th_x<|bk_x<|?_;exact ⟨l,s,o⟩
 rintro _ W ⟨P,N,E⟩;refine W_th<|W_sr<|mv (i64 m) V P<|wa V (zey V V V V)<|av (u8 (UInt8.ofInt m)) V V<|wnt<|W_ret<|?_;obtain rfl:=osi g;refine rt1 (u8 (UInt8.ofInt m)) V V V N ?_;exact ⟨rfl,E⟩
noncomputable def zja (b:UInt8):Option UInt8 :=
((iterC (fun a:Int =>
(if a<256 then
((zc2 b (UInt8.ofInt a)).bind fun d =>
(if d=(1:UInt8) then some (.inr (.inr (UInt8.ofInt a)))
else some (.inl (wI (a+1)))))
else some (.inr (.inl ())))) 1).bind (Sum.elim (fun e => some (0:UInt8)) (fun c=>some c)))
theorem ref02_Inv_calls (d:UInt8) (l:UInt8) (w0:World) (c:zja d=some l) :
  Calls Tryz.prog 131 [u8 d].toArray w0 (fun q w=>q=.returned (u8 l)/\Ext w0 w):=by
 have r:Ext w0 w0:=Ext.refl w0;unfold zja at c;refine zai (n:=15) Tryz.func131 V V V<|W_sr<|av (u8 0) V (cst8 (0:UInt8) V)<|wnt<|W_seq<|W_sr<|av (i64 1) V V<|wnt ?_;obtain ⟨x,p,c⟩:=bsi c;refine W_mid (fun e h=>∃ o,x=.inl o/\e 15=undef/\Ext w0 h) ?_ ?_
 ·refine zac<|zau (fun b e h=>e 0=u8 d/\e 3=i64 b/\e 15=undef/\Ext w0 h) p ?_ ?_
  ·exact ⟨rfl,rfl,rfl,r⟩
  rintro b _ _ z ⟨m,f,g,j⟩ a k;refine W_seq<|W_sr<|mv (i64 b) V f<|wa V (q_ltI V V V)<|wnt<|wci a V V (fun a=>?_) (fun a=>?_)
  ·refine zae<|W_th<|W_seq<|zac<|W_sr<|mv (u8 d) V m<|mv (i64 b) V f<|wa V (zey V V V V) ?_;obtain ⟨u,t,a⟩:=bsi a;refine wls V V (zab (vs:=[u8 d,u8 (UInt8.ofInt b)]) Tryz.func105 V V V (ar2 V V) (zcd d (UInt8.ofInt b)  u _  t) ?_);rintro _ A ⟨rfl,y⟩;refine ⟨_,rfl,?_⟩;have i:=j.trans y;refine wa V (q_eq8 V V (cst8 (1:UInt8) V))<|wnt<|wci a V V (fun a=>?_) (fun a=>?_)
   ·refine W_sr<|mv (i64 b) V f<|wa V (zey V V V V)<|av (u8 (UInt8.ofInt b)) V V<|wnt<|W_ret<|bk_r<|th_r ?_;obtain rfl:=osi a;obtain rfl:=k _ rfl;simp only [Sum.elim_inr] at c;refine th_r<|bk_r<|th_r<|th_r<|?_;obtain rfl:=osi c;refine rt1 (u8 (UInt8.ofInt b)) V V V g ?_;exact ⟨rfl,i⟩
   refine zae<|bk_n<|W_th<|W_rg<|mv (i64 b) V f<|wa V (zak V V V)<|av (i64 (wI (b+1))) V V<|zag<|?_;obtain rfl:=osi a;exact ⟨_,rfl,m,rfl,g,i⟩
  refine zar<|th_x<|?_;obtain rfl:=osi a;obtain rfl:=k _ rfl;refine th_x<|bk_x<|?_;exact ⟨_,rfl,g,j⟩
 rintro _ B ⟨o,rfl,v,s⟩;simp only [Sum.elim_inl] at c;refine W_th<|W_sr<|av (u8 0) V (cst8 (0:UInt8) V)<|wnt<|W_ret<|?_;obtain rfl:=osi c;refine rt1 (u8 0) V V V v ?_;exact ⟨rfl,s⟩
end Gk

/- Printed by gen.py: for each Go function a pure function, and that the Go code comes to it. No condition beside the equation that says what the pure function gives. -/
namespace Gk
open Go Go.Proofs
noncomputable def zcj (a:Bool) (b:UInt8) (c:UInt8):Option UInt8 :=
(if (!a)=true then some (0:UInt8)
else
(if b=(0:UInt8) then some (0:UInt8)
else
(if c=(0:UInt8) then some (0:UInt8)
else
((grd a).bind fun g =>
((idx Gf.lgT (b.toNat:Int)).bind fun d =>
((idx Gf.lgT (c.toNat:Int)).bind fun e =>
((idx Gf.pwT (wI (d+e))).bind fun f => some f)))))))
theorem zcr (i:Bool) (e:UInt8) (g:UInt8) (f:Value) (r:UInt8) (w0:World) (c:Fd w0 [] f i) (a:zcj i e g=some r) :
  Calls Tryz.prog 98 [f,u8 e,u8 g].toArray w0 (fun s t=>s=.returned (u8 r)/\Ext w0 t):=by
 have h:Ext w0 w0:=Ext.refl w0;unfold zcj at a;refine zai (n:=35) Tryz.func98 V V V<|W_sr<|av (u8 0) V (cst8 (0:UInt8) V)<|wnt<|W_seq<|W_sr<|mv f V V<|wa V (q_eqF V V V V (c.lift (le_ h)))<|wlb V V (zbd (v:=(.bool (!i))) V V) (fun k=>?_) (fun k=>?_)
 ·replace a:=(if_pos k).symm.trans a;refine wk V<|wk V<|wa V (zaw (v:=(.bool true)) V V V)<|mv (.bool true) V V<|wk V<|wk V<|wa V (zaw (v:=(.bool true)) V V V)<|wnt<|zam true V V (fun _=>?_) (fun j=>by cases j);refine W_sr<|av (u8 0) V (cst8 (0:UInt8) V)<|wnt<|W_ret<|th_r<|?_;obtain rfl:=osi a;refine rt1 (u8 0) V V V V ?_;exact ⟨rfl,h⟩
 replace a:=(if_neg (ne_true_of_eq_false k)).symm.trans a;refine mv (u8 e) V V<|wa V (q_eq8 V V (cst8 (0:UInt8) V))<|wa V (zaq (v:=(.bool (decide (e=(0:UInt8))))) V V V)<|wlb V V (zbd (v:=(.bool (decide (e=(0:UInt8))))) V V) (fun l=>?_) (fun l=>?_)
 ·replace a:=ifp l a;refine wk V<|wk V<|wa V (zaw (v:=(.bool true)) V V V)<|wnt<|zam true V V (fun _=>?_) (fun j=>by cases j);refine W_sr<|av (u8 0) V (cst8 (0:UInt8) V)<|wnt<|W_ret<|th_r<|?_;obtain rfl:=osi a;refine rt1 (u8 0) V V V V ?_;exact ⟨rfl,h⟩
 replace a:=ifn l a;refine mv (u8 g) V V<|wa V (q_eq8 V V (cst8 (0:UInt8) V))<|wa V (zaq (v:=(.bool (decide (g=(0:UInt8))))) V V V)<|wnt<|wci a V V (fun a=>?_) (fun a=>?_)
 ·refine W_sr<|av (u8 0) V (cst8 (0:UInt8) V)<|wnt<|W_ret<|th_r<|?_;obtain rfl:=osi a;refine rt1 (u8 0) V V V V ?_;exact ⟨rfl,h⟩
 refine zae<|W_th<|W_seq<|zba [6,12,17] [(0,0),(1,0),(2,0),(3,0),(4,0),(5,0),(6,1),(7,0),(8,0),(9,0),(10,0),(11,0),(12,1),(13,0),(14,0),(15,0),(16,0),(17,1),(18,0)] mixed (by kernel_rfl) (by kernel_rfl) (by kernel_rfl) (by kernel_rfl) ?_;have u:=Ext.drew w0;have b:=h.trans u;refine sv f V V V<|sv f V V V<|sv (u8 e) V V V<|bse a fun w d a=>sa V V (q_nilF V V (c.lift (le_ b)) (zfk d))<|sa V V (q_fld1 V V (c.lift (le_ b)) (zfk d))<|bse a fun x o a=>sa V V (q_fix1 V V V (c.lift (le_ b)) (zfk d) o)<|sq V V (q_fload1 V V (c.lift (le_ b)) (zfk d) o)<|sv f V V V<|sv (u8 g) V V V<|sa V V (q_nilF V V (c.lift (le_ b)) (zfk d))<|sa V V (q_fld1 V V (c.lift (le_ b)) (zfk d))<|?_;obtain ⟨y,p,a⟩:=bsi a;refine sa V V (q_fix1 V V V (c.lift (le_ b)) (zfk d) p)<|sq V V (q_fload1 V V (c.lift (le_ b)) (zfk d) p)<|sa V V (zak V V V)<|sa V V (q_nilF V V (c.lift (le_ b)) (zfk d))<|sa V V (q_fld0 V V (c.lift (le_ b)) (zfk d))<|bse a fun m q a=>sa V V (q_fix0 V V V (c.lift (le_ b)) (zfk d) q)<|sq V V (q_fload0 V V (c.lift (le_ b)) (zfk d) q)<|sa V V (zat (v:=u8 m) V V)<|za1<|W_th<|W_ret<|?_;obtain rfl:=osi a;refine rt1 (u8 m) V V V V ?_;exact ⟨rfl,b⟩
noncomputable def zgo (a:Bool) (b:UInt8):Option (UInt8×Int) :=
(if (!a)=true then some ((0:UInt8),1)
else
(if b=(0:UInt8) then some ((0:UInt8),7)
else
((grd a).bind fun e =>
((idx Gf.lgT (b.toNat:Int)).bind fun c =>
((idx Gf.pwT (wI (255 - c))).bind fun d => some (d,0))))))
theorem zfy (h:Bool) (e:UInt8) (f:Value) (j:UInt8×Int) (w0:World) (c:Fd w0 [] f h) (a:zgo h e=some j) :
  Calls Tryz.prog 129 [f,u8 e].toArray w0 (fun o p=>o=.returned (.tuple #[u8 j.1,i64 j.2])/\Ext w0 p):=by
 have g:Ext w0 w0:=Ext.refl w0;unfold zgo at a;refine zai (n:=24) Tryz.func129 V V V<|W_sr<|av (u8 0) V (cst8 (0:UInt8) V)<|av (i64 0) V V<|wnt<|W_seq<|zac<|W_seq<|W_rg<|mv f V V<|wa V (q_eqF V V V V (c.lift (le_ g)))<|av (.bool (!h)) V V<|wnt<|zam _ V V (fun i=>?_) (fun i=>?_)
 ·replace a:=(if_pos i).symm.trans a;refine W_sr<|av (u8 0) V (cst8 (0:UInt8) V)<|av (i64 1) V V<|wnt<|W_ret<|bk_r<|th_r<|?_;obtain rfl:=osi a;refine rt2 (u8 0) (i64 1) V V V V V V ?_;exact ⟨rfl,g⟩
 replace a:=(if_neg (ne_true_of_eq_false i)).symm.trans a;refine W_sr<|mv (u8 e) V V<|wa V (q_eq8 V V (cst8 (0:UInt8) V))<|av (.bool (decide (e=(0:UInt8)))) V V<|wnt<|wci a V V (fun a=>?_) (fun a=>?_)
 ·refine W_sr<|av (u8 0) V (cst8 (0:UInt8) V)<|av (i64 7) V V<|wnt<|W_ret<|bk_r<|th_r<|?_;obtain rfl:=osi a;refine rt2 (u8 0) (i64 7) V V V V V V ?_;exact ⟨rfl,g⟩
 refine zae<|bk_n<|W_th<|W_seq<|zba [6,11] [(0,0),(1,0),(2,0),(3,0),(4,0),(5,0),(6,1),(7,0),(8,0),(9,0),(10,0),(11,1),(12,0),(13,0)] mixed (by kernel_rfl) (by kernel_rfl) (by kernel_rfl) (by kernel_rfl) ?_;have q:=Ext.drew w0;have b:=g.trans q;refine sv f V V V<|sv f V V V<|sv (u8 e) V V V<|bse a fun r d a=>sa V V (q_nilF V V (c.lift (le_ b)) (zfk d))<|sa V V (q_fld1 V V (c.lift (le_ b)) (zfk d))<|bse a fun s l a=>sa V V (q_fix1 V V V (c.lift (le_ b)) (zfk d) l)<|sq V V (q_fload1 V V (c.lift (le_ b)) (zfk d) l)<|sa V V (za9 V V V)<|sa V V (q_nilF V V (c.lift (le_ b)) (zfk d))<|sa V V (q_fld0 V V (c.lift (le_ b)) (zfk d))<|bse a fun k m a=>sa V V (q_fix0 V V V (c.lift (le_ b)) (zfk d) m)<|sq V V (q_fload0 V V (c.lift (le_ b)) (zfk d) m)<|sa V V (zat (v:=u8 k) V V)<|sa V V (zat (v:=i64 0) V V)<|za1 ?_;refine W_th<|W_ret<|?_;obtain rfl:=osi a;refine rt2 (u8 k) (i64 0) V V V V V V ?_;exact ⟨rfl,b⟩
noncomputable def zf1 (b:Bool) (c:UInt8) (d:UInt8):Option (UInt8×Int) :=
((zgo b d).bind fun a =>
(if a.2=0 then
((zcj b c a.1).bind fun e => some (e,0))
else some ((0:UInt8),a.2)))
theorem field_Div_calls (f:Bool) (d:UInt8) (e:UInt8) (c:Value) (i:UInt8×Int) (w0:World) (l:Fd w0 [] c f) (b:zf1 f d e=some i) :
  Calls Tryz.prog 100 [c,u8 d,u8 e].toArray w0 (fun m r=>m=.returned (.tuple #[u8 i.1,i64 i.2])/\Ext w0 r):=by
 have k:Ext w0 w0:=Ext.refl w0;unfold zf1 at b;refine zai (n:=23) Tryz.func100 V V V<|W_sr<|av (u8 0) V (cst8 (0:UInt8) V)<|av (i64 0) V V<|wnt<|W_sr<|mv c V V<|mv (u8 e) V V ?_;obtain ⟨a,p,b⟩:=bsi b;refine wls V V (zab (vs:=[c,u8 e]) Tryz.func129 V V V (ar2 V V) (zfy f e c a _ (l.lift (le_ k)) p) ?_);rintro _ u ⟨rfl,s⟩;refine ⟨_,rfl,?_⟩;have g:=k.trans s;refine mv (.tuple #[u8 a.1,i64 a.2]) V V<|wa V (zah V V V)<|wa V (zah V V V)<|av (u8 a.1) V V<|av (i64 a.2) V V<|wnt<|W_seq<|W_seq<|W_rg<|mv (i64 a.2) V V<|wa V (q_neI V V V)<|wnt<|zam _ V V (fun h=>?_) (fun h=>?_)
 ·replace b:=(if_neg (zbf h)).symm.trans b;refine W_sr<|mv (i64 a.2) V V<|av (u8 0) V (cst8 (0:UInt8) V)<|av (i64 a.2) V V<|wnt<|W_ret<|th_r<|?_;obtain rfl:=osi b;refine rt2 (u8 0) (i64 a.2) V V V V V V ?_;exact ⟨rfl,g⟩
 replace b:=(if_pos (zbg h)).symm.trans b;refine zae<|W_th<|W_sr<|mv c V V<|mv (u8 d) V V<|mv (u8 a.1) V V<|?_;obtain ⟨j,q,b⟩:=bsi b;refine wls V V (zab (vs:=[c,u8 d,u8 a.1]) Tryz.func98 V V V (ar3 V V V) (zcr f d a.1 c j _ (l.lift (le_ g)) q) ?_);rintro _ v ⟨rfl,t⟩;refine ⟨_,rfl,?_⟩;have o:=g.trans t;refine av (u8 j) V V<|av (i64 0) V V<|wnt<|W_ret<|?_;obtain rfl:=osi b;refine rt2 (u8 j) (i64 0) V V V V V V ?_;exact ⟨rfl,o⟩
noncomputable def zdl (d:Bool) (b:List UInt8) (e:UInt8) (c:List UInt8):Option (List UInt8) :=
(if (!d)=true then some ([]:List UInt8)
else
((makeL (b.length:Int) (0:UInt8)).bind fun h =>
((iterC (fun a:List UInt8×Int =>
(if a.2<(if (c.length:Int)<(b.length:Int) then (c.length:Int) else (b.length:Int)) then
((idx a.1 a.2).bind fun f =>
((idx c a.2).bind fun g =>
((zcj d e g).bind fun i => some (.inl (a.1.set (a.2:Int).toNat (f^^^i),wI (a.2+1))))))
else some (.inr a.1))) (copyL h 0 b,0)).bind fun j => some j)))
theorem zdt (s:Bool) (m:List UInt8) (h:UInt8) (o:List UInt8) (g:Value) (i:Value) (k:Value) (N:List UInt8) (w0:World) (J:Fd w0 [] g s) (w:By w0 [] i m) (x:By w0 [] k o) (b:zdl s m h o=some N) :
  Calls Tryz.prog 72 [g,i,u8 h,k].toArray w0 (fun X U=>∃ C:Value,X=.returned C/\Ext w0 U/\Nw w0 C/\OwK (Sc u8) U [] 5 C N):=by
 have j:Ext w0 w0:=Ext.refl w0;unfold zdl at b;refine zai (n:=42) Tryz.func72 V V V<|W_sr<|av (.slice none 0 0) V V<|wnt<|W_seq<|W_sr<|mv g V V<|wa V (q_eqF V V V V (J.lift (le_ j)))<|wnt<|zam _ V V (fun v=>?_) (fun v=>?_)
 ·replace b:=(if_pos v).symm.trans b;refine W_sr<|av (.slice none 0 0) V V<|wnt<|W_ret<|th_r<|?_;obtain rfl:=osi b;refine rt1 (.slice none 0 0) V V V V ?_;exact ⟨.slice none 0 0,rfl,j,Nw.nil _,OwK.nil _ _ _ _⟩
 replace b:=(if_neg (ne_true_of_eq_false v)).symm.trans b;refine zae<|W_th<|W_sr<|mv i V V<|wa V (q_len V T22.sl V (w.lift (le_ j)))<|?_;obtain ⟨aI,a5,b⟩:=bsi b;refine wls V V (zb3 (L:=[]) (R:=Sc u8) V T22 V V a5 (fun _ _=>rfl) ?_);intro a aP M a9 a1 aK;have aG:=zaa a1;have K:=Nw.ext j a9;have G:=j.trans aG;refine av a V V<|wnt<|W_sr<|mv a V V<|mv i V V<|wls V V (stp_copy (R:=Sc u8) (off:=0) (dv:=a) (u:=i) (Sc.stab _) [] [] V T22 V V M (copy_whole M) (by decide) (Int.natCast_nonneg _) (w.lift (le_ G)) (fun _ _ a3=>a3) oc_u8 ?_);intro aQ aC a2 aL;have t:=G.grown a2 K;refine wnt<|W_seq<|W_sr<|mv i V V<|wa V (q_len V T22.sl V (w.lift (le_ t)))<|mv k V V<|wa V (q_len V T22.sl V (x.lift (le_ t)))<|wa V (q_minI V V V)<|mv (i64 0) V V<|wnt<|?_;obtain ⟨aH,W,b⟩:=bsi b;refine W_mid (fun d l=>d 9=a/\d 42=undef/\Ext w0 l/\OwK (Sc u8) l [a] 5 a aH/\Nw w0 a) ?_ ?_
 ·refine zac<|zau (fun f d l=>d 0=g/\d 2=u8 h/\d 3=k/\d 9=a/\d 23=i64 (if (o.length:Int)<(m.length:Int) then (o.length:Int) else (m.length:Int))/\d 24=i64 f.2/\d 42=undef/\Ext w0 l/\OwK (Sc u8) l [a] 5 a f.1/\Nw w0 a) W ?_ ?_
  ·exact ⟨rfl,rfl,rfl,rfl,rfl,rfl,rfl,t,aC,K⟩
  rintro f _ _ aF ⟨O,Q,S,B,P,A,T,H,e,y⟩ c a7;refine W_sr<|wa V (q_ltI V A P)<|wnt<|W_seq<|wci c V V (fun c=>?_) (fun c=>?_)
  ·refine zae<|W_th<|W_seq<|zac<|W_sr<|mv (i64 f.2) V A<|av (i64 f.2) V V<|wnt<|zba [3,9] [(0,0),(1,0),(2,0),(3,1),(4,0),(5,0),(6,0),(7,0),(8,0),(9,1),(10,2),(11,0),(12,0),(13,2)] mixed (by kernel_rfl) (by kernel_rfl) (by kernel_rfl) (by kernel_rfl) ?_;have D:=Ext.drew aF;replace e:=e.extL (Sc.stab _) D (le_ D);have p:=H.trans D;refine sv a V V B<|sv (i64 f.2) V V V<|bse c fun E q c=>sa V V (q_adr V T22 V V (e.rd (Sc.stab _)) q)<|sq V V (zao V T22 V (e.rd (Sc.stab _)) q)<|sv g V V O<|sv (u8 h) V V Q<|sv k V V S<|sv (i64 f.2) V V V<|bse c fun F I c=>sa V V (q_adr V T22 V V (x.lift (le_ p)) I)<|sq V V (zao V T22 V (x.lift (le_ p)) I)<|?_;obtain ⟨z,a6,c⟩:=bsi c;refine wss V V V (zab (vs:=[g,u8 h,u8 F]) Tryz.func98 V V V (ar3 V V V) (zcr s h F g z _ (J.lift (le_ p)) a6) ?_);rintro _ aM ⟨rfl,r⟩;refine ⟨_,rfl,r,?_⟩;replace e:=e.extL (Sc.stab _) r (le_ r);have Y:=p.trans r;refine sa V V (zdb V V V)<|sa V V (q_adr V T22 V V (e.rd (Sc.stab _)) q)<|wsn V (by kernel_rfl) V V (zci (R:=Sc u8) (u:=u8 (E^^^z)) (Sc.stab _) [] [] V T22 V V e (zf6 (E^^^z) q) V V ?_);intro aN aB a0 aJ;have Z:=Y.grown a0 y;refine za1<|bk_n<|W_th<|W_rg<|wa V (zak V A V)<|mv (i64 (wI (f.2+1))) V V<|zag<|?_;obtain rfl:=osi c;exact ⟨_,rfl,O,Q,S,B,P,rfl,T,Z,aB,y⟩
  refine zar<|th_x<|?_;obtain rfl:=osi c;obtain rfl:=a7 _ rfl;refine th_x<|bk_x<|?_;exact ⟨B,T,H,e,y⟩
 rintro _ aO ⟨aE,aD,a4,aA,a8⟩;refine W_th<|W_sr<|mv a V aE<|av a V V<|wnt<|W_ret<|?_;obtain rfl:=osi b;refine rt1 a V V V aD ?_;exact ⟨a,rfl,a4,a8,aA.weak (Sc.stab _) (fun _ _=>trivial)⟩
end Gk

/- Pure loops: how they are shown to end, and with what. Numbers of Go as plain numbers. No condition. -/
namespace Gk
theorem zfx {S X:Type} {body:S->Option (S⊕X)} (I:S->Prop) (m:S->Nat) (post:X->Prop)
  (step:∀ s,I s->(∃ s',body s=some (.inl s')/\I s'/\m s'<m s)∨∃ x,body s=some (.inr x)/\post x) (s:S) (h:I s):∃ x,iterC body s=some x/\post x:=by
 generalize hk:m s=k
 induction k using Nat.strongRecOn generalizing s with
 | ind k ih =>
  rw [zbq]
  rcases step s h with ⟨s',hb,hI,hm⟩ | ⟨x,hb,hp⟩
  ·obtain ⟨x,hx,hp⟩:=ih (m s') (by omega) s' hI rfl
   exact ⟨x,by rw [hb];simpa using hx,hp⟩
  ·exact ⟨x,by rw [hb];rfl,hp⟩
theorem zay {α β:Type} {o:Option α} {g:α->Option β} {x:α} {r:Option β} (h:o=some x) (h2:g x=r):o.bind g=r:=by rw [h];exact h2
theorem iterC_up {σ X:Type} {body:σ×Int->Option ((σ×Int)⊕X)} {s0:σ} (I:Nat->σ->Prop) (n:Nat) (post:X->Prop) (h0:I 0 s0)
  (hstep:∀ (i:Nat) (s:σ),i<n->I i s->∃ s',body (s,(i:Int))=some (.inl (s',((i+1:Nat):Int)))/\I (i+1) s')
  (hend:∀ s,I n s->∃ x,body (s,(n:Int))=some (.inr x)/\post x):∃ x,iterC body (s0,0)=some x/\post x:=by
 refine zfx (fun s=>∃ i:Nat,i<=n/\s.2=(i:Int)/\I i s.1) (fun s=>n - s.2.toNat) post ?_ (s0,0) ⟨0,Nat.zero_le _,rfl,h0⟩
 rintro ⟨s,_⟩ ⟨i,hi,rfl,hI⟩
 by_cases h:i<n
 ·obtain ⟨s',hb,hI'⟩:=hstep i s h hI
  exact .inl ⟨_,hb,⟨i+1,h,rfl,hI'⟩,by simp only [Int.toNat_natCast];omega⟩
 ·obtain rfl:i=n:=by omega
  exact .inr (hend s hI)
theorem iterC_from {σ X:Type} {body:σ×Int->Option ((σ×Int)⊕X)} {s0:σ} (I:Nat->σ->Prop) (k0 n:Nat) (hk:k0<=n) (post:X->Prop) (h0:I k0 s0)
  (hstep:∀ (i:Nat) (s:σ),k0<=i->i<n->I i s->∃ s',body (s,(i:Int))=some (.inl (s',((i+1:Nat):Int)))/\I (i+1) s')
  (hend:∀ s,I n s->∃ x,body (s,(n:Int))=some (.inr x)/\post x):∃ x,iterC body (s0,(k0:Int))=some x/\post x:=by
 refine zfx (fun s=>∃ i:Nat,k0<=i/\i<=n/\s.2=(i:Int)/\I i s.1) (fun s=>n - s.2.toNat) post ?_ (s0,(k0:Int)) ⟨k0,Nat.le_refl _,hk,rfl,h0⟩
 rintro ⟨s,_⟩ ⟨i,hki,hi,rfl,hI⟩
 by_cases h:i<n
 ·obtain ⟨s',hb,hI'⟩:=hstep i s hki h hI
  exact .inl ⟨_,hb,⟨i+1,by omega,h,rfl,hI'⟩,by simp only [Int.toNat_natCast];omega⟩
 ·obtain rfl:i=n:=by omega
  exact .inr (hend s hI)
theorem iterC_dn {σ X:Type} {body:σ×Int->Option ((σ×Int)⊕X)} {s0:σ} (I:Nat->σ->Prop) (k n:Nat) (hk:k<=n) (post:X->Prop) (h0:I n s0)
  (hstep:∀ (j:Nat) (s:σ),k<=j->j<n->I (j+1) s->∃ s',body (s,(j:Int))=some (.inl (s',(j:Int) - 1))/\I j s')
  (hend:∀ s,I k s->∃ x,body (s,(k:Int) - 1)=some (.inr x)/\post x):∃ x,iterC body (s0,(n:Int) - 1)=some x/\post x:=by
 refine zfx (fun s=>∃ j:Nat,k<=j/\j<=n/\s.2=(j:Int) - 1/\I j s.1) (fun s=>(s.2+1).toNat) post ?_ (s0,(n:Int) - 1) ⟨n,hk,Nat.le_refl _,rfl,h0⟩
 rintro ⟨s,_⟩ ⟨j,hkj,hj,rfl,hI⟩
 by_cases h:k<j
 ·obtain ⟨j,rfl⟩:∃ i,j=i+1:=⟨j - 1,by omega⟩
  obtain ⟨s',hb,hI'⟩:=hstep j s (by omega) (by omega) hI
  refine .inl ⟨(s',(j:Int) - 1),?_,⟨j,by omega,by omega,rfl,hI'⟩,by simp only;omega⟩
  rw [show ((j+1:Nat):Int) - 1=(j:Int) by omega];exact hb
 ·obtain rfl:j=k:=by omega
  exact .inr (hend s hI)
theorem iterC_find {X:Type} {body:Int->Option (Int⊕X)} (n:Nat) (bad:Nat->Prop) [DecidablePred bad] (hit fin:X)
  (h1:∀ i,i<n->¬ bad i->body (i:Int)=some (.inl ((i+1:Nat):Int))) (h2:∀ i,i<n->bad i->body (i:Int)=some (.inr hit)) (h3:body (n:Int)=some (.inr fin)) :
  ∃ x,iterC body 0=some x/\((∃ i,i<n/\bad i)->x=hit)/\((∀ i,i<n->¬ bad i)->x=fin):=by
 refine zfx (body:=body) (fun s=>∃ i:Nat,i<=n/\s=(i:Int)/\∀ j,j<i->¬ bad j) (fun s=>n - s.toNat) _ ?_ 0 ⟨0,Nat.zero_le _,rfl,fun j hj=>absurd hj (Nat.not_lt_zero _)⟩
 rintro _ ⟨i,hi,rfl,hb⟩
 by_cases h:i<n
 ·by_cases hbi:bad i
  ·exact .inr ⟨hit,h2 i h hbi,fun _=>rfl,fun hall=>absurd hbi (hall i h)⟩
  ·refine .inl ⟨_,h1 i h hbi,⟨i+1,h,rfl,fun j hj=>?_⟩,by simp only [Int.toNat_natCast];omega⟩
   by_cases hji:j=i
   ·rw [hji];exact hbi
   ·exact hb j (by omega)
 ·obtain rfl:i=n:=by omega
  exact .inr ⟨fin,h3,fun ⟨j,hj,hbj⟩=>absurd hbj (hb j hj),fun _=>rfl⟩
theorem iterC_range {S X:Type} {body:S->Option (S⊕X)} (s:Nat->S) (k:Nat) {x:X} (hs:∀ i,i<k->body (s i)=some (.inl (s (i+1)))) (he:body (s k)=some (.inr x)):iterC body (s 0)=some x:=by
 have:∀ j,j<=k->iterC body (s (k - j))=some x:=by
  intro j
  induction j with
  | zero=>intro _;rw [zbq,Nat.sub_zero,he];rfl
  | succ j ih =>
   intro hj
   rw [zbq,hs (k - (j+1)) (by omega)]
   have e:k - (j+1)+1=k - j:=by omega
   rw [e];exact ih (by omega)
 have h:=this k (Nat.le_refl _)
 rwa [Nat.sub_self] at h
theorem zal {S X:Type} {body:S->Option (S⊕X)} {s0:S} (s:Nat->S) (k:Nat) (x:X) (h0:s0=s 0) (hs:∀ i,i<k->body (s i)=some (.inl (s (i+1)))) (he:body (s k)=some (.inr x)):iterC body s0=some x:=by
 rw [h0];exact iterC_range s k hs he
theorem wI_nat {n:Nat} (h:n<9223372036854775808):wI (n:Int)=n:=wI_of (by omega) (by omega)
theorem zex (n:Nat):cnt (n:Int)=some n:=by simp [cnt]
theorem zch (a b:Nat) (h:0<b):remI (a:Int) (b:Int)=some ((a % b:Nat):Int):=by
 unfold remI;rw [if_neg (by omega)];rw [← Int.ofNat_tmod]
theorem zhh (a b:Nat) (h:0<b) (ha:a<9223372036854775808):divI (a:Int) (b:Int)=some ((a / b:Nat):Int):=by
 unfold divI;rw [if_neg (by omega),← Int.ofNat_tdiv,wI_nat (Nat.lt_of_le_of_lt (Nat.div_le_self _ _) ha)]
theorem shrI_nat (a n:Nat) (h:n<=64):shrI (a:Int) n=((a >>> n:Nat):Int):=by
 unfold shrI;rw [Nat.min_eq_left h,Nat.shiftRight_eq_div_pow]
 have h2:(2 ^ n:Int)=((2 ^ n:Nat):Int):=by norm_cast
 rw [h2,Int.fdiv_eq_ediv_of_nonneg _ (Int.natCast_nonneg _)]
 norm_cast
theorem shlI_nat (a n:Nat) (h:n<=64) (hb:a * 2 ^ n<9223372036854775808):shlI (a:Int) n=((a <<< n:Nat):Int):=by
 unfold shlI;rw [Nat.min_eq_left h,Nat.shiftLeft_eq,← wI_nat hb]
 norm_cast
theorem xorI_nat (a b:Nat) (ha:a<9223372036854775808) (hb:b<9223372036854775808):xorI (a:Int) (b:Int)=((a^^^b:Nat):Int):=by
 unfold xorI
 have h:(BitVec.ofInt 64 (a:Int)^^^BitVec.ofInt 64 (b:Int)).toNat=a^^^b:=by
  rw [BitVec.toNat_xor,BitVec.ofInt_natCast,BitVec.ofInt_natCast,BitVec.toNat_ofNat,BitVec.toNat_ofNat,Nat.mod_eq_of_lt (by omega),Nat.mod_eq_of_lt (by omega)]
 rw [h]
 exact wI_nat (Nat.xor_lt_two_pow (n:=63) ha hb)
end Gk

/- The field of 256 numbers, in plain Lean: what the program's and the document's product come to. No condition. -/
namespace Gf
theorem bit_shr (b:UInt8):(bit (Gk.shr8 b 1) 0=bit b 1/\bit (Gk.shr8 b 1) 1=bit b 2/\bit (Gk.shr8 b 1) 2=bit b 3/\bit (Gk.shr8 b 1) 3=bit b 4) ∧
  bit (Gk.shr8 b 1) 4=bit b 5/\bit (Gk.shr8 b 1) 5=bit b 6/\bit (Gk.shr8 b 1) 6=bit b 7/\bit (Gk.shr8 b 1) 7=false:=by
 revert b;refine all8 ?_;decide +kernel
theorem bit_and (b:UInt8):(b &&& 1=1) ↔ bit b 0=true:=by
 revert b;refine all8 ?_;decide +kernel
theorem mul_step (a b:UInt8):mul a b=sel (bit b 0) a^^^mul (dbl a) (Gk.shr8 b 1):=by
 obtain ⟨⟨h0,h1,h2,h3⟩,h4,h5,h6,h7⟩:=bit_shr b
 unfold mul
 rw [h0,h1,h2,h3,h4,h5,h6,h7]
 simp [dblN,sel,UInt8.xor_assoc]
def cl (a b:Nat):Nat->Nat
 | 0=>0
 | k+1=>if b.testBit k then cl a b k^^^(a <<< k) else cl a b k
def rd:Nat->Nat->Nat
 | 0,p=>p
 | j+1,p=>rd j (if p.testBit (8+j) then p^^^(283 <<< j) else p)
def rds (p:Nat):Nat->Nat
 | 0=>p
 | i+1=>if (rds p i).testBit (14 - i) then rds p i^^^(283 <<< (6 - i)) else rds p i
theorem rd_xor (j:Nat):∀ p q,rd j (p^^^q)=rd j p^^^rd j q:=by
 induction j with
 | zero=>intro p q;rfl
 | succ j ih =>
  intro p q
  have h:(if (p^^^q).testBit (8+j) then (p^^^q)^^^(283 <<< j) else p^^^q) =
    (if p.testBit (8+j) then p^^^(283 <<< j) else p)^^^(if q.testBit (8+j) then q^^^(283 <<< j) else q):=by
   rw [Nat.testBit_xor]
   generalize 283 <<< j=c
   cases p.testBit (8+j) <;> cases q.testBit (8+j) <;> simp
   ·exact Nat.xor_assoc p q c
   ·rw [Nat.xor_assoc,Nat.xor_comm q c,Nat.xor_assoc]
   ·rw [Nat.xor_assoc p c,← Nat.xor_assoc c q c,Nat.xor_comm c q,Nat.xor_assoc q c c,Nat.xor_self,Nat.xor_zero]
  simp only [rd,h,ih]
theorem rd_sel (c:Bool) (x a:Nat) (k:Nat):rd 7 (if c then x^^^(a <<< k) else x)=rd 7 x^^^(if c then rd 7 (a <<< k) else 0):=by
 cases c
 ·simp
 ·simp [rd_xor]
theorem rd_dbl (a:UInt8):(List.range 8).all (fun k=>rd 7 (a.toNat <<< k) == (dblN k a).toNat)=true:=by
 revert a;refine all8 ?_;decide +kernel
theorem rd_dbl' (a:UInt8) (k:Nat) (h:k<8):rd 7 (a.toNat <<< k)=(dblN k a).toNat:=by
 have:=List.all_eq_true.1 (rd_dbl a) k (List.mem_range.2 h)
 simpa using this
theorem rd0:rd 7 0=0:=by decide
theorem sel_nat (c:Bool) (a:UInt8):(sel c a).toNat=if c then a.toNat else 0:=by cases c <;> simp [sel]
theorem ref_eq (a b:UInt8):rd 7 (cl a.toNat b.toNat 8)=(mul a b).toNat:=by
 simp only [cl,rd_sel,rd0,mul,UInt8.toNat_xor,sel_nat,bit]
 rw [rd_dbl' a 0 (by decide),rd_dbl' a 1 (by decide),rd_dbl' a 2 (by decide),rd_dbl' a 3 (by decide),rd_dbl' a 4 (by decide),rd_dbl' a 5 (by decide),rd_dbl' a 6 (by decide),rd_dbl' a 7 (by decide)]
 simp only [Nat.zero_xor]
theorem cl_lt (a b:Nat) (ha:a<256):∀ k,k<=8->cl a b k<32768:=by
  intro k
  induction k with
  | zero=>intro _;simp [cl]
  | succ k ih =>
    intro hk
    have h1:=ih (by omega)
    have h2:a <<< k<32768:=by
      rw [Nat.shiftLeft_eq]
      have:2 ^ k<=2 ^ 7:=Nat.pow_le_pow_right (by decide) (by omega)
      calc a * 2 ^ k<=a * 2 ^ 7:=Nat.mul_le_mul_left _ this
        _<32768:=by omega
    simp only [cl]
    split
    · exact Nat.xor_lt_two_pow (n:=15) h1 h2
    · exact h1
end Gf
namespace Gk
open Gf
theorem double_eq (a:UInt8):zd0 a=some (dbl a):=by
 revert a
 refine all8 ?_
 unfold zd0
 decide +kernel
theorem ofInt_nat (a:UInt8):UInt8.ofInt (a.toNat:Int)=a:=by
 revert a;refine all8 ?_;decide +kernel
theorem Slow_loop (a b o:UInt8):iterC (fun s1:UInt8×UInt8×UInt8 =>
  (if s1.2.1=(0:UInt8) then some (.inr s1.2.2) else
  (if (s1.2.1 &&& (1:UInt8))=(1:UInt8) then ((zd0 s1.1).bind fun r5=>some (.inl (r5,(shr8 s1.2.1 1),(s1.2.2^^^s1.1))))
  else ((zd0 s1.1).bind fun r7=>some (.inl (r7,(shr8 s1.2.1 1),s1.2.2)))))) (a,b,o)=some (o^^^mul a b):=by
 simp only [double_eq,Option.bind_some]
 generalize hk:b.toNat=k
 induction k using Nat.strongRecOn generalizing a b o with
 | ind k ih =>
  rw [zbq]
  by_cases h:b=0
  ·subst h;simp [mul_zero]
  ·have hlt:(shr8 b 1).toNat<k:=by
    have:b.toNat≠0:=fun e=>h (UInt8.toNat_inj.1 (by simpa using e))
    have:=b.toNat_lt
    simp [shr8];omega
   simp only [if_neg h]
   by_cases h1:b &&& 1=1
   ·simp only [if_pos h1,Option.bind_some]
    rw [ih _ hlt _ _ _ rfl,mul_step a b,(bit_and b).1 h1]
    simp [sel,UInt8.xor_assoc]
   ·simp only [if_neg h1,Option.bind_some]
    have h0:bit b 0=false:=by cases hb:bit b 0 with | false=>rfl | true=>exact absurd ((bit_and b).2 hb) h1
    rw [ih _ hlt _ _ _ rfl,mul_step a b,h0]
    simp [sel]
theorem Slow_eq (a b:UInt8):field_Slow a b=some (mul a b):=by
 unfold field_Slow
 rw [Slow_loop];simp
theorem shr_bit (b:UInt8):(List.range 8).all (fun k=>decide ((shr8 b k % 2=1) ↔ b.toNat.testBit k=true))=true:=by
 revert b;refine all8 ?_;decide +kernel
theorem shr_bit' (b:UInt8) (k:Nat) (h:k<8):(shr8 b k % 2=1) ↔ b.toNat.testBit k=true:=by
 have:=List.all_eq_true.1 (shr_bit b) k (List.mem_range.2 h)
 exact of_decide_eq_true this
theorem zgy (a b : UInt8) : zc2 a b = some (mul a b) := by
 unfold zc2
 have ha := a.toNat_lt
 refine zay (zal (fun k => (((cl a.toNat b.toNat k : Nat) : Int), (k : Int))) 8 ((cl a.toNat b.toNat 8 : Nat) : Int) rfl ?_ ?_) ?_
 rotate_left 2
 ·have hl := cl_lt a.toNat b.toNat ha 8 (Nat.le_refl _)
  have hr := ref_eq a b
  generalize cl a.toNat b.toNat 8 = p at hl hr ⊢
  -- seven steps
  have hP : ∀ i, rds p (i + 1) = if (rds p i).testBit (14 - i) then rds p i ^^^ (283 <<< (6 - i)) else rds p i := fun i => rfl
  have hlt : ∀ i, rds p i < 32768 := by
   intro i
   induction i with
   | zero => exact hl
   | succ i ih =>
    rw [hP]; split
    ·refine Nat.xor_lt_two_pow (n := 15) ih ?_
     have : 2 ^ (6 - i) <= 2 ^ 6 := Nat.pow_le_pow_right (by decide) (by omega)
     rw [Nat.shiftLeft_eq]; omega
    ·exact ih
  have h7 : rds p 7 = rd 7 p := rfl
  refine zay (zal (fun i => (((rds p i : Nat) : Int), 14 - (i : Int))) 7 ((rds p 7 : Nat) : Int) (by simp [rds]) ?_ ?_) ?_
  rotate_left 2
  ·simp only [h7, hr]
   rw [ofInt_nat]
  ·intro i hi
   have e1 : (14 - (i : Int)) = ((14 - i : Nat) : Int) := by omega
   have e2 : wI (14 - (i : Int) - 8) = ((6 - i : Nat) : Int) := by rw [wI_of (by omega) (by omega)]; omega
   have e3 : wI (14 - (i : Int) - 1) = 14 - ((i + 1 : Nat) : Int) := by rw [wI_of (by omega) (by omega)]; omega
   simp only [e2, e3]
   rw [if_pos (by omega), e1, zex]
   simp only [Option.bind_some, zex]
   rw [shrI_nat _ _ (by omega)]
   have e4 := zch (rds p i >>> (14 - i)) 2 (by decide)
   have e5 : ((2 : Nat) : Int) = 2 := rfl
   rw [e5] at e4
   rw [e4, hP]
   have e6 : (rds p i).testBit (14 - i) = decide (rds p i >>> (14 - i) % 2 = 1) := by rw [Nat.testBit_eq_decide_div_mod_eq, Nat.shiftRight_eq_div_pow]
   simp only [Option.bind_some, e6]
   by_cases hc : rds p i >>> (14 - i) % 2 = 1
   ·rw [if_pos (by omega), if_pos (decide_eq_true hc)]
    have h2 : 2 ^ (6 - i) <= 2 ^ 6 := Nat.pow_le_pow_right (by decide) (by omega)
    have e7 := shlI_nat 283 (6 - i) (by omega) (by omega)
    have e8 : ((283 : Nat) : Int) = 283 := rfl
    rw [e8] at e7
    rw [e7, xorI_nat _ _ (by have := hlt i; omega) (by rw [Nat.shiftLeft_eq]; omega)]
   ·rw [if_neg (by omega), if_neg (fun e => hc (of_decide_eq_true e))]
  ·rw [if_neg (by omega)]
 ·intro i hi
  rw [if_pos (by omega)]
  simp only [zex, Option.bind_some, cl]
  have e3 : wI ((i : Int) + 1) = ((i + 1 : Nat) : Int) := by rw [wI_of (by omega) (by omega)]; omega
  have h2 : 2 ^ i <= 2 ^ 7 := Nat.pow_le_pow_right (by decide) (by omega)
  have h3 : a.toNat * 2 ^ i <= a.toNat * 2 ^ 7 := Nat.mul_le_mul_left _ h2
  rw [e3]
  by_cases hc : b.toNat.testBit i = true
  ·rw [if_pos ((shr_bit' b i hi).2 hc), if_pos hc, shlI_nat _ _ (by omega) (by omega), xorI_nat _ _ (by have := cl_lt a.toNat b.toNat ha i (by omega); omega) (by rw [Nat.shiftLeft_eq]; omega)]
  ·rw [if_neg (fun e => hc ((shr_bit' b i hi).1 e)), if_neg hc]
 ·rw [if_neg (by omega)]
end Gk

/- Blocks of cells that something points to: a box, its cells read and written. No condition. -/
namespace Gk
open Go
theorem Blk.cell {w:World} {g:Nat} {T:TypeId} {cs:Array Value} (h:Blk w g T cs) (m:Nat):w.cell? ⟨g,m,none⟩=cs[m]?:=cell_of_row w g m _ _ _ h
theorem Blk.set {w:World} {g:Nat} {T:TypeId} {cs:Array Value} (h:Blk w g T cs) (m:Nat) (u:Value) :
  Blk (w.setCell ⟨g,m,none⟩ u) g T (cs.setIfInBounds m u)/\w.grownBy (w.setCell ⟨g,m,none⟩ u) (some g) :=
 ⟨heap_setCell_same w g m cs T u h,⟨rfl,rfl,rfl,by simp,fun k _ hk=>heap_setCell_other w ⟨g,m,none⟩ k u (fun e=>hk (by simp [e]))⟩⟩
theorem Ext.grownB {w0 w w':World} {g:Nat} (h:Ext w0 w) (hg:w.grownBy w' (some g)) (hn:w0.heap.size<=g):Ext w0 w' :=
 ⟨hg.os.trans h.os,hg.output.trans h.output,Nat.le_trans h.size hg.size,fun k hk =>
  (hg.block k (Nat.lt_of_lt_of_le hk h.size) (fun e=>by have:=Option.some.inj e;omega)).trans (h.blk k hk)⟩
section
variable {P : Program} {o : Oper} {f : Nat → Value} {w : World} {x y : Operand} {t e T : TypeId} {g m : Nat} {cs : Array Value} {u v : Value}
theorem stp_box (ho:o.op=.box t x) (hx:ev f x=v) {K:Value->World->Prop}
  (hk:∀ w',Blk w' w.heap.size t v.cells->w.grownBy w' none->K (.pointer (some ⟨w.heap.size,0,none⟩)) w'):Stp P o f w K:=by
 refine zc5 (w':=w.alloc (.cells v.cells t)) (v:=.pointer (some ⟨w.heap.size,0,none⟩)) ?_ (hk _ (alloc_new w _) (World.grownBy_alloc w _ none))
 simp [execOp,ho,hx,Instr.box,newVar,newRow,newObj,Sem.run]
theorem zdg (ho:o.op=.store e x y) (hs:∀ w,(Go.sizeOf e).run P w=.ok 1 w) (hx:ev f x=.pointer (some ⟨g,m,none⟩)) (hy:ev f y=u) (h:Blk w g T cs) (hm:m<cs.size) (hc:u.oneCell'=true)
  {K:Value->World->Prop} (hk:∀ w',Blk w' g T (cs.setIfInBounds m u)->w.grownBy w' (some g)->K undef w'):Stp P o f w K:=by
 obtain ⟨h1,h2⟩:=h.set m u
 refine zh6 (w':=w.setCell ⟨g,m,none⟩ u) ?_ (hk _ h1 h2)
 have hcs:u.cells=#[u]:=by cases u <;> simp_all [Value.cells,Value.oneCell']
 have hcl:w.cell? ⟨g,m,none⟩=some cs[m]:=by rw [h.cell m];simp [hm]
 have hfr:w.frozen? ⟨g,m,none⟩=false:=frozen_of_row w g m cs T h
 simp only [execOp,ho,hx,hy,Instr.storeAt,Instr.sureAddr,storeVar,hcs,zcg,Sem.run_bind,Sem.run_pure,Result.andThen_ok,hs]
 simp [storeCells,zcg,store,Addr.add]
 cases u <;> simp_all [Sem.run,Value.oneCell']
theorem zan (ho:o.op=.load e x) (ha:∀ w,(isAgg e).run P w=.ok false w) (hx:ev f x=.pointer (some ⟨g,m,none⟩)) (h:Blk w g T cs) (hc:cs[m]?=some u):Qt P o f w u:=by
 intro w' hE
 have hcell:w'.cell? ⟨g,m,none⟩=some u:=by rw [(h.ext hE).cell m,hc]
 simp [execOp,ho,hx,Instr.loadAt,Instr.sureAddr,loadVar,ha,zcg,load,Sem.run,hcell]
theorem zbl (ho:o.op=.nilCheck x) (hx:ev f x=.pointer (some ⟨g,m,none⟩)):Qa P o f (.pointer (some ⟨g,m,none⟩)):=by
 intro w';simp [execOp,ho,hx]
theorem q_fldP {i k:Nat} (ho:o.op=.fieldAddr T x i) (hp:∀ a w,(Instr.fieldAt T (.pointer (some a)) i).run P w=.ok (.pointer (some (a.add k))) w) (hx:ev f x=.pointer (some ⟨g,m,none⟩)):Qa P o f (.pointer (some ⟨g,m+k,none⟩)):=by
 intro w';simp [execOp,ho,hx,hp,Addr.add]
theorem q_ixP {kk:IntKind} {i:Nat} {n:Nat} (ho:o.op=.indexAddr t x y) (ht:P.underlying t=some (.array n e)) (hs:∀ w,(Go.sizeOf e).run P w=.ok 1 w) (hx:ev f x=.pointer (some ⟨g,m,none⟩)) (hy:ev f y=.int kk (i:Int)) (hi:i<n) :
  Qa P o f (.pointer (some ⟨g,m+i,none⟩)):=by
 intro w'
 have h3:(i:Int)<(n:Int):=by omega
 simp [execOp,ho,hx,hy,Instr.indexAt,asIntOf,run_underlying ht,Instr.sureAddr,h3,hs,zcg,Addr.add,hi]
end
end Gk

/- The field is made: its tables are those of Gf. No condition. -/
namespace Gk
open Go Go.Proofs
def zF:Array Value:=zbz (List.replicate 510 0) (List.replicate 256 0)
theorem zeroF:(Tryz.prog.info? 56).map (fun i=>i.zero)=some (some (.agg zF)):=by kernel_rfl
theorem build0 (w:World):(Instr.build 56 #[]).run Tryz.prog w=.ok (.agg zF) w:=by
 have h:=zeroF
 cases hi:Tryz.prog.info? 56 with
 | none=>rw [hi] at h;cases h
 | some i =>
  rw [hi] at h
  have hz:i.zero=some (.agg zF):=by simpa using h
  have hzr:(zeroValue 56).run Tryz.prog w=.ok (.agg zF) w:=by
   simp [zeroValue,typeInfo,hi,hz]
  simp [Instr.build,hzr,Value.cells,Instr.fill]
theorem fc_pw (pw:List UInt8) (lg:List Int) (k:Nat) (c:UInt8) (h:k<pw.length):(zbz pw lg).setIfInBounds k (u8 c)=zbz (pw.set k c) lg:=by
 simp [zbz,List.set_append,h,List.map_set]
theorem fc_lg (pw:List UInt8) (lg:List Int) (k:Nat) (c:Int):(zbz pw lg).setIfInBounds (pw.length+k) (i64 c)=zbz pw (lg.set k c):=by
 simp [zbz,List.set_append,List.map_set]
theorem fc_size (pw:List UInt8) (lg:List Int):(zbz pw lg).size=pw.length+lg.length:=by simp [zbz]
def newB (n:Nat):Option (Nat⊕Unit):=if n<255 then some (.inl (n+1)) else some (.inr ())
theorem newB_some:iterC newB 0=some ():=zal (fun n=>n) 255 () rfl (fun i hi=>by simp [newB,hi]) (by simp [newB])
def field_New:Option Bool:=some true
theorem zh5 (j:Bool) (w0:World) (r:List Value) (K:Old w0 r) (C:field_New=some j) :
  Calls Tryz.prog 8 [].toArray w0 (fun a z=>∃ y:Value,a=.returned y/\Ext w0 z/\Fd z r y j):=by
 have J:Ext w0 w0:=Ext.refl w0;obtain rfl:=osi C;refine zai (n:=32) Tryz.func8 V V V<|W_sr<|av (.pointer none) V V<|wnt<|W_sr<|wa V (v:=.agg zF) (fun c=>by simp [execOp,build0])<|wls V V (stp_box (v:=.agg zF) V V ?_);intro P w L;have D:=J.trans (zaa L)
 generalize hgg:w0.heap.size=g at w
 have k:w0.heap.size<=g:=Nat.le_of_eq hgg;refine av (.pointer (some ⟨g,0,none⟩)) V V<|wnt<|W_sr<|av (u8 1) V (cst8 1 V)<|wnt<|W_seq<|W_seq<|W_rg<|mv (i64 0) V V<|wnt<|W_mid (fun d c=>d 32=undef/\d 1=.pointer (some ⟨g,0,none⟩)/\Ext w0 c/\Blk c g 56 (zbz Gf.pwT Gf.lgT)) ?_ ?_
 ·refine zac<|zau (fun (n:Nat) d c=>d 32=undef/\n<=255/\d 6=i64 (n:Int)/\d 1=.pointer (some ⟨g,0,none⟩)/\d 2=u8 (Gf.pw n)/\Ext w0 c/\Blk c g 56 (zbz (Gf.tabN n).1 (Gf.tabN n).2.1)) newB_some ?_ ?_
  ·exact ⟨rfl,by decide,rfl,rfl,rfl,D,w⟩
  rintro n j _ c ⟨l,hn,q,e,m,a,f⟩ x O;have b:=Gf.tab_len n;refine W_sr<|wa V (q_ltI V q V)<|wnt<|W_seq<|zam _ V V (fun o=>?_) (fun o=>?_)
  ·have N:n<255:=by have:=of_decide_eq_true o;omega
   have p:some (Sum.inl (n+1))=some j:=by rw [← x,newB,if_pos N]
   obtain rfl:=osi p;refine zae<|W_th<|W_seq<|zac<|W_sr<|mv (i64 (n:Int)) V q<|av (i64 (n:Int)) V V<|wnt<|W_seq<|zba [] [(0,0),(1,0),(2,0),(3,0),(4,0),(5,0),(6,0),(7,0),(8,0),(9,0),(11,0),(12,0),(10,2),(13,0),(14,2)] mixed (by kernel_rfl) (by kernel_rfl) (by kernel_rfl) (by kernel_rfl) ?_;have A:=Ext.drew c;replace a:=a.trans A;replace f:=f.ext A
   have E:wI ((n:Int)+255)=((n+255:Nat):Int):=by rw [wI_of (by omega) (by omega)];omega
   refine sv (.pointer (some ⟨g,0,none⟩)) V V e<|sv (i64 (n:Int)) V V V<|sv (.pointer (some ⟨g,0,none⟩)) V V e<|sv (i64 (n:Int)) V V V<|sa V V (zak V V V)<|?_;rw [E];refine sv (u8 (Gf.pw n)) V V m<|sv (u8 (Gf.pw n)) V V m<|sa V V (zbl V V)<|sa V V (q_fldP V fieldAt0 V)<|sa V V (q_ixP (i:=n) V Tryz.underlying53 Tryz.sizeOf5 V V (by omega))<|sa V V (zbl V V)<|sa V V (q_fldP V fieldAt0 V)<|?_;refine wsn V (by kernel_rfl) V V (zdg (u:=u8 (Gf.pw n)) V Tryz.sizeOf5 V V f (by rw [fc_size,b.1,b.2];omega) rfl ?_)
   intro Q s G;rw [show 0+0+n=n by omega,fc_pw _ _ _ _ (by rw [b.1];omega)] at s
   replace a:=a.grownB G k;refine sa V V (q_ixP (i:=n+255) V Tryz.underlying53 Tryz.sizeOf5 V V (by omega)) ?_;refine wsn V (by kernel_rfl) V V (zdg (u:=u8 (Gf.pw n)) V Tryz.sizeOf5 V V s (by rw [fc_size,List.length_set,b.1,b.2];omega) rfl ?_)
   intro R t H;rw [show 0+0+(n+255)=n+255 by omega,fc_pw _ _ _ _ (by rw [List.length_set,b.1];omega)] at t
   replace a:=a.grownB H k;refine za1<|W_th<|W_sr<|mv (.pointer (some ⟨g,0,none⟩)) V e<|mv (u8 (Gf.pw n)) V m<|mv (i64 (n:Int)) V V<|wa V (zbl V V)<|wa V (q_fldP V fieldAt1 V)<|wa V (q_ixP (i:=(Gf.pw n).toNat) V Tryz.underlying54 Tryz.sizeOf3 V V (Gf.pw n).toNat_lt)<|wln V V (zdg (u:=i64 (n:Int)) V Tryz.sizeOf3 V V t (by rw [fc_size,List.length_set,List.length_set,b.1,b.2];have:=(Gf.pw n).toNat_lt;omega) rfl ?_)
   intro S h I;rw [show 0+510+(Gf.pw n).toNat=(((Gf.tabN n).1.set n (Gf.pw n)).set (n+255) (Gf.pw n)).length+(Gf.pw n).toNat by rw [List.length_set,List.length_set,b.1],fc_lg] at h;replace a:=a.grownB I k;refine wnt<|W_rg<|mv (u8 (Gf.pw n)) V m<|wls V V (zab (vs:=[u8 (Gf.pw n),u8 3]) Tryz.func23 V V V (ar2 V (cst8 3 V)) (field_Slow_calls (Gf.pw n) 3 _ _ (Slow_eq _ _)) ?_);rintro _ T ⟨rfl,B⟩;refine ⟨_,rfl,?_⟩;replace a:=a.trans B;replace h:=h.ext B;refine av (u8 (Gf.mul (Gf.pw n) 3)) V V<|zag<|bk_n<|W_th<|W_rg<|wa V (zak V q V)<|?_
   have F:wI ((n:Int)+1)=((n+1:Nat):Int):=by rw [wI_of (by omega) (by omega)];omega
   rw [F];refine wla V V (zbd (v:=i64 ((n+1:Nat):Int)) V V)<|zag<|⟨_,rfl,l,by omega,rfl,e,rfl,a,?_⟩;rw [← Gf.tab_pw n] at h;exact h
  have M:n=255:=by have:=of_decide_eq_false o;omega
  subst M
  have p:some (Sum.inr ())=some j:=by rw [← x];rfl
  obtain rfl:=osi p;refine zar<|th_x<|th_x<|bk_x<|?_;exact ⟨l,e,a,f⟩
 rintro _ c ⟨l,e,a,f⟩;refine W_th<|W_sr<|mv (.pointer (some ⟨g,0,none⟩)) V e<|av (.pointer (some ⟨g,0,none⟩)) V V<|wnt<|W_ret<|rt1 (.pointer (some ⟨g,0,none⟩)) V V V l ?_;exact ⟨.pointer (some ⟨g,0,none⟩),rfl,a,.inr ⟨rfl,g,rfl,K g k,f⟩⟩
end Gk

/- What the field's functions come to, in plain Lean. No condition but lengths. -/
namespace Gk
open Gf
theorem zge {α:Type} (l:List α) (n:Nat):idx l (n:Int)=l[n]?:=by simp [idx]
theorem idx_lg (a:UInt8):idx lgT (a.toNat:Int)=some (lg a:Int):=by rw [zge,lgT_get]
theorem idx_pw (n:Nat) (h:n<510):idx pwT (n:Int)=some (pw n):=by rw [zge,pwT_get n h]
theorem Mul_eq (a b:UInt8):zcj true a b=some (mul a b):=by
 unfold zcj
 rw [if_neg (by simp)]
 by_cases ha:a=0
 ·rw [if_pos ha,ha,zero_mul]
 ·by_cases hb:b=0
  ·rw [if_neg ha,if_pos hb,hb,mul_zero]
  ·have h1:=lg_lt a
   have h2:=lg_lt b
   have e:wI ((lg a:Int)+(lg b:Int))=((lg a+lg b:Nat):Int):=by rw [wI_of (by omega) (by omega)];omega
   rw [if_neg ha,if_neg hb]
   simp only [grd,idx_lg,obs,e,idx_pw _ (show lg a+lg b<510 by omega),mul_pw ha hb,if_true]
theorem Inv_eq (a:UInt8):zgo true a=some (if a=0 then (0,7) else (inv a,0)):=by
 unfold zgo
 rw [if_neg (by simp)]
 by_cases ha:a=0
 ·rw [if_pos ha,if_pos ha]
 ·have h1:=lg_lt a
  have e:wI (255 - (lg a:Int))=((255 - lg a:Nat):Int):=by rw [wI_of (by omega) (by omega)];omega
  rw [if_neg ha,if_neg ha]
  simp only [grd,idx_lg,obs,e,idx_pw _ (show 255 - lg a<510 by omega),if_true,inv,if_neg ha]
theorem Div_eq (a b:UInt8):zf1 true a b=some (if b=0 then (0,7) else (mul a (inv b),0)):=by
 unfold zf1
 simp only [Inv_eq,obs,Mul_eq]
 by_cases hb:b=0
 ·simp [hb]
 ·simp [hb]
end Gk

/- Rows of bytes, sums of rows, the document's inverses and powers, in plain Lean. No condition. -/
namespace Gk
open Gf
theorem zbj {α:Type} (n:Nat) (z:α) (h:n<=most):makeL (n:Int) z=some (List.replicate n z):=by
 unfold makeL;rw [if_pos ⟨by omega,by omega⟩];simp
theorem copyL_all {α:Type} (z:α) (a:List α):copyL (List.replicate a.length z) 0 a=a:=by
 unfold copyL;simp
def sumL (a:List UInt8) (c:UInt8) (b:List UInt8):List UInt8:=a.mapIdx fun j x=>x^^^mul c (b.getD j 0)
def sumTo (a:List UInt8) (c:UInt8) (b:List UInt8) (i:Nat):List UInt8:=a.mapIdx fun j x=>if j<i then x^^^mul c (b.getD j 0) else x
theorem sumL_len (a:List UInt8) (c:UInt8) (b:List UInt8):(sumL a c b).length=a.length:=by simp [sumL]
theorem sumTo_set (a:List UInt8) (c:UInt8) (b:List UInt8) (i:Nat) (x:UInt8) (h:a[i]?=some x) (y:UInt8) (hb:b[i]?=some y):(sumTo a c b i).set i (x^^^mul c y)=sumTo a c b (i+1):=by
 apply List.ext_getElem?
 intro j
 simp only [sumTo,List.getElem?_set,List.getElem?_mapIdx,List.length_mapIdx]
 have hi:=(List.getElem?_eq_some_iff.1 h).1
 by_cases hj:i=j
 ·subst hj
  simp [hi,List.getD,hb]
  rw [(List.getElem?_eq_some_iff.1 h).2]
 ·rw [if_neg hj]
  have:j<i+1 ↔ j<i:=by omega
  simp [this]
theorem sumTo_get (a:List UInt8) (c:UInt8) (b:List UInt8) (i:Nat) (x:UInt8) (h:a[i]?=some x):(sumTo a c b i)[i]?=some x:=by
 simp [sumTo,List.getElem?_mapIdx,h]
theorem sumTo_end (a:List UInt8) (c:UInt8) (b:List UInt8) (i:Nat) (h:b.length<=i∨a.length<=i):sumTo a c b i=sumL a c b:=by
 apply List.ext_getElem?
 intro j
 simp only [sumTo,sumL,List.getElem?_mapIdx]
 by_cases hj:j<i
 ·simp [hj]
 ·rcases h with h | h
  ·have:b.getD j 0=0:=by simp [List.getD,List.getElem?_eq_none (show b.length<=j by omega)]
   simp only [hj,this,mul_zero,xor_zero,if_false]
  ·simp [List.getElem?_eq_none (show a.length<=j by omega)]
theorem minI (a b:Nat):(if (b:Int)<(a:Int) then (b:Int) else (a:Int))=((min a b:Nat):Int):=by split <;> omega
theorem zas (i:Nat) (h:i<9223372036854775807):wI ((i:Int)+1)=((i+1:Nat):Int):=by rw [wI_of (by omega) (by omega)];omega
theorem most_lt:most<9223372036854775807:=by decide
theorem Sum_eq (a:List UInt8) (c:UInt8) (b:List UInt8) (h:a.length<=most):zdl true a c b=some (sumL a c b):=by
 unfold zdl
 rw [if_neg (by simp),zbj _ _ h]
 simp only [obs,minI,copyL_all]
 have hm:=most_lt
 refine zay (x:=sumL a c b) (zal (fun i=>(sumTo a c b i,(i:Int))) (min a.length b.length) (sumL a c b) ?_ ?_ ?_) rfl
 ·refine Prod.ext ?_ rfl
  apply List.ext_getElem?
  intro j
  simp [sumTo,List.getElem?_mapIdx]
 ·intro i hi
  have h1:i<a.length:=by omega
  have h2:i<b.length:=by omega
  have e1:a[i]?=some a[i]:=by simp [h1]
  have e2:b[i]?=some b[i]:=by simp [h2]
  rw [if_pos (by omega)]
  simp only [zge,sumTo_get a c b i _ e1,e2,obs,Mul_eq,zas i (by omega),Int.toNat_natCast]
  rw [sumTo_set a c b i _ e1 _ e2]
 ·rw [if_neg (by omega)]
  simp only [sumTo_end a c b _ (show b.length<=min a.length b.length∨a.length<=min a.length b.length by omega)]
theorem Add_eq (a b:UInt8):zct a b=some (a^^^b):=rfl
theorem refInv_eq (a:UInt8):zja a=some (inv a):=by
 unfold zja
 simp only [zgy,obs]
 have e:∀ k:Nat,k<256->UInt8.ofInt (k:Int)=UInt8.ofNat k:=by
  intro k hk
  have:(UInt8.ofNat k).toNat=k:=by simp;omega
  rw [← this,ofInt_nat,this]
 by_cases ha:a=0
 ·refine zay (x:=(Sum.inl ():Unit⊕UInt8)) (zal (fun i=>(1+(i:Int))) 255 (Sum.inl ()) (by simp) ?_ ?_) ?_
  ·intro i hi
   rw [if_pos (by omega)]
   rw [ha]
   simp only [zero_mul]
   rw [if_neg (by decide)]
   have:wI (1+(i:Int)+1)=1+((i+1:Nat):Int):=by rw [wI_of (by omega) (by omega)];omega
   rw [this]
  ·rw [if_neg (by omega)]
  ·simp [ha,inv_zero]
 ·have hn:=inv_ne ha
  have hlt:=(inv a).toNat_lt
  have hpos:0<(inv a).toNat:=Nat.pos_of_ne_zero (fun e=>hn (UInt8.toNat_inj.1 (by simpa using e)))
  refine zay (x:=(Sum.inr (inv a):Unit⊕UInt8)) (zal (fun i=>(1+(i:Int))) ((inv a).toNat - 1) (Sum.inr (inv a)) (by simp) ?_ ?_) rfl
  ·intro i hi
   rw [if_pos (by omega)]
   have e1:(1+(i:Int))=((i+1:Nat):Int):=by omega
   have hne:mul a (UInt8.ofInt (1+(i:Int)))≠1:=by
    intro h
    have h2:=inv_uniq h
    rw [e1,e _ (by omega)] at h2
    have h3:=congrArg UInt8.toNat h2
    simp at h3
    omega
   rw [if_neg hne]
   have:wI (1+(i:Int)+1)=1+((i+1:Nat):Int):=by rw [wI_of (by omega) (by omega)];omega
   rw [this]
  ·rw [if_pos (by omega)]
   have e1:(1+(((inv a).toNat - 1:Nat):Int))=((inv a).toNat:Int):=by omega
   rw [e1,ofInt_nat,mul_inv ha,if_pos rfl]
theorem zfv {α:Type} (a:List α) (h:a.length<=most):appL [] a=some a:=by
 unfold appL;rw [if_pos (by simpa using h)];simp
end Gk

/- Polynomials over GF(256), as lists of numbers, the lowest first. Plain. No condition. -/
namespace Gf
def co (p:List UInt8) (i:Nat):UInt8:=p.getD i 0
theorem zda (i:Nat):co [] i=0:=by simp [co]
theorem zde (c:UInt8) (p:List UInt8):co (c :: p) 0=c:=rfl
theorem zcl (c:UInt8) (p:List UInt8) (i:Nat):co (c :: p) (i+1)=co p i:=by simp [co]
theorem co_ge {p:List UInt8} {i:Nat} (h:p.length<=i):co p i=0:=by simp [co,List.getD_eq_getElem?_getD,List.getElem?_eq_none h]
theorem co_lt {p:List UInt8} {i:Nat} (h:i<p.length):co p i=p[i]:=by simp [co,List.getD_eq_getElem?_getD,h]
theorem co_get {p:List UInt8} {i:Nat} (h:i<p.length):p[i]?=some (co p i):=by rw [co_lt h];simp [h]
theorem co_rep (n i:Nat):co (List.replicate n 0) i=0:=by
 simp only [co,List.getD_eq_getElem?_getD,List.getElem?_replicate];split <;> rfl
theorem co_map (c:UInt8) (p:List UInt8) (i:Nat):co (p.map (mul c)) i=mul c (co p i):=by
 simp only [co,List.getD_eq_getElem?_getD,List.getElem?_map]
 cases p[i]? <;> simp [mul_zero]
theorem co_set {p:List UInt8} {j:Nat} (h:j<p.length) (c:UInt8) (i:Nat):co (p.set j c) i=if i=j then c else co p i:=by
 simp only [co,List.getD_eq_getElem?_getD,List.getElem?_set]
 by_cases hij:j=i
 ·subst hij;simp [h]
 ·simp [hij,Ne.symm hij]
def Sim (p q:List UInt8):Prop:=∀ i,co p i=co q i
theorem Sim.refl (p:List UInt8):Sim p p:=fun _=>rfl
theorem Sim.symm {p q:List UInt8} (h:Sim p q):Sim q p:=fun i=>(h i).symm
theorem Sim.trans {p q r:List UInt8} (h:Sim p q) (k:Sim q r):Sim p r:=fun i=>(h i).trans (k i)
def trim:List UInt8->List UInt8
 | []=>[]
 | c :: p=>if trim p=[]/\c=0 then [] else c :: trim p
theorem zke:∀ (p:List UInt8) (i:Nat),co (trim p) i=co p i
 | [],i=>rfl
 | c :: p,i=>by
  unfold trim
  split
  ·rename_i h
   rw [zda]
   cases i with
   | zero=>rw [zde,h.2]
   | succ i=>rw [zcl,← zke p i,h.1,zda]
  ·cases i with
   | zero=>rfl
   | succ i=>rw [zcl,zcl,zke p i]
theorem zeg (p:List UInt8):Sim (trim p) p:=zke p
theorem trim_zero:∀ (p:List UInt8),(∀ i,co p i=0)->trim p=[]
 | [],_=>rfl
 | c :: p,h=>by
  unfold trim
  rw [if_pos ⟨trim_zero p (fun i=>by rw [← zcl c p i];exact h (i+1)),by rw [← zde c p];exact h 0⟩]
theorem zj3:∀ (p q:List UInt8),Sim p q->trim p=trim q
 | [],q,h=>(trim_zero q (fun i=>by rw [← h i,zda])).symm
 | c :: p,[],h=>trim_zero (c :: p) (fun i=>by rw [h i,zda])
 | c :: p,d :: q,h=>by
  have h0:c=d:=by have:=h 0;rwa [zde,zde] at this
  have h1:trim p=trim q:=zj3 p q (fun i=>by have:=h (i+1);rwa [zcl,zcl] at this)
  unfold trim
  rw [h0,h1]
theorem ze3 (p:List UInt8):trim (trim p)=trim p:=zj3 _ _ (zeg p)
theorem trim_le:∀ (p:List UInt8),(trim p).length<=p.length
 | []=>Nat.le_refl _
 | c :: p=>by
  unfold trim
  split
  ·exact Nat.zero_le _
  ·have:=trim_le p;simp only [List.length_cons];omega
theorem zhz:∀ (p:List UInt8),trim p≠[]->co p ((trim p).length - 1)≠0
 | [],h=>absurd rfl h
 | c :: p,h=>by
  unfold trim at h ⊢
  split
  ·rename_i h';rw [if_pos h'] at h;exact absurd rfl h
  ·rename_i h'
   simp only [List.length_cons,Nat.add_sub_cancel]
   cases ht:trim p with
   | nil =>
    rw [List.length_nil,zde]
    exact fun e=>h' ⟨ht,e⟩
   | cons d q =>
    have:=zhz p (by rw [ht];simp)
    rw [ht] at this
    simp only [List.length_cons,Nat.add_sub_cancel] at this ⊢
    rwa [zcl]
theorem trim_nil {p:List UInt8} (h:trim p=[]) (i:Nat):co p i=0:=by rw [← zke,h,zda]
theorem zhj (p:List UInt8) (n:Nat):(trim p).length<=n ↔ ∀ i,n<=i->co p i=0:=by
 constructor
 ·intro h i hi
  rw [← zke];exact co_ge (Nat.le_trans h hi)
 ·intro h
  refine Nat.le_of_not_lt fun hlt=>?_
  have hne:trim p≠[]:=fun e=>by rw [e] at hlt;simp at hlt
  exact zhz p hne (h _ (by omega))
theorem trim_take:∀ (p:List UInt8),trim p=p.take (trim p).length
 | []=>rfl
 | c :: p=>by
  unfold trim
  split
  ·rfl
  ·simp only [List.length_cons,List.take_succ_cons]
   rw [← trim_take p]
theorem trim_id {p:List UInt8} (h:p≠[]->co p (p.length - 1)≠0):trim p=p:=by
 by_cases hp:p=[]
 ·rw [hp];rfl
 ·have h1:p.length<=(trim p).length:=Nat.le_of_not_lt fun hlt=>by
   have hpos:=List.length_pos_iff.2 hp
   exact h hp ((zhj p (p.length - 1)).1 (by omega) _ (Nat.le_refl _))
  rw [trim_take p,List.take_of_length_le h1]
def evp:List UInt8->UInt8->UInt8
 | [],_=>0
 | c :: p,x=>c^^^mul (evp p x) x
theorem ev_zero:∀ (p:List UInt8) (x:UInt8),(∀ i,co p i=0)->evp p x=0
 | [],_,_=>rfl
 | c :: p,x,h=>by
  have h0:c=0:=by rw [← zde c p];exact h 0
  unfold evp
  rw [h0,ev_zero p x (fun i=>by rw [← zcl c p i];exact h (i+1)),zero_mul,zero_xor]
theorem ev_sim:∀ (p q:List UInt8) (x:UInt8),Sim p q->evp p x=evp q x
 | [],q,x,h=>(ev_zero q x (fun i=>by rw [← h i,zda])).symm
 | c :: p,[],x,h=>ev_zero (c :: p) x (fun i=>by rw [h i,zda])
 | c :: p,d :: q,x,h=>by
  have h0:c=d:=by have:=h 0;rwa [zde,zde] at this
  unfold evp
  rw [h0,ev_sim p q x (fun i=>by have:=h (i+1);rwa [zcl,zcl] at this)]
theorem ev_trim (p:List UInt8) (x:UInt8):evp (trim p) x=evp p x:=ev_sim _ _ x (zeg p)
def pplus:List UInt8->List UInt8->List UInt8
 | [],q=>q
 | p,[]=>p
 | a :: p,b :: q=>(a^^^b) :: pplus p q
theorem zbo:∀ (p q:List UInt8) (i:Nat),co (pplus p q) i=co p i^^^co q i
 | [],q,i=>by rw [zda,zero_xor];rfl
 | a :: p,[],i=>by rw [zda,xor_zero];rfl
 | a :: p,b :: q,0=>rfl
 | a :: p,b :: q,i+1=>by
  show co ((a^^^b) :: pplus p q) (i+1)=_
  rw [zcl,zcl,zcl];exact zbo p q i
theorem zgp:∀ (p q:List UInt8),(pplus p q).length=max p.length q.length
 | [],q=>by simp [pplus]
 | a :: p,[]=>by simp [pplus]
 | a :: p,b :: q=>by simp only [pplus,List.length_cons,zgp p q];omega
theorem zfu:∀ (p q:List UInt8) (x:UInt8),evp (pplus p q) x=evp p x^^^evp q x
 | [],q,x=>by show evp q x=0^^^evp q x;rw [zero_xor]
 | a :: p,[],x=>by show evp (a :: p) x=evp (a :: p) x^^^0;rw [xor_zero]
 | a :: p,b :: q,x=>by
  show (a^^^b)^^^mul (evp (pplus p q) x) x=(a^^^mul (evp p x) x)^^^(b^^^mul (evp q x) x)
  rw [zfu p q x,add_mul,zii]
theorem ev_map (c:UInt8):∀ (p:List UInt8) (x:UInt8),evp (p.map (mul c)) x=mul c (evp p x)
 | [],x=>(mul_zero c).symm
 | a :: p,x=>by
  show mul c a^^^mul (evp (p.map (mul c)) x) x=mul c (a^^^mul (evp p x) x)
  rw [ev_map c p x,mul_add,mul_assoc]
def pmul:List UInt8->List UInt8->List UInt8
 | [],_=>[]
 | c :: p,q=>pplus (q.map (mul c)) (0 :: pmul p q)
theorem zbc (c:UInt8) (p q:List UInt8):co (pmul (c :: p) q) 0=mul c (co q 0):=by
 unfold pmul;rw [zbo,co_map,zde,xor_zero]
theorem za8 (c:UInt8) (p q:List UInt8) (i:Nat):co (pmul (c :: p) q) (i+1)=mul c (co q (i+1))^^^co (pmul p q) i:=by
 show co (pplus (q.map (mul c)) (0 :: pmul p q)) (i+1)=_
 rw [zbo,co_map,zcl]
theorem pmul_len:∀ (p q:List UInt8),(pmul p q).length<=p.length+q.length
 | [],q=>by simp [pmul]
 | c :: p,q=>by
  have:=pmul_len p q
  simp only [pmul,zgp,List.length_map,List.length_cons];omega
theorem zga:∀ (p q:List UInt8) (x:UInt8),evp (pmul p q) x=mul (evp p x) (evp q x)
 | [],q,x=>(zero_mul _).symm
 | c :: p,q,x=>by
  show evp (pplus (q.map (mul c)) (0 :: pmul p q)) x=mul (c^^^mul (evp p x) x) (evp q x)
  rw [zfu,ev_map,add_mul]
  show mul c (evp q x)^^^(0^^^mul (evp (pmul p q) x) x)=_
  rw [zero_xor,zga p q x,mul_assoc,mul_assoc,mul_comm (evp q x) x]
theorem co_pmul_snoc:∀ (p:List UInt8) (c:UInt8) (q:List UInt8) (i:Nat),co (pmul (p ++ [c]) q) i=co (pmul p q) i^^^(if i<p.length then 0 else mul c (co q (i - p.length)))
 | [],c,q,i=>by
  cases i with
  | zero=>rw [List.nil_append,zbc];simp [pmul,zda,zero_xor]
  | succ i=>rw [List.nil_append,za8];simp [pmul,zda,zero_xor,xor_zero]
 | a :: p,c,q,i=>by
  cases i with
  | zero=>rw [List.cons_append,zbc,zbc];simp [xor_zero]
  | succ i =>
   rw [List.cons_append,za8,za8,co_pmul_snoc p c q i,xor_assoc]
   simp only [List.length_cons,Nat.add_lt_add_iff_right,Nat.add_sub_add_right]
theorem co_pmul_set:∀ (p:List UInt8) (j:Nat) (c:UInt8) (q:List UInt8) (i:Nat),j<p.length->co p j=0->co (pmul (p.set j c) q) i=co (pmul p q) i^^^(if i<j then 0 else mul c (co q (i - j)))
 | [],j,c,q,i,h,_=>by simp at h
 | a :: p,0,c,q,i,_,h0=>by
  rw [zde] at h0;subst h0
  rw [List.set_cons_zero]
  cases i with
  | zero=>rw [zbc,zbc,zero_mul,zero_xor];simp
  | succ i=>rw [za8,za8,zero_mul,zero_xor,xor_comm];simp
 | a :: p,j+1,c,q,i,h,h0=>by
  rw [zcl] at h0
  rw [List.set_cons_succ]
  cases i with
  | zero=>rw [zbc,zbc];simp [xor_zero]
  | succ i =>
   rw [za8,za8,co_pmul_set p j c q i (by simpa using h) h0,xor_assoc]
   simp only [Nat.add_lt_add_iff_right,Nat.add_sub_add_right]
theorem zjf:∀ (p p' q:List UInt8),Sim p p'->Sim (pmul p q) (pmul p' q)
 | [],[],q,_=>Sim.refl _
 | [],d :: p',q,h=>by
  have h0:d=0:=by have:=h 0;rw [zda,zde] at this;exact this.symm
  have h1:=zjf [] p' q (fun i=>by have:=h (i+1);rwa [zda,zcl] at this)
  intro i
  cases i with
  | zero=>rw [zbc,h0,zero_mul];rfl
  | succ i=>rw [za8,h0,zero_mul,zero_xor,← h1 i];rfl
 | c :: p,[],q,h=>by
  have h0:c=0:=by have:=h 0;rwa [zda,zde] at this
  have h1:=zjf p [] q (fun i=>by have:=h (i+1);rwa [zda,zcl] at this)
  intro i
  cases i with
  | zero=>rw [zbc,h0,zero_mul];rfl
  | succ i=>rw [za8,h0,zero_mul,zero_xor,h1 i];rfl
 | c :: p,d :: p',q,h=>by
  have h0:c=d:=by have:=h 0;rwa [zde,zde] at this
  have h1:=zjf p p' q (fun i=>by have:=h (i+1);rwa [zcl,zcl] at this)
  intro i
  cases i with
  | zero=>rw [zbc,zbc,h0]
  | succ i=>rw [za8,za8,h0,h1 i]
theorem pmul_simR:∀ (p q q':List UInt8),Sim q q'->Sim (pmul p q) (pmul p q')
 | [],q,q',_=>Sim.refl _
 | c :: p,q,q',h=>by
  have h1:=pmul_simR p q q' h
  intro i
  cases i with
  | zero=>rw [zbc,zbc,h 0]
  | succ i=>rw [za8,za8,h (i+1),h1 i]
theorem pmul_sim {p p' q q':List UInt8} (h:Sim p p') (k:Sim q q'):Sim (pmul p q) (pmul p' q'):=(zjf p p' q h).trans (pmul_simR p' q q' k)
theorem pplus_sim {p p' q q':List UInt8} (h:Sim p p') (k:Sim q q'):Sim (pplus p q) (pplus p' q'):=fun i=>by rw [zbo,zbo,h i,k i]
theorem pmul_addL:∀ (p q o:List UInt8),Sim (pmul (pplus p q) o) (pplus (pmul p o) (pmul q o))
 | [],q,o=>by
  intro i;rw [zbo]
  show co (pmul q o) i=co [] i^^^co (pmul q o) i
  rw [zda,zero_xor]
 | a :: p,[],o=>by
  intro i;rw [zbo]
  show co (pmul (a :: p) o) i=co (pmul (a :: p) o) i^^^co [] i
  rw [zda,xor_zero]
 | a :: p,b :: q,o=>by
  have h1:=pmul_addL p q o
  intro i
  rw [zbo]
  show co (pmul ((a^^^b) :: pplus p q) o) i=_
  cases i with
  | zero=>rw [zbc,zbc,zbc,add_mul]
  | succ i=>rw [za8,za8,za8,h1 i,zbo,add_mul,zii]
theorem co_pmul_top:∀ (p q:List UInt8) (m:Nat),p≠[]->(∀ i,m<i->co q i=0)->co (pmul p q) (p.length - 1+m)=mul (co p (p.length - 1)) (co q m)
 | [],q,m,h,_=>absurd rfl h
 | [c],q,m,_,hq=>by
  simp only [List.length_cons,List.length_nil,Nat.zero_add,Nat.sub_self,zde]
  cases m with
  | zero=>rw [zbc]
  | succ m=>rw [za8];simp [pmul,zda,xor_zero]
 | c :: d :: p,q,m,_,hq=>by
  have h1:=co_pmul_top (d :: p) q m (by simp) hq
  simp only [List.length_cons,Nat.add_sub_cancel] at h1 ⊢
  rw [show p.length+1+m=(p.length+m)+1 by omega,za8,hq (p.length+m+1) (by omega),mul_zero,zero_xor,zcl]
  exact h1
theorem zg9 {p q:List UInt8} (hp:trim p=p) (hq:trim q=q) (hp0:p≠[]) (hq0:q≠[]):(trim (pmul p q)).length=p.length+q.length - 1:=by
 have lp:=List.length_pos_iff.2 hp0
 have lq:=List.length_pos_iff.2 hq0
 have t1:co p (p.length - 1)≠0:=by have:=zhz p (by rw [hp];exact hp0);rwa [hp] at this
 have t2:co q (q.length - 1)≠0:=by have:=zhz q (by rw [hq];exact hq0);rwa [hq] at this
 have top:=co_pmul_top p q (q.length - 1) hp0 (fun i hi=>co_ge (by omega))
 have hle:(trim (pmul p q)).length<=p.length+q.length - 1:=by
  refine (zhj _ _).2 fun i hi=>?_
  exact go p q i (by omega)
 refine Nat.le_antisymm hle (Nat.le_of_not_lt fun hlt=>?_)
 have:=(zhj (pmul p q) (p.length+q.length - 2)).1 (by omega) (p.length - 1+(q.length - 1)) (by omega)
 rw [top] at this
 exact mul_ne t1 t2 this
where
 go:∀ (p q:List UInt8) (i:Nat),p.length+q.length<=i+1->co (pmul p q) i=0
 | [],q,i,_=>zda i
 | c :: p,q,i,h=>by
  simp only [List.length_cons] at h
  cases i with
  | zero=>rw [zbc,co_ge (by omega),mul_zero]
  | succ i=>rw [za8,co_ge (by omega),mul_zero,zero_xor];exact go p q i (by omega)
theorem co_pmul_ge {p q:List UInt8} {i:Nat} (h:p.length+q.length<=i+1):co (pmul p q) i=0:=zg9.go p q i h
theorem pmul_nilR (p:List UInt8):Sim (pmul p []) []:=by
 intro i
 induction p generalizing i with
 | nil=>rfl
 | cons c p ih =>
  rw [zda]
  cases i with
  | zero=>rw [zbc,zda,mul_zero]
  | succ i=>rw [za8,zda,mul_zero,zero_xor,ih i,zda]
end Gf

/- Interpolation over GF(256): roots, Lagrange's and Newton's way. Plain. No condition. -/
namespace Gf
def dg (p:List UInt8):Nat:=(trim p).length
theorem dg_le {p:List UInt8} {n:Nat}:dg p<=n ↔ ∀ i,n<=i->co p i=0:=zhj p n
theorem dg_len (p:List UInt8):dg p<=p.length:=trim_le p
theorem dg_sim {p q:List UInt8} (h:Sim p q):dg p=dg q:=congrArg List.length (zj3 _ _ h)
theorem dg_pplus {p q:List UInt8} {n:Nat} (hp:dg p<=n) (hq:dg q<=n):dg (pplus p q)<=n :=
 dg_le.2 fun i hi=>by rw [zbo,dg_le.1 hp i hi,dg_le.1 hq i hi,xor_zero]
theorem dg_map {p:List UInt8} {n:Nat} (c:UInt8) (hp:dg p<=n):dg (p.map (mul c))<=n :=
 dg_le.2 fun i hi=>by rw [co_map,dg_le.1 hp i hi,mul_zero]
theorem ziu {p q:List UInt8} {a b:Nat} (hp:dg p<=a) (hq:dg q<=b):dg (pmul p q)<=a+b - 1 :=
 dg_le.2 fun i hi=>by
  rw [← pmul_sim (zeg p) (zeg q) i]
  exact co_pmul_ge (by unfold dg at hp hq;omega)
theorem dg_lin (a:UInt8):dg [a,1]<=2:=dg_len _
theorem ev_lin (a x:UInt8):evp [a,1] x=x^^^a:=by
 show a^^^mul (1^^^mul 0 x) x=x^^^a
 rw [zero_mul,xor_zero,one_mul,xor_comm]
def syn:List UInt8->UInt8->List UInt8
 | [],_=>[]
 | _ :: p,a=>evp p a :: syn p a
theorem co_syn:∀ (p:List UInt8) (a:UInt8) (i:Nat),co (syn p a) i=evp (p.drop (i+1)) a
 | [],a,i=>by simp [syn,zda,evp]
 | c :: p,a,0=>by simp [syn,zde]
 | c :: p,a,i+1=>by
  show co (evp p a :: syn p a) (i+1)=_
  rw [zcl,co_syn p a i];rfl
theorem ev_drop:∀ (p:List UInt8) (a:UInt8) (i:Nat),evp (p.drop i) a=co p i^^^mul (evp (p.drop (i+1)) a) a
 | [],a,i=>by simp [zda,evp,zero_mul]
 | c :: p,a,0=>by simp [zde,evp]
 | c :: p,a,i+1=>by rw [List.drop_succ_cons,List.drop_succ_cons,zcl];exact ev_drop p a i
theorem ev_syn:∀ (p:List UInt8) (a x:UInt8),evp p x=mul (x^^^a) (evp (syn p a) x)^^^evp p a
 | [],a,x=>by simp [syn,evp,mul_zero]
 | c :: p,a,x=>by
  show c^^^mul (evp p x) x=mul (x^^^a) (evp p a^^^mul (evp (syn p a) x) x)^^^(c^^^mul (evp p a) a)
  rw [ev_syn p a x,mul_add,add_mul,add_mul x a (evp p a),mul_assoc,mul_comm x (evp p a),mul_comm a (evp p a)]
  generalize mul (x^^^a) (mul (evp (syn p a) x) x)=A
  generalize mul (evp p a) x=B
  generalize mul (evp p a) a=C
  simp only [xor_comm,xor_left_comm,xor_assoc]
  rw [xor_self,xor_zero]
theorem roots:∀ (xs:List UInt8),xs.Nodup->∀ p:List UInt8,dg p<=xs.length->(∀ a∈xs,evp p a=0)->∀ i,co p i=0
 | [],_,p,hd,_,i=>dg_le.1 hd i (Nat.zero_le _)
 | a :: xs,hn,p,hd,hz,i=>by
  rw [List.nodup_cons] at hn
  have ha:=hz a (by simp)
  have hs:∀ i,co (syn p a) i=0:=by
   refine roots xs hn.2 (syn p a) (dg_le.2 fun i hi=>?_) (fun b hb=>?_)
   ·rw [co_syn]
    refine ev_zero _ a fun j=>?_
    have:co (p.drop (i+1)) j=co p (i+1+j):=by simp [co,List.getD_eq_getElem?_getD]
    rw [this]
    exact dg_le.1 hd _ (by simp only [List.length_cons];omega)
   ·have h1:=ev_syn p a b
    rw [hz b (by simp [hb]),ha,xor_zero] at h1
    rcases zj4 h1.symm with h | h
    ·exact absurd (zd7 h) (fun e=>hn.1 (e ▸ hb))
    ·exact h
  have h2:=ev_drop p a i
  rw [← co_syn,hs i,zero_mul,xor_zero] at h2
  rw [← h2]
  cases i with
  | zero=>rw [List.drop_zero];exact ha
  | succ i=>rw [← co_syn];exact hs i
theorem agree {xs:List UInt8} (hn:xs.Nodup) {p q:List UInt8} (hp:dg p<=xs.length) (hq:dg q<=xs.length) (h:∀ a∈xs,evp p a=evp q a):Sim p q:=by
 intro i
 have:=roots xs hn (pplus p q) (dg_pplus hp hq) (fun a ha=>by rw [zfu,h a ha,xor_self]) i
 rw [zbo] at this
 exact zd7 this
def pe (xs:List UInt8) (i:Nat) (x:UInt8):Nat->UInt8
 | 0=>1
 | n+1=>if n=i then pe xs i x n else mul (pe xs i x n) (x^^^co xs n)
def pep (xs:List UInt8) (i:Nat):Nat->List UInt8
 | 0=>[1]
 | n+1=>if n=i then pep xs i n else pmul (pep xs i n) [co xs n,1]
theorem ev_pep (xs:List UInt8) (i:Nat) (x:UInt8):∀ n,evp (pep xs i n) x=pe xs i x n
 | 0=>by show 1^^^mul 0 x=1;rw [zero_mul,xor_zero]
 | n+1=>by
  unfold pep pe
  split
  ·exact ev_pep xs i x n
  ·rw [zga,ev_pep xs i x n,ev_lin]
theorem dg_pep (xs:List UInt8) (i:Nat):∀ n,dg (pep xs i n)<=n+1/\(i<n->dg (pep xs i n)<=n)
 | 0=>⟨dg_len _,fun h=>by omega⟩
 | n+1=>by
  obtain ⟨h1,h2⟩:=dg_pep xs i n
  unfold pep
  split
  ·rename_i h;exact ⟨by omega,fun _=>h1⟩
  ·rename_i h
   refine ⟨?_,fun hi=>?_⟩
   ·have:=ziu h1 (dg_lin (co xs n));omega
   ·have:=ziu (h2 (by omega)) (dg_lin (co xs n));omega
theorem pe_zero (xs:List UInt8) (i j:Nat) (hij:j≠i):∀ n,j<n->pe xs i (co xs j) n=0
 | n+1,h=>by
  unfold pe
  by_cases hj:j=n
  ·subst hj;rw [if_neg hij,xor_self,mul_zero]
  ·have:=pe_zero xs i j hij n (by omega)
   split
   ·exact this
   ·rw [this,zero_mul]
theorem co_inj {xs:List UInt8} (hn:xs.Nodup) {i j:Nat} (hi:i<xs.length) (hj:j<xs.length) (h:co xs i=co xs j):i=j:=by
 rw [co_lt hi,co_lt hj] at h
 rcases Nat.lt_trichotomy i j with h1 | h1 | h1
 ·exact absurd h (List.pairwise_iff_getElem.1 hn i j hi hj h1)
 ·exact h1
 ·exact absurd h.symm (List.pairwise_iff_getElem.1 hn j i hj hi h1)
theorem pe_ne {xs:List UInt8} (hn:xs.Nodup) {i:Nat} (hi:i<xs.length):∀ n,n<=xs.length->pe xs i (co xs i) n≠0
 | 0,_=>by show (1:UInt8)≠0;decide
 | n+1,h=>by
  unfold pe
  have:=pe_ne hn hi n (by omega)
  split
  ·exact this
  ·rename_i hne
   exact mul_ne this (fun e=>hne (co_inj hn (by omega) hi (zd7 e).symm))
def wt (xs:List UInt8) (i:Nat) (x:UInt8):UInt8:=mul (pe xs i x xs.length) (inv (pe xs i (co xs i) xs.length))
def sm (f:Nat->UInt8):Nat->UInt8
 | 0=>0
 | n+1=>sm f n^^^f n
theorem sm_one (f:Nat->UInt8) (j:Nat):∀ n,(∀ i,i<n->i≠j->f i=0)->sm f n=if j<n then f j else 0
 | 0,_=>rfl
 | n+1,h=>by
  unfold sm
  rw [sm_one f j n (fun i hi=>h i (by omega))]
  by_cases hj:j<n
  ·rw [if_pos hj,if_pos (by omega),h n (by omega) (by omega),xor_zero]
  ·rw [if_neg hj,zero_xor]
   by_cases hn:n=j
   ·subst hn;rw [if_pos (by omega)]
   ·rw [if_neg (by omega)];exact h n (by omega) hn
theorem sm_congr {f g:Nat->UInt8}:∀ n,(∀ i,i<n->f i=g i)->sm f n=sm g n
 | 0,_=>rfl
 | n+1,h=>by unfold sm;rw [sm_congr n (fun i hi=>h i (by omega)),h n (by omega)]
def lag (xs:List UInt8) (f:Nat->UInt8):Nat->List UInt8
 | 0=>[]
 | m+1=>pplus (lag xs f m) ((pep xs m xs.length).map (mul (f m)))
theorem ev_lag (xs:List UInt8) (f:Nat->UInt8) (x:UInt8):∀ m,evp (lag xs f m) x=sm (fun i=>mul (f i) (pe xs i x xs.length)) m
 | 0=>rfl
 | m+1=>by
  unfold lag sm
  rw [zfu,ev_lag xs f x m,ev_map,ev_pep]
theorem dg_lag (xs:List UInt8) (f:Nat->UInt8):∀ m,m<=xs.length->dg (lag xs f m)<=xs.length
 | 0,_=>Nat.zero_le _
 | m+1,h=>dg_pplus (dg_lag xs f m (by omega)) (dg_map _ ((dg_pep xs m xs.length).2 (by omega)))
theorem lag_at {xs:List UInt8} (hn:xs.Nodup) (ys:Nat->UInt8) {j:Nat} (hj:j<xs.length):evp (lag xs (fun i=>mul (ys i) (inv (pe xs i (co xs i) xs.length))) xs.length) (co xs j)=ys j:=by
 rw [ev_lag,sm_one _ j _ (fun i hi hne=>by rw [pe_zero xs i j (Ne.symm hne) _ hj,mul_zero]),if_pos hj,mul_assoc,inv_mul (pe_ne hn hj _ (Nat.le_refl _)),mul_one]
theorem mem_co {xs:List UInt8} {a:UInt8} (h:a∈xs):∃ j,j<xs.length/\a=co xs j:=by
 obtain ⟨j,hj,rfl⟩:=List.getElem_of_mem h
 exact ⟨j,hj,(co_lt hj).symm⟩
theorem co_mem {xs:List UInt8} {j:Nat} (h:j<xs.length):co xs j∈xs:=by rw [co_lt h];exact List.getElem_mem h
theorem lagrange {xs:List UInt8} (hn:xs.Nodup) {p:List UInt8} (hp:dg p<=xs.length) (x:UInt8):evp p x=sm (fun i=>mul (wt xs i x) (evp p (co xs i))) xs.length:=by
 have h1:Sim p (lag xs (fun i=>mul (evp p (co xs i)) (inv (pe xs i (co xs i) xs.length))) xs.length) :=
  agree hn hp (dg_lag _ _ _ (Nat.le_refl _)) (fun a ha=>by
   obtain ⟨j,hj,rfl⟩:=mem_co ha
   rw [lag_at hn (fun i=>evp p (co xs i)) hj])
 rw [ev_sim _ _ x h1,ev_lag]
 refine sm_congr _ fun i _=>?_
 unfold wt
 rw [mul_assoc,mul_comm (inv _) (pe xs i x xs.length),mul_comm (evp p (co xs i))]
end Gf

/- Parts Gp, Gw, S2, Gt, Gu, F7, Gx, Gy, Ha, F5a, Hc, Fj, F5c, Gv, Fk, F5d, Hd, Fm, F5e, one behind the other. What is proved: said at the head of each part. No condition beside those said there. -/
import Derived.Test.YtmbnjinlfeopaaaGreatRows
import Derived.Orders
import Derived.Deep.Draws
import Derived.Laws.World
import Derived.KernelRfl
import Derived.OrdersIn
import Derived.TacticsIn
import Derived.RangeFuncCalls
import Derived.Deep.LoopGhost
import Derived.Tactics
import Derived.Sort.LoopGhostIn
import Derived.RangeFuncLeaves
import Derived.RangeFuncNested
import Derived.RangeFuncRecord
import Derived.Laws.Sem
import Derived.OwnWalk
import Derived.RangeFuncWrites
import Derived.Laws.IdiomCopy
import Derived.WalkKit
import Derived.ProofKit
import Derived.OpenShut
import Derived.ChangeOld
import Derived.Below
import Derived.Test.YtmbnjinlfeopaaaGreatProg
import Derived.MapKept
import Derived.Lib.AppendZerosOnto
import Derived.Laws.CopyRow
import Derived.Laws.Cells
import Derived.Lib.SlBytesConst
import Derived.Test.YtmbnjinlfeopaaaGreatZPStripeFresh1
import Derived.Test.YtmbnjinlfeopaaaGreatZPStripeFresh2
set_option maxRecDepth 100000
set_option maxHeartbeats 8000000
set_option linter.unusedVariables false
set_option linter.unusedSimpArgs false
/- Cuts with three numbers; results that are read and not owned; rows that are put behind rows; rows that grow in their place. No condition. -/
namespace Gk
open Go Go.RowKit
def subL3 {α:Type} (l:List α) (lo hi mx:Int):Option (List α):=if 0<=lo/\lo<=hi/\hi<=mx/\mx<=l.length then some ((l.take hi.toNat).drop lo.toNat) else none
theorem zi8 {α:Type} {l m:List α} {lo hi mx:Int}:subL3 l lo hi mx=some m ↔ (0<=lo/\lo<=hi/\hi<=mx/\mx<=l.length)/\(l.take hi.toNat).drop lo.toNat=m:=by
 unfold subL3
 by_cases h:0<=lo/\lo<=hi/\hi<=mx/\mx<=l.length
 ·rw [if_pos h];simp [h]
 ·rw [if_neg h];simp [h]
section
variable {P : Program} {o : Oper} {f : Nat → Value} {w : World} {L : List Value}
theorem q_slice3 {α:Type} {R:World->List Value->Value->α->Prop} {v z:Value} {l m:List α} {x y y':Operand} {t e:TypeId} {bytes:Nat} {lo:Option Operand} {a b c:Int}
  (ho:o.op=.slice t x lo (some y) (some y')) (T:TyS P t e z bytes) (hx:ev f x=v) (h:SlK R w L v l)
  (hlo:match lo with | none=>a=0 | some q=>ev f q=i64 a) (hy:ev f y=i64 b) (hy':ev f y'=i64 c) (hs:subL3 l a b c=some m):Qa P o f (subW v a.toNat b.toNat c.toNat):=by
 intro w'
 obtain ⟨p,cap,rfl,hc⟩:=h.shape
 obtain ⟨⟨h0,h1,h2,h3⟩,_⟩:=zi8.1 hs
 have hm:∀ k w,(Instr.sliceBound (i64 c) cap k).run P w=.ok c.toNat w:=fun k w=>zfz rfl (by omega) (by omega) w
 have hb:∀ k w,(Instr.sliceBound (i64 b) c.toNat k).run P w=.ok b.toNat w:=fun k w=>zfz rfl (by omega) (by omega) w
 have ha:∀ k w,(Instr.sliceBound (i64 a) b.toNat k).run P w=.ok a.toNat w:=fun k w=>zfz rfl (by omega) (by omega) w
 cases lo with
 | none =>
  dsimp only at hlo;subst hlo
  simp [execOp,ho,hx,hy,hy',Instr.sliceAt,run_underlying T.sl,Instr.slice,Instr.sliceBounds,ty_size T,hb,hm,subW]
 | some q =>
  dsimp only at hlo
  simp [execOp,ho,hx,hlo,hy,hy',Instr.sliceAt,run_underlying T.sl,Instr.slice,Instr.sliceBounds,ty_size T,ha,hb,hm,subW]
theorem Sl.cut3 {v:Value} {us:List Value} (h:Sl w L v us) (lo hi mx:Nat) (h1:lo<=hi) (h2:hi<=mx) (h3:mx<=us.length):Sl w L (subW v lo hi mx) ((us.take hi).drop lo):=by
 obtain ⟨p,cap,rfl,hc,hne⟩:=h
 have hlen:((us.take hi).drop lo).length=hi - lo:=by simp;omega
 refine ⟨_,mx - lo,by unfold subW;rw [hlen],by rw [hlen];omega,fun hn=>?_⟩
 have h0:0<hi - lo:=by rw [← hlen];exact List.length_pos_iff.2 hn
 obtain ⟨b,off,rfl,ha,hr⟩:=hne (fun e=>by subst e;simp at h3;omega)
 refine ⟨b,off+lo,?_,ha,fun i hi'=>?_⟩
 ·rw [if_neg (by omega)];simp [zcg]
 ·rw [hlen] at hi'
  have:=hr (lo+i) (by omega)
  rw [Nat.add_assoc,this]
  simp
theorem SlK.cut3 {α:Type} {R:World->List Value->Value->α->Prop} {v:Value} {l m:List α} (h:SlK R w L v l) {lo hi mx:Int} (hs:subL3 l lo hi mx=some m):SlK R w L (subW v lo.toNat hi.toNat mx.toNat) m:=by
 obtain ⟨us,hu,hl,he⟩:=h
 obtain ⟨⟨h0,h1,h2,h3⟩,rfl⟩:=zi8.1 hs
 refine ⟨_,hu.cut3 lo.toNat hi.toNat mx.toNat (by omega) (by omega) (by omega),by simp [hl],fun i a b=>?_⟩
 simp only [List.getElem_drop,List.getElem_take]
 exact he _ _ _
theorem oB_add {p:Option Addr} {n n' c c' d:Nat} {q:Prop} [Decidable q] {k:Nat} (hc:0<c) (h:oB (.slice (if q then p else p.map (·.add d)) n' c')=some k):oB (.slice p n c)=some k:=by
 cases c with
 | zero=>omega
 | succ c =>
  cases p with
  | none=>split at h <;> cases h
  | some a =>
   cases c' with
   | zero=>split at h <;> simp [oB] at h
   | succ c' =>
    split at h
    ·exact h
    ·simp only [Option.map_some,oB] at h ⊢
     rw [← h]
     unfold Addr.add
     split <;> rfl
theorem hs_cut3 {α:Type} {R:World->List Value->Value->α->Prop} {v:Value} {l m:List α} (h:SlK R w L v l) {lo hi mx:Int} (hs:subL3 l lo hi mx=some m):∀ k,Hs (subW v lo.toNat hi.toNat mx.toNat) k->Hs v k:=by
 intro k hk
 obtain ⟨p,cap,rfl,hc⟩:=h.shape
 obtain ⟨⟨h0,h1,h2,h3⟩,_⟩:=zi8.1 hs
 have hk:=hs_sl hk
 by_cases h4:0<cap
 ·exact .inl (oB_add h4 hk)
 ·rw [show mx.toNat - lo.toNat=0 by omega] at hk
  cases hp:(if mx.toNat=lo.toNat then p else p.map (·.add lo.toNat)) <;> rw [hp] at hk <;> cases hk
theorem SlK.avail {α:Type} {enc:α->Value} {v:Value} {l:List α} (h:SlK (Sc enc) w [] v l) (L:List Value) (ha:∀ k,Hs v k->Av L k):SlK (Sc enc) w L v l:=by
 obtain ⟨us,⟨p,cap,rfl,hc,hne⟩,hl,he⟩:=h
 refine ⟨us,⟨p,cap,rfl,hc,fun hn=>?_⟩,hl,he⟩
 obtain ⟨b,off,rfl,_,hr⟩:=hne hn
 refine ⟨b,off,rfl,ha b (.inl ?_),hr⟩
 have h1:0<us.length:=List.length_pos_iff.2 hn
 cases cap with
 | zero=>omega
 | succ c=>rfl
end
def Id1 (_:World) (_:List Value) (u x:Value):Prop:=u=x/\x.oneCell'=true
theorem id1_stab:Stab Id1:=fun _ _ _ _ _ _ _ h=>h
theorem id1_own {w:World} {L:List Value} {e:TypeId} {v:Value} {us:List Value} (h:Ow w e v us) (h1:∀ x∈us,x.oneCell'=true):OwK Id1 w L e v us:=⟨us,h,rfl,fun i a _=>⟨rfl,h1 _ (List.getElem_mem a)⟩⟩
theorem id1_back {w:World} {L:List Value} {e:TypeId} {v:Value} {us:List Value} (h:OwK Id1 w L e v us):Ow w e v us:=by
 obtain ⟨us',h1,h2,h3⟩:=h
 have:us'=us:=List.ext_getElem h2 (fun i a b=>(h3 i a b).1)
 rw [← this];exact h1
theorem id1_sl {w:World} {L:List Value} {v:Value} {us:List Value} (h:SlK (Sc (fun x:Value=>x)) w L v us) (h1:∀ x∈us,x.oneCell'=true):SlK Id1 w L v us:=by
 obtain ⟨us',h2,h3,h4⟩:=h
 exact ⟨us',h2,h3,fun i a b=>⟨h4 i a b,h1 _ (List.getElem_mem b)⟩⟩
theorem ob_own {α:Type} {R:World->List Value->Value->α->Prop} {w:World} {L:List Value} {e:TypeId} {x:Value} {l:List α} (h:OwK R w L e x l):∀ k,Hs x k->oB x=some k:=fun k hk=>by
 obtain ⟨us',h5,_⟩:=h
 rcases h5 with ⟨p,rfl,_⟩ | ⟨g,cap,rfl,_⟩ <;> exact hs_sl hk
theorem ob_ow {w:World} {e:TypeId} {x:Value} {us:List Value} (h5:Ow w e x us):∀ k,Hs x k->oB x=some k:=fun k hk=>by
 rcases h5 with ⟨p,rfl,_⟩ | ⟨g,cap,rfl,_⟩ <;> exact hs_sl hk
theorem hs_nilG {k:Nat}:¬ Hs (.tuple #[.slice none 0 0]) k:=fun h=>by
 obtain ⟨x,hx,e⟩:=hs_tup h
 have hx:x∈[Value.slice none 0 0]:=hx
 rw [List.mem_singleton.1 hx] at e;cases e
theorem nh_nilG {k:Nat}:¬ Hs (.tuple #[.slice none 0 0]) k:=hs_nilG
theorem nq_nilG (u:Value):Nq u (.tuple #[.slice none 0 0]):=fun _ _ h=>hs_nilG h
theorem nw_nilG (w:World):Nw w (.tuple #[.slice none 0 0]):=fun _ h=>absurd h hs_nilG
theorem OwD.nil (w:World) (e1 e2:TypeId):OwD w e1 e2 (.tuple #[.slice none 0 0]) (.slice none 0 0) []:=⟨[],rfl,Ow.nil w e1,rfl,fun i h=>absurd h (by simp),by simp⟩
theorem litV {w:World} {L:List Value} {e:TypeId} {x:Value} {xs:List UInt8} (h:OwK (Sc u8) w L e x xs):∀ u∈[x],u.cells=#[u]:=fun u hu=>by
 rw [List.mem_singleton.1 hu]
 obtain ⟨us,h1,_⟩:=h
 rcases h1 with ⟨p,rfl,_⟩ | ⟨g,cap,rfl,_⟩ <;> rfl
section
variable {P : Program} {f : Nat → Value} {w : World} {o : Oper}
theorem stp_appendD (L1 L2:List Value) {Lx Lu:List Value} {s y:Operand} {t e1 e2:TypeId} {z x q:Value} {bytes:Nat} {G u:Value} {ls r:List (List UInt8)} {xs:List UInt8} (ho:o.op=.call ⟨.builtin .append,#[s,y],#[t,t]⟩) (T:TyS P t e1 z bytes) (hs:ev f s=u) (hy:ev f y=q)
  (h:OwD w e1 e2 G u ls) (hq:SlK (Sc (fun x:Value=>x)) w Lu q [x]) (hxo:OwK (Sc u8) w Lx e2 x xs) (hn:Nq x G) (hm:appL ls [xs]=some r)
  {K:Value->World->Prop} (hk:∀ Gm G' u' w',OwD w' e1 e2 G' u' r->Gr w w' G->Nx w G Gm->(∀ k,Hs G' k->Hs Gm k∨Hs x k)->Lift w w' (L1 ++ G :: L2) (L1 ++ Gm :: L2)->K u' w'):Stp P o f w K:=by
 have hlt:=h.lt
 obtain ⟨us,rfl,h1,hl,h2,h3⟩:=h
 have hm2:appL us [x]=some (us ++ [x]):=by
  obtain ⟨a1,_⟩:=zji.1 hm
  exact zji.2 ⟨by simp at a1 ⊢;omega,rfl⟩
 obtain ⟨hmm,rfl⟩:=zji.1 hm
 have hc:∀ v∈us,v.oneCell'=true:=fun v hv=>by
  obtain ⟨i,hi,rfl⟩:=List.getElem_of_mem hv
  exact oc_own (h2 i hi (by omega))
 have hcx:x.oneCell'=true:=oc_own hxo
 refine zav (R:=Id1) id1_stab [] [] ho T hs hy (id1_own h1 hc) (id1_sl hq (fun v hv=>by rw [List.mem_singleton.1 hv];exact hcx)) (fun _ _ h=>h) hm2 (fun w L u x h=>by rw [h.1];exact h.2) ?_
 intro u' w' hu' hg hnx _
 have hu':=id1_back hu'
 have hus:=ob_ow h1
 have hxs:=ob_own hxo
 have hgG:Gr w w' (.tuple (u :: us).toArray):=by
  obtain ⟨row,hgr,hr⟩:=hg
  exact ⟨row,hgr,fun k hk=>zd8.2 (.inl (hus k (hr k hk)))⟩
 have hux:Apt u x:=fun k hk1 hk2=>hn k (.inl hk2) (zd8.2 (.inl hk1))
 have hrx:∀ v∈us,Apt v x:=fun v hv k hk1 hk2=>hn k (.inl hk2) (zd8.2 (.inr ⟨v,hv,hk1⟩))
 have hNx:Nx w (.tuple (u :: us).toArray) (.tuple (u' :: us).toArray):=fun k hk=>by
  rcases zd8.1 hk with hk | ⟨v,hv,hk⟩
  ·rcases hnx k (.inl hk) with h4 | h4
   ·exact .inl (zd8.2 (.inl (hus k h4)))
   ·exact .inr h4
  ·exact .inl (zd8.2 (.inr ⟨v,hv,hk⟩))
 obtain ⟨row,hgr,hr⟩:=hg
 have hro:∀ k,row=some k->oB u=some k:=fun k hk=>hus k (hr k hk)
 refine hk (.tuple (u' :: us).toArray) (.tuple (u' :: (us ++ [x])).toArray) u' w' ⟨us ++ [x],rfl,hu',by simp [hl],fun j a b=>?_,?_⟩ hgG hNx (fun k hk'=>?_) (Lift.own L1 L2 hgG hNx)
 ·by_cases hj:j<us.length
  ·rw [List.getElem_append_left hj,List.getElem_append_left (by omega)]
   exact (h2 j hj (by omega)).keptR hgr (fun k hk1 e=>(List.rel_of_pairwise_cons h3 (List.getElem_mem hj)) k (hro k e) hk1)
  ·have hj2:j=us.length:=by simp at a;omega
   subst hj2
   simp only [List.getElem_append_right (Nat.le_refl _),hl,Nat.sub_self,List.getElem_cons_zero]
   rw [List.getElem_append_right (by omega)]
   simp only [hl,Nat.sub_self,List.getElem_cons_zero]
   exact (hxo.scal []).keptR hgr (fun k hk1 e=>hux k (hro k e) hk1)
 ·rw [List.pairwise_cons] at h3 ⊢
  refine ⟨fun v hv k hk1 hk2=>?_,?_⟩
  ·rcases hnx k (.inl hk1) with h4 | h4
   ·have h5:=hus k h4
    rcases List.mem_append.1 hv with hv | hv
    ·exact h3.1 v hv k h5 hk2
    ·rw [List.mem_singleton.1 hv] at hk2;exact hux k h5 hk2
   ·rcases List.mem_append.1 hv with hv | hv
    ·have:=hlt k (zd8.2 (.inr ⟨v,hv,hk2⟩));omega
    ·rw [List.mem_singleton.1 hv] at hk2
     have:=hxo.lt k (.inl hk2);omega
  ·rw [List.pairwise_append]
   refine ⟨h3.2,by simp,fun a ha b hb=>?_⟩
   rw [List.mem_singleton.1 hb];exact hrx a ha
 ·rcases zd8.1 hk' with hk2 | ⟨v,hv,hk2⟩
  ·exact .inl (zd8.2 (.inl hk2))
  ·rcases List.mem_append.1 hv with hv | hv
   ·exact .inl (zd8.2 (.inr ⟨v,hv,hk2⟩))
   ·rw [List.mem_singleton.1 hv] at hk2;exact .inr (.inl hk2)
def Pnd (w:World) (e2:TypeId) (G:Value) (i:Nat) (x':Value) (r':List UInt8):Prop :=
 OwK (Sc u8) w [] e2 x' r'/\∀ k,Hs x' k->(∃ x,DAt G i x/\oB x=some k)∨¬ Hs G k
theorem stp_appendRow (L1 L2:List Value) {s y:Operand} {t e1 e2:TypeId} {z v q:Value} {bytes:Nat} {i:Int} {G u:Value} {ls:List (List UInt8)} {r m r':List UInt8} (ho:o.op=.call ⟨.builtin .append,#[s,y],#[t,t]⟩) (T:TyS P t e2 z bytes) (hs:ev f s=v) (hy:ev f y=q)
  (h:OwD w e1 e2 G u ls) (hd:DAt G i.toNat v) (hi:idx ls i=some r) {Lu:List Value} (hq:SlK (Sc u8) w Lu q m) (hm:appL r m=some r')
  {K:Value->World->Prop} (hk:∀ x' w',Pnd w' e2 G i.toNat x' r'->OwD w' e1 e2 G u ls->Gr w w' G->Nx w G x'->Lift w w' (L1 ++ G :: L2) (x' :: (L1 ++ G :: L2))->K x' w'):Stp P o f w K:=by
 obtain ⟨hlt,hor,hsub⟩:=h.row hd
 have hG:=h.lt
 obtain ⟨_,_,rfl⟩:=zb5.1 hi
 refine stp_append2 (R:=Sc u8) (Sc.stab _) [] [] ho T hs hy (hor.scal _) hq (fun _ _ h=>h) hm oc_u8 ?_
 intro x' w' hx' hg hnx _ hold
 have hb:=ob_own hor
 have hNx:Nx w G x':=fun k hk=>(hnx k hk).imp (hsub k) id
 have hgG:Gr w w' G:=by
  obtain ⟨row,hgr,hr⟩:=hg
  exact ⟨row,hgr,fun k hk=>hsub k (hr k hk)⟩
 refine hk x' w' ⟨hx'.scal [],fun k hk1=>?_⟩ ?_ hgG hNx ⟨fun k o ho hc ha=>?_,fun k hk1 ha=>⟨fun e=>?_,ha⟩⟩
 ·rcases hnx k hk1 with h4 | h4
  ·exact .inl ⟨v,hd,hb k h4⟩
  ·exact .inr fun h5=>by have:=hG k h5;omega
 ·have:=(h.upd (r:=ls[i.toNat]) hd (hold.scal []) hg).1
  rwa [List.set_getElem_self] at this
 ·exact (Lift.own L1 L2 hgG (Nx.refl _ _)).blk k o ho hc ha
 ·rcases hNx k e with h4 | h4
  ·exact (av_append.1 ha).2.1 h4
  ·omega
theorem stp_storePnd (L1 L2:List Value) {a y:Operand} {t e1 e2:TypeId} {z x:Value} {bytes:Nat} {i:Int} {G u:Value} {ls:List (List UInt8)} {r xs:List UInt8} (ho:o.op=.store e1 a y) (T:TyS P t e1 z bytes) (hx:ev f a=adr u i.toNat) (hy:ev f y=x)
  (h:OwD w e1 e2 G u ls) (hi:idx ls i=some r) (hp:Pnd w e2 G i.toNat x xs)
  {K:Value->World->Prop} (hk:∀ G' w',OwD w' e1 e2 G' u (ls.set i.toNat xs)->Gr w w' G->(∀ k,Hs G' k->Hs G k∨Hs x k)->Lift w w' (L1 ++ G :: L2) (L1 ++ G :: L2)->K undef w'):Stp P o f w K:=by
 obtain ⟨us,rfl,h1,hl,h2,h3⟩:=h
 obtain ⟨hxo,hxG⟩:=hp
 obtain ⟨h0,hlt,rfl⟩:=zb5.1 hi
 have hid:idx us i=some (us[i.toNat]'(by omega)):=by unfold idx;rw [if_pos h0];simp
 refine zci (R:=Sc (fun x:Value=>x)) (u:=x) idv_stab [] [] ho T hx hy (idv_eq.2 h1) (zf6 x hid) rfl (oc_own hxo) ?_
 intro w' h' hg _
 have h':=idv_eq.1 h'
 have hxs:=ob_own hxo
 have hus:=ob_ow h1
 have hgG:Gr w w' (.tuple (u :: us).toArray):=by
  obtain ⟨row,hgr,hr⟩:=hg
  exact ⟨row,hgr,fun k hk=>zd8.2 (.inl (hus k (hr k hk)))⟩
 have hi':i.toNat<us.length:=by omega
 have hold:∀ k,oB x=some k->oB us[i.toNat]=some k∨¬ Hs (.tuple (u :: us).toArray) k:=fun k hk=>by
  rcases hxG k (.inl hk) with ⟨y,⟨u',us',e,hy⟩,hyk⟩ | h4
  ·obtain ⟨rfl,rfl⟩:=List.cons.inj (tup_inj e)
   obtain ⟨_,rfl⟩:=List.getElem?_eq_some_iff.1 hy
   exact .inl hyk
  ·exact .inr h4
 have hux:Apt u x:=fun k hk1 hk2=>by
  rcases hold k hk2 with h4 | h4
  ·exact (List.rel_of_pairwise_cons h3 (List.getElem_mem hi')) k hk1 h4
  ·exact h4 (zd8.2 (.inl hk1))
 have hrx:∀ (j:Nat) (hj:j<us.length),j≠i.toNat->Apt us[j] x:=fun j hj hne k hk1 hk2=>by
  rcases hold k hk2 with h4 | h4
  ·have h5:=List.pairwise_iff_getElem.1 (List.pairwise_cons.1 h3).2
   rcases Nat.lt_or_gt_of_ne hne with h6 | h6
   ·exact h5 j i.toNat hj hi' h6 k hk1 h4
   ·exact h5 i.toNat j hi' hj h6 k h4 hk1
  ·exact h4 (zd8.2 (.inr ⟨_,List.getElem_mem hj,hk1⟩))
 obtain ⟨row,hgr,hr⟩:=hg
 have hro:∀ k,row=some k->oB u=some k:=fun k hk=>hus k (hr k hk)
 refine hk (.tuple (u :: us.set i.toNat x).toArray) w' ⟨us.set i.toNat x,rfl,h',by simpa using hl,fun j a b=>?_,?_⟩ hgG (fun k hk'=>?_) (Lift.own L1 L2 hgG (Nx.refl _ _))
 ·have hj:j<us.length:=by simpa using a
  have hj':j<ls.length:=by simpa using b
  simp only [List.getElem_set]
  by_cases hij:i.toNat=j
  ·subst hij
   rw [if_pos rfl,if_pos rfl]
   exact hxo.keptR hgr (fun k hk1 e=>hux k (hro k e) hk1)
  ·rw [if_neg hij,if_neg hij]
   exact (h2 j hj hj').keptR hgr (fun k hk1 e=>(List.rel_of_pairwise_cons h3 (List.getElem_mem hj)) k (hro k e) hk1)
 ·rw [List.pairwise_cons] at h3 ⊢
  refine ⟨fun v hv=>?_,?_⟩
  ·rcases List.mem_or_eq_of_mem_set hv with hv | rfl
   ·exact h3.1 v hv
   ·exact hux
  ·refine List.pairwise_iff_getElem.2 fun p q hp hq' hpq=>?_
   have hp':p<us.length:=by simpa using hp
   have hq'':q<us.length:=by simpa using hq'
   simp only [List.getElem_set]
   have h4:=List.pairwise_iff_getElem.1 h3.2 p q hp' hq'' hpq
   by_cases h5:i.toNat=p
   ·rw [if_pos h5,if_neg (by omega)]
    exact (hrx q hq'' (by omega)).symm
   ·rw [if_neg h5]
    by_cases h6:i.toNat=q
    ·rw [if_pos h6];exact hrx p hp' (by omega)
    ·rw [if_neg h6];exact h4
 ·rcases zd8.1 hk' with hk2 | ⟨v,hv,hk2⟩
  ·exact .inl (zd8.2 (.inl hk2))
  ·rcases List.mem_or_eq_of_mem_set hv with hv | rfl
   ·exact .inl (zd8.2 (.inr ⟨v,hv,hk2⟩))
   ·exact .inr (.inl hk2)
end
end Gk

/- Functions that turn what a pointer points to: what they keep. No condition. -/
namespace Gk
open Go Go.RowKit
structure ExG (S:List Value) (w w':World):Prop where
 os:w'.os=w.os
 output:w'.output=w.output
 size:w.heap.size<=w'.heap.size
 blk:∀ k,k<w.heap.size->Av S k->w'.heap[k]?=w.heap[k]?
def NS (S:List Value) (w:World) (v:Value):Prop:=∀ k,Hs v k->w.heap.size<=k∨¬ Av S k
section
variable {S : List Value} {w0 w w' : World} {v v' : Value}
theorem ExG.refl (S:List Value) (w:World):ExG S w w:=⟨rfl,rfl,Nat.le_refl _,fun _ _ _=>rfl⟩
theorem ExG.trans (h:ExG S w0 w) (x:Ext w w'):ExG S w0 w' :=
 ⟨x.os.trans h.os,x.output.trans h.output,Nat.le_trans h.size x.size,fun k hk ha=>(x.blk k (Nat.lt_of_lt_of_le hk h.size)).trans (h.blk k hk ha)⟩
theorem ExG.grown (h:ExG S w0 w) (hg:Gr w w' v) (hn:NS S w0 v):ExG S w0 w':=by
 obtain ⟨row,hg,hr⟩:=hg
 refine ⟨hg.os.trans h.os,hg.output.trans h.output,Nat.le_trans h.size hg.size,fun k hk ha=>?_⟩
 refine (hg.block k (Nat.lt_of_lt_of_le hk h.size) (fun e=>?_)).trans (h.blk k hk ha)
 rcases hn k (hr k e.symm) with h1 | h1
 ·omega
 ·exact h1 ha
theorem NS.ext (h:ExG S w0 w) (hn:Nw w v):NS S w0 v:=fun k hk=>.inl (Nat.le_trans h.size (hn k hk))
theorem NS.own {g:Nat} {S':List Value}:NS (bp g :: S') w (bp g):=fun k hk=>.inr (fun h=>h.1 hk)
theorem Lift.exg0 (h:ExG S w0 w):Lift w0 w S []:=⟨fun k o ho _ ha=>(h.blk k (zbp ho) ha).trans ho,fun _ _ _=>trivial⟩
variable {b u : Value} {e T : TypeId} {g : Nat} {cs : Array Value}
theorem av_one {k:Nat} (h:¬ Hs b k):Av [b] k:=⟨h,trivial⟩
theorem Ow.otherX {us:List Value} (h:Ow w e u us) (x:ExG [b] w w') (hq:Nq u b):Ow w' e u us:=by
 rcases h with h | ⟨g,cap,rfl,hc,h⟩
 ·exact .inl h
 ·have ha:Av [b] g:=av_one (hq g (.inl (ze4 hc)))
  obtain ⟨cur,hg,h1,h2,h3,h4⟩:=zfa h
  have hlt:=zbp hg
  exact .inr ⟨g,cap,rfl,hc,h.1,.inr ⟨g,cap,cur,rfl,Nat.zero_le _,by rw [x.blk g hlt ha];exact hg,h1,h2,h3,h4⟩⟩
theorem OwK.otherX {α:Type} {R:World->List Value->Value->α->Prop} (hR:Stab R) {L L':List Value} {l:List α} (h:OwK R w L e u l) (x:ExG [b] w w') (hq:Nq u b) (g:Lift w w' L L'):OwK R w' L' e u l:=by
 obtain ⟨us,h,hl,he⟩:=h
 exact ⟨us,h.otherX x hq,hl,fun i h1 h2=>hR _ _ _ _ _ _ g (he i h1 h2)⟩
theorem Blk.otherX (h:Blk w g T cs) (x:ExG [b] w w') (hq:Nq (bp g) b):Blk w' g T cs:=by
 unfold Blk;rw [x.blk g h.lt (av_one (hq g (hs_bp' g)))];exact h
theorem Lift.ownX (L1 L2:List Value) (x:ExG [b] w w'):Lift w w' (L1 ++ b :: L2) (L1 ++ b :: L2) :=
 ⟨fun k o ho _ ha=>by
  obtain ⟨_,h2,_⟩:=av_append.1 ha
  exact (x.blk k (zbp ho) (av_one h2)).trans ho,fun _ _ h=>h⟩
theorem Ext.grownX (h:Ext w0 w) (x:ExG [b] w w') (hn:Nw w0 b):Ext w0 w' :=
 ⟨x.os.trans h.os,x.output.trans h.output,Nat.le_trans h.size x.size,fun k hk =>
  (x.blk k (Nat.lt_of_lt_of_le hk h.size) (av_one (fun e=>by have:=hn k e;omega))).trans (h.blk k hk)⟩
theorem _root_.Go.KeepsFrom.ownX {B:Nat} {W:World} (h:KeepsFrom B W w) (x:ExG [b] w w') (hc:Cl w b):KeepsFrom B W w':=h.trans ⟨x.size,fun k o _ ho hn=>by
 refine (x.blk k (zbp ho) (av_one (fun e=>?_))).trans ho
 obtain ⟨o',ho',hc'⟩:=hc k e
 rw [ho] at ho';cases ho';rw [hn] at hc';cases hc'⟩
end
end Gk

/- Facts of this seat's program: its array types. No condition. -/
namespace Gk
open Go Go.Proofs
theorem A115:TyA Tryz.prog 115 114 8:=⟨Tryz.underlying115,Tryz.isAgg115,Tryz.sizeOf115,Tryz.sizeOf114,Tryz.isAgg114⟩
theorem Z115:∀ w,(zeroValue 115).run Tryz.prog w=.ok (ag u32 (List.replicate 8 (0:UInt32))) w:=fun w=>by rw [Tryz.zeroValue115];rfl
theorem A116:TyA Tryz.prog 116 114 8:=⟨Tryz.underlying116,Tryz.isAgg116,Tryz.sizeOf116,Tryz.sizeOf114,Tryz.isAgg114⟩
theorem Z116:∀ w,(zeroValue 116).run Tryz.prog w=.ok (ag u32 (List.replicate 8 (0:UInt32))) w:=fun w=>by rw [Tryz.zeroValue116];rfl
theorem A135:TyA Tryz.prog 135 5 16:=⟨Tryz.underlying135,Tryz.isAgg135,Tryz.sizeOf135,Tryz.sizeOf5,Tryz.isAgg5⟩
theorem Z135:∀ w,(zeroValue 135).run Tryz.prog w=.ok (ag u8 (List.replicate 16 (0:UInt8))) w:=fun w=>by rw [Tryz.zeroValue135];rfl
theorem A136:TyA Tryz.prog 136 114 64:=⟨Tryz.underlying136,Tryz.isAgg136,Tryz.sizeOf136,Tryz.sizeOf114,Tryz.isAgg114⟩
theorem Z136:∀ w,(zeroValue 136).run Tryz.prog w=.ok (ag u32 (List.replicate 64 (0:UInt32))) w:=fun w=>by rw [Tryz.zeroValue136];rfl
theorem A144:TyA Tryz.prog 144 5 256:=⟨Tryz.underlying144,Tryz.isAgg144,Tryz.sizeOf144,Tryz.sizeOf5,Tryz.isAgg5⟩
theorem A152:TyA Tryz.prog 152 5 16:=⟨Tryz.underlying152,Tryz.isAgg152,Tryz.sizeOf152,Tryz.sizeOf5,Tryz.isAgg5⟩
theorem Z152:∀ w,(zeroValue 152).run Tryz.prog w=.ok (ag u8 (List.replicate 16 (0:UInt8))) w:=fun w=>by rw [Tryz.zeroValue152];rfl
theorem A173:TyA Tryz.prog 173 5 4:=⟨Tryz.underlying173,Tryz.isAgg173,Tryz.sizeOf173,Tryz.sizeOf5,Tryz.isAgg5⟩
theorem Z173:∀ w,(zeroValue 173).run Tryz.prog w=.ok (ag u8 (List.replicate 4 (0:UInt8))) w:=fun w=>by rw [Tryz.zeroValue173];rfl
end Gk

/- Regions in which several operations that act may come up, in whatever order: a tree of orders. No condition. -/
namespace Gk
open Go
inductive Tr where
 | fin
 | br (i:Nat) (sch:List (Nat×Nat)) (t rest:Tr)
def Tr.len:Tr->Nat
 | .fin=>0
 | .br _ sch t _=>t.len+sch.length+1
def Tr.roots:Tr->List Nat
 | .fin=>[]
 | .br i _ _ rest=>i :: rest.roots
def Tr.isFin:Tr->Bool
 | .fin=>true
 | _=>false
def okS (ops:Array Oper) (qs:List Nat):Tr->Nat->Array Bool->Bool
 | .fin,_,_=>true
 | .br i sch t rest,m,listed =>
  Nat.beq (t.len+sch.length+1) m&&(schOKe ops qs (fun l=>if t.isFin then (Region.ready .any ops l).isEmpty else (Region.ready .any ops l == t.roots&&okS ops qs t t.len l)) sch (listed.setIfInBounds i true)&&okS ops qs rest m listed)
def wtT (t:Tr) (A B:Prop):Prop:=match t with | .fin=>A | .br ..=>B
def wrT (P:Program) (ops:Array Oper) (qs:List Nat) (K:(Nat->Value)->World->Prop):Tr->(Nat->Value)->World->Prop
 | .fin,_,_=>True
 | .br i sch t rest,f,w=>stepT P ops qs i (ws P ops qs (fun f w=>wtT t (K f w) (wrT P ops qs K t f w)) sch) f w/\wrT P ops qs K rest f w
theorem tree_ok {P:Program} {n:Nat} {ops:Array Oper} {qs:List Nat} {K:(Nat->Value)->World->Prop} (hok:zb8 n ops=true) (hns:Region.noSelect ops=true) :
  ∀ (t:Tr) (m:Nat) (listed:Array Bool) (f:Nat->Value) (w:World),zd1 .any ops listed->okS ops qs t (m+1) listed=true->wrT P ops qs K t f w →
   ∀ k∈t.roots,k∈Region.ready .any ops listed->wpOp P ops (fun e a w=>e=.normal/\At n K a w) k (fun a' w'=>(Ext w w'∨zfh .any ops qs k=true)/\zdp P .any ops (fun e a w=>e=.normal/\At n K a w) Ext qs m (listed.setIfInBounds k true) a' w') (fr n f) w
 | .fin,_,_,_,_,_,_,_,k,hk,_=>by simp [Tr.roots] at hk
 | .br i sch t rest,m,listed,f,w,hcl,hs,h,k,hk,hr=>by
  simp only [okS,Bool.and_eq_true] at hs
  obtain ⟨hl,hsch,hrest⟩:=hs
  have hl':t.len+sch.length=m:=by have:=Nat.eq_of_beq_eq_true hl;omega
  unfold wrT at h
  rcases List.mem_cons.1 hk with rfl | hk
  ·have h1:=h.1
   unfold stepT at h1
   unfold Go.wpOp
   cases ho:ops[k]? with
   | none=>rw [ho] at h1;exact h1.elim
   | some o =>
    rw [ho] at h1
    dsimp only at h1 ⊢
    have hmem:o∈ops:=Array.mem_of_getElem? ho
    have hall:=List.all_eq_true.1 hok o (Array.mem_toList_iff.2 hmem)
    simp only [Bool.and_eq_true] at hall
    have hwant:=wantF_fr n ops f o hall.2
    have hcl':zd1 .any ops (listed.setIfInBounds k true):=by
     obtain ⟨_,o',ho',hall'⟩:=mem_ready.1 hr
     exact hcl.set ho' hall'
    have key:∀ f w,ws P ops qs (fun f w=>wtT t (K f w) (wrT P ops qs K t f w)) sch f w->zdp P .any ops (fun e a w=>e=.normal/\At n K a w) Ext qs m (listed.setIfInBounds k true) (fr n f) w:=fun f w hw=>by
     have:=zdj (K0:=K) (m:=t.len) hok hns (fun listed f w hcl2 hf hk2=>by
      cases t with
      | fin =>
       simp only [Tr.isFin,if_true] at hf
       rw [List.isEmpty_iff] at hf
       exact ⟨hf,rfl,At.mk hk2⟩
      | br i2 sch2 t2 rest2 =>
       simp only [Tr.isFin,Bool.false_eq_true,if_false,Bool.and_eq_true] at hf
       obtain ⟨hrd,hok2⟩:=hf
       have hrd':Region.ready .any ops listed=(Tr.br i2 sch2 t2 rest2).roots:=by simpa using hrd
       have ih:=tree_ok hok hns (.br i2 sch2 t2 rest2) (t2.len+sch2.length) listed f w hcl2 hok2 hk2
       show zdp P .any ops _ Ext qs (t2.len+sch2.length+1) listed (fr n f) w
       refine ⟨fun h0=>?_,fun j hj=>ih j (by rw [← hrd'];exact hj) hj⟩
       rw [hrd'] at h0
       simp [Tr.roots] at h0) sch (listed.setIfInBounds k true) f w hcl' hsch hw
     rwa [hl'] at this
    by_cases hw:wantF ops f o=true
    ·rw [if_pos hw] at h1
     rw [if_pos (hwant.trans hw)]
     exact .inl (Stp.wp hall.1 h1 fun v w' hv=>⟨hv.1,key _ _ hv.2⟩)
    ·rw [if_neg hw] at h1
     have hwf:Region.wanted o (yielded ops (fr n f).tmps)=false:=hwant.trans (by simpa using hw)
     rw [if_neg (by rw [hwf];simp)]
     rw [zgx _ _ _ _ (okOp.dst hall.1)]
     exact ⟨.inl (Ext.refl w),key _ _ h1⟩
  ·exact tree_ok hok hns rest m listed f w hcl hrest h.2 k hk hr
theorem wr_mono {P:Program} {ops:Array Oper} {qs:List Nat} {K K':(Nat->Value)->World->Prop} (hk:∀ f w,K f w->K' f w):∀ (t:Tr) (f:Nat->Value) (w:World),wrT P ops qs K t f w->wrT P ops qs K' t f w
 | .fin,_,_,_=>trivial
 | .br i sch t rest,f,w,h=>by
  unfold wrT at h ⊢
  refine ⟨?_,wr_mono hk rest f w h.2⟩
  have h1:=h.1
  have key:∀ f w,ws P ops qs (fun f w=>wtT t (K f w) (wrT P ops qs K t f w)) sch f w->ws P ops qs (fun f w=>wtT t (K' f w) (wrT P ops qs K' t f w)) sch f w :=
   zit (fun f w h2=>by
    cases t with
    | fin=>exact hk f w h2
    | br i2 sch2 t2 rest2=>exact wr_mono hk (.br i2 sch2 t2 rest2) f w h2) sch
  unfold stepT at h1 ⊢
  cases ho:ops[i]? with
  | none=>rw [ho] at h1;exact h1
  | some o =>
   rw [ho] at h1
   dsimp only at h1 ⊢
   by_cases hw:wantF ops f o=true
   ·rw [if_pos hw] at h1 ⊢
    exact Stp.mono h1 fun v w' h'=>⟨h'.1,key _ _ h'.2⟩
   ·rw [if_neg hw] at h1 ⊢
    exact key _ _ h1
def schT (ops:Array Oper) (qs:List Nat) (t:Tr) (listed:Array Bool):Bool:=Region.ready .any ops listed == t.roots&&(okS ops qs t t.len listed&&!t.isFin)
section
variable {P : Program} {ro : Option Nat} {n : Nat} {Q : Exit → (Nat → Value) → World → Prop} {f : Nat → Value} {w : World}
theorem W_drawT {id:Nat} {l:List Oper} (qs:List Nat) (sch:List (Nat×Nat)) (t:Tr) (hm:P.follows .mixedOrders=true) (hok:zb8 n l.toArray=true) (hns:Region.noSelect l.toArray=true)
  (hlen:Nat.beq (t.len+sch.length) l.toArray.size=true) (hs:schOKe l.toArray qs (schT l.toArray qs t) sch (Array.replicate l.toArray.size false)=true)
  (h:ws P l.toArray qs (fun f w=>wrT P l.toArray qs (Q .normal) t f w) sch f w.drew):W (ro:=ro) P n (.region id l.toArray true) Q f w:=by
 have h0:ws P l.toArray qs (fun f w=>wrT P l.toArray qs (fun f w=>∃ f',fr n f=fr n f'/\Q .normal f' w) t f w) sch f w.drew:=zit (fun f w q=>wr_mono (fun f _ q=>⟨f,rfl,q⟩) t f w q) _ _ _ h
 have h1:=zdj (K0:=fun f w=>∃ f',fr n f=fr n f'/\Q .normal f' w) (m:=t.len) hok hns (fun listed f w hcl hf hk=>by
  simp only [schT,Bool.and_eq_true] at hf
  obtain ⟨hrd,hok2,hnf⟩:=hf
  have hrd':Region.ready .any l.toArray listed=t.roots:=by simpa using hrd
  cases t with
  | fin=>simp [Tr.isFin] at hnf
  | br i2 sch2 t2 rest2 =>
   have ih:=tree_ok hok hns (.br i2 sch2 t2 rest2) (t2.len+sch2.length) listed f w hcl hok2 hk
   show zdp P .any l.toArray _ Ext qs (t2.len+sch2.length+1) listed (fr n f) w
   refine ⟨fun h0=>?_,fun j hj=>ih j (by rw [← hrd'];exact hj) hj⟩
   rw [hrd'] at h0
   simp [Tr.roots] at h0) sch _ f _ (zd1.none _ _ _) hs h0
 rw [Nat.eq_of_beq_eq_true hlen] at h1
 have h2:=any_in (ro:=ro) (m:=0) no_out (zb8.noDefer hok) _ _ _ _ (zjo _ _ _ _ h1)
 refine Code.wpIn_mono ?_ (wpIn_region_any (id:=id) hm h2)
 rintro e a w' ⟨rfl,f',rfl,f'',he,hk⟩
 exact ⟨f'',he,hk⟩
theorem wr_br {ops:Array Oper} {qs:List Nat} {K:(Nat->Value)->World->Prop} {i:Nat} {sch:List (Nat×Nat)} {t rest:Tr}
  (h1:ws P ops qs (fun f w=>wtT t (K f w) (wrT P ops qs K t f w)) ((i,2) :: sch) f w) (h2:wrT P ops qs K rest f w):wrT P ops qs K (.br i sch t rest) f w:=by
 unfold wrT
 exact ⟨stepT_of_ws (fun _ _ h=>h) h1,h2⟩
theorem wt_fin {A B:Prop} (h:A):wtT .fin A B:=h
theorem wt_br {i:Nat} {sch:List (Nat×Nat)} {t rest:Tr} {A B:Prop} (h:B):wtT (.br i sch t rest) A B:=h
end
end Gk

/- Regions in whose orders what is read from blocks that were there stands beside what writes to new ones. No condition. (Made out of Ga, Gb, Gg, Gt by a program: what a load is let stand is that the blocks below B are as they were.) -/
namespace Gk
open Go Go.RowKit
def EB (B:Nat) (w w':World):Prop:=w.heap.size<=w'.heap.size/\∀ k,k<B->w'.heap[k]?=w.heap[k]?
theorem EB.refl {B:Nat} (w:World):EB B w w:=⟨Nat.le_refl _,fun _ _=>rfl⟩
theorem EB.trans {B:Nat} {a b c:World} (h:EB B a b) (k:EB B b c):EB B a c:=⟨Nat.le_trans h.1 k.1,fun i hi=>(k.2 i hi).trans (h.2 i hi)⟩
theorem EB.ext {B:Nat} {w w':World} (hB:B<=w.heap.size) (x:Ext w w'):EB B w w':=⟨x.size,fun k hk=>x.blk k (Nat.lt_of_lt_of_le hk hB)⟩
theorem EB.own {B:Nat} {w w':World} {v:Value} (hB:B<=w.heap.size) (g:Gr w w' v) (hn:∀ k,Hs v k->B<=k):EB B w w' :=
 ⟨g.size,fun k hk=>g.block (Nat.lt_of_lt_of_le hk hB) (fun h=>by have:=hn k h;omega)⟩
def Qb (P:Program) (o:Oper) (f:Nat->Value) (B:Nat) (w:World) (v:Value):Prop:=∀ w',EB B w w'->(execOp (ev f) o).run P w'=.ok (.value v) w'
section
variable {B : Nat}
def wsB (P:Program) (ops:Array Oper) (qs:List Nat) (B:Nat) (K:(Nat->Value)->World->Prop):List (Nat×Nat)->(Nat->Value)->World->Prop
  | [],f,w=>K f w
  | (i,t) :: r,f,w =>
    match ops[i]? with
    | none=>False
    | some o =>
      if wantF ops f o=true then
        (match t with
         | 0=>∃ v,Qa P o f v/\wsB P ops qs B K r (updO f o.dst v) w
         | 1=>∃ v,Qb P o f B w v/\wsB P ops qs B K r (updO f o.dst v) w
         | _=>Stp P o f w (fun v w'=>(EB B w w'∨zfh .any ops qs i=true)/\wsB P ops qs B K r (updO f o.dst v) w'))
      else wsB P ops qs B K r (updO f o.dst undef) w
theorem zea {P:Program} {n:Nat} {ops:Array Oper} {qs:List Nat} {K0 K:(Nat->Value)->World->Prop} (hok:zb8 n ops=true) (hns:Region.noSelect ops=true) {fin:Array Bool->Bool} {m:Nat}
  (hfin:∀ (listed:Array Bool) (f:Nat->Value) (w:World),zd1 .any ops listed->fin listed=true->K f w->zdp P .any ops (fun e a w=>e=.normal/\At n K0 a w) (EB B) qs m listed (fr n f) w) :
  ∀ (sch:List (Nat×Nat)) (listed:Array Bool) (f:Nat->Value) (w:World),zd1 .any ops listed->schOKe ops qs fin sch listed=true->wsB P ops qs B K sch f w →
   zdp P .any ops (fun e a w=>e=.normal/\At n K0 a w) (EB B) qs (m+sch.length) listed (fr n f) w
 | [],listed,f,w,hcl,hs,h=>hfin listed f w hcl hs h
 | (i,t) :: r,listed,f,w,hcl,hs,h=>by
  simp only [schOKe,Bool.and_eq_true] at hs
  obtain ⟨hst,hsr⟩:=hs
  unfold wsB at h
  cases ho:ops[i]? with
  | none=>rw [ho] at h;exact h.elim
  | some o =>
   rw [ho] at h
   dsimp only at h
   have hmem:o∈ops:=Array.mem_of_getElem? ho
   have hall:=List.all_eq_true.1 hok o (Array.mem_toList_iff.2 hmem)
   simp only [Bool.and_eq_true] at hall
   have hwant:=wantF_fr n ops f o hall.2
   have hcl':i∈Region.ready .any ops listed->zd1 .any ops (listed.setIfInBounds i true):=fun hi=>by
    obtain ⟨_,o',ho',hall'⟩:=mem_ready.1 hi
    exact hcl.set ho' hall'
   have key0:∀ v,(Region.wanted o (yielded ops (fr n f).tmps)=true/\∀ w,(execOp (fr n f).eval o).run P w=.ok (.value v) w)∨(Region.wanted o (yielded ops (fr n f).tmps)=false/\v=undef) →
     (Region.ready .any ops listed).contains i=true->Region.free .any ops listed i=true->wsB P ops qs B K r (updO f o.dst v) w →
     zdp P .any ops (fun e a w=>e=.normal/\At n K0 a w) (EB B) qs (m+r.length+1) listed (fr n f) w:=fun v hy hr hf hk =>
    wpAnyE_free ho (Region.noSelect_spec hns) (fun _ _ _ h=>by cases h.1) EB.refl _ listed _ w (Region.free_spec ho hf) (by simpa using hr) hy
     (by rw [zgx _ _ _ _ (okOp.dst hall.1)];exact zea hok hns hfin r _ _ _ (hcl' (by simpa using hr)) hsr hk)
   by_cases hw:wantF ops f o=true
   ·rw [if_pos hw] at h
    match t,hst,h with
    | 0,hst,⟨v,hv,hk⟩ =>
     simp only [Bool.and_eq_true] at hst
     exact key0 v (.inl ⟨hwant.trans hw,fun w=>by rw [zjq n f o hall.1];exact hv w⟩) hst.1 hst.2 hk
    | 1,hst,⟨v,hv,hk⟩ =>
     simp only [Bool.and_eq_true] at hst
     refine wpAnyE_first (by simpa using hst.2) ho (Region.noSelect_spec hns) (fun _ _ _ h=>by cases h.1) EB.refl (fun _ _ _=>EB.trans) _ listed _ w hcl (Region.free_spec ho hst.1.2) (by simpa using hst.1.1)
      (.inl ⟨hwant.trans hw,fun w' hw'=>by rw [zjq n f o hall.1];exact hv w' hw'⟩) ?_
     rw [zgx _ _ _ _ (okOp.dst hall.1)];exact zea hok hns hfin r _ _ _ (hcl' (by simpa using hst.1.1)) hsr hk
    | t+2,hst,h =>
     have hr:Region.ready .any ops listed=[i]:=by simpa using hst
     show zdp P .any ops _ (EB B) qs (m+r.length+1) listed _ w
     refine ⟨fun h0=>(by rw [hr] at h0;cases h0),fun j hj=>?_⟩
     obtain rfl:j=i:=by rw [hr] at hj;simpa using hj
     unfold wpOp
     rw [ho]
     dsimp only
     rw [if_pos (hwant.trans hw)]
     exact .inl (Stp.wp hall.1 h fun v w' hv=>⟨hv.1,zea hok hns hfin r _ _ _ (hcl' hj) hsr hv.2⟩)
   ·rw [if_neg hw] at h
    have hwf:Region.wanted o (yielded ops (fr n f).tmps)=false:=hwant.trans (by simpa using hw)
    match t,hst with
    | 0,hst =>
     simp only [Bool.and_eq_true] at hst
     exact key0 undef (.inr ⟨hwf,rfl⟩) hst.1 hst.2 h
    | 1,hst =>
     simp only [Bool.and_eq_true] at hst
     exact key0 undef (.inr ⟨hwf,rfl⟩) hst.1.1 hst.1.2 h
    | t+2,hst =>
     have hr:Region.ready .any ops listed=[i]:=by simpa using hst
     show zdp P .any ops _ (EB B) qs (m+r.length+1) listed _ w
     refine ⟨fun h0=>(by rw [hr] at h0;cases h0),fun j hj=>?_⟩
     obtain rfl:j=i:=by rw [hr] at hj;simpa using hj
     unfold wpOp
     rw [ho]
     dsimp only
     rw [if_neg (by rw [hwf];simp)]
     rw [zgx _ _ _ _ (okOp.dst hall.1)]
     exact ⟨.inl (EB.refl w),zea hok hns hfin r _ _ _ (hcl' hj) hsr h⟩
def stepB (P:Program) (ops:Array Oper) (qs:List Nat) (B:Nat) (i:Nat) (K:(Nat->Value)->World->Prop) (f:Nat->Value) (w:World):Prop :=
 match ops[i]? with
 | none=>False
 | some o=>if wantF ops f o=true then Stp P o f w (fun v w'=>(EB B w w'∨zfh .any ops qs i=true)/\K (updO f o.dst v) w') else K (updO f o.dst undef) w
section
variable {P : Program} {ro : Option Nat} {n : Nat} {Q : Exit → (Nat → Value) → World → Prop} {f : Nat → Value} {w : World}
theorem zil {ops:Array Oper} {qs:List Nat} {K K':(Nat->Value)->World->Prop} (hk:∀ f w,K f w->K' f w):∀ (l:List (Nat×Nat)) (f:Nat->Value) (w:World),wsB P ops qs B K l f w->wsB P ops qs B K' l f w
 | [],_,_,h=>hk _ _ h
 | (i,t) :: r,f,w,h=>by
  unfold wsB at h ⊢
  cases ho:ops[i]? with
  | none=>rw [ho] at h;exact h.elim
  | some o =>
   rw [ho] at h
   dsimp only at h ⊢
   by_cases hw:wantF ops f o=true
   ·rw [if_pos hw] at h ⊢
    match t,h with
    | 0,⟨v,hv,h'⟩=>exact ⟨v,hv,zil hk r _ _ h'⟩
    | 1,⟨v,hv,h'⟩=>exact ⟨v,hv,zil hk r _ _ h'⟩
    | t+2,h=>exact Stp.mono h fun v w' h'=>⟨h'.1,zil hk r _ _ h'.2⟩
   ·rw [if_neg hw] at h ⊢
    exact zil hk r _ _ h
theorem stepB_of_ws {ops:Array Oper} {qs:List Nat} {K K':(Nat->Value)->World->Prop} (hk:∀ f w,K f w->K' f w) {i:Nat} {r:List (Nat×Nat)} (h:wsB P ops qs B K ((i,2) :: r) f w):stepB P ops qs B i (wsB P ops qs B K' r) f w:=by
 unfold wsB at h
 unfold stepB
 cases ho:ops[i]? with
 | none=>rw [ho] at h;exact h
 | some o =>
  rw [ho] at h
  dsimp only at h ⊢
  by_cases hw:wantF ops f o=true
  ·rw [if_pos hw] at h ⊢
   exact Stp.mono h fun v w' h'=>⟨h'.1,zil hk r _ _ h'.2⟩
  ·rw [if_neg hw] at h ⊢
   exact zil hk r _ _ h
end
def wrB (P:Program) (ops:Array Oper) (qs:List Nat) (B:Nat) (K:(Nat->Value)->World->Prop):Tr->(Nat->Value)->World->Prop
 | .fin,_,_=>True
 | .br i sch t rest,f,w=>stepB P ops qs B i (wsB P ops qs B (fun f w=>wtT t (K f w) (wrB P ops qs B K t f w)) sch) f w/\wrB P ops qs B K rest f w
theorem tree_okB {P:Program} {n:Nat} {ops:Array Oper} {qs:List Nat} {K:(Nat->Value)->World->Prop} (hok:zb8 n ops=true) (hns:Region.noSelect ops=true) :
  ∀ (t:Tr) (m:Nat) (listed:Array Bool) (f:Nat->Value) (w:World),zd1 .any ops listed->okS ops qs t (m+1) listed=true->wrB P ops qs B K t f w →
   ∀ k∈t.roots,k∈Region.ready .any ops listed->wpOp P ops (fun e a w=>e=.normal/\At n K a w) k (fun a' w'=>(EB B w w'∨zfh .any ops qs k=true)/\zdp P .any ops (fun e a w=>e=.normal/\At n K a w) (EB B) qs m (listed.setIfInBounds k true) a' w') (fr n f) w
 | .fin,_,_,_,_,_,_,_,k,hk,_=>by simp [Tr.roots] at hk
 | .br i sch t rest,m,listed,f,w,hcl,hs,h,k,hk,hr=>by
  simp only [okS,Bool.and_eq_true] at hs
  obtain ⟨hl,hsch,hrest⟩:=hs
  have hl':t.len+sch.length=m:=by have:=Nat.eq_of_beq_eq_true hl;omega
  unfold wrB at h
  rcases List.mem_cons.1 hk with rfl | hk
  ·have h1:=h.1
   unfold stepB at h1
   unfold Go.wpOp
   cases ho:ops[k]? with
   | none=>rw [ho] at h1;exact h1.elim
   | some o =>
    rw [ho] at h1
    dsimp only at h1 ⊢
    have hmem:o∈ops:=Array.mem_of_getElem? ho
    have hall:=List.all_eq_true.1 hok o (Array.mem_toList_iff.2 hmem)
    simp only [Bool.and_eq_true] at hall
    have hwant:=wantF_fr n ops f o hall.2
    have hcl':zd1 .any ops (listed.setIfInBounds k true):=by
     obtain ⟨_,o',ho',hall'⟩:=mem_ready.1 hr
     exact hcl.set ho' hall'
    have key:∀ f w,wsB P ops qs B (fun f w=>wtT t (K f w) (wrB P ops qs B K t f w)) sch f w->zdp P .any ops (fun e a w=>e=.normal/\At n K a w) (EB B) qs m (listed.setIfInBounds k true) (fr n f) w:=fun f w hw=>by
     have:=zea (K0:=K) (m:=t.len) hok hns (fun listed f w hcl2 hf hk2=>by
      cases t with
      | fin =>
       simp only [Tr.isFin,if_true] at hf
       rw [List.isEmpty_iff] at hf
       exact ⟨hf,rfl,At.mk hk2⟩
      | br i2 sch2 t2 rest2 =>
       simp only [Tr.isFin,Bool.false_eq_true,if_false,Bool.and_eq_true] at hf
       obtain ⟨hrd,hok2⟩:=hf
       have hrd':Region.ready .any ops listed=(Tr.br i2 sch2 t2 rest2).roots:=by simpa using hrd
       have ih:=tree_okB hok hns (.br i2 sch2 t2 rest2) (t2.len+sch2.length) listed f w hcl2 hok2 hk2
       show zdp P .any ops _ (EB B) qs (t2.len+sch2.length+1) listed (fr n f) w
       refine ⟨fun h0=>?_,fun j hj=>ih j (by rw [← hrd'];exact hj) hj⟩
       rw [hrd'] at h0
       simp [Tr.roots] at h0) sch (listed.setIfInBounds k true) f w hcl' hsch hw
     rwa [hl'] at this
    by_cases hw:wantF ops f o=true
    ·rw [if_pos hw] at h1
     rw [if_pos (hwant.trans hw)]
     exact .inl (Stp.wp hall.1 h1 fun v w' hv=>⟨hv.1,key _ _ hv.2⟩)
    ·rw [if_neg hw] at h1
     have hwf:Region.wanted o (yielded ops (fr n f).tmps)=false:=hwant.trans (by simpa using hw)
     rw [if_neg (by rw [hwf];simp)]
     rw [zgx _ _ _ _ (okOp.dst hall.1)]
     exact ⟨.inl (EB.refl w),key _ _ h1⟩
  ·exact tree_okB hok hns rest m listed f w hcl hrest h.2 k hk hr
theorem wrB_mono {P:Program} {ops:Array Oper} {qs:List Nat} {K K':(Nat->Value)->World->Prop} (hk:∀ f w,K f w->K' f w):∀ (t:Tr) (f:Nat->Value) (w:World),wrB P ops qs B K t f w->wrB P ops qs B K' t f w
 | .fin,_,_,_=>trivial
 | .br i sch t rest,f,w,h=>by
  unfold wrB at h ⊢
  refine ⟨?_,wrB_mono hk rest f w h.2⟩
  have h1:=h.1
  have key:∀ f w,wsB P ops qs B (fun f w=>wtT t (K f w) (wrB P ops qs B K t f w)) sch f w->wsB P ops qs B (fun f w=>wtT t (K' f w) (wrB P ops qs B K' t f w)) sch f w :=
   zil (fun f w h2=>by
    cases t with
    | fin=>exact hk f w h2
    | br i2 sch2 t2 rest2=>exact wrB_mono hk (.br i2 sch2 t2 rest2) f w h2) sch
  unfold stepB at h1 ⊢
  cases ho:ops[i]? with
  | none=>rw [ho] at h1;exact h1
  | some o =>
   rw [ho] at h1
   dsimp only at h1 ⊢
   by_cases hw:wantF ops f o=true
   ·rw [if_pos hw] at h1 ⊢
    exact Stp.mono h1 fun v w' h'=>⟨h'.1,key _ _ h'.2⟩
   ·rw [if_neg hw] at h1 ⊢
    exact key _ _ h1
section
variable {P : Program} {ro : Option Nat} {n : Nat} {Q : Exit → (Nat → Value) → World → Prop} {f : Nat → Value} {w : World}
theorem W_drawTB {id:Nat} {l:List Oper} (qs:List Nat) (sch:List (Nat×Nat)) (t:Tr) (hm:P.follows .mixedOrders=true) (hok:zb8 n l.toArray=true) (hns:Region.noSelect l.toArray=true)
  (hlen:Nat.beq (t.len+sch.length) l.toArray.size=true) (hs:schOKe l.toArray qs (schT l.toArray qs t) sch (Array.replicate l.toArray.size false)=true)
  (h:wsB P l.toArray qs B (fun f w=>wrB P l.toArray qs B (Q .normal) t f w) sch f w.drew):W (ro:=ro) P n (.region id l.toArray true) Q f w:=by
 have h0:wsB P l.toArray qs B (fun f w=>wrB P l.toArray qs B (fun f w=>∃ f',fr n f=fr n f'/\Q .normal f' w) t f w) sch f w.drew:=zil (fun f w q=>wrB_mono (fun f _ q=>⟨f,rfl,q⟩) t f w q) _ _ _ h
 have h1:=zea (K0:=fun f w=>∃ f',fr n f=fr n f'/\Q .normal f' w) (m:=t.len) hok hns (fun listed f w hcl hf hk=>by
  simp only [schT,Bool.and_eq_true] at hf
  obtain ⟨hrd,hok2,hnf⟩:=hf
  have hrd':Region.ready .any l.toArray listed=t.roots:=by simpa using hrd
  cases t with
  | fin=>simp [Tr.isFin] at hnf
  | br i2 sch2 t2 rest2 =>
   have ih:=tree_okB hok hns (.br i2 sch2 t2 rest2) (t2.len+sch2.length) listed f w hcl hok2 hk
   show zdp P .any l.toArray _ (EB B) qs (t2.len+sch2.length+1) listed (fr n f) w
   refine ⟨fun h0=>?_,fun j hj=>ih j (by rw [← hrd'];exact hj) hj⟩
   rw [hrd'] at h0
   simp [Tr.roots] at h0) sch _ f _ (zd1.none _ _ _) hs h0
 rw [Nat.eq_of_beq_eq_true hlen] at h1
 have h2:=any_in (ro:=ro) (m:=0) no_out (zb8.noDefer hok) _ _ _ _ (zjo _ _ _ _ h1)
 refine Code.wpIn_mono ?_ (wpIn_region_any (id:=id) hm h2)
 rintro e a w' ⟨rfl,f',rfl,f'',he,hk⟩
 exact ⟨f'',he,hk⟩
theorem zbs {ops:Array Oper} {qs:List Nat} {K:(Nat->Value)->World->Prop} {i:Nat} {sch:List (Nat×Nat)} {t rest:Tr}
  (h1:wsB P ops qs B (fun f w=>wtT t (K f w) (wrB P ops qs B K t f w)) ((i,2) :: sch) f w) (h2:wrB P ops qs B K rest f w):wrB P ops qs B K (.br i sch t rest) f w:=by
 unfold wrB
 exact ⟨stepB_of_ws (fun _ _ h=>h) h1,h2⟩
end
section
variable {P : Program} {ops : Array Oper} {qs : List Nat} {K : (Nat → Value) → World → Prop} {r : List (Nat × Nat)} {i : Nat} {o : Oper} {f : Nat → Value} {w : World}
theorem zbw (h:K f w):wsB P ops qs B K [] f w:=h
theorem wsB_a {v:Value} (ho:ops[i]?=some o) (hw:wantF ops f o=true) (hq:Qa P o f v) (h:wsB P ops qs B K r (updO f o.dst v) w):wsB P ops qs B K ((i,0) :: r) f w:=by
 unfold wsB;rw [ho];dsimp only;rw [if_pos hw];exact ⟨v,hq,h⟩
theorem wsB_q {v:Value} (ho:ops[i]?=some o) (hw:wantF ops f o=true) (hq:Qb P o f B w v) (h:wsB P ops qs B K r (updO f o.dst v) w):wsB P ops qs B K ((i,1) :: r) f w:=by
 unfold wsB;rw [ho];dsimp only;rw [if_pos hw];exact ⟨v,hq,h⟩
theorem wsB_stp (ho:ops[i]?=some o) (hw:wantF ops f o=true) (h:Stp P o f w fun v w'=>(EB B w w'∨zfh .any ops qs i=true)/\wsB P ops qs B K r (updO f o.dst v) w'):wsB P ops qs B K ((i,2) :: r) f w:=by
 unfold wsB;rw [ho];dsimp only;rw [if_pos hw];exact h
end
section
variable {P : Program} {ops : Array Oper} {qs : List Nat} {K : (Nat → Value) → World → Prop} {r : List (Nat × Nat)} {i : Nat} {o : Oper} {f : Nat → Value} {w : World} {d : Nat} {v : Value}
theorem wba (ho:ops[i]?=some o) (hw:wantF ops f o=true) (hd:o.dst=some d) (hq:Qa P o f v) (h:wsB P ops qs B K r (upd f d v) w):wsB P ops qs B K ((i,0) :: r) f w :=
 wsB_a ho hw hq (by rw [hd];exact h)
theorem wbq (ho:ops[i]?=some o) (hw:wantF ops f o=true) (hd:o.dst=some d) (hq:Qb P o f B w v) (h:wsB P ops qs B K r (upd f d v) w):wsB P ops qs B K ((i,1) :: r) f w :=
 wsB_q ho hw hq (by rw [hd];exact h)
theorem wbs (ho:ops[i]?=some o) (hw:wantF ops f o=true) (hd:o.dst=some d) (h:Stp P o f w (fun v w'=>EB B w w'/\wsB P ops qs B K r (upd f d v) w')):wsB P ops qs B K ((i,2) :: r) f w :=
 wsB_stp ho hw (h.mono fun v w' h=>⟨.inl h.1,by rw [hd];exact h.2⟩)
theorem wbn (ho:ops[i]?=some o) (hc:zfh .any ops qs i=true) (hw:wantF ops f o=true) (hd:o.dst=none) (h:Stp P o f w (fun _ w'=>wsB P ops qs B K r f w')):wsB P ops qs B K ((i,2) :: r) f w :=
 wsB_stp ho hw (h.mono fun v w' h=>⟨.inr hc,by rw [hd];exact h⟩)
end
theorem Qb.of {P:Program} {o:Oper} {f:Nat->Value} {w:World} {v:Value} (h:∀ w',EB B w w'->Qt P o f w' v):Qb P o f B w v:=fun w' h'=>h w' h' w' (Ext.refl w')
theorem Blk.ebs {w w':World} {g:Nat} {T:TypeId} {cs:Array Value} (h:Blk w g T cs) (x:EB w.heap.size w w'):Blk w' g T cs:=by
 unfold Blk;rw [x.2 g h.lt];exact h
theorem wbm {P:Program} {ops:Array Oper} {qs:List Nat} {K:(Nat->Value)->World->Prop} {r:List (Nat×Nat)} {i:Nat} {o:Oper} {f:Nat->Value} {w:World} (ho:ops[i]?=some o) (hw:wantF ops f o=true) (hd:o.dst=none) (h:Stp P o f w (fun _ w'=>EB B w w'/\wsB P ops qs B K r f w')):wsB P ops qs B K ((i,2) :: r) f w:=by
 refine wsB_stp ho hw (h.mono fun v w' h'=>⟨.inl h'.1,?_⟩)
 rw [hd];exact h'.2
end
theorem zc8 {P:Program} {ops:Array Oper} {qs:List Nat} {B:Nat} {K:(Nat->Value)->World->Prop} {t:Tr} {f:Nat->Value} {w:World} (M:(Tr->(Nat->Value)->World->Prop)->(List (Nat×Nat)->(Nat->Value)->World->Prop)->Prop)
  (h1:M (wrB P ops qs B K) (fun sch=>wsB P ops qs B (fun f w=>wtT .fin (K f w) (wrB P ops qs B K .fin f w)) sch)) (h2:M (wrB P ops qs B K) (fun sch=>wsB P ops qs B (fun f w=>wtT .fin (K f w) (wrB P ops qs B K .fin f w)) sch)->wrB P ops qs B K t f w):wrB P ops qs B K t f w:=h2 h1
end Gk

namespace Gk
open Go Go.Proofs
theorem sal {P : Program} {o : Oper} {f : Nat → Value} {w : World} {t : TypeId} {α : Type} (enc : α → Value) (l : List α) (L : List Value) (ho : o.op = .alloc t) (hz : ∀ w, (zeroValue t).run P w = .ok (ag enc l) w) {K : Value → World → Prop} (hk : ∀ g w', Blk w' g t (ac enc l) → Nw w (bp g) → w.grownBy w' none → Lift w w' L (bp g :: L) → K (bp g) w') : Stp P o f w K := zeu L ho hz rfl hk
theorem EB.e {a b c : World} (h : EB a.heap.size a b) (x : Ext b c) : EB a.heap.size a c := EB.trans h (EB.ext h.1 x)
end Gk

/- Printed by gen.py: for each Go function a pure function, and that the Go code comes to it. No condition beside the equation that says what the pure function gives. -/
namespace Gk
open Go Go.Proofs
noncomputable def zc1 :Option Int :=
((iterC (fun a:Int×UInt32 =>
(if a.2=(0:UInt32) then some (.inr a.1)
else some (.inl (wI (a.1+1),shr32 a.2 1)))) (0,((4294967295:UInt32)^^^(UInt32.ofInt 0)))).bind fun b => some b)
theorem zee  (i:Int) (w0:World) (d:zc1=some i) :
  Calls Tryz.prog 120 [].toArray w0 (fun o u=>o=.returned (i64 i)/\Ext w0 u):=by
 have p:Ext w0 w0:=Ext.refl w0;unfold zc1 at d;refine zai (n:=12) Tryz.func120 V V V<|W_sr<|av (i64 0) V V<|wnt<|W_sr<|av (i64 0) V V<|wnt<|W_seq<|W_sr<|wa V (q_cvt32I V V V V)<|wa V (q_not32 V V)<|av (u32 ((4294967295:UInt32)^^^(UInt32.ofInt 0))) V V<|wnt<|?_;obtain ⟨e,m,d⟩:=bsi d;refine W_mid (fun c g=>c 1=i64 e/\c 12=undef/\Ext w0 g) ?_ ?_
 ·refine zac<|zau (fun a c g=>c 1=i64 a.1/\c 2=u32 a.2/\c 12=undef/\Ext w0 g) m ?_ ?_
  ·exact ⟨rfl,rfl,rfl,p⟩
  rintro a _ _ v ⟨k,l,j,h⟩ b r;refine W_seq<|W_sr<|mv (u32 a.2) V l<|wa V (q_ne32 V V (cst32 (0:UInt32) V))<|wnt<|zam _ V V (fun f=>?_) (fun f=>?_)
  ·replace b:=(if_neg (zbf f)).symm.trans b;refine zae<|W_th<|W_seq<|zac<|W_rg<|mv (i64 a.1) V k<|wa V (zak V V V)<|av (i64 (wI (a.1+1))) V V<|?_;refine zag<|bk_n<|W_th<|W_rg<|mv (u32 a.2) V l<|wa V (zhv 1 V V V V)<|av (u32 (shr32 a.2 1)) V V<|zag<|?_;obtain rfl:=osi b;exact ⟨_,rfl,rfl,rfl,j,h⟩
  replace b:=(if_pos (zbg f)).symm.trans b;refine zar<|th_x<|?_;obtain rfl:=osi b;obtain rfl:=r _ rfl;refine th_x<|bk_x<|?_;exact ⟨k,j,h⟩
 rintro _ w ⟨t,s,q⟩;refine W_th<|W_sr<|mv (i64 e) V t<|av (i64 e) V V<|wnt<|W_ret<|?_;obtain rfl:=osi d;refine rt1 (i64 e) V V V s ?_;exact ⟨rfl,q⟩
noncomputable def zc0 :Option Int :=
((iterC (fun a:Int×UInt64 =>
(if a.2=(0:UInt64) then some (.inr a.1)
else some (.inl (wI (a.1+1),shr64 a.2 1)))) (0,((18446744073709551615:UInt64)^^^(UInt64.ofInt 0)))).bind fun b => some b)
theorem word_Bits_uint64_calls  (i:Int) (w0:World) (d:zc0=some i) :
  Calls Tryz.prog 115 [].toArray w0 (fun o u=>o=.returned (i64 i)/\Ext w0 u):=by
 have p:Ext w0 w0:=Ext.refl w0;unfold zc0 at d;refine zai (n:=12) Tryz.func115 V V V<|W_sr<|av (i64 0) V V<|wnt<|W_sr<|av (i64 0) V V<|wnt<|W_seq<|W_sr<|wa V (zgi V V V V)<|wa V (q_not64 V V)<|av (u64 ((18446744073709551615:UInt64)^^^(UInt64.ofInt 0))) V V<|wnt<|?_;obtain ⟨e,m,d⟩:=bsi d;refine W_mid (fun c g=>c 1=i64 e/\c 12=undef/\Ext w0 g) ?_ ?_
 ·refine zac<|zau (fun a c g=>c 1=i64 a.1/\c 2=u64 a.2/\c 12=undef/\Ext w0 g) m ?_ ?_
  ·exact ⟨rfl,rfl,rfl,p⟩
  rintro a _ _ v ⟨k,l,j,h⟩ b r;refine W_seq<|W_sr<|mv (u64 a.2) V l<|wa V (q_ne64 V V (cst64 (0:UInt64) V))<|wnt<|zam _ V V (fun f=>?_) (fun f=>?_)
  ·replace b:=(if_neg (zbf f)).symm.trans b;refine zae<|W_th<|W_seq<|zac<|W_rg<|mv (i64 a.1) V k<|wa V (zak V V V)<|av (i64 (wI (a.1+1))) V V<|?_;refine zag<|bk_n<|W_th<|W_rg<|mv (u64 a.2) V l<|wa V (q_shr64 1 V V V V)<|av (u64 (shr64 a.2 1)) V V<|zag<|?_;obtain rfl:=osi b;exact ⟨_,rfl,rfl,rfl,j,h⟩
  replace b:=(if_pos (zbg f)).symm.trans b;refine zar<|th_x<|?_;obtain rfl:=osi b;obtain rfl:=r _ rfl;refine th_x<|bk_x<|?_;exact ⟨k,j,h⟩
 rintro _ w ⟨t,s,q⟩;refine W_th<|W_sr<|mv (i64 e) V t<|av (i64 e) V V<|wnt<|W_ret<|?_;obtain rfl:=osi d;refine rt1 (i64 e) V V V s ?_;exact ⟨rfl,q⟩
noncomputable def ze5 :Option Int :=
((iterC (fun a:Int×UInt8 =>
(if a.2=(0:UInt8) then some (.inr a.1)
else some (.inl (wI (a.1+1),shr8 a.2 1)))) (0,((255:UInt8)^^^(UInt8.ofInt 0)))).bind fun b => some b)
theorem word_Bits_byte_calls  (i:Int) (w0:World) (d:ze5=some i) :
  Calls Tryz.prog 141 [].toArray w0 (fun o u=>o=.returned (i64 i)/\Ext w0 u):=by
 have p:Ext w0 w0:=Ext.refl w0;unfold ze5 at d;refine zai (n:=12) Tryz.func141 V V V<|W_sr<|av (i64 0) V V<|wnt<|W_sr<|av (i64 0) V V<|wnt<|W_seq<|W_sr<|wa V (zey V V V V)<|wa V (q_not8 V V)<|av (u8 ((255:UInt8)^^^(UInt8.ofInt 0))) V V<|wnt<|?_;obtain ⟨e,m,d⟩:=bsi d;refine W_mid (fun c g=>c 1=i64 e/\c 12=undef/\Ext w0 g) ?_ ?_
 ·refine zac<|zau (fun a c g=>c 1=i64 a.1/\c 2=u8 a.2/\c 12=undef/\Ext w0 g) m ?_ ?_
  ·exact ⟨rfl,rfl,rfl,p⟩
  rintro a _ _ v ⟨k,l,j,h⟩ b r;refine W_seq<|W_sr<|mv (u8 a.2) V l<|wa V (q_ne8 V V (cst8 (0:UInt8) V))<|wnt<|zam _ V V (fun f=>?_) (fun f=>?_)
  ·replace b:=(if_neg (zbf f)).symm.trans b;refine zae<|W_th<|W_seq<|zac<|W_rg<|mv (i64 a.1) V k<|wa V (zak V V V)<|av (i64 (wI (a.1+1))) V V<|?_;refine zag<|bk_n<|W_th<|W_rg<|mv (u8 a.2) V l<|wa V (q_shr8 1 V V V V)<|av (u8 (shr8 a.2 1)) V V<|zag<|?_;obtain rfl:=osi b;exact ⟨_,rfl,rfl,rfl,j,h⟩
  replace b:=(if_pos (zbg f)).symm.trans b;refine zar<|th_x<|?_;obtain rfl:=osi b;obtain rfl:=r _ rfl;refine th_x<|bk_x<|?_;exact ⟨k,j,h⟩
 rintro _ w ⟨t,s,q⟩;refine W_th<|W_sr<|mv (i64 e) V t<|av (i64 e) V V<|wnt<|W_ret<|?_;obtain rfl:=osi d;refine rt1 (i64 e) V V V s ?_;exact ⟨rfl,q⟩
noncomputable def zbk (b:UInt32) (d:Int):Option UInt32 :=
((zc1).bind fun a =>
((remI d a).bind fun e =>
((remI (wI (e+a)) a).bind fun c =>
(if c=0 then some b
else
((cnt c).bind fun f =>
((cnt (wI (a - c))).bind fun g => some ((shl32 b f) ||| (shr32 b g))))))))
theorem zbn (b:UInt32) (e:Int) (i:UInt32) (w0:World) (a:zbk b e=some i) :
  Calls Tryz.prog 137 [u32 b,i64 e].toArray w0 (fun j s=>j=.returned (u32 i)/\Ext w0 s):=by
 have l:Ext w0 w0:=Ext.refl w0;unfold zbk at a;refine zai (n:=26) Tryz.func137 V V V<|W_sr<|av (u32 0) V (cst32 (0:UInt32) V)<|wnt<|W_sr<|?_;obtain ⟨c,r,a⟩:=bsi a;refine wls V V (zab (vs:=[]) Tryz.func120 V V V (ar0) (zee   c _  r) ?_);rintro _ t ⟨rfl,u⟩;refine ⟨_,rfl,?_⟩;have h:=l.trans u;refine av (i64 c) V V<|wnt<|W_sr<|mv (i64 e) V V<|mv (i64 c) V V<|bse a fun x m a=>wa V (zdm V V V m)<|mv (i64 c) V V<|wa V (zak V V V)<|mv (i64 c) V V<|?_;obtain ⟨d,o,a⟩:=bsi a;refine wa V (zdm V V V o)<|av (i64 d) V V<|wnt<|W_seq<|W_sr<|mv (i64 d) V V<|wa V (q_eqI V V V)<|wnt<|wci a V V (fun a=>?_) (fun a=>?_)
 ·refine W_sr<|mv (u32 b) V V<|av (u32 b) V V<|wnt<|W_ret<|th_r<|?_;obtain rfl:=osi a;refine rt1 (u32 b) V V V V ?_;exact ⟨rfl,h⟩
 refine zae<|W_th<|W_seq<|zba [] [(0,0),(1,0),(2,0),(3,0),(4,0),(5,0),(6,0),(7,0),(8,0),(9,0)] mixed (by kernel_rfl) (by kernel_rfl) (by kernel_rfl) (by kernel_rfl) ?_;have w:=Ext.drew t;have k:=h.trans w;refine sv (u32 b) V V V<|sv (i64 d) V V V<|bse a fun f p a=>sa V V (q_shl32 f V V V (zew p))<|sv (u32 b) V V V<|sv (i64 c) V V V<|sv (i64 d) V V V<|sa V V (za9 V V V)<|bse a fun g q a=>sa V V (zhv g V V V (zew q))<|sa V V (q_or32 V V V)<|sa V V (zat (v:=u32 ((shl32 b f) ||| (shr32 b g))) V V)<|za1<|W_th<|W_ret<|?_;obtain rfl:=osi a;refine rt1 (u32 ((shl32 b f) ||| (shr32 b g))) V V V V ?_;exact ⟨rfl,k⟩
noncomputable def zeb (b:UInt8) (d:Int):Option UInt8 :=
((ze5).bind fun a =>
((remI d a).bind fun e =>
((remI (wI (e+a)) a).bind fun c =>
(if c=0 then some b
else
((cnt c).bind fun f =>
((cnt (wI (a - c))).bind fun g => some ((shl8 b f) ||| (shr8 b g))))))))
theorem word_Turn_byte_calls (b:UInt8) (e:Int) (i:UInt8) (w0:World) (a:zeb b e=some i) :
  Calls Tryz.prog 133 [u8 b,i64 e].toArray w0 (fun j s=>j=.returned (u8 i)/\Ext w0 s):=by
 have l:Ext w0 w0:=Ext.refl w0;unfold zeb at a;refine zai (n:=26) Tryz.func133 V V V<|W_sr<|av (u8 0) V (cst8 (0:UInt8) V)<|wnt<|W_sr<|?_;obtain ⟨c,r,a⟩:=bsi a;refine wls V V (zab (vs:=[]) Tryz.func141 V V V (ar0) (word_Bits_byte_calls   c _  r) ?_);rintro _ t ⟨rfl,u⟩;refine ⟨_,rfl,?_⟩;have h:=l.trans u;refine av (i64 c) V V<|wnt<|W_sr<|mv (i64 e) V V<|mv (i64 c) V V<|bse a fun x m a=>wa V (zdm V V V m)<|mv (i64 c) V V<|wa V (zak V V V)<|mv (i64 c) V V<|?_;obtain ⟨d,o,a⟩:=bsi a;refine wa V (zdm V V V o)<|av (i64 d) V V<|wnt<|W_seq<|W_sr<|mv (i64 d) V V<|wa V (q_eqI V V V)<|wnt<|wci a V V (fun a=>?_) (fun a=>?_)
 ·refine W_sr<|mv (u8 b) V V<|av (u8 b) V V<|wnt<|W_ret<|th_r<|?_;obtain rfl:=osi a;refine rt1 (u8 b) V V V V ?_;exact ⟨rfl,h⟩
 refine zae<|W_th<|W_seq<|zba [] [(0,0),(1,0),(2,0),(3,0),(4,0),(5,0),(6,0),(7,0),(8,0),(9,0)] mixed (by kernel_rfl) (by kernel_rfl) (by kernel_rfl) (by kernel_rfl) ?_;have w:=Ext.drew t;have k:=h.trans w;refine sv (u8 b) V V V<|sv (i64 d) V V V<|bse a fun f p a=>sa V V (q_shl8 f V V V (zew p))<|sv (u8 b) V V V<|sv (i64 c) V V V<|sv (i64 d) V V V<|sa V V (za9 V V V)<|bse a fun g q a=>sa V V (q_shr8 g V V V (zew q))<|sa V V (q_or8 V V V)<|sa V V (zat (v:=u8 ((shl8 b f) ||| (shr8 b g))) V V)<|za1<|W_th<|W_ret<|?_;obtain rfl:=osi a;refine rt1 (u8 ((shl8 b f) ||| (shr8 b g))) V V V V ?_;exact ⟨rfl,k⟩
noncomputable def zeq (b:List UInt8):Option (UInt32×Bool) :=
((zc1).bind fun f =>
((divI f 8).bind fun c =>
(if (b.length:Int)<c then some ((0:UInt32),false)
else
((subL b 0 c).bind fun d =>
((iterC (fun a:UInt64×Int =>
(if a.2<(d.length:Int) then
((idx d a.2).bind fun e => some (.inl (((shl64 a.1 8) ||| (e.toUInt64)),wI (a.2+1))))
else some (.inr a.1))) ((0:UInt64),0)).bind fun g => some (g.toUInt32,true))))))
theorem word_Get_uint32_calls (s:List UInt8) (j:Value) (p:UInt32×Bool) (w0:World) (i:By w0 [] j s) (c:zeq s=some p) :
  Calls Tryz.prog 136 [j].toArray w0 (fun A J=>A=.returned (.tuple #[u32 p.1,.bool p.2])/\Ext w0 J):=by
 have B:Ext w0 w0:=Ext.refl w0;unfold zeq at c;refine zai (n:=30) Tryz.func136 V V V<|W_sr<|av (u32 0) V (cst32 (0:UInt32) V)<|av (.bool false) V V<|wnt<|W_sr<|?_;obtain ⟨G,E,c⟩:=bsi c;refine wls V V (zab (vs:=[]) Tryz.func120 V V V (ar0) (zee   G _  E) ?_);rintro _ L ⟨rfl,K⟩;refine ⟨_,rfl,?_⟩;have h:=B.trans K;obtain ⟨g,D,c⟩:=bsi c;refine wa V (q_divI V V V D)<|av (i64 g) V V<|wnt<|W_seq<|W_sr<|mv j V V<|wa V (q_len V T22.sl V (i.lift (le_ h)))<|mv (i64 g) V V<|wa V (q_ltI V V V)<|wnt<|wci c V V (fun c=>?_) (fun c=>?_)
 ·refine W_sr<|av (u32 0) V (cst32 (0:UInt32) V)<|av (.bool false) V V<|wnt<|W_ret<|th_r<|?_;obtain rfl:=osi c;refine rt2 (u32 0) (.bool false) V V V V V V ?_;exact ⟨rfl,h⟩
 refine zae<|W_th<|W_sr<|av (u64 0) V (cst64 (0:UInt64) V)<|wnt<|W_seq<|W_seq<|W_rg<|mv j V V<|mv (i64 g) V V<|bse c fun z l c=>wa V (zdv (a:=0) (b:=g) V T22 V (i.lift (le_ h)) V V l)<|wa V (q_len V T22.sl V (SlK.cut (i.lift (le_ h)) l))<|mv (i64 0) V V<|wnt<|?_;obtain ⟨m,y,c⟩:=bsi c;refine W_mid (fun d r=>d 5=u64 m/\d 30=undef/\Ext w0 r) ?_ ?_
 ·refine zac<|zau (fun f d r=>d 5=u64 f.1/\d 16=subV j (0:Int).toNat (g:Int).toNat/\d 17=i64 (z.length:Int)/\d 18=i64 f.2/\d 30=undef/\Ext w0 r) y ?_ ?_
  ·exact ⟨rfl,rfl,rfl,rfl,rfl,h⟩
  rintro f _ _ N ⟨x,u,v,q,w,k⟩ e F;refine W_sr<|wa V (q_ltI V q v)<|wnt<|W_seq<|wci e V V (fun e=>?_) (fun e=>?_)
  ·refine zae<|W_th<|W_seq<|zac<|W_sr<|bse e fun o t e=>wa V (q_adr V T22 u q (SlK.cut (i.lift (le_ k)) l) t)<|wq V (zao V T22 V (SlK.cut (i.lift (le_ k)) l) t)<|av (u8 o) V V<|wnt<|W_rg<|mv (u64 f.1) V x<|wa V (q_shl64 8 V V V V)<|mv (u8 o) V V<|?_;refine wa V (q_cvt648 V V V V)<|wa V (q_or64 V V V)<|av (u64 ((shl64 f.1 8) ||| (o.toUInt64))) V V<|zag<|bk_n<|W_th<|W_rg<|wa V (zak V q V)<|mv (i64 (wI (f.2+1))) V V<|zag<|?_;obtain rfl:=osi e;exact ⟨_,rfl,rfl,u,v,rfl,w,k⟩
  refine zar<|th_x<|?_;obtain rfl:=osi e;obtain rfl:=F _ rfl;refine th_x<|bk_x<|?_;exact ⟨x,w,k⟩
 rintro _ M ⟨I,H,C⟩;refine W_th<|W_sr<|mv (u64 m) V I<|wa V (q_cvt3264 V V V V)<|av (u32 (m.toUInt32)) V V<|av (.bool true) V V<|wnt<|W_ret ?_;obtain rfl:=osi c;refine rt2 (u32 (m.toUInt32)) (.bool true) V V V V V H ?_;exact ⟨rfl,C⟩
noncomputable def zem (b:List UInt8) (c:UInt32):Option (List UInt8) :=
((zaj b).bind fun f =>
((zc1).bind fun g =>
((iterC (fun a:List UInt8×Int =>
(if 0<=a.2 then
((cnt a.2).bind fun e =>
((appL a.1 ([((shr32 c e).toUInt8)]:List UInt8)).bind fun d => some (.inl (d,wI (a.2 - 8)))))
else some (.inr a.1))) (f,wI (g - 8))).bind fun h => some h)))
theorem word_Put_uint32_calls (q:List UInt8) (a:UInt32) (h:Value) (E:List UInt8) (w0:World) (a1:By w0 [] h q) (c:zem q a=some E) :
  Calls Tryz.prog 89 [h,u32 a].toArray w0 (fun P N=>∃ y:Value,P=.returned y/\Ext w0 N/\Nw w0 y/\OwK (Sc u8) N [] 5 y E):=by
 have s:Ext w0 w0:=Ext.refl w0;unfold zem at c;refine zai (n:=23) Tryz.func89 V V V<|W_sr<|av (.slice none 0 0) V V<|wnt<|W_sr<|mv h V V<|?_;obtain ⟨F,a2,c⟩:=bsi c;refine wls V V (zab (vs:=[h]) Tryz.func59 V V V (ar1 V) (zap q h F _ (a1.lift (le_ s)) a2) ?_);rintro _ aI ⟨k,rfl,aK,a9,aF⟩;refine ⟨_,rfl,?_⟩;have w:OwK (Sc u8) aI (k::[]) 5 k F:=OwK.scal aF _;have aA:=Nw.ext s a9;have S:=s.trans aK;refine av k V V<|wnt<|W_seq<|W_sr<|?_;obtain ⟨G,a3,c⟩:=bsi c;refine wls V V (zab (vs:=[]) Tryz.func120 V V V (ar0) (zee   G _  a3) ?_);rintro _ aR ⟨rfl,A⟩;refine ⟨_,rfl,?_⟩;replace w:=w.extL (Sc.stab _) A (le_ A);have T:=S.trans A;refine wa V (za9 V V V)<|av (i64 (wI (G - 8))) V V<|wnt<|?_;obtain ⟨aL,O,c⟩:=bsi c;refine W_mid (fun e j=>∃ p:Value,e 5=p/\e 23=undef/\Ext w0 j/\OwK (Sc u8) j [p] 5 p aL/\Nw w0 p) ?_ ?_
 ·refine zac<|zau (fun f e j=>∃ m:Value,e 1=u32 a/\e 5=m/\e 6=i64 f.2/\e 23=undef/\Ext w0 j/\OwK (Sc u8) j [m] 5 m f.1/\Nw w0 m) O ?_ ?_
  ·exact ⟨k,rfl,rfl,rfl,rfl,T,w,aA⟩
  rintro f _ _ aS ⟨i,H,J,x,I,C,g,t⟩ b a4;refine W_seq<|W_sr<|mv (i64 f.2) V x<|wa V (q_geI V V V)<|wnt<|wci b V V (fun b=>?_) (fun b=>?_)
  ·refine zae<|W_th<|W_seq<|zac<|W_rg<|mv i V J<|mv (u32 a) V H<|mv (i64 f.2) V x<|bse b fun d Z b=>wa V (zhv d V V V (zew Z))<|wa V (q_cvt832 V V V V)<|wls V V (zaz (L:=[i]) (R:=Sc u8) [u8 ((shr32 a d).toUInt8)] ([((shr32 a d).toUInt8)]:List UInt8) V T22 V (by exact ⟨rfl,rfl,trivial⟩) V (litC u8 zbi (us:=[u8 ((shr32 a d).toUInt8)]) (l:=([((shr32 a d).toUInt8)]:List UInt8)) V) V (litS u8 (us:=[u8 ((shr32 a d).toUInt8)]) (l:=([((shr32 a d).toUInt8)]:List UInt8)) V) ?_);intro K aJ aD a7 U aN;have z:=zaa U;have a5:By aJ [i] K ([((shr32 a d).toUInt8)]:List UInt8):=OwK.slk (Sc.stab _) _ aD (fun D a0=>(Old.cons (Old.nil _) g.lt) D (a7 D a0)) (fun _ r=>r.2);replace g:=g.extL (Sc.stab _) z (le_ z);have B:=C.trans z;obtain ⟨aM,Y,b⟩:=bsi b;refine wls V V (zav (R:=Sc u8) (v:=i) (u:=K) (Sc.stab _) [] [] V T22 V V g a5 (fun _ _ r=>r) Y oc_u8 ?_);intro M aP aE W aB aO;have Q:=B.grown W t;have a8:=Nw.nxt B t aB;refine av M V V<|zag<|bk_n<|W_th<|W_rg<|mv (i64 f.2) V x<|wa V (za9 V V V)<|av (i64 (wI (f.2 - 8))) V V<|zag ?_;obtain rfl:=osi b;exact ⟨_,rfl,M,H,rfl,rfl,I,Q,aE,a8⟩
  refine zar<|th_x<|?_;obtain rfl:=osi b;obtain rfl:=a4 _ rfl;refine th_x<|bk_x<|?_;exact ⟨i,J,I,C,g,t⟩
 rintro _ aQ ⟨o,aH,aG,X,aC,a6⟩;refine W_th<|W_sr<|mv o V aH<|av o V V<|wnt<|W_ret<|?_;obtain rfl:=osi c;refine rt1 o V V V aG ?_;exact ⟨o,rfl,X,a6,aC.weak (Sc.stab _) (fun _ _=>trivial)⟩
noncomputable def zcs (b:List UInt8) (c:UInt64):Option (List UInt8) :=
((zaj b).bind fun f =>
((zc0).bind fun g =>
((iterC (fun a:List UInt8×Int =>
(if 0<=a.2 then
((cnt a.2).bind fun e =>
((appL a.1 ([((shr64 c e).toUInt8)]:List UInt8)).bind fun d => some (.inl (d,wI (a.2 - 8)))))
else some (.inr a.1))) (f,wI (g - 8))).bind fun h => some h)))
theorem zgz (q:List UInt8) (a:UInt64) (h:Value) (E:List UInt8) (w0:World) (a1:By w0 [] h q) (c:zcs q a=some E) :
  Calls Tryz.prog 85 [h,u64 a].toArray w0 (fun P N=>∃ y:Value,P=.returned y/\Ext w0 N/\Nw w0 y/\OwK (Sc u8) N [] 5 y E):=by
 have s:Ext w0 w0:=Ext.refl w0;unfold zcs at c;refine zai (n:=23) Tryz.func85 V V V<|W_sr<|av (.slice none 0 0) V V<|wnt<|W_sr<|mv h V V<|?_;obtain ⟨F,a2,c⟩:=bsi c;refine wls V V (zab (vs:=[h]) Tryz.func59 V V V (ar1 V) (zap q h F _ (a1.lift (le_ s)) a2) ?_);rintro _ aI ⟨k,rfl,aK,a9,aF⟩;refine ⟨_,rfl,?_⟩;have w:OwK (Sc u8) aI (k::[]) 5 k F:=OwK.scal aF _;have aA:=Nw.ext s a9;have S:=s.trans aK;refine av k V V<|wnt<|W_seq<|W_sr<|?_;obtain ⟨G,a3,c⟩:=bsi c;refine wls V V (zab (vs:=[]) Tryz.func115 V V V (ar0) (word_Bits_uint64_calls   G _  a3) ?_);rintro _ aR ⟨rfl,A⟩;refine ⟨_,rfl,?_⟩;replace w:=w.extL (Sc.stab _) A (le_ A);have T:=S.trans A;refine wa V (za9 V V V)<|av (i64 (wI (G - 8))) V V<|wnt<|?_;obtain ⟨aL,O,c⟩:=bsi c;refine W_mid (fun e j=>∃ p:Value,e 5=p/\e 23=undef/\Ext w0 j/\OwK (Sc u8) j [p] 5 p aL/\Nw w0 p) ?_ ?_
 ·refine zac<|zau (fun f e j=>∃ m:Value,e 1=u64 a/\e 5=m/\e 6=i64 f.2/\e 23=undef/\Ext w0 j/\OwK (Sc u8) j [m] 5 m f.1/\Nw w0 m) O ?_ ?_
  ·exact ⟨k,rfl,rfl,rfl,rfl,T,w,aA⟩
  rintro f _ _ aS ⟨i,H,J,x,I,C,g,t⟩ b a4;refine W_seq<|W_sr<|mv (i64 f.2) V x<|wa V (q_geI V V V)<|wnt<|wci b V V (fun b=>?_) (fun b=>?_)
  ·refine zae<|W_th<|W_seq<|zac<|W_rg<|mv i V J<|mv (u64 a) V H<|mv (i64 f.2) V x<|bse b fun d Z b=>wa V (q_shr64 d V V V (zew Z))<|wa V (q_cvt864 V V V V)<|wls V V (zaz (L:=[i]) (R:=Sc u8) [u8 ((shr64 a d).toUInt8)] ([((shr64 a d).toUInt8)]:List UInt8) V T22 V (by exact ⟨rfl,rfl,trivial⟩) V (litC u8 zbi (us:=[u8 ((shr64 a d).toUInt8)]) (l:=([((shr64 a d).toUInt8)]:List UInt8)) V) V (litS u8 (us:=[u8 ((shr64 a d).toUInt8)]) (l:=([((shr64 a d).toUInt8)]:List UInt8)) V) ?_);intro K aJ aD a7 U aN;have z:=zaa U;have a5:By aJ [i] K ([((shr64 a d).toUInt8)]:List UInt8):=OwK.slk (Sc.stab _) _ aD (fun D a0=>(Old.cons (Old.nil _) g.lt) D (a7 D a0)) (fun _ r=>r.2);replace g:=g.extL (Sc.stab _) z (le_ z);have B:=C.trans z;obtain ⟨aM,Y,b⟩:=bsi b;refine wls V V (zav (R:=Sc u8) (v:=i) (u:=K) (Sc.stab _) [] [] V T22 V V g a5 (fun _ _ r=>r) Y oc_u8 ?_);intro M aP aE W aB aO;have Q:=B.grown W t;have a8:=Nw.nxt B t aB;refine av M V V<|zag<|bk_n<|W_th<|W_rg<|mv (i64 f.2) V x<|wa V (za9 V V V)<|av (i64 (wI (f.2 - 8))) V V<|zag ?_;obtain rfl:=osi b;exact ⟨_,rfl,M,H,rfl,rfl,I,Q,aE,a8⟩
  refine zar<|th_x<|?_;obtain rfl:=osi b;obtain rfl:=a4 _ rfl;refine th_x<|bk_x<|?_;exact ⟨i,J,I,C,g,t⟩
 rintro _ aQ ⟨o,aH,aG,X,aC,a6⟩;refine W_th<|W_sr<|mv o V aH<|av o V V<|wnt<|W_ret<|?_;obtain rfl:=osi c;refine rt1 o V V V aG ?_;exact ⟨o,rfl,X,a6,aC.weak (Sc.stab _) (fun _ _=>trivial)⟩
noncomputable def za6 :Option (List UInt32) :=
((lenA 64 (List.replicate 64 (0:UInt32))).bind fun a =>
((lenA 64 ([(1116352408:UInt32),(1899447441:UInt32),(3049323471:UInt32),(3921009573:UInt32),(961987163:UInt32),(1508970993:UInt32),(2453635748:UInt32),(2870763221:UInt32),(3624381080:UInt32),(310598401:UInt32),(607225278:UInt32),(1426881987:UInt32),(1925078388:UInt32),(2162078206:UInt32),(2614888103:UInt32),(3248222580:UInt32),(3835390401:UInt32),(4022224774:UInt32),(264347078:UInt32),(604807628:UInt32),(770255983:UInt32),(1249150122:UInt32),(1555081692:UInt32),(1996064986:UInt32),(2554220882:UInt32),(2821834349:UInt32),(2952996808:UInt32),(3210313671:UInt32),(3336571891:UInt32),(3584528711:UInt32),(113926993:UInt32),(338241895:UInt32),(666307205:UInt32),(773529912:UInt32),(1294757372:UInt32),(1396182291:UInt32),(1695183700:UInt32),(1986661051:UInt32),(2177026350:UInt32),(2456956037:UInt32),(2730485921:UInt32),(2820302411:UInt32),(3259730800:UInt32),(3345764771:UInt32),(3516065817:UInt32),(3600352804:UInt32),(4094571909:UInt32),(275423344:UInt32),(430227734:UInt32),(506948616:UInt32),(659060556:UInt32),(883997877:UInt32),(958139571:UInt32),(1322822218:UInt32),(1537002063:UInt32),(1747873779:UInt32),(1955562222:UInt32),(2024104815:UInt32),(2227730452:UInt32),(2361852424:UInt32),(2428436474:UInt32),(2756734187:UInt32),(3204031479:UInt32),(3329325298:UInt32)]:List UInt32)).bind fun b =>
((lenA 64 ([(1116352408:UInt32),(1899447441:UInt32),(3049323471:UInt32),(3921009573:UInt32),(961987163:UInt32),(1508970993:UInt32),(2453635748:UInt32),(2870763221:UInt32),(3624381080:UInt32),(310598401:UInt32),(607225278:UInt32),(1426881987:UInt32),(1925078388:UInt32),(2162078206:UInt32),(2614888103:UInt32),(3248222580:UInt32),(3835390401:UInt32),(4022224774:UInt32),(264347078:UInt32),(604807628:UInt32),(770255983:UInt32),(1249150122:UInt32),(1555081692:UInt32),(1996064986:UInt32),(2554220882:UInt32),(2821834349:UInt32),(2952996808:UInt32),(3210313671:UInt32),(3336571891:UInt32),(3584528711:UInt32),(113926993:UInt32),(338241895:UInt32),(666307205:UInt32),(773529912:UInt32),(1294757372:UInt32),(1396182291:UInt32),(1695183700:UInt32),(1986661051:UInt32),(2177026350:UInt32),(2456956037:UInt32),(2730485921:UInt32),(2820302411:UInt32),(3259730800:UInt32),(3345764771:UInt32),(3516065817:UInt32),(3600352804:UInt32),(4094571909:UInt32),(275423344:UInt32),(430227734:UInt32),(506948616:UInt32),(659060556:UInt32),(883997877:UInt32),(958139571:UInt32),(1322822218:UInt32),(1537002063:UInt32),(1747873779:UInt32),(1955562222:UInt32),(2024104815:UInt32),(2227730452:UInt32),(2361852424:UInt32),(2428436474:UInt32),(2756734187:UInt32),(3204031479:UInt32),(3329325298:UInt32)]:List UInt32)).bind fun c => some ([(1116352408:UInt32),(1899447441:UInt32),(3049323471:UInt32),(3921009573:UInt32),(961987163:UInt32),(1508970993:UInt32),(2453635748:UInt32),(2870763221:UInt32),(3624381080:UInt32),(310598401:UInt32),(607225278:UInt32),(1426881987:UInt32),(1925078388:UInt32),(2162078206:UInt32),(2614888103:UInt32),(3248222580:UInt32),(3835390401:UInt32),(4022224774:UInt32),(264347078:UInt32),(604807628:UInt32),(770255983:UInt32),(1249150122:UInt32),(1555081692:UInt32),(1996064986:UInt32),(2554220882:UInt32),(2821834349:UInt32),(2952996808:UInt32),(3210313671:UInt32),(3336571891:UInt32),(3584528711:UInt32),(113926993:UInt32),(338241895:UInt32),(666307205:UInt32),(773529912:UInt32),(1294757372:UInt32),(1396182291:UInt32),(1695183700:UInt32),(1986661051:UInt32),(2177026350:UInt32),(2456956037:UInt32),(2730485921:UInt32),(2820302411:UInt32),(3259730800:UInt32),(3345764771:UInt32),(3516065817:UInt32),(3600352804:UInt32),(4094571909:UInt32),(275423344:UInt32),(430227734:UInt32),(506948616:UInt32),(659060556:UInt32),(883997877:UInt32),(958139571:UInt32),(1322822218:UInt32),(1537002063:UInt32),(1747873779:UInt32),(1955562222:UInt32),(2024104815:UInt32),(2227730452:UInt32),(2361852424:UInt32),(2428436474:UInt32),(2756734187:UInt32),(3204031479:UInt32),(3329325298:UInt32)]:List UInt32))))
theorem za2  (c:List UInt32) (w0:World) (a:za6=some c) :
  Calls Tryz.prog 118 [].toArray w0 (fun d r=>d=.returned (ag u32 c)/\Ext w0 r):=by
 have b:Ext w0 w0:=Ext.refl w0;unfold za6 at a;refine zai (n:=2) Tryz.func118 V V V<|W_sr<|wls V V (sal u32 (List.replicate 64 (0:UInt32)) [] V Z136 ?_);intro w A p m g x;have s:=zaa g;have o:=Nw.ext b m;have e:=b.trans s;refine wnt<|W_sr<|wa V (q_buildAF (l:=([(1116352408:UInt32),(1899447441:UInt32),(3049323471:UInt32),(3921009573:UInt32),(961987163:UInt32),(1508970993:UInt32),(2453635748:UInt32),(2870763221:UInt32),(3624381080:UInt32),(310598401:UInt32),(607225278:UInt32),(1426881987:UInt32),(1925078388:UInt32),(2162078206:UInt32),(2614888103:UInt32),(3248222580:UInt32),(3835390401:UInt32),(4022224774:UInt32),(264347078:UInt32),(604807628:UInt32),(770255983:UInt32),(1249150122:UInt32),(1555081692:UInt32),(1996064986:UInt32),(2554220882:UInt32),(2821834349:UInt32),(2952996808:UInt32),(3210313671:UInt32),(3336571891:UInt32),(3584528711:UInt32),(113926993:UInt32),(338241895:UInt32),(666307205:UInt32),(773529912:UInt32),(1294757372:UInt32),(1396182291:UInt32),(1695183700:UInt32),(1986661051:UInt32),(2177026350:UInt32),(2456956037:UInt32),(2730485921:UInt32),(2820302411:UInt32),(3259730800:UInt32),(3345764771:UInt32),(3516065817:UInt32),(3600352804:UInt32),(4094571909:UInt32),(275423344:UInt32),(430227734:UInt32),(506948616:UInt32),(659060556:UInt32),(883997877:UInt32),(958139571:UInt32),(1322822218:UInt32),(1537002063:UInt32),(1747873779:UInt32),(1955562222:UInt32),(2024104815:UInt32),(2227730452:UInt32),(2361852424:UInt32),(2428436474:UInt32),(2756734187:UInt32),(3204031479:UInt32),(3329325298:UInt32)]:List UInt32)) (us:=[u32 1116352408,u32 1899447441,u32 3049323471,u32 3921009573,u32 961987163,u32 1508970993,u32 2453635748,u32 2870763221,u32 3624381080,u32 310598401,u32 607225278,u32 1426881987,u32 1925078388,u32 2162078206,u32 2614888103,u32 3248222580,u32 3835390401,u32 4022224774,u32 264347078,u32 604807628,u32 770255983,u32 1249150122,u32 1555081692,u32 1996064986,u32 2554220882,u32 2821834349,u32 2952996808,u32 3210313671,u32 3336571891,u32 3584528711,u32 113926993,u32 338241895,u32 666307205,u32 773529912,u32 1294757372,u32 1396182291,u32 1695183700,u32 1986661051,u32 2177026350,u32 2456956037,u32 2730485921,u32 2820302411,u32 3259730800,u32 3345764771,u32 3516065817,u32 3600352804,u32 4094571909,u32 275423344,u32 430227734,u32 506948616,u32 659060556,u32 883997877,u32 958139571,u32 1322822218,u32 1537002063,u32 1747873779,u32 1955562222,u32 2024104815,u32 2227730452,u32 2361852424,u32 2428436474,u32 2756734187,u32 3204031479,u32 3329325298]) (z:=(0:UInt32)) V A136 Z136 (by exact ⟨rfl,cst32 (1116352408:UInt32) V,rfl,cst32 (1899447441:UInt32) V,rfl,cst32 (3049323471:UInt32) V,rfl,cst32 (3921009573:UInt32) V,rfl,cst32 (961987163:UInt32) V,rfl,cst32 (1508970993:UInt32) V,rfl,cst32 (2453635748:UInt32) V,rfl,cst32 (2870763221:UInt32) V,rfl,cst32 (3624381080:UInt32) V,rfl,cst32 (310598401:UInt32) V,rfl,cst32 (607225278:UInt32) V,rfl,cst32 (1426881987:UInt32) V,rfl,cst32 (1925078388:UInt32) V,rfl,cst32 (2162078206:UInt32) V,rfl,cst32 (2614888103:UInt32) V,rfl,cst32 (3248222580:UInt32) V,rfl,cst32 (3835390401:UInt32) V,rfl,cst32 (4022224774:UInt32) V,rfl,cst32 (264347078:UInt32) V,rfl,cst32 (604807628:UInt32) V,rfl,cst32 (770255983:UInt32) V,rfl,cst32 (1249150122:UInt32) V,rfl,cst32 (1555081692:UInt32) V,rfl,cst32 (1996064986:UInt32) V,rfl,cst32 (2554220882:UInt32) V,rfl,cst32 (2821834349:UInt32) V,rfl,cst32 (2952996808:UInt32) V,rfl,cst32 (3210313671:UInt32) V,rfl,cst32 (3336571891:UInt32) V,rfl,cst32 (3584528711:UInt32) V,rfl,cst32 (113926993:UInt32) V,rfl,cst32 (338241895:UInt32) V,rfl,cst32 (666307205:UInt32) V,rfl,cst32 (773529912:UInt32) V,rfl,cst32 (1294757372:UInt32) V,rfl,cst32 (1396182291:UInt32) V,rfl,cst32 (1695183700:UInt32) V,rfl,cst32 (1986661051:UInt32) V,rfl,cst32 (2177026350:UInt32) V,rfl,cst32 (2456956037:UInt32) V,rfl,cst32 (2730485921:UInt32) V,rfl,cst32 (2820302411:UInt32) V,rfl,cst32 (3259730800:UInt32) V,rfl,cst32 (3345764771:UInt32) V,rfl,cst32 (3516065817:UInt32) V,rfl,cst32 (3600352804:UInt32) V,rfl,cst32 (4094571909:UInt32) V,rfl,cst32 (275423344:UInt32) V,rfl,cst32 (430227734:UInt32) V,rfl,cst32 (506948616:UInt32) V,rfl,cst32 (659060556:UInt32) V,rfl,cst32 (883997877:UInt32) V,rfl,cst32 (958139571:UInt32) V,rfl,cst32 (1322822218:UInt32) V,rfl,cst32 (1537002063:UInt32) V,rfl,cst32 (1747873779:UInt32) V,rfl,cst32 (1955562222:UInt32) V,rfl,cst32 (2024104815:UInt32) V,rfl,cst32 (2227730452:UInt32) V,rfl,cst32 (2361852424:UInt32) V,rfl,cst32 (2428436474:UInt32) V,rfl,cst32 (2756734187:UInt32) V,rfl,cst32 (3204031479:UInt32) V,rfl,cst32 (3329325298:UInt32) V,trivial⟩) V V cel_u32)<|?_
 obtain ⟨t,i,a⟩:=bsi a;obtain ⟨u,j,a⟩:=bsi a;refine wln V V (zbm [] [] V A136 V V (zad i) (zad j) p zdo ?_);intro B q h y;have f:=e.grown h o;refine wnt<|W_ret<|?_;obtain ⟨v,k,a⟩:=bsi a;obtain rfl:=osi a;refine rtc1 A136 V V V q (zad k) V ?_;exact ⟨rfl,f⟩
noncomputable def zjp :Option (List UInt32) :=
((lenA 8 (List.replicate 8 (0:UInt32))).bind fun a =>
((lenA 8 ([(1779033703:UInt32),(3144134277:UInt32),(1013904242:UInt32),(2773480762:UInt32),(1359893119:UInt32),(2600822924:UInt32),(528734635:UInt32),(1541459225:UInt32)]:List UInt32)).bind fun b =>
((lenA 8 ([(1779033703:UInt32),(3144134277:UInt32),(1013904242:UInt32),(2773480762:UInt32),(1359893119:UInt32),(2600822924:UInt32),(528734635:UInt32),(1541459225:UInt32)]:List UInt32)).bind fun c => some ([(1779033703:UInt32),(3144134277:UInt32),(1013904242:UInt32),(2773480762:UInt32),(1359893119:UInt32),(2600822924:UInt32),(528734635:UInt32),(1541459225:UInt32)]:List UInt32))))
theorem hash_first_calls  (r:List UInt32) (w0:World) (H:zjp=some r) :
  Calls Tryz.prog 86 [].toArray w0 (fun e w'=>e=.returned (ag u32 r)/\Ext w0 w'):=by
 have hE:Ext w0 w0:=Ext.refl w0;unfold zjp at H;refine zai (n:=2) Tryz.func86 rfl rfl rfl ?_;refine W_seq<|W_rg<|?_;refine wls rfl rfl (sal u32 (List.replicate 8 (0:UInt32)) [] rfl Z116 ?_);intro g1 w1 o1 n1 g1r l1;have x1:=zaa g1r;have n3:=Nw.ext hE n1;have e2:=hE.trans x1;refine wnt<|W_seq<|W_rg<|wa rfl (q_buildAF (l:=([(1779033703:UInt32),(3144134277:UInt32),(1013904242:UInt32),(2773480762:UInt32),(1359893119:UInt32),(2600822924:UInt32),(528734635:UInt32),(1541459225:UInt32)]:List UInt32)) (us:=[(u32 1779033703),(u32 3144134277),(u32 1013904242),(u32 2773480762),(u32 1359893119),(u32 2600822924),(u32 528734635),(u32 1541459225)]) (z:=(0:UInt32)) rfl A116 Z116 (by exact ⟨rfl,(cst32 (1779033703:UInt32) rfl),rfl,(cst32 (3144134277:UInt32) rfl),rfl,(cst32 (1013904242:UInt32) rfl),rfl,(cst32 (2773480762:UInt32) rfl),rfl,(cst32 (1359893119:UInt32) rfl),rfl,(cst32 (2600822924:UInt32) rfl),rfl,(cst32 (528734635:UInt32) rfl),rfl,(cst32 (1541459225:UInt32) rfl),trivial⟩) rfl rfl cel_u32)<|?_;obtain ⟨c5,hc5,H⟩:=bsi H;obtain ⟨c6,hc6,H⟩:=bsi H;refine wln rfl rfl (zbm [] [] rfl A116 rfl rfl (zad hc5) (zad hc6) o1 zdo ?_);intro w4 o4 g4 l4;have e7:=e2.grown g4 n3;refine wnt<|W_ret<|?_;obtain ⟨c8,hc8,H⟩:=bsi H;obtain rfl:=osi H;refine rtc1 A116 rfl rfl rfl o4 (zad hc8) rfl ?_;exact ⟨rfl,e7⟩
noncomputable def zej (a:UInt32) (b:Int) (c:Int) (d:Int):Option UInt32 :=
((zbk a (wI (0 - b))).bind fun e =>
((zbk a (wI (0 - c))).bind fun f =>
((zbk a (wI (0 - d))).bind fun g => some ((e^^^f)^^^g))))
theorem zjc (a:UInt32) (c:Int) (d:Int) (e:Int) (i:UInt32) (w0:World) (b:zej a c d e=some i) :
  Calls Tryz.prog 119 [u32 a,i64 c,i64 d,i64 e].toArray w0 (fun j s=>j=.returned (u32 i)/\Ext w0 s):=by
 have o:Ext w0 w0:=Ext.refl w0;unfold zej at b;refine zai (n:=23) Tryz.func119 V V V<|W_sr<|av (u32 0) V (cst32 (0:UInt32) V)<|wnt<|W_sr<|mv (u32 a) V V<|mv (i64 c) V V<|wa V (q_negI V V) ?_;obtain ⟨f,p,b⟩:=bsi b;refine wls V V (zab (vs:=[u32 a,i64 (wI (0 - c))]) Tryz.func137 V V V (ar2 V V) (zbn a (wI (0 - c))  f _  p) ?_);rintro _ w ⟨rfl,t⟩;refine ⟨_,rfl,?_⟩;have k:=o.trans t;refine mv (u32 a) V V<|mv (i64 d) V V<|wa V (q_negI V V)<|?_;obtain ⟨g,q,b⟩:=bsi b;refine wls V V (zab (vs:=[u32 a,i64 (wI (0 - d))]) Tryz.func137 V V V (ar2 V V) (zbn a (wI (0 - d))  g _  q) ?_);rintro _ x ⟨rfl,u⟩;refine ⟨_,rfl,?_⟩;have l:=k.trans u;refine wa V (zdy V V V)<|mv (u32 a) V V<|mv (i64 e) V V<|wa V (q_negI V V)<|?_;obtain ⟨h,r,b⟩:=bsi b;refine wls V V (zab (vs:=[u32 a,i64 (wI (0 - e))]) Tryz.func137 V V V (ar2 V V) (zbn a (wI (0 - e))  h _  r) ?_);rintro _ y ⟨rfl,v⟩;refine ⟨_,rfl,?_⟩;have m:=l.trans v;refine wa V (zdy V V V)<|av (u32 ((f^^^g)^^^h)) V V<|wnt<|W_ret<|?_;obtain rfl:=osi b;refine rt1 (u32 ((f^^^g)^^^h)) V V V V ?_;exact ⟨rfl,m⟩
noncomputable def zep (e:List UInt8):Option (List UInt32) :=
((iterC (fun a:List UInt32×Int =>
(if a.2<64 then
(if a.2<16 then
((subL e (wI (4 * a.2)) (e.length:Int)).bind fun f =>
((zeq f).bind fun i =>
((lenA 64 a.1).bind fun n =>
((idx a.1 a.2).bind fun o => some (.inl (a.1.set (a.2:Int).toNat i.1,wI (a.2+1)))))))
else
((lenA 64 a.1).bind fun p =>
((idx a.1 (wI (a.2 - 15))).bind fun b =>
((idx a.1 (wI (a.2 - 2))).bind fun c =>
((lenA 64 a.1).bind fun q =>
((idx a.1 (wI (a.2 - 16))).bind fun g =>
((idx a.1 (wI (a.2 - 7))).bind fun h =>
((zbk b (-7)).bind fun j =>
((zbk b (-18)).bind fun k =>
((zbk c (-17)).bind fun l =>
((zbk c (-19)).bind fun m =>
((idx a.1 a.2).bind fun r => some (.inl (a.1.set (a.2:Int).toNat (((g+h)+((j^^^k)^^^(shr32 b 3)))+((l^^^m)^^^(shr32 c 10))),wI (a.2+1)))))))))))))))
else some (.inr a.1))) (List.replicate 64 (0:UInt32),0)).bind fun d =>
((lenA 64 d).bind fun s =>
((lenA 64 (List.replicate 64 (0:UInt32))).bind fun t =>
((lenA 64 d).bind fun u => some d))))
theorem zb1 (r:List UInt8) (q:Value) (a2:List UInt32) (w0:World) (a0:By w0 [] q r) (h:zep r=some a2) :
  Calls Tryz.prog 117 [q].toArray w0 (fun aE bG=>aE=.returned (ag u32 a2)/\Ext w0 bG):=by
 have P:Ext w0 w0:=Ext.refl w0;unfold zep at h;refine zai (n:=61) Tryz.func117 V V V<|W_sr<|wls V V (sal u32 (List.replicate 64 (0:UInt32)) [] V Z136 ?_);intro g bY w b4 aQ bR;have bH:=zaa aQ;have b5:=Nw.ext P b4;have M:=P.trans bH;refine wnt<|W_sr<|wls V V (sal u32 (List.replicate 64 (0:UInt32)) [bp g] V Z136 ?_);intro i c6 bB a1 aS bU;have a9:=zaa aS;have bD:Nq (bp g) (bp i):=w.nq a1;replace w:=w.ext a9;have b6:=Nw.ext M a1;have aP:=M.trans a9;refine wnt<|W_seq<|W_sr<|mv (i64 0) V V<|wnt<|?_;obtain ⟨bI,aA,h⟩:=bsi h;refine W_mid (fun l p=>l 2=bp g/\l 3=bp i/\l 61=undef/\Ext w0 p/\Blk p g 136 (ac u32 (List.replicate 64 (0:UInt32)))/\Nw w0 (bp g)/\Blk p i 136 (ac u32 bI)/\Nw w0 (bp i)/\Nq (bp g) (bp i)) ?_ ?_
 ·refine zac<|zau (fun d l p=>l 0=q/\l 2=bp g/\l 3=bp i/\l 7=i64 d.2/\l 61=undef/\Ext w0 p/\Blk p g 136 (ac u32 (List.replicate 64 (0:UInt32)))/\Nw w0 (bp g)/\Blk p i 136 (ac u32 d.1)/\Nw w0 (bp i)/\Nq (bp g) (bp i)) aA ?_ ?_
  ·exact ⟨rfl,rfl,rfl,rfl,rfl,aP,w,b5,bB,b6,bD⟩
  rintro d _ _ a8 ⟨F,G,o,y,H,s,f,E,e,t,u⟩ c b2;refine W_sr<|wa V (q_ltI V y V)<|wnt<|W_seq<|wci c V V (fun c=>?_) (fun c=>?_)
  ·refine zae<|W_th<|W_seq<|zac<|W_sr<|mv (i64 d.2) V y<|av (i64 d.2) V V<|wnt<|W_seq<|W_sr<|mv (i64 d.2) V V<|wa V (q_ltI V V V)<|wnt<|wci c V V (fun c=>?_) (fun c=>?_)
   ·refine W_sr<|mv (i64 d.2) V V<|mv q V F<|mv (i64 d.2) V V<|wa V (zco V V V)<|bse c fun aB Q c=>wa V (zdv (a:=wI (4 * d.2)) (b:=(r.length:Int)) V T22 V (a0.lift (le_ s)) V V Q) ?_;obtain ⟨x,aX,c⟩:=bsi c;refine wls V V (zab (vs:=[subV q ((wI (4 * d.2)):Int).toNat ((r.length:Int):Int).toNat]) Tryz.func136 V V V (ar1 V) (word_Get_uint32_calls aB (subV q ((wI (4 * d.2)):Int).toNat ((r.length:Int):Int).toNat) x _ (SlK.cut (L:=[]) (a0.lift (le_ s)) Q) aX) ?_);rintro _ bZ ⟨rfl,I⟩;refine ⟨_,rfl,?_⟩;replace e:=e.ext I;have aF:=s.trans I;refine mv (.tuple #[u32 x.1,.bool x.2]) V V<|wa V (zah V V V)<|wa V (zah V V V)<|?_;obtain ⟨bJ,aU,c⟩:=bsi c;obtain ⟨bK,R,c⟩:=bsi c;refine wa V (q_ixA (m:=0) V A136 (by exact o) V (zad aU) R)<|wln V V (zcz (b:=x.1) [bp g] [] V A136 V V e R (zdo _) ?_);intro c0 b8 N bS;replace f:=(f.ext I).other N u;have aG:=aF.grown N t;refine wnt<|zar<|th_x<|bk_x<|W_th<|W_rg<|wa V (zak V y V)<|mv (i64 (wI (d.2+1))) V V<|zag ?_;obtain rfl:=osi c;exact ⟨_,rfl,F,G,o,rfl,H,aG,f,E,b8,t,u⟩
   refine zae<|W_th<|W_seq<|zba [3,7] [(0,0),(1,0),(2,0),(3,1),(4,0),(5,0),(6,0),(7,1),(8,0),(9,0)] mixed (by kernel_rfl) (by kernel_rfl) (by kernel_rfl) (by kernel_rfl) ?_;have J:=Ext.drew a8;replace e:=e.ext J;have aH:=s.trans J;refine sv (i64 d.2) V V V<|sa V V (za9 V V V)<|?_;obtain ⟨bL,S,c⟩:=bsi c;obtain ⟨j,T,c⟩:=bsi c;refine sa V V (q_ixA (m:=0) V A136 (by exact o) V (zad S) T)<|sq V V (zax (m:=0) V A136 V e (zaf _ _) T)<|sv (i64 d.2) V V V<|sa V V (za9 V V V)<|bse c fun k U c=>sa V V (q_ixA (m:=0) V A136 (by exact o) V (zad S) U)<|sq V V (zax (m:=0) V A136 V e (zaf _ _) U)<|sa V V (zat (v:=u32 j) V V)<|sa V V (zat (v:=u32 k) V V)<|za1<|W_th<|zba [4,8] [(0,0),(1,0),(2,0),(3,0),(4,1),(5,0),(6,0),(7,0),(8,1),(9,0),(10,0),(12,0),(15,0),(16,0),(19,0),(21,0),(24,0),(25,0),(11,2),(13,2),(14,0),(17,0),(18,0),(20,2),(22,2),(23,0),(26,0),(27,0),(28,0),(29,2)] mixed (by kernel_rfl) (by kernel_rfl) (by kernel_rfl) (by kernel_rfl) ?_;have K:=Ext.drew (World.drew a8);replace f:=(f.ext J).ext K;replace e:=e.ext K;have aI:=aH.trans K;refine sv (i64 d.2) V V V<|sv (i64 d.2) V V V<|sa V V (za9 V V V)<|?_;obtain ⟨bM,D,c⟩:=bsi c;obtain ⟨aC,W,c⟩:=bsi c;refine sa V V (q_ixA (m:=0) V A136 (by exact o) V (zad D) W)<|sq V V (zax (m:=0) V A136 V e (zaf _ _) W)<|sv (i64 d.2) V V V<|sa V V (za9 V V V)<|bse c fun aD X c=>sa V V (q_ixA (m:=0) V A136 (by exact o) V (zad D) X)<|sq V V (zax (m:=0) V A136 V e (zaf _ _) X)<|sa V V (zdc V V V)<|sv (u32 j) V V V<|sv (u32 j) V V V<|sv (u32 j) V V V<|sa V V (zhv 3 V V V V)<|sv (u32 k) V V V<|sv (u32 k) V V V ?_
   refine sv (u32 k) V V V<|sa V V (zhv 10 V V V V)<|?_;obtain ⟨a3,aY,c⟩:=bsi c;refine wss V V V (zab (vs:=[u32 j,i64 (-7)]) Tryz.func137 V V V (ar2 V V) (zbn j (-7)  a3 _  aY) ?_);rintro _ c1 ⟨rfl,z⟩;refine ⟨_,rfl,z,?_⟩;have aJ:=aI.trans z;obtain ⟨a4,aZ,c⟩:=bsi c;refine wss V V V (zab (vs:=[u32 j,i64 (-18)]) Tryz.func137 V V V (ar2 V V) (zbn j (-18)  a4 _  aZ) ?_);rintro _ c2 ⟨rfl,A⟩;refine ⟨_,rfl,A,?_⟩;replace f:=(f.ext z).ext A;replace e:=(e.ext z).ext A;have aK:=aJ.trans A;refine sa V V (zdy V V V)<|sa V V (zdy V V V)<|sa V V (zdc V V V)<|?_;obtain ⟨a5,b0,c⟩:=bsi c;refine wss V V V (zab (vs:=[u32 k,i64 (-17)]) Tryz.func137 V V V (ar2 V V) (zbn k (-17)  a5 _  b0) ?_);rintro _ c3 ⟨rfl,B⟩;refine ⟨_,rfl,B,?_⟩;have aL:=aK.trans B;obtain ⟨a6,b1,c⟩:=bsi c;refine wss V V V (zab (vs:=[u32 k,i64 (-19)]) Tryz.func137 V V V (ar2 V V) (zbn k (-19)  a6 _  b1) ?_);rintro _ c4 ⟨rfl,C⟩;refine ⟨_,rfl,C,?_⟩;replace f:=(f.ext B).ext C;replace e:=(e.ext B).ext C;have aM:=aL.trans C;refine sa V V (zdy V V V)<|sa V V (zdy V V V)<|sa V V (zdc V V V)<|bse c fun bN Y c=>sa V V (q_ixA (m:=0) V A136 (by exact o) V (zad D) Y)<|wsn V (by kernel_rfl) V V (zcz (b:=(((aC+aD)+((a3^^^a4)^^^(shr32 j 3)))+((a5^^^a6)^^^(shr32 k 10)))) [bp g] [] V A136 V V e Y (zdo _) ?_);intro c5 bA O bT;replace f:=f.other O u;have aN:=aM.grown O t;refine za1<|bk_n<|W_th<|W_rg<|wa V (zak V y V)<|mv (i64 (wI (d.2+1))) V V<|zag<|?_;obtain rfl:=osi c;exact ⟨_,rfl,F,G,o,rfl,H,aN,f,E,bA,t,u⟩
  refine zar<|th_x<|?_;obtain rfl:=osi c;obtain rfl:=b2 _ rfl;refine th_x<|bk_x<|?_;exact ⟨G,o,H,s,f,E,e,t,u⟩
 rintro _ c7 ⟨a7,bE,bF,aT,b7,b3,b9,bW,bX⟩;refine W_th<|W_sr<|bse h fun bO Z h=>wq V (ziz (m:=0) V A136 (by exact bE) b9 (zaf _ _) (zad Z)) ?_;obtain ⟨bP,aV,h⟩:=bsi h;refine wln V V (zbm [] [bp i] V A136 (by exact a7) V (zad aV) (zad Z) b7 zdo ?_);intro c8 bC aR bV;have aO:=aT.grown aR b3;refine wnt<|W_ret<|?_;obtain ⟨bQ,aW,h⟩:=bsi h;obtain rfl:=osi h;refine rtc1 A136 V V (by exact a7) bC (zad aW) bF ?_;exact ⟨rfl,aO⟩
end Gk

/- A literal of bytes that is a text's: its mark. No condition. -/
namespace Gk
open Go Go.RowKit
end Gk

/- A byte of a text. No condition. -/
namespace Gk
open Go Go.RowKit
variable {P : Program} {o : Oper} {f : Nat → Value}
end Gk

/- Arrays as slices; pointers to arrays that are read. No condition. -/
namespace Gk
open Go Go.RowKit
section
variable {P : Program} {o : Oper} {f : Nat → Value} {w : World} {L : List Value} {t e T : TypeId} {n g : Nat} {l m : List UInt8}
theorem Blk.by (h:Blk w g T (ac u8 l)) (hl:l.length=n):By w [] (.slice (some ⟨g,0,none⟩) n n) l:=by
 refine ⟨l.map u8,⟨some ⟨g,0,none⟩,n,by simp [hl],by simp [hl],fun hn=>⟨g,0,rfl,trivial,fun i hi=>?_⟩⟩,by simp,fun i a1 a2=>by simp [Sc]⟩
 rw [Nat.zero_add,h.cell]
 simp at hi
 simp [ac,hi]
theorem zj5 {x:Operand} (ho:o.op=.slice t x none none none) (A:TyA P t e n) (hx:ev f x=bp g):Qa P o f (.slice (some ⟨g,0,none⟩) n n):=by
 intro w'
 simp [execOp,ho,hx,bp,Instr.sliceAt,run_underlying A.und,Instr.sureAddr,Instr.sliceBounds,A.esz,Addr.add]
theorem stp_copyA {d x:Operand} {z u:Value} {bytes:Nat} {Lu:List Value} (L1 L2:List Value) (ho:o.op=.call ⟨.builtin .copy,#[d,x],#[t,t]⟩) (TT:TyS P t e z bytes) (hd:ev f d=.slice (some ⟨g,0,none⟩) n n) (hx:ev f x=u)
  (h:Blk w g T (ac u8 l)) (hl:l.length=n) (hu:SlK (Sc u8) w Lu u m)
  {K:Value->World->Prop} (hk:∀ w',Blk w' g T (ac u8 (copyL l 0 m))->Gr w w' (bp g)->Lift w w' (L1 ++ bp g :: L2) (L1 ++ bp g :: L2)->K (i64 (min m.length (l.length - (0:Int).toNat):Nat)) w'):Stp P o f w K:=by
 subst hl
 obtain ⟨ns,⟨p,cap,rfl,hcap,hne⟩,hl',he0⟩:=hu
 have hns:ns=m.map u8:=by
  apply List.ext_getElem (by simp [hl'])
  intro i h1 h2
  have:=he0 i h1 (by simpa using h2)
  simpa [Sc] using this
 subst hns
 obtain ⟨i,hi,i1,i2,i3⟩:=info_parts TT.info
 have hsz:(P.info? e).map (·.size)=some 1:=by rw [hi];simp [i2]
 by_cases hz:Nat.min (m.map u8).length l.length=0
 ·have hrun:=run_copy_none (P:=P) w t t o.type e (some ⟨g,0,none⟩) p l.length l.length (m.map u8).length cap TT.sl hsz hz
  rw [List.length_map] at hrun hx
  have hz':min m.length l.length=0:=by simpa using hz
  refine zc5 (v:=goInt 0) (w':=w) (by rw [zby _ ho];simp [builtin,hd,hx,hrun]) ?_
  have hk':=hk w ?_ (Gr.refl w _) (Lift.sub (fun _ h=>h))
  ·have e0:min m.length (l.length - (0:Int).toNat)=0:=by simpa using hz'
   rw [e0] at hk';exact hk'
  ·have:copyL l 0 m=l:=by
    unfold copyL
    simp only [show (0:Int).toNat=0 from rfl,Nat.sub_zero,List.take_zero,List.nil_append,Nat.zero_add,hz',List.drop_zero]
    rcases Nat.eq_zero_or_pos l.length with h3 | h3
    ·rw [h3];simp
    ·have:m.length=0:=by omega
     rw [List.eq_nil_of_length_eq_zero this];simp
   rw [this];exact h
 ·have hpos:0<Nat.min (m.map u8).length l.length:=Nat.pos_of_ne_zero hz
  have hm0:0<(m.map u8).length:=Nat.lt_of_lt_of_le hpos (Nat.min_le_left _ _)
  obtain ⟨b,so,rfl,_,hr⟩:=hne (List.length_pos_iff.1 hm0)
  have hn:((m.map u8).take l.length).length=Nat.min (m.map u8).length l.length:=by simp;exact Nat.min_comm _ _
  have hrun:=run_copy_row (P:=P) w t t o.type e g 0 l.length l.length ⟨b,so,none⟩ (m.map u8).length cap (ac u8 l) T ((m.map u8).take l.length) TT.sl hsz h hn
   (fun j v hj=>by
    obtain ⟨hj',rfl⟩:=List.getElem?_eq_some_iff.1 hj
    rw [zcg,hr j (by have:=hj';simp only [List.length_take] at this;omega)];simp)
   (by rw [hn,zkf,Nat.zero_add];exact Nat.min_le_right _ _)
   (fun a ha=>by
    have:=List.mem_of_mem_take ha
    obtain ⟨c,_,rfl⟩:=List.mem_map.1 this
    rfl)
  generalize hw':w.setRow g ((ac u8 l).toList.take 0 ++ (m.map u8).take l.length ++ (ac u8 l).toList.drop (0+((m.map u8).take l.length).length)).toArray=w' at hrun
  have hgr:Gr w w' (bp g):=Gr.of (by rw [← hw'];exact ⟨rfl,rfl,rfl,by simp,fun j _ hj=>setRow_other w g j _ (fun e=>hj (by rw [e];rfl))⟩)
  rw [List.length_map] at hrun hx
  refine zc5 (v:=goInt ((m.map u8).take l.length).length) (w':=w') (by rw [zby _ ho];simp [builtin,hd,hx,hrun]) ?_
  have hk':=hk w' ?_ hgr (Lift.own L1 L2 hgr (Nx.refl _ _))
  ·have e0:((m.map u8).take l.length).length=min m.length (l.length - (0:Int).toNat):=by
    rw [hn,List.length_map];rfl
   rw [e0];exact hk'
  ·have hb:Blk w' g T ((ac u8 l).toList.take 0 ++ (m.map u8).take l.length ++ (ac u8 l).toList.drop (0+((m.map u8).take l.length).length)).toArray:=by
    rw [← hw'];exact setRow_heap w g _ _ T _ h
   have e1:((ac u8 l).toList.take 0 ++ (m.map u8).take l.length ++ (ac u8 l).toList.drop (0+((m.map u8).take l.length).length)).toArray=ac u8 (copyL l 0 m):=by
    have e2:min l.length m.length=min m.length l.length:=Nat.min_comm _ _
    simp [ac,copyL,List.map_append,List.map_take,List.map_drop,e2]
   rw [e1] at hb;exact hb
theorem nw_asl (h:Nw w (bp g)):Nw w (.slice (some ⟨g,0,none⟩) n n):=fun k hk=>h k (.inl (by
 have h1:=hs_sl hk
 cases n with
 | zero=>simp [oB] at h1
 | succ n=>rw [ze4 (Nat.succ_pos _)] at h1;cases h1;rfl))
def Pa (w:World) (L:List Value) (v:Value) (l:List UInt8):Prop:=∃ a,v=.pointer (some a)/\By w L (.slice (some a) l.length l.length) l
theorem Pa.lift {w w':World} {L L':List Value} {v:Value} (h:Pa w L v l) (g:Lift w w' L L'):Pa w' L' v l:=by
 obtain ⟨a,rfl,hb⟩:=h;exact ⟨a,rfl,hb.lift g⟩
def pix (v:Value) (i:Nat):Value:=match v with | .pointer (some a)=>.pointer (some (a.add i)) | _=>undef
theorem q_nilPa {x:Operand} {v:Value} (ho:o.op=.nilCheck x) (hx:ev f x=v) (h:Pa w L v l):Qa P o f v:=by
 obtain ⟨a,rfl,_⟩:=h
 intro w'
 simp [execOp,ho,hx]
theorem q_ixPa8 {x y:Operand} {v:Value} {i c:UInt8} (ho:o.op=.indexAddr t x y) (A:TyA P t e n) (hx:ev f x=v) (h:Pa w L v l) (hy:ev f y=u8 i) (hl:l.length=n) (hi:idx l (i.toNat:Int)=some c):Qa P o f (pix v (i.toNat:Int).toNat):=by
 obtain ⟨a,rfl,_⟩:=h
 intro w'
 obtain ⟨h0,h1,h2⟩:=zb5.1 hi
 have h3:i.toNat<n:=by simp at h1;omega
 simp [execOp,ho,hx,hy,u8,Instr.indexAt,asIntOf,run_underlying A.und,Instr.sureAddr,h3,A.esz,pix]
theorem q_loadPa {x:Operand} {v:Value} {i:Int} {c:UInt8} {z:Value} {bytes:Nat} (ho:o.op=.load e x) (TT:TyS P t e z bytes) (hx:ev f x=pix v i.toNat) (h:Pa w L v l) (hi:idx l i=some c):Qt P o f w (u8 c):=by
 obtain ⟨a,rfl,hb⟩:=h
 exact zao (v:=.slice (some a) l.length l.length) ho TT hx hb hi
end
end Gk

/- Printed by gen.py: for each Go function a pure function, and that the Go code comes to it. No condition beside the equation that says what the pure function gives. -/
namespace Gk
open Go Go.Proofs
noncomputable def zht (c:List UInt8) (e:Int):Option (List UInt8) :=
((iterC (fun b:List UInt8×Int =>
(if b.2<4 then
((iterC (fun a:List UInt8×Int =>
(if a.2<4 then
((lenA 16 c).bind fun h =>
((idx c (wI ((wI (4 * (andI (wI (a.2+(wI (e * b.2)))) 3)))+b.2))).bind fun f =>
((lenA 16 a.1).bind fun i =>
((idx a.1 (wI ((wI (4 * a.2))+b.2))).bind fun j => some (.inl (a.1.set ((wI ((wI (4 * a.2))+b.2)):Int).toNat f,wI (a.2+1)))))))
else some (.inr a.1))) (b.1,0)).bind fun g => some (.inl (g,wI (b.2+1))))
else some (.inr b.1))) (List.replicate 16 (0:UInt8),0)).bind fun d =>
((lenA 16 d).bind fun k =>
((lenA 16 c).bind fun l => some d)))
theorem cipher_rows_calls (k:List UInt8) (l:Int) (a:Nat) (N:List UInt8) (w0:World) (p:Blk w0 a 152 (ac u8 k)) (h:zht k l=some N) :
  Calls Tryz.prog 144 [bp a,i64 l].toArray w0 (fun Z T=>Z=.returned (.tuple #[])/\ExG [bp a] w0 T/\Blk T a 152 (ac u8 N)):=by
 have z:ExG [bp a] w0 w0:=ExG.refl _ w0;unfold zht at h;refine zai (n:=36) Tryz.func144 V V V<|W_sr<|wls V V (sal u8 (List.replicate 16 (0:UInt8)) [bp a] V Z152 ?_);intro d bA aI H a3 b5;have U:=zaa a3;have aO:Nq (bp a) (bp d):=p.nq H;replace p:=p.ext U;have aF:=NS.ext z H;have a2:=z.trans U;refine wnt<|W_seq<|W_sr<|mv (i64 0) V V<|wnt<|?_;obtain ⟨aY,W,h⟩:=bsi h;refine W_mid (fun c e=>c 0=bp a/\c 4=bp d/\c 36=undef/\ExG [bp a] w0 e/\Blk e a 152 (ac u8 k)/\NS [bp a] w0 (bp a)/\Blk e d 152 (ac u8 aY)/\NS [bp a] w0 (bp d)/\Nq (bp a) (bp d)) ?_ ?_
 ·refine zac<|zau (fun g c e=>c 0=bp a/\c 1=i64 l/\c 4=bp d/\c 7=i64 g.2/\c 36=undef/\ExG [bp a] w0 e/\Blk e a 152 (ac u8 k)/\NS [bp a] w0 (bp a)/\Blk e d 152 (ac u8 g.1)/\NS [bp a] w0 (bp d)/\Nq (bp a) (bp d)) W ?_ ?_
  ·exact ⟨rfl,rfl,rfl,rfl,rfl,a2,p,NS.own,aI,aF,aO⟩
  rintro g _ _ bF ⟨O,aS,R,x,P,A,J,F,K,I,M⟩ j aA;refine W_sr<|wa V (q_ltI V x V)<|wnt<|W_seq<|wci j V V (fun j=>?_) (fun j=>?_)
  ·refine zae<|W_th<|W_seq<|zac<|W_sr<|mv (i64 g.2) V x<|av (i64 g.2) V V<|wnt<|W_sr<|mv (i64 0) V V<|wnt<|?_;obtain ⟨aZ,X,j⟩:=bsi j;refine W_mid (fun c e=>c 0=bp a/\c 1=i64 l/\c 4=bp d/\c 7=i64 g.2/\c 36=undef/\ExG [bp a] w0 e/\Blk e a 152 (ac u8 k)/\NS [bp a] w0 (bp a)/\Blk e d 152 (ac u8 aZ)/\NS [bp a] w0 (bp d)/\Nq (bp a) (bp d)) ?_ ?_
   ·refine zac<|zau (fun i c e=>c 0=bp a/\c 1=i64 l/\c 4=bp d/\c 5=i64 g.2/\c 7=i64 g.2/\c 10=i64 i.2/\c 36=undef/\ExG [bp a] w0 e/\Blk e a 152 (ac u8 k)/\NS [bp a] w0 (bp a)/\Blk e d 152 (ac u8 i.1)/\NS [bp a] w0 (bp d)/\Nq (bp a) (bp d)) X ?_ ?_
    ·exact ⟨O,aS,R,rfl,x,rfl,P,A,J,F,K,I,M⟩
    rintro i _ _ bG ⟨t,v,w,q,S,u,Q,B,o,G,L,r,s⟩ f aB;refine W_sr<|wa V (q_ltI V u V)<|wnt<|W_seq<|wci f V V (fun f=>?_) (fun f=>?_)
    ·refine zae<|W_th<|W_seq<|zac<|W_sr<|mv (i64 i.2) V u<|av (i64 i.2) V V<|?_;refine wnt<|W_rg<|mv (i64 i.2) V V<|wa V (zco V V V)<|mv (i64 g.2) V q<|wa V (zak V V V)<|mv (bp a) V t<|mv (i64 i.2) V V<|?_;refine mv (i64 l) V v<|mv (i64 g.2) V q<|wa V (zco V V V)<|wa V (zak V V V)<|wa V (q_andI V V V)<|wa V (zco V V V)<|mv (i64 g.2) V q<|wa V (zak V V V)<|wa V (zbl V V) ?_;obtain ⟨b0,a7,f⟩:=bsi f;obtain ⟨Y,C,f⟩:=bsi f;refine wa V (q_ixA (m:=0) V A152 V V (zad a7) C)<|wq V (zax (m:=0) V A152 V o (zaf _ _) C)<|?_;obtain ⟨b1,a8,f⟩:=bsi f;obtain ⟨b2,D,f⟩:=bsi f;refine wa V (q_ixA (m:=0) V A152 (by exact w) V (zad a8) D)<|wln V V (zcz (b:=Y) [bp a] [] V A152 V V L D (zio _) ?_);intro bB aJ y b6;replace o:=o.other y s;have a0:=B.grown y r;refine zag<|bk_n<|W_th<|W_rg<|wa V (zak V u V)<|mv (i64 (wI (i.2+1))) V V<|zag<|?_;obtain rfl:=osi f;exact ⟨_,rfl,t,v,w,q,S,rfl,Q,a0,o,G,aJ,r,s⟩
    refine zar<|th_x<|?_;obtain rfl:=osi f;obtain rfl:=aB _ rfl;refine th_x<|bk_x<|?_;exact ⟨t,v,w,S,Q,B,o,G,L,r,s⟩
   rintro _ bC ⟨aP,aR,aV,aX,aT,a5,aG,aC,aK,aE,aN⟩;refine bk_n<|W_th<|W_rg<|wa V (zak V aX V)<|mv (i64 (wI (g.2+1))) V V<|zag<|?_;obtain rfl:=osi j;exact ⟨_,rfl,aP,aR,aV,rfl,aT,a5,aG,aC,aK,aE,aN⟩
  refine zar<|th_x<|?_;obtain rfl:=osi j;obtain rfl:=aA _ rfl;refine th_x<|bk_x<|?_;exact ⟨O,R,P,A,J,F,K,I,M⟩
 rintro _ bD ⟨aQ,aW,aU,a6,aH,aD,aL,b8,b9⟩;refine W_th<|W_rg<|mv (bp a) V aQ<|bse h fun b3 E h=>wq V (ziz (m:=0) V A152 (by exact aW) aL (zaf _ _) (zad E))<|wa V (zbl V V)<|?_;obtain ⟨b4,a9,h⟩:=bsi h;refine wln V V (zbm [] [bp d] V A152 V V (zad a9) (zad E) aH zio ?_);intro bE aM a4 b7;have a1:=a6.grown a4 aD;refine zag<|rtn ?_;obtain rfl:=osi h;refine rt0 V aU ?_;exact ⟨rfl,a1,aM⟩
noncomputable def ze1 (d:List UInt8) (g:Bool) (e:List UInt8):Option (List UInt8) :=
((iterC (fun b:List UInt8×Int =>
(if b.2<4 then
((iterC (fun c:List UInt8×Int =>
(if c.2<4 then
((iterC (fun a:List UInt8×Int =>
(if a.2<4 then
((lenA 16 a.1).bind fun n =>
((idx a.1 (wI ((wI (4 * b.2))+c.2))).bind fun h =>
((lenA 4 e).bind fun o =>
((idx e (andI (wI (c.2 - a.2)) 3)).bind fun i =>
((lenA 16 d).bind fun p =>
((idx d (wI ((wI (4 * b.2))+a.2))).bind fun j =>
((zcj g i j).bind fun k => some (.inl (a.1.set ((wI ((wI (4 * b.2))+c.2)):Int).toNat (h^^^k),wI (a.2+1))))))))))
else some (.inr a.1))) (c.1,0)).bind fun m => some (.inl (m,wI (c.2+1))))
else some (.inr c.1))) (b.1,0)).bind fun l => some (.inl (l,wI (b.2+1))))
else some (.inr b.1))) (List.replicate 16 (0:UInt8),0)).bind fun f =>
((lenA 16 f).bind fun q =>
((lenA 16 d).bind fun r => some f)))
theorem cipher_columns_calls (q:List UInt8) (D:Bool) (k:List UInt8) (a:Nat) (j:Value) (aM:List UInt8) (w0:World) (u:Blk w0 a 152 (ac u8 q)) (bK:Fd w0 [bp a] j D) (p:ze1 q D k=some aM) :
  Calls Tryz.prog 146 [bp a,j,ag u8 k].toArray w0 (fun b6 b0=>b6=.returned (.tuple #[])/\ExG [bp a] w0 b0/\Blk b0 a 152 (ac u8 aM)):=by
 have W:ExG [bp a] w0 w0:=ExG.refl _ w0;unfold ze1 at p;refine zai (n:=49) Tryz.func146 V V V<|W_sr<|wls V V (zb9 (v:=ag u8 k) (cs:=ac u8 k) [bp a] V V V ?_);intro e dL z a7 bB dF;have b1:=zaa bB;have cJ:Nq (bp a) (bp e):=u.nq a7;replace u:=u.ext b1;have bX:=NS.ext W a7;have U:=W.trans b1;refine wnt<|W_sr<|wls V V (sal u8 (List.replicate 16 (0:UInt8)) [bp e,bp a] V Z152 ?_);intro d dU cA G bD dI;have Q:=zaa bD;have cK:Nq (bp e) (bp d):=z.nq G;have cL:Nq (bp a) (bp d):=u.nq G;replace z:=z.ext Q;replace u:=u.ext Q;have bY:=NS.ext U G;have bA:=U.trans Q;refine wnt<|W_seq<|W_sr<|mv (i64 0) V V<|wnt<|?_;obtain ⟨d7,b2,p⟩:=bsi p;refine W_mid (fun c f=>c 0=bp a/\c 6=bp d/\c 49=undef/\ExG [bp a] w0 f/\Blk f a 152 (ac u8 q)/\NS [bp a] w0 (bp a)/\Blk f d 152 (ac u8 d7)/\NS [bp a] w0 (bp d)/\Nq (bp a) (bp d)) ?_ ?_
 ·refine zac<|zau (fun h c f=>c 0=bp a/\c 1=j/\c 5=bp e/\c 6=bp d/\c 10=i64 h.2/\c 49=undef/\ExG [bp a] w0 f/\Blk f a 152 (ac u8 q)/\NS [bp a] w0 (bp a)/\Blk f e 173 (ac u8 k)/\NS [bp a] w0 (bp e)/\Blk f d 152 (ac u8 h.1)/\NS [bp a] w0 (bp d)/\Nq (bp a) (bp e)/\Nq (bp a) (bp d)/\Nq (bp e) (bp d)) b2 ?_ ?_
  ·exact ⟨rfl,rfl,rfl,rfl,rfl,rfl,bA,u,NS.own,z,bX,cA,bY,cJ,cL,cK⟩
  rintro h _ _ dM ⟨aO,cS,cY,aY,K,aU,X,aC,a4,c2,bS,aF,aA,cB,aJ,cG⟩ s bL;refine W_sr<|wa V (q_ltI V K V)<|wnt<|W_seq<|wci s V V (fun s=>?_) (fun s=>?_)
  ·refine zae<|W_th<|W_seq<|zac<|W_sr<|mv (i64 h.2) V K<|av (i64 h.2) V V<|wnt<|W_sr<|mv (i64 0) V V<|wnt<|?_;obtain ⟨d8,b3,s⟩:=bsi s;refine W_mid (fun c f=>c 0=bp a/\c 1=j/\c 5=bp e/\c 6=bp d/\c 10=i64 h.2/\c 49=undef/\ExG [bp a] w0 f/\Blk f a 152 (ac u8 q)/\NS [bp a] w0 (bp a)/\Blk f e 173 (ac u8 k)/\NS [bp a] w0 (bp e)/\Blk f d 152 (ac u8 d8)/\NS [bp a] w0 (bp d)/\Nq (bp a) (bp e)/\Nq (bp a) (bp d)/\Nq (bp e) (bp d)) ?_ ?_
   ·refine zac<|zau (fun i c f=>c 0=bp a/\c 1=j/\c 5=bp e/\c 6=bp d/\c 7=i64 h.2/\c 10=i64 h.2/\c 13=i64 i.2/\c 49=undef/\ExG [bp a] w0 f/\Blk f a 152 (ac u8 q)/\NS [bp a] w0 (bp a)/\Blk f e 173 (ac u8 k)/\NS [bp a] w0 (bp e)/\Blk f d 152 (ac u8 i.1)/\NS [bp a] w0 (bp d)/\Nq (bp a) (bp e)/\Nq (bp a) (bp d)/\Nq (bp e) (bp d)) b3 ?_ ?_
    ·exact ⟨aO,cS,cY,aY,rfl,K,rfl,aU,X,aC,a4,c2,bS,aF,aA,cB,aJ,cG⟩
    rintro i _ _ dN ⟨aP,aT,aX,aZ,d4,aQ,L,aV,Y,aD,a5,aE,a8,aG,aB,aH,aK,aL⟩ t bM;refine W_sr<|wa V (q_ltI V L V)<|wnt<|W_seq<|wci t V V (fun t=>?_) (fun t=>?_)
    ·refine zae<|W_th<|W_seq<|zac<|W_sr<|mv (i64 i.2) V L<|av (i64 i.2) V V<|wnt<|W_sr<|mv (i64 0) V V<|wnt<|?_;obtain ⟨d9,b4,t⟩:=bsi t;refine W_mid (fun c f=>c 0=bp a/\c 1=j/\c 5=bp e/\c 6=bp d/\c 7=i64 h.2/\c 10=i64 h.2/\c 13=i64 i.2/\c 49=undef/\ExG [bp a] w0 f/\Blk f a 152 (ac u8 q)/\NS [bp a] w0 (bp a)/\Blk f e 173 (ac u8 k)/\NS [bp a] w0 (bp e)/\Blk f d 152 (ac u8 d9)/\NS [bp a] w0 (bp d)/\Nq (bp a) (bp e)/\Nq (bp a) (bp d)/\Nq (bp e) (bp d)) ?_ ?_
     ·refine zac<|zau (fun r c f=>c 0=bp a/\c 1=j/\c 5=bp e/\c 6=bp d/\c 7=i64 h.2/\c 8=i64 i.2/\c 10=i64 h.2/\c 13=i64 i.2/\c 16=i64 r.2/\c 49=undef/\ExG [bp a] w0 f/\Blk f a 152 (ac u8 q)/\NS [bp a] w0 (bp a)/\Blk f e 173 (ac u8 k)/\NS [bp a] w0 (bp e)/\Blk f d 152 (ac u8 r.1)/\NS [bp a] w0 (bp d)/\Nq (bp a) (bp e)/\Nq (bp a) (bp d)/\Nq (bp e) (bp d)) b4 ?_ ?_
      ·exact ⟨aP,aT,aX,aZ,d4,rfl,aQ,L,rfl,aV,Y,aD,a5,aE,a8,aG,aB,aH,aK,aL⟩
      rintro r _ _ d6 ⟨J,N,O,A,B,P,aR,aS,M,aW,Z,l,a6,o,a9,w,F,aI,H,I⟩ g bN;refine W_sr<|wa V (q_ltI V M V)<|wnt<|W_seq<|wci g V V (fun g=>?_) (fun g=>?_)
      ·refine zae<|W_th<|W_seq<|zac<|W_sr<|mv (i64 r.2) V M<|av (i64 r.2) V V<|wnt<|zba [5,12,20] [(0,0),(1,0),(2,0),(3,0),(4,0),(5,1),(6,0),(7,0),(8,0),(9,0),(10,0),(11,0),(12,1),(13,0),(14,0),(15,0),(16,0),(17,0),(18,0),(19,0),(20,1),(21,2),(22,0),(23,0),(24,2)] mixed (by kernel_rfl) (by kernel_rfl) (by kernel_rfl) (by kernel_rfl) ?_;have C:=Ext.drew d6;replace l:=l.ext C;replace o:=o.ext C;replace w:=w.ext C;have T:=Z.trans C;refine sv (i64 h.2) V V B<|sa V V (zco V V V)<|sv (i64 i.2) V V P<|sa V V (zak V V V)<|?_;obtain ⟨dA,a0,g⟩:=bsi g;obtain ⟨b5,y,g⟩:=bsi g;refine sa V V (q_ixA (m:=0) V A152 (by exact A) V (zad a0) y)<|sq V V (zax (m:=0) V A152 V w (zaf _ _) y)<|sv j V V N<|sv (i64 i.2) V V P<|sv (i64 r.2) V V V<|sa V V (za9 V V V)<|sa V V (q_andI V V V)<|?_;obtain ⟨dB,bH,g⟩:=bsi g;obtain ⟨R,a1,g⟩:=bsi g;refine sa V V (q_ixA (m:=0) V A173 (by exact O) V (zad bH) a1)<|sq V V (zax (m:=0) V A173 V o (zaf _ _) a1)<|sv (bp a) V V J<|sv (i64 h.2) V V B<|sa V V (zco V V V)<|sv (i64 r.2) V V V<|sa V V (zak V V V)<|sa V V (zbl V V)<|?_;obtain ⟨dC,bI,g⟩:=bsi g;obtain ⟨S,a2,g⟩:=bsi g;refine sa V V (q_ixA (m:=0) V A152 V V (zad bI) a2)<|sq V V (zax (m:=0) V A152 V l (zaf _ _) a2)<|?_;obtain ⟨aN,bO,g⟩:=bsi g;refine wss V V V (zab (vs:=[j,u8 R,u8 S]) Tryz.func98 V V V (ar3 V V V) (zcr D R S j aN _ (bK.lift (Lift.exg0 T)) bO) ?_);rintro _ dO ⟨rfl,x⟩;refine ⟨_,rfl,x,?_⟩;replace l:=l.ext x;replace o:=o.ext x;replace w:=w.ext x;have b7:=T.trans x;refine sa V V (zdb V V V)<|sa V V (q_ixA (m:=0) V A152 (by exact A) V (zad a0) y)<|?_
       refine wsn V (by kernel_rfl) V V (zcz (b:=(b5^^^aN)) [bp a,bp e] [] V A152 V V w y (zio _) ?_);intro dP c6 E dG;replace l:=l.other E H;replace o:=o.other E I;have b8:=b7.grown E F;refine za1<|bk_n<|W_th<|W_rg<|wa V (zak V M V)<|mv (i64 (wI (r.2+1))) V V<|zag<|?_;obtain rfl:=osi g;exact ⟨_,rfl,J,N,O,A,B,P,aR,aS,rfl,aW,b8,l,a6,o,a9,c6,F,aI,H,I⟩
      refine zar<|th_x<|?_;obtain rfl:=osi g;obtain rfl:=bN _ rfl;refine th_x<|bk_x<|?_;exact ⟨J,N,O,A,B,aR,aS,aW,Z,l,a6,o,a9,w,F,aI,H,I⟩
     rintro _ dQ ⟨cM,cT,cZ,d1,d5,cP,cR,cV,bE,bZ,bP,c3,bT,c7,bV,cC,cE,cH⟩;refine bk_n<|W_th<|W_rg<|wa V (zak V cR V)<|mv (i64 (wI (i.2+1))) V V<|zag<|?_;obtain rfl:=osi t;exact ⟨_,rfl,cM,cT,cZ,d1,d5,cP,rfl,cV,bE,bZ,bP,c3,bT,c7,bV,cC,cE,cH⟩
    refine zar<|th_x<|?_;obtain rfl:=osi t;obtain rfl:=bM _ rfl;refine th_x<|bk_x<|?_;exact ⟨aP,aT,aX,aZ,aQ,aV,Y,aD,a5,aE,a8,aG,aB,aH,aK,aL⟩
   rintro _ dR ⟨cN,cU,d0,d2,cQ,cW,bF,c0,bQ,c4,bU,c8,bW,cD,cF,cI⟩;refine bk_n<|W_th<|W_rg<|wa V (zak V cQ V)<|mv (i64 (wI (h.2+1))) V V<|zag<|?_;obtain rfl:=osi s;exact ⟨_,rfl,cN,cU,d0,d2,rfl,cW,bF,c0,bQ,c4,bU,c8,bW,cD,cF,cI⟩
  refine zar<|th_x<|?_;obtain rfl:=osi s;obtain rfl:=bL _ rfl;refine th_x<|bk_x<|?_;exact ⟨aO,aY,aU,X,aC,a4,aF,aA,aJ⟩
 rintro _ dS ⟨cO,d3,cX,bG,c1,bR,c5,dJ,dK⟩;refine W_th<|W_rg<|mv (bp a) V cO<|bse p fun dD a3 p=>wq V (ziz (m:=0) V A152 (by exact d3) c5 (zaf _ _) (zad a3))<|wa V (zbl V V)<|?_;obtain ⟨dE,bJ,p⟩:=bsi p;refine wln V V (zbm [] [bp d] V A152 V V (zad bJ) (zad a3) c1 zio ?_);intro dT c9 bC dH;have b9:=bG.grown bC bR;refine zag<|rtn ?_;obtain rfl:=osi p;refine rt0 V cX ?_;exact ⟨rfl,b9,c9⟩
noncomputable def zdn (c:List UInt8) (b:List UInt8):Option (List UInt8) :=
((zaj b).bind fun f =>
((iterC (fun a:List UInt8×Int =>
(if a.2<(b.length:Int) then
((idx b a.2).bind fun d =>
((lenA 256 c).bind fun i =>
((idx c (d.toNat:Int)).bind fun e =>
((idx a.1 a.2).bind fun h => some (.inl (a.1.set (a.2:Int).toNat e,wI (a.2+1)))))))
else some (.inr a.1))) (f,0)).bind fun g => some g))
theorem zez (t:List UInt8) (i:List UInt8) (k:Value) (e:Value) (B:List UInt8) (w0:World) (o:Pa w0 [] k t) (j:By w0 [] e i) (g:zdn t i=some B) :
  Calls Tryz.prog 112 [k,e].toArray w0 (fun J H=>∃ s:Value,J=.returned s/\Ext w0 H/\Nw w0 s/\OwK (Sc u8) H [] 5 s B):=by
 have m:Ext w0 w0:=Ext.refl w0;unfold zdn at g;refine zai (n:=27) Tryz.func112 V V V<|W_sr<|av (.slice none 0 0) V V<|wnt<|W_sr<|mv e V V<|?_;obtain ⟨C,O,g⟩:=bsi g;refine wls V V (zab (vs:=[e]) Tryz.func59 V V V (ar1 V) (zap i e C _ (j.lift (le_ m)) O) ?_);rintro _ a1 ⟨a,rfl,a2,S,Y⟩;refine ⟨_,rfl,?_⟩;have W:OwK (Sc u8) a1 (a::[]) 5 a C:=OwK.scal Y _;have T:=Nw.ext m S;have x:=m.trans a2;refine av a V V<|wnt<|W_seq<|W_sr<|mv e V V<|wa V (q_len V T22.sl V (j.lift (le_ x)))<|mv (i64 0) V V<|wnt ?_;obtain ⟨a3,I,g⟩:=bsi g;refine W_mid (fun c h=>c 5=a/\c 27=undef/\Ext w0 h/\OwK (Sc u8) h [a] 5 a a3/\Nw w0 a) ?_ ?_
 ·refine zac<|zau (fun f c h=>c 0=k/\c 5=a/\c 10=e/\c 11=i64 (i.length:Int)/\c 12=i64 f.2/\c 27=undef/\Ext w0 h/\OwK (Sc u8) h [a] 5 a f.1/\Nw w0 a) I ?_ ?_
  ·exact ⟨rfl,rfl,rfl,rfl,rfl,rfl,x,W,T⟩
  rintro f _ _ a9 ⟨D,r,E,F,l,G,d,q,p⟩ b P;refine W_sr<|wa V (q_ltI V l F)<|wnt<|W_seq<|wci b V V (fun b=>?_) (fun b=>?_)
  ·refine zae<|W_th<|W_seq<|zac<|W_sr<|mv (i64 f.2) V l<|bse b fun v z b=>wa V (q_adr V T22 E l (j.lift (le_ d)) z)<|wq V (zao V T22 V (j.lift (le_ d)) z)<|av (i64 f.2) V V<|av (u8 v) V V<|wnt<|W_rg<|mv a V r<|mv (i64 f.2) V V<|?_;refine mv k V D<|mv (u8 v) V V<|wa V (q_nilPa V V (o.lift (le_ d)))<|?_;obtain ⟨a5,N,b⟩:=bsi b;obtain ⟨w,A,b⟩:=bsi b;refine wa V (q_ixPa8 V A144 V (o.lift (le_ d)) V (zad N) A)<|wq V (q_loadPa V T22 V (o.lift (le_ d)) A)<|bse b fun a4 y b=>wa V (q_adr V T22 V V (q.rd (Sc.stab _)) y)<|wln V V (zci (R:=Sc u8) (u:=u8 w) (Sc.stab _) [] [] V T22 V V q (zf6 w y) V V ?_);intro a7 X L a6;have K:=d.grown L p;refine zag<|bk_n<|W_th<|W_rg<|wa V (zak V l V)<|mv (i64 (wI (f.2+1))) V V<|zag<|?_;obtain rfl:=osi b;exact ⟨_,rfl,D,r,E,F,rfl,G,K,X,p⟩
  refine zar<|th_x<|?_;obtain rfl:=osi b;obtain rfl:=P _ rfl;refine th_x<|bk_x<|?_;exact ⟨r,G,d,q,p⟩
 rintro _ a8 ⟨a0,Z,M,U,Q⟩;refine W_th<|W_sr<|mv a V a0<|av a V V<|wnt<|W_ret<|?_;obtain rfl:=osi g;refine rt1 a V V V Z ?_;exact ⟨a,rfl,M,Q,U.weak (Sc.stab _) (fun _ _=>trivial)⟩
noncomputable def zgb (a:List UInt8) (b:List UInt8):Option (List UInt8) :=
((lenA 16 a).bind fun d =>
((lenA 16 b).bind fun e =>
((zeh a b).bind fun c => some (copyL a 0 c))))
theorem zg4 (g:List UInt8) (d:List UInt8) (a:Nat) (l:List UInt8) (w0:World) (c:Blk w0 a 152 (ac u8 g)) (b:zgb g d=some l) :
  Calls Tryz.prog 142 [bp a,ag u8 d].toArray w0 (fun r o=>r=.returned (.tuple #[])/\ExG [bp a] w0 o/\Blk o a 152 (ac u8 l)):=by
 have B:ExG [bp a] w0 w0:=ExG.refl _ w0;unfold zgb at b;refine zai (n:=13) Tryz.func142 V V V<|W_sr<|wls V V (zb9 (v:=ag u8 d) (cs:=ac u8 d) [bp a] V V V ?_);intro e J f P z N;have p:=zaa z;have w:=B.trans p;refine wnt<|zba [] [(0,0),(1,0),(2,0),(3,0),(4,0),(5,0),(6,0),(7,2),(8,2)] mixed (by kernel_rfl) (by kernel_rfl) (by kernel_rfl) (by kernel_rfl) ?_;have i:=Ext.drew J;replace f:=f.ext i;replace c:=(c.ext p).ext i;have x:=w.trans i;refine sv (bp a) V V V<|sa V V (zbl V V)<|bse b fun L j b=>sa V V (zj5 V A152 V)<|sv (bp a) V V V<|sa V V (zbl V V)<|sa V V (zj5 V A152 V)<|bse b fun M C b=>sa V V (zj5 V A152 V) ?_;obtain ⟨m,E,b⟩:=bsi b;refine wsc V (by kernel_rfl) V V (zab (vs:=[.slice (some ⟨a,0,none⟩) 16 16,.slice (some ⟨e,0,none⟩) 16 16]) Tryz.func56 V V V (ar2 V V) (zed g d (.slice (some ⟨a,0,none⟩) 16 16) (.slice (some ⟨e,0,none⟩) 16 16) m _ (Blk.by c (zad j)) (Blk.by f (zad C)) E) ?_);rintro _ K ⟨h,rfl,q,G,I⟩;refine ⟨_,rfl,?_⟩;have F:By K [bp e,bp a] h m:=OwK.slk (Sc.stab _) _ (OwK.scal I (h::[bp e,bp a])) (fun k D=>(Old.cons (Old.cons (Old.nil _) c.ltB) f.ltB) k (G k D)) (fun _ A=>A.2);replace c:=c.ext q;have s:=x.trans q;refine wsc V (by kernel_rfl) V V (stp_copyA (u:=h) [bp e] [] V T22 V V c (zad j) F ?_);intro Q H y O;have t:=s.grown y NS.own;refine za1<|rtn ?_;obtain rfl:=osi b;refine rt0 V V ?_;exact ⟨rfl,t,H⟩
noncomputable def zjd (a:List UInt8) (b:List UInt8):Option (List UInt8) :=
((lenA 16 a).bind fun d =>
((zdn b a).bind fun c => some (copyL a 0 c)))
theorem cipher_box_calls (e:List UInt8) (f:List UInt8) (a:Nat) (d:Value) (k:List UInt8) (w0:World) (b:Blk w0 a 152 (ac u8 e)) (y:Pa w0 [bp a] d f) (c:zjd e f=some k) :
  Calls Tryz.prog 143 [bp a,d].toArray w0 (fun q m=>q=.returned (.tuple #[])/\ExG [bp a] w0 m/\Blk m a 152 (ac u8 k)):=by
 have w:ExG [bp a] w0 w0:=ExG.refl _ w0;unfold zjd at c;refine zai (n:=13) Tryz.func143 V V V<|zba [] [(0,0),(1,0),(2,0),(3,0),(4,0),(5,0),(6,0),(7,2),(8,2)] mixed (by kernel_rfl) (by kernel_rfl) (by kernel_rfl) (by kernel_rfl) ?_;have o:=Ext.drew w0;replace b:=b.ext o;have h:=w.trans o;refine sv (bp a) V V V<|sa V V (zbl V V)<|bse c fun F i c=>sa V V (zj5 V A152 V)<|sv d V V V<|sv (bp a) V V V<|sa V V (zbl V V)<|sa V V (zj5 V A152 V)<|?_;obtain ⟨l,z,c⟩:=bsi c;refine wsc V (by kernel_rfl) V V (zab (vs:=[d,.slice (some ⟨a,0,none⟩) 16 16]) Tryz.func112 V V V (ar2 V V) (zez f e d (.slice (some ⟨a,0,none⟩) 16 16) l _ (y.lift (Lift.exg0 h)) (Blk.by b (zad i)) z) ?_);rintro _ E ⟨g,rfl,p,B,C⟩;refine ⟨_,rfl,?_⟩;have A:By E [bp a] g l:=OwK.slk (Sc.stab _) _ (OwK.scal C (g::[bp a])) (fun j x=>(Old.cons (Old.nil _) b.ltB) j (B j x)) (fun _ v=>v.2);replace b:=b.ext p;have r:=h.trans p;refine wsc V (by kernel_rfl) V V (stp_copyA (u:=g) [] [] V T22 V V b (zad i) A ?_);intro H D t G;have s:=r.grown t NS.own;refine za1<|rtn ?_;obtain rfl:=osi c;refine rt0 V V ?_;exact ⟨rfl,s,D⟩
end Gk

/- Slices of arrays of sixteen bytes, read and owned. No condition. -/
namespace Gk
open Go Go.RowKit
theorem Tn.low {B k:Nat} {w w':World} {o:Obj} (h:Tn B w w') (ho:w.heap[k]?=some o) (hk:k<B):w'.heap[k]?=some o:=by
 obtain ⟨row,hg,hr⟩:=h
 exact (hg.block k (zbp ho) (fun e=>by have:=(hr k e.symm).1;omega)).trans ho
def L16 (l:List (List UInt8)):Prop:=∀ x∈l,x.length=16
theorem L16.nil:L16 []:=fun x h=>by cases h
theorem L16.tail {x:List UInt8} {l:List (List UInt8)} (h:L16 (x :: l)):L16 l:=fun y hy=>h y (List.mem_cons_of_mem _ hy)
theorem L16.app {l m:List (List UInt8)} (h:L16 l) (k:L16 m):L16 (l ++ m):=fun y hy=>(List.mem_append.1 hy).elim (h y) (k y)
theorem L16.flat:∀ {l:List (List UInt8)},L16 l->l.flatten.length=16 * l.length
 | [],_=>rfl
 | x :: l,h=>by
  have:=L16.flat h.tail
  have h1:=h x (List.mem_cons_self ..)
  simp only [List.flatten_cons,List.length_append,List.length_cons];omega
theorem L16.cut:∀ {l:List (List UInt8)},L16 l->∀ (a b:Nat),(l.flatten.take (16 * b)).drop (16 * a)=((l.take b).drop a).flatten
 | [],_,a,b=>by simp
 | x :: l,h,a,0=>by simp
 | x :: l,h,0,b+1=>by
  have h1:=h x (List.mem_cons_self ..)
  have ih:=L16.cut h.tail 0 b
  simp only [Nat.mul_zero,List.drop_zero] at ih ⊢
  rw [List.flatten_cons,List.take_append,List.take_of_length_le (by omega),show 16 * (b+1) - x.length=16 * b by omega,ih]
  simp
 | x :: l,h,a+1,b+1=>by
  have h1:=h x (List.mem_cons_self ..)
  have ih:=L16.cut h.tail a b
  rw [List.flatten_cons,List.take_append,List.take_of_length_le (by omega),show 16 * (b+1) - x.length=16 * b by omega,List.drop_append,List.drop_of_length_le (by omega),show 16 * (a+1) - x.length=16 * a by omega,ih]
  simp
theorem L16.at {l:List (List UInt8)} (h:L16 l) {i:Nat} (hi:i<l.length):(l.flatten.take (16 * (i+1))).drop (16 * i)=l[i]:=by
 rw [h.cut i (i+1),List.take_add_one,List.drop_append,List.drop_of_length_le (by simp;omega)]
 simp [hi,Nat.min_eq_left (Nat.le_of_lt hi)]
structure TyK (P:Program) (t e b:TypeId):Prop where
 sl:P.underlying t=some (.slice e)
 arr:TyA P e b 16
 info:(P.info? e).map (fun i=>(i.zero,i.size,i.bytes))=some (some (ag u8 (List.replicate 16 (0:UInt8))),16,16)
def Ka (w:World) (L:List Value) (v:Value) (l:List (List UInt8)):Prop :=
 L16 l/\∃ p cap,v=.slice p l.length cap/\l.length<=cap/\By w L (.slice p (16 * l.length) (16 * cap)) l.flatten
theorem Ka.lift {w w':World} {L L':List Value} {v:Value} {l:List (List UInt8)} (h:Ka w L v l) (g:Lift w w' L L'):Ka w' L' v l:=by
 obtain ⟨h1,p,cap,hv,hc,hb⟩:=h
 exact ⟨h1,p,cap,hv,hc,hb.lift g⟩
theorem Ka.oc {w:World} {L:List Value} {v:Value} {l:List (List UInt8)} (h:Ka w L v l):v.oneCell'=true:=by
 obtain ⟨_,p,cap,rfl,_⟩:=h;rfl
def adk (v:Value) (i:Nat):Value:=match v with | .slice (some a) _ _=>.pointer (some (a.add (i * 16))) | _=>undef
def subK (v:Value) (lo hi:Nat):Value:=match v with | .slice a _ cap=>.slice (if cap=lo then a else a.map (·.add (lo * 16))) (hi - lo) (cap - lo) | v=>v
section
variable {P : Program} {o : Oper} {f : Nat → Value} {w : World} {L : List Value} {t e b : TypeId} {v : Value} {l m : List (List UInt8)} {x y : Operand} {i : Int} {a : List UInt8}
theorem q_lenK (ho:o.op=.call ⟨.builtin .len,#[x],#[t]⟩) (ht:P.underlying t=some (.slice e)) (hx:ev f x=v) (h:Ka w L v l):Qa P o f (i64 (l.length:Int)):=by
 obtain ⟨_,p,cap,rfl,_⟩:=h
 intro w'
 rw [zby _ ho]
 simp [builtin,Builtin.len_,run_underlying ht,hx,goInt,i64]
theorem By.cell {p:Option Addr} {n cap:Nat} {d:List UInt8} (h:By w L (.slice p n cap) d) (h0:0<n):∃ g off,p=some ⟨g,off,none⟩/\Av L g/\∀ j u,(d.map u8)[j]?=some u->w.cell? ⟨g,off+j,none⟩=some u:=by
 obtain ⟨us,⟨p',cap',hv,hc,hne⟩,hl,he⟩:=h
 cases hv
 obtain ⟨g,off,rfl,ha,hr⟩:=hne (fun e=>by subst e;simp at h0)
 refine ⟨g,off,rfl,ha,fun j u hj=>?_⟩
 obtain ⟨hj',rfl⟩:=List.getElem?_eq_some_iff.1 hj
 have h1:j<us.length:=by rw [hl];simpa using hj'
 rw [hr j h1]
 have:=he j h1 (by simpa using hj')
 simp only [Sc] at this
 simp [this]
theorem By.len {p:Option Addr} {n cap:Nat} {d:List UInt8} (h:By w L (.slice p n cap) d):n=d.length:=by
 obtain ⟨us,⟨p',cap',hv,_,_⟩,hl,_⟩:=h
 cases hv;exact hl
theorem q_adrK (ho:o.op=.indexAddr t x y) (T:TyK P t e b) (hx:ev f x=v) (hy:ev f y=i64 i) (h:Ka w L v l) (hi:idx l i=some a):Qa P o f (adk v i.toNat):=by
 intro w'
 obtain ⟨h16,p,cap,rfl,hc,hb⟩:=h
 obtain ⟨h0,h1,_⟩:=zb5.1 hi
 obtain ⟨g,off,rfl,_⟩:=hb.cell (by omega)
 have hlt:i<(l.length:Int):=by omega
 simp [execOp,ho,hx,hy,i64,Instr.indexAt,asIntOf,run_underlying T.sl,T.arr.size,h0,hlt,adk]
theorem q_loadK (ho:o.op=.load e x) (T:TyK P t e b) (hx:ev f x=adk v i.toNat) (h:Ka w L v l) (hi:idx l i=some a):Qt P o f w (ag u8 a):=by
 obtain ⟨h16,p,cap,rfl,hc,hb⟩:=h
 obtain ⟨h0,h1,rfl⟩:=zb5.1 hi
 obtain ⟨g,off,rfl,_,hr⟩:=hb.cell (by omega)
 intro w' hE
 have hl:l[i.toNat].length=16:=h16 _ (List.getElem_mem _)
 have h2:=h16.at (i:=i.toNat) (by omega)
 have hcs:=run_loadCells_list (P:=P) w' ⟨g,off+i.toNat * 16,none⟩ (l[i.toNat].map u8) (fun j u hj=>by
  have hj':j<16:=by have:=(List.getElem?_eq_some_iff.1 hj).1;simp [hl] at this;exact this
  have h3:(l.flatten.map u8)[16 * i.toNat+j]?=some u:=by
   rw [← hj,← h2]
   simp only [List.getElem?_map,List.getElem?_drop,List.getElem?_take]
   rw [if_pos (by omega)]
  have h4:=hr _ _ h3
  rw [zcg]
  rw [show off+i.toNat * 16+j=off+(16 * i.toNat+j) by omega]
  rw [World.cell?_of_block (w:=w) (hE.blk g (World.block_lt_of_cell? w _ h4))]
  exact h4)
 rw [List.length_map,hl] at hcs
 simp [execOp,ho,hx,adk,zcg,Instr.loadAt,Instr.sureAddr,loadVar,T.arr.agg,T.arr.size,hcs,ag,ac]
theorem Ka.cut (h:Ka w L v l) {lo hi:Int} (hs:subL l lo hi=some m):Ka w L (subK v lo.toNat hi.toNat) m:=by
 obtain ⟨h16,p,cap,rfl,hc,hb⟩:=h
 obtain ⟨⟨h0,h1,h2⟩,rfl⟩:=ze9.1 hs
 have hlen:((l.take hi.toNat).drop lo.toNat).length=hi.toNat - lo.toNat:=by simp;omega
 have hfl:=h16.flat
 refine ⟨fun x hx=>h16 x (List.mem_of_mem_take (List.mem_of_mem_drop hx)),_,cap - lo.toNat,by rw [hlen];rfl,by rw [hlen];omega,?_⟩
 have hcut:=SlK.cut hb (lo:=(16 * lo.toNat:Nat)) (hi:=(16 * hi.toNat:Nat)) (ze9.2 ⟨⟨by omega,by omega,by omega⟩,rfl⟩)
 simp only [Int.toNat_natCast,subV] at hcut
 rw [h16.cut] at hcut
 have e1:(16 * cap=16 * lo.toNat) ↔ (cap=lo.toNat):=by omega
 simp only [e1,← Nat.mul_sub] at hcut
 rw [hlen]
 rw [Nat.mul_comm lo.toNat 16]
 exact hcut
theorem q_sliceK {lo hi:Option Operand} {a c:Int} (ho:o.op=.slice t x lo hi none) (T:TyK P t e b) (hx:ev f x=v) (h:Ka w L v l)
  (hlo:match lo with | none=>a=0 | some y=>ev f y=i64 a) (hhi:match hi with | none=>c=(l.length:Int) | some y=>ev f y=i64 c) (hs:subL l a c=some m):Qa P o f (subK v a.toNat c.toNat):=by
 intro w'
 obtain ⟨_,p,cap,rfl,hc,_⟩:=h
 obtain ⟨⟨h0,h1,h2⟩,_⟩:=ze9.1 hs
 have hb:∀ k w,(Instr.sliceBound (i64 c) cap k).run P w=.ok c.toNat w:=fun k w=>zfz rfl (by omega) (by omega) w
 have ha:∀ k w,(Instr.sliceBound (i64 a) c.toNat k).run P w=.ok a.toNat w:=fun k w=>zfz rfl (by omega) (by omega) w
 have ha':c=(l.length:Int)->∀ k w,(Instr.sliceBound (i64 a) l.length k).run P w=.ok a.toNat w:=fun e k w=>zfz rfl (by omega) (by omega) w
 have hsz:=T.arr.size
 cases lo with
 | none =>
  cases hi with
  | none =>
   dsimp only at hlo hhi;subst hlo;subst hhi
   simp [execOp,ho,hx,Instr.sliceAt,run_underlying T.sl,Instr.slice,Instr.sliceBounds,hsz,subK]
  | some y =>
   dsimp only at hlo hhi;subst hlo
   simp [execOp,ho,hx,hhi,Instr.sliceAt,run_underlying T.sl,Instr.slice,Instr.sliceBounds,hsz,hb,subK]
 | some y =>
  cases hi with
  | none =>
   dsimp only at hlo hhi
   have:=ha' hhi
   subst hhi
   simp [execOp,ho,hx,hlo,Instr.sliceAt,run_underlying T.sl,Instr.slice,Instr.sliceBounds,hsz,this,subK]
  | some y' =>
   dsimp only at hlo hhi
   simp [execOp,ho,hx,hlo,hhi,Instr.sliceAt,run_underlying T.sl,Instr.slice,Instr.sliceBounds,hsz,ha,hb,subK]
end
def OwS (w:World) (e:TypeId) (v:Value) (l:List (List UInt8)):Prop :=
 L16 l/\((v=.slice none 0 0/\l=[])∨∃ g cap cur,v=.slice (some ⟨g,0,none⟩) l.length cap/\l≠[]/\Blk w g e cur/\l.length<=cap/\cap<=maxLen/\cur.size=cap * 16/\cur.toList.take (l.length * 16)=l.flatten.map u8)
section
variable {w w' : World} {e : TypeId} {u v v' : Value} {l m : List (List UInt8)} {g : Nat}
theorem OwS.nil (w:World) (e:TypeId):OwS w e (.slice none 0 0) []:=⟨L16.nil,.inl ⟨rfl,rfl⟩⟩
theorem OwS.cases (h:OwS w e v l):v=.slice none 0 0∨∃ g cur,(∀ k,Hs v k ↔ g=k)/\Blk w g e cur:=by
 rcases h.2 with ⟨rfl,_⟩ | ⟨g,cap,cur,rfl,hl,hB,hc,_⟩
 ·exact .inl rfl
 ·have h0:0<l.length:=List.length_pos_iff.2 hl
  refine .inr ⟨g,cur,fun k=>⟨fun h=>?_,fun h=>?_⟩,hB⟩
  ·have:=hs_sl h;rw [ze4 (by omega)] at this;exact Option.some.inj this
  ·subst h;exact .inl (ze4 (by omega))
theorem OwS.lt (h:OwS w e v l):∀ k,Hs v k->k<w.heap.size:=fun k hk=>by
 rcases h.cases with rfl | ⟨g,cur,hg,hB⟩
 ·exact absurd hk zfw
 ·obtain rfl:=(hg k).1 hk;exact hB.lt
theorem OwS.ltB (h:OwS w e v l):∀ k,Hs v k->k<w.heap.size:=h.lt
theorem OwS.cl (h:OwS w e v l):Cl w v:=fun k hk=>by
 rcases h.cases with rfl | ⟨g,cur,hg,hB⟩
 ·exact absurd hk zfw
 ·obtain rfl:=(hg k).1 hk;exact ⟨_,hB,rfl⟩
theorem OwS.keep (h:OwS w e v l) (hb:∀ g cur,(∀ k,Hs v k ↔ g=k)->Blk w g e cur->Blk w' g e cur):OwS w' e v l:=by
 have hc:=h.cases
 refine ⟨h.1,?_⟩
 rcases h.2 with h1 | ⟨g,cap,cur,rfl,hl,hB,hr⟩
 ·exact .inl h1
 ·refine .inr ⟨g,cap,cur,rfl,hl,hb g cur (fun k=>?_) hB,hr⟩
  have h0:0<l.length:=List.length_pos_iff.2 hl
  have hc0:0<cap:=by have:=hr.1;omega
  refine ⟨fun h=>?_,fun h=>?_⟩
  ·have:=hs_sl h;rw [ze4 hc0] at this;exact Option.some.inj this
  ·subst h;exact .inl (ze4 hc0)
theorem OwS.ext (h:OwS w e v l) (x:Ext w w'):OwS w' e v l:=h.keep fun g cur _ hB=>hB.ext x
theorem OwS.tn {B:Nat} (h:OwS w e v l) (t:Tn B w w'):OwS w' e v l:=h.keep fun g cur _ hB=>hB.tn t
theorem OwS.other (h:OwS w e u l) (hg:Gr w w' v) (hq:Nq u v):OwS w' e u l:=h.keep fun g cur hk hB=>by
 unfold Blk;rw [hg.block hB.lt (hq g ((hk g).2 rfl))];exact hB
theorem OwS.ka (L:List Value) (h:OwS w e v l) (ha:∀ k,Hs v k->Av L k):Ka w L v l:=by
 have h16:=h.1
 refine ⟨h16,?_⟩
 rcases h.2 with ⟨rfl,rfl⟩ | ⟨g,cap,cur,rfl,hl,hB,hc,hm,hs,ht⟩
 ·exact ⟨none,0,rfl,Nat.le_refl _,SlK.nil _ _ _⟩
 ·have h0:0<l.length:=List.length_pos_iff.2 hl
  have hfl:=h16.flat
  refine ⟨_,cap,rfl,hc,l.flatten.map u8,⟨_,16 * cap,by rw [List.length_map,hfl],by rw [List.length_map,hfl];omega,fun _=>⟨g,0,rfl,ha g (.inl (ze4 (by omega))),fun i hi=>?_⟩⟩,List.length_map ..,fun i a1 a2=>by simp only [Sc,List.getElem_map]⟩
  rw [Nat.zero_add,hB.cell]
  rw [List.length_map,hfl] at hi
  have:(cur.toList.take (l.length * 16))[i]?=(l.flatten.map u8)[i]?:=by rw [ht]
  rw [List.getElem?_take,if_pos (by omega)] at this
  rw [← Array.getElem?_toList,this,List.getElem?_eq_getElem]
theorem OwS.rd (h:OwS w e v l):Ka w [] v l:=h.ka [] (fun _ _=>trivial)
theorem OwS.oc (h:OwS w e v l):v.oneCell'=true:=h.rd.oc
end
section
variable {P : Program} {o : Oper} {f : Nat → Value} {w : World} {t e b : TypeId} {v u : Value} {l m r : List (List UInt8)} {x s : Operand} {a : List UInt8}
theorem infoK (T:TyK P t e b):∃ i,P.info? e=some i/\i.zero=some (ag u8 (List.replicate 16 (0:UInt8)))/\i.size=16/\i.bytes=16:=by
 have h:=T.info
 cases hi:P.info? e with
 | none=>rw [hi] at h;cases h
 | some i =>
  rw [hi] at h
  simp only [Option.map_some,Option.some.injEq,Prod.mk.injEq] at h
  exact ⟨i,rfl,h.1,h.2.1,h.2.2⟩
theorem zj9 (L1 L2:List Value) (ho:o.op=.call ⟨.builtin .append,#[s,x],#[t,t]⟩) (T:TyK P t e b) (hs:ev f s=v) (hx:ev f x=u) (h:OwS w e v l) {Lu:List Value} (hu:Ka w Lu u m) (hm0:m≠[]) (hm:appL l m=some r)
  {K:Value->World->Prop} (hk:∀ v' w',OwS w' e v' r->Gr w w' v->Nx w v v'->Lift w w' (L1 ++ v :: L2) (L1 ++ v' :: L2)->K v' w'):Stp P o f w K:=by
 obtain ⟨i,hi,i1,i2,i3⟩:=infoK T
 obtain ⟨hmost,rfl⟩:=zji.1 hm
 obtain ⟨hm16,p,cap,rfl,hcap,hb⟩:=hu
 have hpos:0<m.length:=List.length_pos_iff.2 hm0
 obtain ⟨gb,off,rfl,_,hr⟩:=hb.cell (by omega)
 have hmfl:=hm16.flat
 have hnews:∀ j u,(m.flatten.map u8)[j]?=some u->w.cell? ((⟨gb,off,none⟩:Addr).add j)=some u:=fun j u hj=>by rw [zcg];exact hr j u hj
 have hnl:(m.flatten.map u8).length=m.length * i.size:=by rw [i2,List.length_map,hmfl];omega
 have h1:∀ u∈m.flatten.map u8,u.oneCell'=true:=fun u hu=>by obtain ⟨y,_,rfl⟩:=List.mem_map.1 hu;rfl
 have b1:(l.length+m.length) * i.bytes<=140737488355328:=by rw [i3];simp only [most] at hmost;omega
 have b3:l.length+m.length<=maxLen:=by simp only [maxLen];simp only [most] at hmost;omega
 have h63:((l.length+m.length:Nat):Int)<=9223372036854775807:=by simp only [most] at hmost;omega
 have hr16:L16 (l ++ m):=h.1.app hm16
 have hne:l ++ m≠[]:=fun e=>hm0 (List.append_eq_nil_iff.1 e).2
 have hlfl:=h.1.flat
 have key:∀ v' w',(Builtin.append_ #[t,t] o.type #[v,.slice (some ⟨gb,off,none⟩) m.length cap]).run P w=.ok v' w'->OwS w' e v' (l ++ m)->Gr w w' v->Nx w v v'->Stp P o f w K:=fun v' w' hrun a1 a2 a3 =>
  zc5 (v:=v') (w':=w') (by rw [zby _ ho];simp [builtin,hs,hx,hrun]) (hk v' w' a1 a2 a3 (Lift.own L1 L2 a2 a3))
 have made:∀ (old:Nat),OwS (w.drew.alloc (.cells ((l.flatten.map u8).toArray ++ (m.flatten.map u8).toArray ++ Builtin.zeroCells (ag u8 (List.replicate 16 (0:UInt8))).cells (grownCap w (l.length+m.length) old e - (l.length+m.length))) e)) e
   (.slice (some ⟨w.heap.size,0,none⟩) (l.length+m.length) (grownCap w (l.length+m.length) old e)) (l ++ m):=fun old=>by
  have hge:=grownCap_ge w (l.length+m.length) old e
  refine ⟨hr16,.inr ⟨w.heap.size,grownCap w (l.length+m.length) old e,_,by simp,hne,heap_alloc_new w.drew _,by simpa using hge,grownCap_le_maxLen w _ old e b3,?_,?_⟩⟩
  ·have hz:(ag u8 (List.replicate 16 (0:UInt8))).cells.size=16:=by simp [ag,Value.cells,ac]
   simp only [Array.size_append,List.size_toArray,size_zeroCells,hz,List.length_map,hlfl,hmfl]
   omega
  ·simp only [Array.toList_append,List.append_assoc]
   rw [← List.append_assoc,← List.map_append,← List.flatten_append]
   refine List.take_left' ?_
   rw [List.length_map,hr16.flat];omega
 have hgn:∀ (cs:Array Value) (v:Value),Gr w (w.drew.alloc (.cells cs e)) v:=fun cs v=>⟨none,⟨rfl,rfl,rfl,by simp,fun k hk _=>zgu w.drew _ k hk⟩,fun _ e=>by cases e⟩
 rcases h.2 with ⟨rfl,rfl⟩ | ⟨g,cap',cur,rfl,hl,hB,hc,hcm,hcs,ht⟩
 ·have hrun:=run_append_nil (P:=P) w t o.type e i _ T.sl hi i1 ⟨gb,off,none⟩ m.length cap (m.flatten.map u8) hnl hnews hpos (by simpa using h63) (by simp only [List.length_nil,Nat.zero_add] at b1;omega)
  have hmk:=made 0
  simp only [List.length_nil,Nat.zero_add,List.nil_append,List.flatten_nil,List.map_nil,Array.empty_append] at hmk key hgn
  exact key _ _ hrun hmk (hgn _ _) ((Nw.mk w _ _).nx _)
 ·have h0:0<cap':=by have:=List.length_pos_iff.2 hl;omega
  by_cases hroom:l.length+m.length<=cap'
  ·have hfit:l.length * i.size+(m.flatten.map u8).length<=cur.size:=by rw [hnl,hcs,i2];omega
   have hrun:=run_append_room (P:=P) w t o.type e i T.sl hi g l.length cap' cur hB ⟨gb,off,none⟩ m.length cap (m.flatten.map u8) hnl hnews h1 hroom hfit
   refine key _ _ hrun ⟨hr16,.inr ⟨g,cap',_,by simp,hne,setRow_heap w g cur _ e _ hB,by simpa using hroom,hcm,?_,?_⟩⟩ (Gr.of ⟨rfl,rfl,rfl,by simp,fun k _ hk=>setRow_other w g k _ (fun e=>hk (by rw [ze4 h0,e]))⟩)
    (fun k hk=>.inl (.inl (by have:=hs_sl hk;rw [ze4 h0] at *;exact this)))
   ·have:=Array.length_toList (xs:=cur)
    simp only [List.size_toArray,List.length_append,List.length_take,List.length_drop,hnl,i2]
    omega
   ·rw [i2,ht,← List.map_append,← List.flatten_append]
    refine List.take_left' ?_
    rw [List.length_map,hr16.flat];omega
  ·have holds:∀ j u,(l.flatten.map u8)[j]?=some u->w.cell? ((⟨g,0,none⟩:Addr).add j)=some u:=fun j u hj=>by
    rw [zcg,Nat.zero_add,hB.cell,← Array.getElem?_toList]
    rw [← ht,List.getElem?_take] at hj
    split at hj
    ·exact hj
    ·cases hj
   have hrun:=run_append_grow (P:=P) w t o.type e i _ T.sl hi i1 ⟨g,0,none⟩ l.length cap' (l.flatten.map u8) (by rw [i2,List.length_map,hlfl];omega) holds ⟨gb,off,none⟩ m.length cap (m.flatten.map u8) hnl hnews (by omega) h63 (growslice_fits (by omega) b1)
   exact key _ _ hrun (made cap') (hgn _ _) ((Nw.mk w _ _).nx _)
theorem fold_set (us:List Value):∀ (k:Nat) (pre post:List Value),pre.length=k->post.length=us.length->(us.zipIdx k).foldl (fun cs (p:Value×Nat)=>Array.setIfInBounds cs (0+p.2) p.1) (pre ++ post).toArray=(pre ++ us).toArray:=by
 induction us with
 | nil=>intro k pre post _ h;rw [List.length_nil] at h;rw [List.eq_nil_of_length_eq_zero h];rfl
 | cons u us ih =>
  intro k pre post hk h
  cases post with
  | nil=>cases h
  | cons p post =>
   simp only [List.zipIdx_cons,List.foldl_cons]
   have e1:(pre ++ p :: post).toArray.setIfInBounds (0+k) u=((pre ++ [u]) ++ post).toArray:=by
    apply Array.ext'
    simp [hk.symm,List.set_append]
   rw [e1,ih (k+1) (pre ++ [u]) post (by simp [hk]) (by simpa using h)]
   simp
theorem stp_litK (L:List Value) (ho:o.op=.buildSlice t 1 #[(0,x)]) (T:TyK P t e b) (hx:ev f x=ag u8 a) (ha:a.length=16)
  {K:Value->World->Prop} (hk:∀ v w',OwS w' e v [a]->Nw w v->w.grownBy w' none->Lift w w' L (v :: L)->K v w'):Stp P o f w K:=by
 obtain ⟨i,hi,i1,i2,i3⟩:=infoK T
 have hv:Nw w (.slice (some ⟨w.heap.size,0,none⟩) 1 1):=Nw.mk _ _ _
 have h0:=World.grownBy_alloc w (.cells (ac u8 a) e) none
 have hcs:(ag u8 a).cells=ac u8 a:=rfl
 have hsz:(ac u8 a).size=16:=by rw [zkf,ha]
 have hfill:Instr.fill (fun i=>some (i * 16,16)) ((Array.range (1 * 16)).map (((ag u8 (List.replicate 16 (0:UInt8))).cells)[· % ((ag u8 (List.replicate 16 (0:UInt8))).cells).size]!)) [(0,ag u8 a)]=some (ac u8 a):=by
  simp only [Instr.fill,hcs,hsz]
  rw [if_neg (by simp)]
  have:=fold_set (a.map u8) 0 [] ((Array.range (1 * 16)).map (((ag u8 (List.replicate 16 (0:UInt8))).cells)[· % ((ag u8 (List.replicate 16 (0:UInt8))).cells).size]!)).toList rfl (by simp [ha])
  simp only [List.nil_append,Array.toArray_toList] at this
  congr 1
  rw [← Array.foldl_toList,Array.toList_zipIdx,ac]
  simpa [Nat.zero_mul] using this
 have hrun:(Instr.buildSlice t 1 #[(0,ag u8 a)]).run P w=.ok (.slice (some ⟨w.heap.size,0,none⟩) 1 1) (w.alloc (.cells (ac u8 a) e)):=by
  unfold Instr.buildSlice
  have hz:∀ w,(zeroValue e).run P w=.ok (ag u8 (List.replicate 16 (0:UInt8))) w:=fun w=>by simp [zeroValue,typeInfo,hi,i1]
  simp [run_underlying T.sl,T.arr.size,hz]
  simp at hfill
  rw [hfill]
  simp [newRow]
 refine zc5 (v:=.slice (some ⟨w.heap.size,0,none⟩) 1 1) (w':=w.alloc (.cells (ac u8 a) e)) (by simp [execOp,ho,hx,hrun]) (hk _ _ ?_ hv h0 (Lift.new L h0 hv))
 refine ⟨fun y hy=>by rw [List.mem_singleton.1 hy];exact ha,.inr ⟨w.heap.size,1,ac u8 a,rfl,by simp,heap_alloc_new w _,Nat.le_refl _,by decide,by rw [hsz],?_⟩⟩
 simp [ac,List.take_of_length_le,ha]
def sptr (v:Value):Value:=match v with | .slice a _ _=>.pointer a | v=>v
theorem q_arrAt {T n:Nat} {d:List UInt8} {L:List Value} (ho:o.op=.sliceToArrayPointer T x) (A:TyA P T b n) (hx:ev f x=v) (h:By w L v d) (hn:n<=d.length):Qa P o f (sptr v):=by
 intro w'
 obtain ⟨us,⟨p,cap,rfl,_⟩,hl,_⟩:=h
 have:¬ us.length<n:=by omega
 simp [execOp,ho,hx,Instr.arrayAt,run_underlying A.und,this,sptr]
theorem q_loadSp {T n:Nat} {d:List UInt8} {L:List Value} (ho:o.op=.load T x) (A:TyA P T b n) (hx:ev f x=sptr v) (h:By w L v d) (hn:d.length=n) (h0:0<n):Qt P o f w (ag u8 d):=by
 obtain ⟨p,k,cap,rfl⟩:=(show ∃p k cap,v=.slice p k cap from by obtain ⟨us,⟨p,cap,rfl,_⟩,_⟩:=h;exact ⟨_,_,_,rfl⟩)
 have hk:=h.len
 obtain ⟨g,off,rfl,_,hr⟩:=h.cell (by omega)
 intro w' hE
 have hcs:=run_loadCells_list (P:=P) w' ⟨g,off,none⟩ (d.map u8) (fun j u hj=>by
  have h4:=hr _ _ hj
  rw [zcg,World.cell?_of_block (w:=w) (hE.blk g (World.block_lt_of_cell? w _ h4))]
  exact h4)
 rw [List.length_map,hn] at hcs
 simp [execOp,ho,hx,sptr,Instr.loadAt,Instr.sureAddr,loadVar,A.agg,A.size,hcs,ag,ac]
end
end Gk

/- Ciphers of this seat's program: the struct behind its pointer. No condition. -/
namespace Gk
open Go Go.Proofs Go.RowKit
structure Cip where
 f:Bool
 keys:List (List UInt8)
 box:List UInt8
 back:List UInt8
def cipc (fv ks:Value) (box back:List UInt8):Array Value:=(fv :: ks :: (box ++ back).map u8).toArray
theorem K143:TyK Tryz.prog 143 152 5:=⟨Tryz.underlying143,A152,by kernel_rfl⟩
def Ci (w:World) (L:List Value) (v:Value) (c:Option Cip):Prop :=
 (c=none/\v=.pointer none)∨∃ x g fv ks,c=some x/\v=bp g/\Av L g/\Blk w g 146 (cipc fv ks x.box x.back)/\Fd w L fv x.f/\Ka w L ks x.keys/\x.box.length=256/\x.back.length=256
theorem Ci.lift {w w':World} {L L':List Value} {v:Value} {c:Option Cip} (h:Ci w L v c) (g:Lift w w' L L'):Ci w' L' v c:=by
 rcases h with h | ⟨x,k,fv,ks,h1,h2,ha,hB,hF,hK,h3⟩
 ·exact .inl h
 ·exact .inr ⟨x,k,fv,ks,h1,h2,g.av k hB.lt ha,g.blk k _ hB rfl ha,hF.lift g,hK.lift g,h3⟩
theorem Ci.nil (w:World) (L:List Value):Ci w L (.pointer none) none:=.inl ⟨rfl,rfl⟩
theorem Ci.mk {w:World} {L:List Value} {g:Nat} {fv ks:Value} {b:Bool} {k:List (List UInt8)} {x y:List UInt8} (hB:Blk w g 146 (cipc fv ks x y)) (ha:Av L g) (hF:Fd w L fv b) (hK:Ka w L ks k) (hx:x.length=256) (hy:y.length=256):Ci w L (bp g) (some ⟨b,k,x,y⟩) :=
 .inr ⟨⟨b,k,x,y⟩,g,fv,ks,rfl,rfl,ha,hB,hF,hK,hx,hy⟩
theorem Ci.some {w:World} {L:List Value} {v:Value} {x:Cip} {c:Option Cip} (h:Ci w L v c) (hc:c=some x):∃ g fv ks,v=bp g/\Blk w g 146 (cipc fv ks x.box x.back)/\Fd w L fv x.f/\Ka w L ks x.keys/\Pa w L (bpo g 2) x.box/\Pa w L (bpo g 258) x.back:=by
 rcases h with ⟨h1,_⟩ | ⟨x',g,fv,ks,h1,h2,ha,hB,hF,hK,hb,hb'⟩
 ·rw [h1] at hc;cases hc
 ·rw [h1] at hc;obtain rfl:=Option.some.inj hc
  refine ⟨g,fv,ks,h2,hB,hF,hK,⟨_,rfl,x'.box.map u8,⟨_,_,by rw [List.length_map],by rw [List.length_map];exact Nat.le_refl _,fun _=>⟨g,2,rfl,ha,fun i hi=>?_⟩⟩,List.length_map ..,fun i a1 a2=>by simp only [Sc,List.getElem_map]⟩,⟨_,rfl,x'.back.map u8,⟨_,_,by rw [List.length_map],by rw [List.length_map];exact Nat.le_refl _,fun _=>⟨g,258,rfl,ha,fun i hi=>?_⟩⟩,List.length_map ..,fun i a1 a2=>by simp only [Sc,List.getElem_map]⟩⟩
  ·rw [hB.cell,Nat.add_comm]
   simp only [List.length_map] at hi
   simp [cipc,hi,List.getElem?_append]
  ·rw [hB.cell,Nat.add_comm,show i+258=i+256+2 by omega]
   simp only [List.length_map] at hi
   simp [cipc,hi,hb,List.getElem?_append]
theorem blk_box {w:World} {g:Nat} {fv ks:Value} {x y:List UInt8} (hB:Blk w g 146 (cipc fv ks x y)):Pa w [] (bpo g 2) x:=by
 refine ⟨_,rfl,x.map u8,⟨_,_,by rw [List.length_map],by rw [List.length_map];exact Nat.le_refl _,fun _=>⟨g,2,rfl,trivial,fun i hi=>?_⟩⟩,List.length_map ..,fun i a1 a2=>by simp only [Sc,List.getElem_map]⟩
 rw [hB.cell,Nat.add_comm]
 simp only [List.length_map] at hi
 simp [cipc,hi,List.getElem?_append]
theorem cip_zero:∀ w,(zeroValue 146).run Tryz.prog w=.ok (.agg (cipc (.pointer none) (.slice none 0 0) (List.replicate 256 0) (List.replicate 256 0))) w:=fun w=>by rw [Tryz.zeroValue146];rfl
theorem fieldAtC0 (a:Addr) (w:World):(Instr.fieldAt 146 (.pointer (some a)) 0).run Tryz.prog w=.ok (.pointer (some (a.add 0))) w:=by
 simp [Instr.fieldAt,Instr.sureAddr,fieldPlace]
theorem zgm (a:Addr) (w:World):(Instr.fieldAt 146 (.pointer (some a)) 1).run Tryz.prog w=.ok (.pointer (some (a.add 1))) w:=by
 simp [Instr.fieldAt,Instr.sureAddr,fieldPlace]
theorem fieldAtC2 (a:Addr) (w:World):(Instr.fieldAt 146 (.pointer (some a)) 2).run Tryz.prog w=.ok (.pointer (some (a.add 2))) w:=by
 simp [Instr.fieldAt,Instr.sureAddr,fieldPlace]
theorem fieldAtC3 (a:Addr) (w:World):(Instr.fieldAt 146 (.pointer (some a)) 3).run Tryz.prog w=.ok (.pointer (some (a.add 258))) w:=by
 simp [Instr.fieldAt,Instr.sureAddr,fieldPlace]
section
variable {o : Oper} {f : Nat → Value} {w : World} {x y : Operand} {v : Value} {g m j : Nat} {L : List Value} {c : Option Cip} {fv ks ks' : Value} {b k k' : List UInt8} {t t' e : TypeId} {i : Int} {a z : UInt8}
theorem zhw {d:Nat} (ho:o.op=.fieldAddr 146 x j) (hf:∀ (a:Addr) (w:World),(Instr.fieldAt 146 (.pointer (some a)) j).run Tryz.prog w=.ok (.pointer (some (a.add d))) w) (hx:ev f x=bp g):Qa Tryz.prog o f (bpo g d):=by
 intro w'
 simp [execOp,ho,hx,hf,zcg]
theorem q_buildC (ho:o.op=.build 146 #[(0,x)]) (hx:ev f x=fv) (hv:fv.cells=#[fv]):Qa Tryz.prog o f (.agg (cipc fv (.slice none 0 0) (List.replicate 256 0) (List.replicate 256 0))):=by
 intro w'
 have hb:(Instr.build 146 #[(0,fv)]).run Tryz.prog w'=.ok (.agg (cipc fv (.slice none 0 0) (List.replicate 256 0) (List.replicate 256 0))) w':=by
  unfold Instr.build
  simp only [Sem.run_bind,cip_zero,Result.andThen_ok,run_underlying Tryz.underlying146]
  generalize List.replicate 256 (0:UInt8)=bx
  have hfill:Instr.fill (fun i=>([((0:Nat),(1:Nat)),(1,1),(2,256),(258,256)]:List (Nat×Nat))[i]?) (cipc (.pointer none) (.slice none 0 0) bx bx) [(0,fv)]=some (cipc fv (.slice none 0 0) bx bx):=by
   simp [Instr.fill,hv,cipc]
  simp [Tryz.sizeOf27,Tryz.sizeOf143,Tryz.sizeOf144,Value.cells,hfill]
 generalize List.replicate 256 (0:UInt8)=bx at hb ⊢
 simp [execOp,ho,hx,hb]
theorem q_eqC (ho:o.op=.binOp .eql t x y t') (ht:Tryz.prog.underlying t=some (.pointer e)) (hx:ev f x=v) (hy:ev f y=.pointer none) (h:Ci w L v c):Qa Tryz.prog o f (.bool c.isNone):=by
 rcases h with ⟨rfl,rfl⟩ | ⟨l,g,u,_,rfl,rfl,_⟩
 ·exact q_eqP ho ht hx hy
 ·exact q_eqP ho ht hx hy
theorem stp_storeCb (L1 L2:List Value) (ho:o.op=.store 5 x y) (hx:ev f x=bpo g (2+i.toNat)) (hy:ev f y=u8 z) (h:Blk w g 146 (cipc fv ks b k)) (hi:idx b i=some a)
  {K:Value->World->Prop} (hk:∀ w',Blk w' g 146 (cipc fv ks (b.set i.toNat z) k)->Gr w w' (bp g)->Lift w w' (L1 ++ bp g :: L2) (L1 ++ bp g :: L2)->K undef w'):Stp Tryz.prog o f w K:=by
 obtain ⟨h0,h1,h2⟩:=zb5.1 hi
 have hlt:i.toNat<b.length:=by omega
 have hset:(cipc fv ks b k).setIfInBounds (2+i.toNat) (u8 z)=cipc fv ks (b.set i.toNat z) k:=by
  apply Array.ext'
  rw [Nat.add_comm]
  simp [cipc,List.set_append,hlt]
 exact zdg ho Tryz.sizeOf5 hx hy h (by simp [cipc];omega) rfl fun w' hB hg=>hk w' (by rw [hset] at hB;exact hB) (Gr.of hg) (Lift.own L1 L2 (Gr.of hg) (Nx.refl _ _))
theorem stp_storeCk (L1 L2:List Value) (ho:o.op=.store 5 x y) (hb:b.length=256) (hx:ev f x=bpo g (258+i.toNat)) (hy:ev f y=u8 z) (h:Blk w g 146 (cipc fv ks b k)) (hi:idx k i=some a)
  {K:Value->World->Prop} (hk:∀ w',Blk w' g 146 (cipc fv ks b (k.set i.toNat z))->Gr w w' (bp g)->Lift w w' (L1 ++ bp g :: L2) (L1 ++ bp g :: L2)->K undef w'):Stp Tryz.prog o f w K:=by
 obtain ⟨h0,h1,h2⟩:=zb5.1 hi
 have hlt:i.toNat<k.length:=by omega
 have hset:(cipc fv ks b k).setIfInBounds (258+i.toNat) (u8 z)=cipc fv ks b (k.set i.toNat z):=by
  apply Array.ext'
  rw [Nat.add_comm,show i.toNat+258=i.toNat+256+2 by omega]
  simp [cipc,List.set_append,hlt,hb]
 exact zdg ho Tryz.sizeOf5 hx hy h (by simp [cipc,hb];omega) rfl fun w' hB hg=>hk w' (by rw [hset] at hB;exact hB) (Gr.of hg) (Lift.own L1 L2 (Gr.of hg) (Nx.refl _ _))
theorem zj6 (L1 L2:List Value) (ho:o.op=.store 143 x y) (hx:ev f x=bpo g 1) (hy:ev f y=ks') (h:Blk w g 146 (cipc fv ks b k)) (hc:ks'.oneCell'=true)
  {K:Value->World->Prop} (hk:∀ w',Blk w' g 146 (cipc fv ks' b k)->Gr w w' (bp g)->Lift w w' (L1 ++ bp g :: L2) (L1 ++ bp g :: L2)->K undef w'):Stp Tryz.prog o f w K:=by
 have hset:(cipc fv ks b k).setIfInBounds 1 ks'=cipc fv ks' b k:=by
  apply Array.ext'
  simp [cipc]
 exact zdg ho Tryz.sizeOf143 hx hy h (by simp [cipc]) hc fun w' hB hg=>hk w' (by rw [hset] at hB;exact hB) (Gr.of hg) (Lift.own L1 L2 (Gr.of hg) (Nx.refl _ _))
end
end Gk

/- Printed by gen.py: for each Go function a pure function, and that the Go code comes to it. No condition beside the equation that says what the pure function gives. -/
namespace Gk
open Go Go.Proofs
noncomputable def zgl (b:Cip):Option Cip :=
((iterC (fun a:List UInt8×List UInt8×Int =>
(if a.2.2<256 then
((zgo b.f (UInt8.ofInt a.2.2)).bind fun e =>
((iterC (fun c:UInt8×Int =>
(if c.2<=4 then
((zeb e.1 c.2).bind fun g => some (.inl ((c.1^^^g),wI (c.2+1))))
else some (.inr c.1))) ((e.1^^^(99:UInt8)),1)).bind fun d =>
((lenA 256 a.1).bind fun h =>
((idx a.1 a.2.2).bind fun i =>
((lenA 256 a.2.1).bind fun j =>
((idx a.2.1 (d.toNat:Int)).bind fun k => some (.inl (a.1.set (a.2.2:Int).toNat d,a.2.1.set ((d.toNat:Int):Int).toNat (UInt8.ofInt a.2.2),wI (a.2.2+1)))))))))
else some (.inr (a.1,a.2.1)))) (b.box,b.back,0)).bind fun f => some (⟨b.f,b.keys,f.1,f.2⟩:Cip))
theorem cipher_boxes_calls (p:Cip) (a:Nat) (k:Value) (o:Value) (y:Cip) (w0:World) (aF:Blk w0 a 146 (cipc k o p.box p.back)) (aE:Fd w0 [bp a] k p.f) (s:zgl p=some y) :
  Calls Tryz.prog 111 [bp a].toArray w0 (fun a2 U=>a2=.returned (.tuple #[])/\ExG [bp a] w0 U/\Blk U a 146 (cipc k o y.box y.back)):=by
 have aA:ExG [bp a] w0 w0:=ExG.refl _ w0;unfold zgl at s;refine zai (n:=45) Tryz.func111 V V V<|W_sr<|mv (i64 0) V V<|wnt<|?_;obtain ⟨W,a0,s⟩:=bsi s;refine W_mid (fun c j=>c 0=bp a/\c 45=undef/\ExG [bp a] w0 j/\Blk j a 146 (cipc k o W.1 W.2)/\NS [bp a] w0 (bp a)) ?_ ?_
 ·refine zac<|zau (fun b c j=>c 0=bp a/\c 7=i64 b.2.2/\c 45=undef/\ExG [bp a] w0 j/\Blk j a 146 (cipc k o b.1 b.2.1)/\NS [bp a] w0 (bp a)) a0 ?_ ?_
  ·exact ⟨rfl,rfl,rfl,aA,aF,NS.own⟩
  rintro b _ _ b0 ⟨B,D,P,v,q,I⟩ e aG;refine W_sr<|wa V (q_ltI V D V)<|wnt<|W_seq<|wci e V V (fun e=>?_) (fun e=>?_)
  ·refine zae<|W_th<|W_seq<|zac<|W_sr<|mv (i64 b.2.2) V D<|av (i64 b.2.2) V V<|wnt<|W_sr<|mv (bp a) V B<|wa V (zbl V V)<|wa V (zhw (g:=a) (d:=0) V fieldAtC0 V)<|wq V (zan (u:=k) V Tryz.isAgg27 V q V)<|mv (i64 b.2.2) V V<|wa V (zey V V V V) ?_;obtain ⟨f,aH,e⟩:=bsi e;refine wls V V (zab (vs:=[k,u8 (UInt8.ofInt b.2.2)]) Tryz.func129 V V V (ar2 V V) (zfy p.f (UInt8.ofInt b.2.2) k f _ (aE.lift (Lift.exg0 v)) aH) ?_);rintro _ b3 ⟨rfl,Y⟩;refine ⟨_,rfl,?_⟩;replace q:=q.ext Y;have a7:=v.trans Y;refine mv (.tuple #[u8 f.1,i64 f.2]) V V<|wa V (zah V V V)<|wa V (zah V V V)<|av (u8 f.1) V V<|av (i64 f.2) V V<|wnt<|W_sr<|mv (u8 f.1) V V<|wa V (zdb V V (cst8 (99:UInt8) V))<|av (u8 (f.1^^^(99:UInt8))) V V<|wnt<|W_seq<|W_sr<|av (i64 1) V V<|wnt ?_;obtain ⟨r,a1,e⟩:=bsi e;refine W_mid (fun c j=>c 0=bp a/\c 2=i64 b.2.2/\c 5=u8 r/\c 7=i64 b.2.2/\c 45=undef/\ExG [bp a] w0 j/\Blk j a 146 (cipc k o b.1 b.2.1)/\NS [bp a] w0 (bp a)) ?_ ?_
   ·refine zac<|zau (fun h c j=>c 0=bp a/\c 2=i64 b.2.2/\c 3=u8 f.1/\c 5=u8 h.1/\c 6=i64 h.2/\c 7=i64 b.2.2/\c 45=undef/\ExG [bp a] w0 j/\Blk j a 146 (cipc k o b.1 b.2.1)/\NS [bp a] w0 (bp a)) a1 ?_ ?_
    ·exact ⟨B,rfl,rfl,rfl,rfl,D,P,a7,q,I⟩
    rintro h _ _ b4 ⟨L,N,O,S,C,T,Q,E,t,J⟩ l aI;refine W_seq<|W_sr<|mv (i64 h.2) V C<|wa V (q_leI V V V)<|wnt<|wci l V V (fun l=>?_) (fun l=>?_)
    ·refine zae<|W_th<|W_seq<|zac<|W_rg<|mv (u8 h.1) V S<|mv (u8 f.1) V O<|mv (i64 h.2) V C<|?_;obtain ⟨K,aJ,l⟩:=bsi l;refine wls V V (zab (vs:=[u8 f.1,i64 h.2]) Tryz.func133 V V V (ar2 V V) (word_Turn_byte_calls f.1 h.2  K _  aJ) ?_);rintro _ b5 ⟨rfl,Z⟩;refine ⟨_,rfl,?_⟩;replace t:=t.ext Z;have a3:=E.trans Z;refine wa V (zdb V V V)<|av (u8 (h.1^^^K)) V V<|zag<|bk_n<|W_th<|W_rg<|mv (i64 h.2) V C<|wa V (zak V V V)<|av (i64 (wI (h.2+1))) V V<|zag<|?_;obtain rfl:=osi l;exact ⟨_,rfl,L,N,O,rfl,rfl,T,Q,a3,t,J⟩
    refine zar<|th_x<|?_;obtain rfl:=osi l;obtain rfl:=aI _ rfl;refine th_x<|bk_x<|?_;exact ⟨L,N,S,T,Q,E,t,J⟩
   rintro _ aQ ⟨A,M,R,aP,aN,aB,x,w⟩;refine W_th<|zba [] [(0,0),(1,0),(2,0),(3,0),(4,0),(5,0),(6,0),(7,0),(8,0),(9,0),(11,0),(12,0),(10,2),(13,0),(14,2)] mixed (by kernel_rfl) (by kernel_rfl) (by kernel_rfl) (by kernel_rfl) ?_;have X:=Ext.drew aQ;replace x:=x.ext X;have a4:=aB.trans X;refine sv (bp a) V V A<|sv (i64 b.2.2) V V M<|sv (bp a) V V A<|sv (u8 r) V V R<|sv (u8 r) V V R<|sv (i64 b.2.2) V V M<|sa V V (zey V V V V)<|sa V V (zbl V V)<|sa V V (zhw (g:=a) (d:=2) V fieldAtC2 V) ?_;obtain ⟨aR,F,e⟩:=bsi e;obtain ⟨aS,G,e⟩:=bsi e;refine sa V V (q_ixA (m:=2) V A144 V V (zad F) G)<|sa V V (zbl V V)<|sa V V (zhw (g:=a) (d:=258) V fieldAtC3 V)<|wsn V (by kernel_rfl) V V (stp_storeCb (i:=b.2.2) (z:=r) [] [] V V V x G ?_);intro aZ aL a8 aV;have a5:=a4.grown a8 w;obtain ⟨aT,aD,e⟩:=bsi e;obtain ⟨aU,H,e⟩:=bsi e;refine sa V V (q_ixA8 (m:=258) V A144 V V (zad aD) H)<|wsn V (by kernel_rfl) V V (stp_storeCk (i:=(r.toNat:Int)) (z:=UInt8.ofInt b.2.2) [] [] V (List.length_set.trans (zad F)) V V aL H ?_);intro b1 aM a9 aW;have a6:=a5.grown a9 w;refine za1<|bk_n<|W_th<|W_rg<|wa V (zak V aP V)<|mv (i64 (wI (b.2.2+1))) V V<|zag<|?_;obtain rfl:=osi e;exact ⟨_,rfl,A,rfl,aN,a6,aM,w⟩
  refine zar<|th_x<|?_;obtain rfl:=osi e;obtain rfl:=aG _ rfl;refine th_x<|bk_x<|?_;exact ⟨B,P,v,q,I⟩
 rintro _ b2 ⟨aY,aO,aC,aK,aX⟩;refine rtn ?_;obtain rfl:=osi s;refine rt0 V aO ?_;exact ⟨rfl,aC,aK⟩
noncomputable def zfs (a:Option Cip):Option Int :=
(if a.isNone=true then some 0
else
((a).bind fun b => some (wI ((b.keys.length:Int) - 1))))
theorem cipher_Rounds_calls (a0c:Option Cip) (p0:Value) (r:Int) (w0:World) (hp0:Ci w0 [] p0 a0c) (H:zfs a0c=some r) :
  Calls Tryz.prog 145 [p0].toArray w0 (fun e w'=>e=.returned (i64 r)/\Ext w0 w'):=by
 have hE:Ext w0 w0:=Ext.refl w0;unfold zfs at H;refine zai (n:=11) Tryz.func145 rfl rfl rfl ?_;refine W_seq<|W_rg<|av (i64 0) rfl rfl<|wnt<|W_seq<|W_seq<|W_rg<|mv p0 rfl rfl<|?_;refine wa rfl (q_eqC rfl rfl rfl rfl (hp0.lift (le_ hE)))<|wnt<|?_;refine zam _ rfl rfl (fun hb1=>?_) (fun hb1=>?_)
 ·replace H:=(if_pos hb1).symm.trans H;refine W_seq<|W_rg<|av (i64 0) rfl rfl<|wnt<|W_ret<|th_r<|?_;obtain rfl:=osi H;refine rt1 (i64 0) rfl rfl rfl rfl ?_;exact ⟨rfl,hE⟩
 replace H:=(if_neg (ne_true_of_eq_false hb1)).symm.trans H;refine zae<|W_th<|W_seq<|W_rg<|mv p0 rfl rfl<|?_;obtain ⟨c2,hc2,H⟩:=bsi H;obtain ⟨g2,fv2,ks2,hv2,hB2,hF2,hK2,hP2,hQ2⟩:=Ci.some hp0 hc2;refine wa rfl (zbl (g:=g2) (m:=0) rfl (Eq.trans rfl hv2))<|wa rfl (zhw (g:=g2) (d:=1) rfl zgm rfl)<|wq rfl (zan (u:=ks2) rfl Tryz.isAgg143 rfl (hB2.ext hE) rfl)<|wa rfl (q_lenK rfl Tryz.underlying143 rfl (hK2.lift (le_ hE)))<|wa rfl (za9 rfl rfl rfl)<|av (i64 ((wI ((c2.keys.length:Int) - 1)))) rfl rfl<|wnt<|W_ret<|?_;obtain rfl:=osi H;refine rt1 (i64 ((wI ((c2.keys.length:Int) - 1)))) rfl rfl rfl rfl ?_;exact ⟨rfl,hE⟩
noncomputable def ze2 (d:Option Cip) (e:List UInt8):Option (List UInt8×Int) :=
(if d.isNone=true then some (([]:List UInt8),1)
else
(if (e.length:Int)=16 then
((lenA 16 e).bind fun s =>
((lenA 16 (List.replicate 16 (0:UInt8))).bind fun w =>
((d).bind fun b =>
((idx b.keys 0).bind fun i =>
((zgb e i).bind fun j =>
((subL b.keys 1 (b.keys.length:Int)).bind fun f =>
((iterC (fun a:List UInt8×Int =>
(if a.2<(f.length:Int) then
((idx f a.2).bind fun c =>
((lenA 16 (List.replicate 16 (0:UInt8))).bind fun q =>
((lenA 16 c).bind fun r =>
((zjd a.1 b.box).bind fun k =>
((zht k 1).bind fun g =>
((zfs d).bind fun l =>
(if a.2<(wI (l - 1)) then
((ze1 g b.f ([(2:UInt8),(1:UInt8),(1:UInt8),(3:UInt8)]:List UInt8)).bind fun m =>
((lenA 16 c).bind fun t =>
((zgb m c).bind fun n => some (.inl (n,wI (a.2+1))))))
else
((lenA 16 c).bind fun u =>
((zgb g c).bind fun o => some (.inl (o,wI (a.2+1))))))))))))
else some (.inr a.1))) (j,0)).bind fun h =>
((lenA 16 h).bind fun v =>
((zaj h).bind fun p => some (p,0))))))))))
else some (([]:List UInt8),3)))
theorem cipher_Encrypt_calls (B:Option Cip) (C:List UInt8) (h:Value) (L:Value) (X:List UInt8×Int) (w0:World) (S:Ci w0 [] h B) (T:By w0 [] L C) (e:ze2 B C=some X) :
  Calls Tryz.prog 135 [h,L].toArray w0 (fun aO aG=>∃ a2:Value,aO=.returned (.tuple #[a2,i64 X.2])/\Ext w0 aG/\Nw w0 a2/\OwK (Sc u8) aG [] 5 a2 X.1):=by
 have p:Ext w0 w0:=Ext.refl w0;unfold ze2 at e;refine zai (n:=58) Tryz.func135 V V V<|W_sr<|av (.slice none 0 0) V V<|av (i64 0) V V<|wnt<|W_seq<|zac<|W_seq<|W_rg<|mv h V V<|wa V (q_eqC V V V V (S.lift (le_ p)))<|av (.bool B.isNone) V V<|wnt<|zam _ V V (fun P=>?_) (fun P=>?_)
 ·replace e:=(if_pos P).symm.trans e;refine W_sr<|av (.slice none 0 0) V V<|av (i64 1) V V<|wnt<|W_ret<|bk_r<|th_r<|?_;obtain rfl:=osi e;refine rt2 (.slice none 0 0) (i64 1) V V V V V V ?_;exact ⟨.slice none 0 0,rfl,p,Nw.nil _,OwK.nil _ _ _ _⟩
 replace e:=(if_neg (ne_true_of_eq_false P)).symm.trans e;refine W_sr<|mv L V V<|wa V (q_len V T22.sl V (T.lift (le_ p)))<|wa V (q_neI V V V)<|av (.bool (!decide ((C.length:Int)=16))) V V<|wnt<|zam _ V V (fun Q=>?_) (fun Q=>?_)
 ·replace e:=(if_neg (zbf Q)).symm.trans e;refine W_sr<|av (.slice none 0 0) V V<|av (i64 3) V V<|wnt<|W_ret<|bk_r<|th_r<|?_;obtain rfl:=osi e;refine rt2 (.slice none 0 0) (i64 3) V V V V V V ?_;exact ⟨.slice none 0 0,rfl,p,Nw.nil _,OwK.nil _ _ _ _⟩
 replace e:=(if_pos (zbg Q)).symm.trans e;refine zae<|bk_n<|W_th<|W_sr<|mv L V V<|bse e fun cB R e=>wa V (q_arrAt V A152 V (T.lift (le_ p)) (Nat.le_of_eq (zad R).symm))<|wq V (q_loadSp V A152 V (T.lift (le_ p)) (zad R) (by decide))<|?_;refine wls V V (sal u8 (List.replicate 16 (0:UInt8)) [] V Z152 ?_);intro f cV bT bO aY cJ;have c6:=zaa aY;have W:=Nw.ext p bO;have aV:=p.trans c6;obtain ⟨cF,bE,e⟩:=bsi e;refine wln V V (zbm [] [] V A152 V V (zad bE) (zad R) bT zio ?_);intro cY bW aZ cK;have H:=aV.grown aZ W;refine wnt<|W_sr<|mv h V V<|?_;obtain ⟨D,b8,e⟩:=bsi e;obtain ⟨i,N,U,K,O,b1,s,b2,cG⟩:=Ci.some S b8;refine wa V (zbl (g:=i) (m:=0) V (Eq.trans V K))<|wa V (zhw (g:=i) (d:=1) V zgm V)<|wq V (zan (u:=U) V Tryz.isAgg143 V (O.ext H) V)<|bse e fun a4 a9 e=>wa V (q_adrK V K143 V V (s.lift (le_ H)) a9)<|wq V (q_loadK V K143 V (s.lift (le_ H)) a9)<|?_;obtain ⟨bX,bF,e⟩:=bsi e;refine wls V V (zab (vs:=[bp f,ag u8 a4]) Tryz.func142 V V V (ar2 V V) (zg4 C a4 f bX _ bW bF) ?_);rintro _ cM ⟨rfl,c4,b3⟩;refine ⟨_,rfl,?_⟩;have F:=H.grownX c4 W;refine wnt<|W_seq<|W_sr<|mv h V V<|wa V (zbl (g:=i) (m:=0) V (Eq.trans V K))<|wa V (zhw (g:=i) (d:=1) V zgm V)<|wq V (zan (u:=U) V Tryz.isAgg143 V (O.ext F) V)<|bse e fun aN J e=>wa V (q_sliceK (a:=1) (c:=(D.keys.length:Int)) V K143 V (s.lift (le_ F)) V V J)<|wa V (q_lenK V Tryz.underlying143 V (Ka.cut (s.lift (le_ F)) J))<|mv (i64 0) V V<|wnt<|?_;obtain ⟨aH,aM,e⟩:=bsi e;refine W_mid (fun k A=>k 6=bp f/\k 58=undef/\Ext w0 A/\Blk A f 152 (ac u8 aH)/\Nw w0 (bp f)) ?_ ?_
 ·refine zac<|zau (fun o k A=>k 0=h/\k 6=bp f/\k 30=subK U (1:Int).toNat ((D.keys.length:Int):Int).toNat/\k 31=i64 (aN.length:Int)/\k 32=i64 o.2/\k 58=undef/\Ext w0 A/\Blk A f 152 (ac u8 o.1)/\Nw w0 (bp f)) aM ?_ ?_
  ·exact ⟨rfl,rfl,rfl,rfl,rfl,rfl,F,b3,W⟩
  rintro o _ _ cN ⟨w,r,Z,a0,x,a1,t,v,j⟩ b bG;refine W_sr<|wa V (q_ltI V x a0)<|wnt<|W_seq<|wci b V V (fun b=>?_) (fun b=>?_)
  ·refine zae<|W_th<|W_seq<|zac<|W_sr<|mv (i64 o.2) V x<|bse b fun E aA b=>wa V (q_adrK V K143 (by exact Z) (by exact x) (Ka.cut (s.lift (le_ t)) J) aA)<|wq V (q_loadK V K143 V (Ka.cut (s.lift (le_ t)) J) aA)<|wls V V (sal u8 (List.replicate 16 (0:UInt8)) [bp f] V Z152 ?_);intro aW cO bS aB aX cH;have aI:=zaa aX;have M:Nq (bp f) (bp aW):=v.nq aB;have aC:=Nw.ext t aB;have aP:=t.trans aI;refine av (i64 o.2) V V ?_;obtain ⟨c9,b9,b⟩:=bsi b;obtain ⟨cA,bA,b⟩:=bsi b;refine wln V V (zbm [] [bp f] V A152 V V (zad b9) (zad bA) bS zio ?_);intro cP q a7 cI;replace v:=(v.ext aI).other a7 M;have a5:=aP.grown a7 aC;refine wnt<|W_sr<|mv h V w<|wa V (zbl (g:=i) (m:=0) V (Eq.trans V K))<|wa V (zhw (g:=i) (d:=2) V fieldAtC2 V)<|?_;obtain ⟨aD,bH,b⟩:=bsi b;refine wls V V (zab (vs:=[bp f,bpo i 2]) Tryz.func143 V V V (ar2 (by exact r) V) (cipher_box_calls o.1 D.box f (bpo i 2) aD _ v (b2.lift (Lift.arg a5 (nv_cons j nv_nil))) bH) ?_);rintro _ cQ ⟨rfl,aJ,b4⟩;refine ⟨_,rfl,?_⟩;have aQ:=a5.grownX aJ j;refine wnt<|W_sr<|?_;obtain ⟨Y,bI,b⟩:=bsi b;refine wls V V (zab (vs:=[bp f,i64 1]) Tryz.func144 V V V (ar2 (by exact r) V) (cipher_rows_calls aD 1 f Y _ b4 bI) ?_);rintro _ cR ⟨rfl,aK,I⟩;refine ⟨_,rfl,?_⟩;replace q:=(q.otherX aJ M.symm).otherX aK M.symm;have a6:=aQ.grownX aK j;refine wnt<|W_seq<|W_sr<|mv (i64 o.2) V V<|mv h V w<|?_;obtain ⟨bY,bJ,b⟩:=bsi b;refine wls V V (zab (vs:=[h]) Tryz.func145 V V V (ar1 V) (cipher_Rounds_calls B h bY _ (S.lift (le_ a6)) bJ) ?_);rintro _ cS ⟨rfl,a3⟩;refine ⟨_,rfl,?_⟩;replace q:=q.ext a3;replace I:=I.ext a3
   have G:=a6.trans a3;refine wa V (za9 V V V)<|wa V (q_ltI V V V)<|wnt<|wci b V V (fun b=>?_) (fun b=>?_)
   ·refine W_rg<|mv h V w<|wa V (zbl (g:=i) (m:=0) V (Eq.trans V K))<|wa V (zhw (g:=i) (d:=0) V fieldAtC0 V)<|wq V (zan (u:=N) V Tryz.isAgg27 V (O.ext G) V)<|wa V (q_buildAF (l:=([(2:UInt8),(1:UInt8),(1:UInt8),(3:UInt8)]:List UInt8)) (us:=[u8 2,u8 1,u8 1,u8 3]) (z:=(0:UInt8)) V A173 Z173 (by exact ⟨rfl,cst8 (2:UInt8) V,rfl,cst8 (1:UInt8) V,rfl,cst8 (1:UInt8) V,rfl,cst8 (3:UInt8) V,trivial⟩) V V cel_u8)<|?_;obtain ⟨aE,bK,b⟩:=bsi b;refine wls V V (zab (vs:=[bp f,N,ag u8 ([(2:UInt8),(1:UInt8),(1:UInt8),(3:UInt8)]:List UInt8)]) Tryz.func146 V V V (ar3 (by exact r) V V) (cipher_columns_calls Y D.f ([(2:UInt8),(1:UInt8),(1:UInt8),(3:UInt8)]:List UInt8) f N aE _ I ((b1.lift (Lift.arg G (nv_cons aC (nv_cons j nv_nil)))).lift (Lift.sub (fun _ b0=>⟨b0.2.1,trivial⟩))) bK) ?_);rintro _ cT ⟨rfl,aL,b5⟩;refine ⟨_,rfl,?_⟩;replace q:=q.otherX aL M.symm;have aR:=G.grownX aL j;refine wnt<|W_rg<|bse b fun cC bB b=>wq V (ziz (m:=0) V A152 V q (zaf _ _) (zad bB)) ?_;obtain ⟨bZ,bL,b⟩:=bsi b;refine wls V V (zab (vs:=[bp f,ag u8 E]) Tryz.func142 V V V (ar2 (by exact r) V) (zg4 aE E f bZ _ b5 bL) ?_);rintro _ cU ⟨rfl,c5,b6⟩;refine ⟨_,rfl,?_⟩;have aS:=aR.grownX c5 j;refine zag<|bk_n<|W_th<|W_rg<|wa V (zak V x V)<|mv (i64 (wI (o.2+1))) V V<|zag<|?_;obtain rfl:=osi b;exact ⟨_,rfl,w,r,Z,a0,rfl,a1,aS,b6,j⟩
   refine zae<|W_th<|W_rg<|bse b fun cD bC b=>wq V (ziz (m:=0) V A152 V q (zaf _ _) (zad bC)) ?_;obtain ⟨c0,bM,b⟩:=bsi b;refine wls V V (zab (vs:=[bp f,ag u8 E]) Tryz.func142 V V V (ar2 (by exact r) V) (zg4 Y E f c0 _ I bM) ?_);rintro _ cW ⟨rfl,c7,b7⟩;refine ⟨_,rfl,?_⟩;have aT:=G.grownX c7 j;refine zag<|bk_n<|W_th<|W_rg<|wa V (zak V x V)<|mv (i64 (wI (o.2+1))) V V<|zag<|?_;obtain rfl:=osi b;exact ⟨_,rfl,w,r,Z,a0,rfl,a1,aT,b7,j⟩
  refine zar<|th_x<|?_;obtain rfl:=osi b;obtain rfl:=bG _ rfl;refine th_x<|bk_x<|?_;exact ⟨r,a1,t,v,j⟩
 rintro _ cX ⟨c2,c1,a8,bR,cL⟩;refine W_th<|W_sr<|bse e fun cE bD e=>wa V (zj5 V A152 (by exact c2)) ?_;obtain ⟨aF,bN,e⟩:=bsi e;refine wls V V (zab (vs:=[.slice (some ⟨f,0,none⟩) 16 16]) Tryz.func59 V V V (ar1 V) (zap aH (.slice (some ⟨f,0,none⟩) 16 16) aF _ (Blk.by bR (zad bD)) bN) ?_);rintro _ c3 ⟨y,rfl,c8,bP,bV⟩;refine ⟨_,rfl,?_⟩;have bU:OwK (Sc u8) c3 (y::[bp f]) 5 y aF:=OwK.scal bV _;have bQ:=Nw.ext a8 bP;have aU:=a8.trans c8;refine av y V V<|av (i64 0) V V<|wnt<|W_ret<|?_;obtain rfl:=osi e;refine rt2 y (i64 0) V V V V V c1 ?_;exact ⟨y,rfl,aU,bQ,bU.weak (Sc.stab _) (fun _ _=>trivial)⟩
end Gk

/- A range over a function whose iterator may draw an order of evaluation: what a round needs then stays behind a draw, too. No condition. -/
namespace Gk
open Go Go.RowKit
def SeqD {α:Type} (P:Program) (gf:Nat) (lb:Array Value) (encs:α->Array Value) (Kp:World->World->Prop) (S:List α->Prop) (N:Nat) (w:World):Prop :=
 ∀ (l:Nat) (J:List α->World->Prop) (W:World),Below w.heap.size w W->(∀ pre W,J pre W->J pre W.drew) →
  (∀ pre x W1,J pre W1->pre.length<N->YieldAt Fence.wide 0 P l (encs x) W1 fun e W'=>e=.returned (.bool true)/\J (pre ++ [x]) W'/\Kp W1 W') →
  J [] W->CallsIn Fence.wide 1 P gf (#[.func (.yield l) #[] #[]] ++ lb) W fun e W'=>(∃ v,e=.returned v)/\∃ xs,S xs/\J xs W'
def RoundD {α:Type} (B:Nat) (Kp:World->World->Prop) (I:List α->World->Prop) (xs:List α) (W:World):Exit->(Nat->Value)->World->Prop
 | .normal,_,W'=>KeepsFrom B W W'/\Kp W W'/\I xs W'
 | _,_,_=>False
theorem Tn.alloc {B:Nat} (w:World) (o:Obj):Tn B w (w.alloc o):=⟨none,World.grownBy_alloc w o none,fun _ e=>by cases e⟩
theorem Tn.putO {B:Nat} {w:World} {l:Nat} {o:Obj} (h:w.heap[l]?=some o) (hc:o.isCells=false) (hB:B<=l) (o':Obj):Tn B w (w.putObj l o') :=
 ⟨some l,grownBy_putObj' w l o',fun r e=>by cases e;exact ⟨hB,o,h,hc⟩⟩
section
variable {P : Program} {n : Nat} {Q : Exit → (Nat → Value) → World → Prop} {f : Nat → Value} {w : World}
theorem params1 {n:Nat} {F:Nat->Value} {p:Nat} {a:Value} (hm:F n=undef) (hp:Nat.blt p n=true) :
  ({ tmps:=((#[p]:Array Tmp).zip #[a]).foldl (fun t (p,v)=>t.setIfInBounds p v) (fr n F).tmps,defers:=[] }:Act)=fr n (upd F p a):=by
 have h1:=zgx n F (some p) a hp
 have e:(fr n F).defers=[]:=by show dec (F n)=[];rw [hm];rfl
 simp only [updO] at h1
 rw [← h1]
 simp [Act.put,e]
theorem tmps_clear {n:Nat} (f:Nat->Value):(fr n (upd f n undef)).tmps=(fr n f).tmps:=by
 apply Array.ext_getElem?
 intro i
 by_cases hi:i<n
 ·rw [fr_get n _ i hi,fr_get n _ i hi,upd_ne f _ (by omega)]
 ·rw [zj8 n _ i (by omega),zj8 n _ i (by omega)]
theorem upd_clear {n:Nat} {f:Nat->Value} (hm:f n=undef):upd f n undef=f:=by
 funext t
 by_cases h:t=n
 ·subst h;rw [upd_eq,hm]
 ·rw [upd_ne f _ h]
theorem mark_one {n:Nat} {f:Nat->Value} (hm:f n=undef) (D:Nat):fr n (upd f n (bp D))={ fr n f with defers:={ target:=.collected D,args:=#[] } :: (fr n f).defers }:=(fr_mark n f D hm).symm
theorem mark_two {n D':Nat} {f:Nat->Value} (hm:f n=bp D') (D:Nat):fr n (upd f n (mk2 D D'))={ fr n f with defers:={ target:=.collected D,args:=#[] } :: (fr n f).defers }:=by
 have e1:(fr n (upd f n (mk2 D D'))).tmps=(fr n f).tmps:=by
  apply Array.ext_getElem?
  intro i
  by_cases hi:i<n
  ·rw [fr_get n _ i hi,fr_get n _ i hi,upd_ne f _ (by omega)]
  ·rw [zj8 n _ i (by omega),zj8 n _ i (by omega)]
 have e2:(fr n f).defers=[{ target:=.collected D',args:=#[] }]:=by show dec (f n)=_;rw [hm];rfl
 have e3:(fr n (upd f n (mk2 D D'))).defers=[{ target:=.collected D,args:=#[] },{ target:=.collected D',args:=#[] }]:=by
  show dec (upd f n (mk2 D D') n)=_
  rw [upd_eq];rfl
 rw [e2]
 show Act.mk (fr n (upd f n (mk2 D D'))).tmps (fr n (upd f n (mk2 D D'))).defers=_
 rw [e1,e3]
theorem W_rangeD {α:Type} {g:Operand} {p:Tmp} {assign body:Code} {mk:Nat->Value} (hm:∀ D,fr n (upd f n (mk D))={ fr n f with defers:={ target:=.collected D,args:=#[] } :: (fr n f).defers }) (hog:okO n g=true) {gf:Nat} {lb:Array Value} (hg:ev f g=.func (.func gf) #[] lb)
  (eg:∀ args w,(callFunc gf args).run P w=.ok (.enter gf args) w)
  {ea:α->Value} {Kp:World->World->Prop} {S:List α->Prop} {N:Nat} (hseq:SeqD P gf lb (fun x=>#[ea x]) Kp S N w)
  (hKt:∀ {A B C:World},Kp A B->Kp B C->Kp A C) (hKb:∀ (W:World) (l:Nat) (o o':Obj),w.heap.size<=l->W.heap[l]?=some o->o.isCells=false->Kp W (W.putObj l o')) (hp:Nat.blt p n=true)
  (I:List α->World->Prop) (hI:∀ s W W',Tn w.heap.size W W'->I s W->I s W') (hD:∀ s W,I s W->I s W.drew) (h0:I [] w) (fa:α->Nat->Value)
  (hassign:∀ (l:Nat) (x:α) (W1:World) (K:(Nat->Value)->World->Prop),K (fa x) W1->W (ro:=some l) P n assign (Th K (fun _ _ _=>False)) (upd (upd f n undef) p (ea x)) W1)
  (hbody:∀ (l:Nat) (pre:List α) (x:α) (W1:World),I pre W1->pre.length<N->W (ro:=some l) P n body (RoundD w.heap.size Kp I (pre ++ [x]) W1) (fa x) W1)
  (hdone:∀ (D:Nat) (xs:List α) (W1:World),w.heap.size<=D->S xs->I xs W1->W1.heap[D]?=some (.deferred (some []))->Q .normal (upd f n (mk D)) W1) :
  W (ro:=none) P n (.rangeFunc g #[p] assign body) Q f w:=by
 unfold W
 refine (wpIn_wide (n:=0)).2 ((wpIn_wide (n:=2)).1 ?_)
 refine wpIn_rangeFunc ?_
 intro fn hfn
 obtain ⟨rc,hrc⟩:∃ rc:LoopState->Loop,rc=fun st=>{ state:=st,pending:=none,fn,tmps:=(fr n f).tmps,params:=#[p],assign,body,defers:=w.heap.size }:=⟨_,rfl⟩
 have hent:=run_enterLoop_outer (P:=P) (w:=w) fn (fr n f).tmps #[p] assign body
 have eR:({ state:=.ready,pending:=none,fn,tmps:=(fr n f).tmps,params:=#[p],assign,body,defers:=w.heap.size }:Loop)=rc .ready:=by rw [hrc]
 rw [eR] at hent
 generalize hA:w.alloc (.deferred (some []))=WA at hent
 generalize hB:WA.alloc (.loop (rc .ready))=WB at hent
 have sA:WA.heap.size=w.heap.size+1:=by rw [← hA];simp
 have sB:WB.heap.size=w.heap.size+2:=by rw [← hB];simp [sA]
 have tA:Tn w.heap.size w WA:=by rw [← hA];exact Tn.alloc _ _
 have tB:Tn w.heap.size WA WB:=by rw [← hB];exact Tn.alloc _ _
 have hL:WB.heap[w.heap.size+1]?=some (.loop (rc .ready)):=by
  have:=alloc_new WA (.loop (rc .ready))
  rwa [sA,hB] at this
 have hK:WB.heap[w.heap.size]?=some (.deferred (some [])):=by
  have h1:=alloc_new w (.deferred (some []))
  rw [hA] at h1
  have h2:=zgu WA (.loop (rc .ready)) w.heap.size (by omega)
  rw [hB] at h2
  exact h2.trans h1
 have hbel:Below w.heap.size w WB:=by
  have h1:=(Below.refl w.heap.size w).alloc (Nat.le_refl _) (.deferred (some []))
  rw [hA] at h1
  have h2:=h1.alloc (by omega) (.loop (rc .ready))
  rwa [hB] at h2
 refine ⟨w.heap.size+1,[{ target:=.collected w.heap.size,args:=#[] }],WB,{ target:=.fn (.func gf) lb,args:=#[.func (.yield (w.heap.size+1)) #[] #[]] },WB,gf,#[.func (.yield (w.heap.size+1)) #[] #[]] ++ lb,WB,hent,?_,?_,?_,fun _=>by decide,?_⟩
 ·have hgv:(fr n f).eval g=.func (.func gf) #[] lb:=by rw [fr_eval n f g hog];exact hg
  simp only [resolve,hgv]
  simp [go_sem]
 ·intro f' _;trivial
 ·simp [invoke,go_sem,eg]
 refine (hseq (w.heap.size+1) (fun pre X=>I pre X/\X.heap[w.heap.size+1]?=some (.loop (rc .ready))/\X.heap[w.heap.size]?=some (.deferred (some []))) WB hbel (fun pre X h=>⟨hD pre X h.1,h.2.1,h.2.2⟩) ?_ ⟨hI _ _ _ tB (hI _ _ _ tA h0),hL,hK⟩).mono ?_
 ·rintro pre x X ⟨hi,hl,hk⟩ hlen
  have hlt:=zbp hl
  have hy:=run_yield (P:=P) (args:=#[ea x]) hl (by rw [hrc];rfl)
  have hbr:=run_beginRound (P:=P) hl (by rw [hrc])
  generalize hX2:X.putObj (w.heap.size+1) (.loop { rc .ready with state:=.busy })=X2 at hbr
  have hl2:X2.heap[w.heap.size+1]?=some (.loop { rc .ready with state:=.busy }):=by rw [← hX2];exact World.putObj_heap_same hlt
  have hk2:X2.heap[w.heap.size]?=some (.deferred (some [])):=by rw [← hX2];exact (World.putObj_heap_other (by omega)).trans hk
  have hw2:Kp X X2:=by rw [← hX2];exact hKb _ _ _ _ (by omega) hl rfl
  have hi2:I pre X2:=by rw [← hX2];exact hI _ _ _ (Tn.putO hl rfl (by omega) _) hi
  refine ⟨_,_,_,_,hy,?_⟩
  have hfn':Fence.wide.fn (rc .ready).fn:=trivial
  refine roundIn_of_wpIn hfn' ?_
  have hpar:({ tmps:=((rc .ready).params.zip #[ea x]).foldl (fun t (p,v)=>t.setIfInBounds p v) (rc .ready).tmps,defers:=[] }:Act)=fr n (upd (upd f n undef) p (ea x)):=by
   rw [hrc,← tmps_clear f];exact params1 (upd_eq f n undef) hp
  rw [hpar]
  have hasg:=hassign (w.heap.size+1) x X (fun f' X'=>∃ X2,(Instr.beginRound (w.heap.size+1)).run P X'=.ok () X2/\body.wpIn (Fence.wide.inRound (w.heap.size+1)) 0 P (roundPost P (w.heap.size+1) fun e W'=>e=.returned (.bool true)/\(I (pre ++ [x]) W'/\W'.heap[w.heap.size+1]?=some (.loop (rc .ready))/\W'.heap[w.heap.size]?=some (.deferred (some [])))/\Kp X W') (fr n f') X2) ⟨X2,hbr,?_⟩
  ·have e1:(rc .ready).assign=assign:=by rw [hrc]
   have e2:(rc .ready).body=body:=by rw [hrc]
   rw [e1,e2]
   refine wpIn_mono hasg ?_
   rintro e a X' ⟨f',rfl,q⟩
   cases e <;> exact q
  ·refine wpIn_mono (hbody (w.heap.size+1) pre x X2 hi2 hlen) ?_
   rintro e a X3 ⟨f',rfl,q⟩
   cases e <;> first | exact q.elim | skip
   obtain ⟨k3,kp3,hi3⟩:=q
   have hl3:=k3.same _ _ (by omega) hl2 rfl
   have hk3:=k3.same _ _ (Nat.le_refl _) hk2 rfl
   have her:=run_endRound (P:=P) none hl3
   have e3:({ ({ rc .ready with state:=.busy }:Loop) with state:=if (none:Option Code).isNone then .ready else .done,pending:=none }:Loop)=rc .ready:=by rw [hrc];rfl
   rw [e3] at her
   refine ⟨_,_,her,rfl,⟨hI _ _ _ (Tn.putO hl3 rfl (by omega) _) hi3,World.putObj_heap_same (zbp hl3),(World.putObj_heap_other (by omega)).trans hk3⟩,hKt (hKt hw2 kp3) (hKb _ _ _ _ (by omega) hl3 rfl)⟩
 ·rintro e X ⟨⟨v,rfl⟩,xs,hS,hi,hl,hk⟩
  have hend:=run_endLoop (P:=P) hl (by rw [hrc];simp)
  have hp0:(rc .ready).pending=none:=by rw [hrc]
  rw [hp0] at hend
  refine ⟨none,_,hend,?_⟩
  refine ⟨_,(hm w.heap.size).symm,hdone w.heap.size xs _ (Nat.le_refl _) hS (hI _ _ _ (Tn.putO hl rfl (by omega) _) hi) ((World.putObj_heap_other (by omega)).trans hk)⟩
theorem W_rangeDG {α α' σ:Type} {mk:Nat->Value} {π:α'->α} {xs:List α} {fstep:σ->α->Option σ} {s0 r:σ} {g:Operand} {p:Tmp} {assign body:Code} (hfold:zjh fstep xs s0=some r)
  (hm:∀ D,fr n (upd f n (mk D))={ fr n f with defers:={ target:=.collected D,args:=#[] } :: (fr n f).defers }) (hog:okO n g=true) {gf:Nat} {lb:Array Value} (hg:ev f g=.func (.func gf) #[] lb)
  (eg:∀ args w,(callFunc gf args).run P w=.ok (.enter gf args) w)
  {ea:α'->Value} {Rd:World->Prop} {S:List α'->Prop} {N:Nat} (hN:N=xs.length) (hseq:SeqD P gf lb (fun x=>#[ea x]) (Keep Rd) S N w) (hS:∀ ys,S ys->ys.map π=xs) (hmem:∀ x,π x∈xs)
  (hRdT:∀ W W',Tn w.heap.size W W'->Rd W->Rd W') (hp:Nat.blt p n=true)
  (I:σ->World->Prop) (hI:∀ s W W',Tn w.heap.size W W'->I s W->I s W') (hD:∀ s W,I s W->I s W.drew) (h0:I s0 w) (ga:α'->(Nat->Value)->Nat->Value)
  (hassign:∀ (l:Nat) (x:α') (W1:World) (K:(Nat->Value)->World->Prop),K (ga x (upd (upd f n undef) p (ea x))) W1->W (ro:=some l) P n assign (Th K (fun _ _ _=>False)) (upd (upd f n undef) p (ea x)) W1)
  (hbody:∀ (l:Nat) (x:α') (s s':σ) (W1:World),I s W1->fstep s (π x)=some s'->W (ro:=some l) P n body (RoundK w.heap.size Rd (I s') W1) (ga x (upd (upd f n undef) p (ea x))) W1)
  (hdone:∀ (D:Nat) (W1:World),w.heap.size<=D->I r W1->W1.heap[D]?=some (.deferred (some []))->Q .normal (upd f n (mk D)) W1) :
  W (ro:=none) P n (.rangeFunc g #[p] assign body) Q f w:=by
 obtain ⟨hall,hxs⟩:=rangeL_some hfold
 refine W_rangeD hm hog hg eg hseq (fun h k=>h.trans k) ?_ hp (fun pre W=>∃ s,(pre.map π).foldlM fstep s0=some s/\I s W) ?_ ?_ ⟨s0,rfl,h0⟩ (fun x=>ga x (upd (upd f n undef) p (ea x))) hassign ?_ ?_
 ·intro W l o o' hl ho hc
  have hg:=grownBy_putObj' W l o'
  exact ⟨hg.size,fun h=>hRdT _ _ ⟨some l,hg,fun r e=>by cases e;exact ⟨hl,o,ho,hc⟩⟩ h⟩
 ·rintro pre W W' t ⟨s,hs,h⟩
  exact ⟨s,hs,hI _ _ _ t h⟩
 ·rintro pre W ⟨s,hs,h⟩
  exact ⟨s,hs,hD _ _ h⟩
 ·rintro l pre x W1 ⟨s,hs,h⟩ hl
  obtain ⟨s2,h2⟩:=hall ((pre ++ [x]).map π) (by simp;omega) (fun y hy=>by
   obtain ⟨z,_,rfl⟩:=List.mem_map.1 hy
   exact hmem z)
  have h3:fstep s (π x)=some s2:=by
   rw [List.map_append,foldlM_app,hs] at h2
   simpa using h2
  refine wpIn_mono (hbody l x s s2 W1 h h3) ?_
  rintro e a w' ⟨f',rfl,q⟩
  refine ⟨f',rfl,?_⟩
  cases e <;> first | exact q.elim | exact ⟨q.1,⟨q.1.size,fun _=>q.2.1⟩,s2,h2,q.2.2⟩
 ·rintro D ys W1 hD hSy ⟨s,hs,h⟩ hK
  rw [hS ys hSy,hxs] at hs
  obtain rfl:=Option.some.inj hs
  exact hdone D W1 hD h hK
theorem W_rangeDS {α α' σ:Type} {π:α'->α} {xs:List α} {fstep:σ->α->Option σ} {s0 r:σ} {g:Operand} {p:Tmp} {assign body:Code} (hfold:zjh fstep xs s0=some r)
  (hm:f n=undef) (hog:okO n g=true) {gf:Nat} {lb:Array Value} (hg:ev f g=.func (.func gf) #[] lb)
  (eg:∀ args w,(callFunc gf args).run P w=.ok (.enter gf args) w)
  {ea:α'->Value} {Rd:World->Prop} {S:List α'->Prop} {N:Nat} (hN:N=xs.length) (hseq:SeqD P gf lb (fun x=>#[ea x]) (Keep Rd) S N w) (hS:∀ ys,S ys->ys.map π=xs) (hmem:∀ x,π x∈xs)
  (hRdT:∀ W W',Tn w.heap.size W W'->Rd W->Rd W') (hp:Nat.blt p n=true)
  (I:σ->World->Prop) (hI:∀ s W W',Tn w.heap.size W W'->I s W->I s W') (hD:∀ s W,I s W->I s W.drew) (h0:I s0 w) (ga:α'->(Nat->Value)->Nat->Value)
  (hassign:∀ (l:Nat) (x:α') (W1:World) (K:(Nat->Value)->World->Prop),K (ga x (upd f p (ea x))) W1->W (ro:=some l) P n assign (Th K (fun _ _ _=>False)) (upd f p (ea x)) W1)
  (hbody:∀ (l:Nat) (x:α') (s s':σ) (W1:World),I s W1->fstep s (π x)=some s'->W (ro:=some l) P n body (RoundK w.heap.size Rd (I s') W1) (ga x (upd f p (ea x))) W1)
  (hdone:∀ (D:Nat) (W1:World),w.heap.size<=D->I r W1->W1.heap[D]?=some (.deferred (some []))->Q .normal (upd f n (bp D)) W1) :
  W (ro:=none) P n (.rangeFunc g #[p] assign body) Q f w:=by
 have hc:=upd_clear hm
 refine W_rangeDG (mk:=bp) hfold (mark_one hm) hog hg eg hN hseq hS hmem hRdT hp I hI hD h0 ga ?_ ?_ hdone
 ·rw [hc];exact hassign
 ·rw [hc];exact hbody
end
def za3 {α:Type} (l:List α) (n:Nat):List (Int×List α):=(List.range ((l.length+n - 1) / n)).map fun j=>(((j * n:Nat):Int),(l.drop (j * n)).take n)
abbrev ChEl {α:Type} (l:List α) (n:Nat):={x:Int×List α // subL3 l x.1 (x.1+(x.2.length:Int)) (x.1+(x.2.length:Int))=some x.2/\x∈za3 l n}
theorem zje {α:Type} {l:List α} {n j:Nat} (hn:1<=n):j<(za3 l n).length ↔ j * n<l.length:=by
 simp only [za3,List.length_map,List.length_range]
 rw [Nat.lt_div_iff_mul_lt (by omega)]
 constructor
 ·intro h;omega
 ·intro h;omega
theorem chunksI_at {α:Type} {l:List α} {n j:Nat} (hn:1<=n) (h:j * n<l.length):(za3 l n)[j]?=some (((j * n:Nat):Int),(l.drop (j * n)).take n):=by
 have:=(zje (l:=l) hn).2 h
 simp only [za3,List.length_map,List.length_range] at this
 simp [za3,this]
theorem chunksI_sub {α:Type} {l:List α} {n j:Nat} (h:j * n<l.length):subL3 l ((j * n:Nat):Int) (((j * n:Nat):Int)+(((l.drop (j * n)).take n).length:Int)) (((j * n:Nat):Int)+(((l.drop (j * n)).take n).length:Int))=some ((l.drop (j * n)).take n):=by
 refine zi8.2 ⟨?_,?_⟩
 ·simp only [List.length_take,List.length_drop];omega
 ·have e:(((j * n:Nat):Int)+(((l.drop (j * n)).take n).length:Int)).toNat=j * n+((l.drop (j * n)).take n).length:=by omega
  rw [e,Int.toNat_natCast,List.drop_take,Nat.add_sub_cancel_left]
  simp [List.take_take]
end Gk

/- slices.Chunk over bytes and over rows: what it hands back, and its iterator's contract. (Printed by genXFk.py.) No condition. -/
namespace Gk
open Go Go.Proofs Go.RowKit
theorem run_yieldcall1 {P:Program} {o:Oper} {f:Nat->Value} {w:World} {l:Nat} {x y:Operand} {ts:Array TypeId} {a:Value} {r:Next} (ho:o.op=.call ⟨.value x,#[y],ts⟩) (hx:ev f x=.func (.yield l) #[] #[]) (hy:ev f y=a)
  (h:(Instr.yield l #[a]).run P w=.ok r w):(execOp (ev f) o).run P w=.ok r w:=by
 simp [execOp,ho,hx,hy,resolve,invoke,Deferred.ofValue,h]
theorem zi2 (v:Value) (hv:v.cells=#[v]) (n:Int) (hn:1<=n) (w:World):Calls Tryz.prog 87 [v,i64 n].toArray w fun e w' =>
  ∃ g1 g2,e=.returned (.func (.func 116) #[] #[bp g1,bp g2])/\Nw w (bp g1)/\Nw w (bp g2)/\Nq (bp g1) (bp g2)/\Blk w' g1 22 #[v]/\Blk w' g2 3 #[i64 n]/\Ext w w':=by
 refine zai (n:=9) Tryz.func87 rfl rfl rfl ?_;refine W_seq<|W_rg<|?_;refine wls rfl rfl (stp_box (v:=v) rfl rfl ?_);intro w1 hb1 hg1;rw [hv] at hb1;refine wls rfl rfl (stp_box (v:=i64 n) rfl rfl ?_);intro w2 hb2 hg2;have hb1':Blk w2 w.heap.size 22 #[v]:=hb1.ext (zaa hg2);have hs1:w.heap.size<w1.heap.size:=hb1.lt;refine av .nilFunc rfl rfl<|wnt<|W_seq<|W_seq<|W_rg<|wq rfl (zan (u:=i64 n) rfl Tryz.isAgg3 rfl hb2 rfl)<|wa rfl (q_ltI rfl rfl rfl)<|wnt<|?_;refine zam false rfl ?_ (fun h=>by cases h) (fun _=>?_)
 ·exact congrArg Value.bool (decide_eq_false (by omega))
 refine zae<|W_th<|W_seq<|W_rg<|wa rfl (zgq (vs:=[bp w.heap.size,bp w1.heap.size]) rfl (ar2 rfl rfl))<|av (.func (.func 116) #[] [bp w.heap.size,bp w1.heap.size].toArray) rfl rfl<|wnt<|W_ret<|?_;refine rt1 (.func (.func 116) #[] [bp w.heap.size,bp w1.heap.size].toArray) rfl rfl rfl rfl ?_;refine ⟨w.heap.size,w1.heap.size,rfl,Nw.bp w,?_,?_,hb1',hb2,(zaa hg1).trans (zaa hg2)⟩
 ·intro k hk;have:=hs_bp hk;omega
 intro k h1 h2;have:=hs_bp h1;have:=hs_bp h2;omega
def zb6 (l:List (UInt8)) (n:Int) (g1 g2:Nat) (v:Value) (w:World):Prop:=Blk w g1 22 #[v]/\Blk w g2 3 #[i64 n]/\By w [] v l
theorem zb6.tn {l:List (UInt8)} {n:Int} {g1 g2 B:Nat} {v:Value} {W W':World} (t:Tn B W W') (h:zb6 l n g1 g2 v W):zb6 l n g1 g2 v W':=⟨h.1.tn t,h.2.1.tn t,h.2.2.lift (t.lift _)⟩
theorem zb6.ext {l:List (UInt8)} {n:Int} {g1 g2:Nat} {v:Value} {W W':World} (t:Ext W W') (h:zb6 l n g1 g2 v W):zb6 l n g1 g2 v W':=⟨h.1.ext t,h.2.1.ext t,h.2.2.lift (Lift.ext t _)⟩
theorem zb6.below {l:List (UInt8)} {n:Int} {g1 g2:Nat} {v:Value} {W W':World} (t:Below W.heap.size W W') (h:zb6 l n g1 g2 v W):zb6 l n g1 g2 v W' :=
 ⟨(t.block g1 h.1.lt).trans h.1,(t.block g2 h.2.1.lt).trans h.2.1,h.2.2.lift ⟨fun k o ho _ _=>(t.block k (zbp ho)).trans ho,fun _ _ _=>trivial⟩⟩
/-- slices.Chunk's iterator over []byte. -/
theorem chunk_bytes (l : List (UInt8)) (n : Nat) (hn : 1 <= n) (v : Value) (g1 g2 : Nat) (w : World) (hrd : zb6 l (n : Int) g1 g2 v w) (hlen : l.length + n < 9223372036854775808) :
  SeqD Tryz.prog 116 #[bp g1, bp g2] (fun x : ChEl l n => #[subW v x.1.1.toNat (x.1.1 + (x.1.2.length : Int)).toNat (x.1.1 + (x.1.2.length : Int)).toNat]) (Keep (zb6 l (n : Int) g1 g2 v)) (fun ys => ys.map (·.1) = za3 l n) (za3 l n).length w := by
 intro lp J W0 hW hJd hY h0; have hrd0 : zb6 l (n : Int) g1 g2 v W0 := hrd.below hW; refine callsIn_wide.2 ?_
 show Calls Tryz.prog 116 [Value.func (.yield lp) #[] #[], bp g1, bp g2].toArray W0 _
 refine zai (n := 31) Tryz.func116 rfl rfl rfl ?_; refine W_seq <| W_rg <| av (i64 0) rfl rfl <| wnt <| zac <| ?_; refine W_loopG (fun k f w => f 31 = undef /\ f 0 = .func (.yield lp) #[] #[] /\ f 1 = bp g1 /\ f 2 = bp g2 /\ k <= (za3 l n).length /\ f 4 = i64 ((((za3 l n).length - k) * n : Nat) : Int) /\ (∃ ys : List (ChEl l n), ys.map (·.1) = (za3 l n).take ((za3 l n).length - k) /\ J ys w) /\ zb6 l (n : Int) g1 g2 v w) (za3 l n).length ?_ ?_
 ·exact ⟨rfl, rfl, rfl, rfl, Nat.le_refl _, by rw [Nat.sub_self, Nat.zero_mul]; rfl, ⟨[], by simp, h0⟩, hrd0⟩
 rintro k f w1 ⟨hm, s0, s1, s2, hk, s4, ⟨ys, hys, hJ⟩, hrd1⟩; obtain ⟨hB1, hB2, hl1⟩ := hrd1
 generalize hj : (za3 l n).length - k = j at *
 refine W_seq <| W_seq <| W_rg <| mv (i64 ((j * n : Nat) : Int)) rfl s4 <| wq rfl (zan (u := v) rfl Tryz.isAgg22 s1 hB1 rfl) <| wa rfl (q_len rfl T22.sl rfl hl1) <| wa rfl (q_ltI rfl rfl rfl) <| wnt <| ?_; refine zam _ rfl rfl (fun hb => ?_) (fun hb => ?_)
 ·have hlt : j * n < l.length := by have := of_decide_eq_true hb; omega
  have hjk : j < (za3 l n).length := (zje hn).2 hlt; have e1 := chunksI_at hn hlt; have e2 := chunksI_sub (n := n) hlt
  generalize hc : (l.drop (j * n)).take n = c at *
  have hcl : c.length = min n (l.length - j * n) := by rw [← hc]; simp
  refine zae <| W_th <| W_seq <| zac <| W_seq <| ?_; refine zba [0, 1] [(0, 1), (1, 1), (2, 0), (3, 0), (4, 0), (5, 0), (6, 0)] mixed (by kernel_rfl) (by kernel_rfl) (by kernel_rfl) (by kernel_rfl) ?_; have xd := Ext.drew w1; have hJ2 := hJd ys w1 hJ; have hrd2 : zb6 l (n : Int) g1 g2 v (World.drew w1) := zb6.ext xd ⟨hB1, hB2, hl1⟩
  generalize World.drew w1 = w2 at *
  obtain ⟨hB1', hB2', hl2⟩ := hrd2; refine sq rfl rfl (zan (u := i64 (n : Int)) rfl Tryz.isAgg3 s2 hB2' rfl) <| sq rfl rfl (zan (u := v) rfl Tryz.isAgg22 s1 hB1' rfl) <| sv (i64 ((j * n : Nat) : Int)) rfl rfl s4 <| ?_
  have hsub : subL l ((j * n : Nat) : Int) (l.length : Int) = some (l.drop (j * n)) := by
   refine ze9.2 ⟨by omega, ?_⟩; rw [Int.toNat_natCast, Int.toNat_natCast, List.take_of_length_le (Nat.le_refl _)]
  refine sa rfl rfl (zdv (a := ((j * n : Nat) : Int)) (b := (l.length : Int)) rfl T22 rfl hl2 rfl rfl hsub) <| sa rfl rfl (q_len rfl T22.sl rfl (SlK.cut hl2 hsub)) <| ?_
  have hmin : (if ((l.drop (j * n)).length : Int) < (n : Int) then ((l.drop (j * n)).length : Int) else (n : Int)) = (c.length : Int) := by
   rw [hcl, List.length_drop]; split <;> omega
  refine sa rfl rfl (q_minI (a := (n : Int)) (b := ((l.drop (j * n)).length : Int)) rfl rfl rfl) ?_; rw [hmin]; refine sa rfl rfl (zat (v := i64 (c.length : Int)) rfl rfl) ?_; refine za1 ?_; refine W_th <| W_seq <| W_rg <| ?_; have hadd : wI (((j * n : Nat) : Int) + (c.length : Int)) = ((j * n : Nat) : Int) + (c.length : Int) := wI_of (by omega) (by omega); refine mv (.func (.yield lp) #[] #[]) rfl s0 <| wq rfl (zan (u := v) rfl Tryz.isAgg22 s1 hB1' rfl) <| mv (i64 ((j * n : Nat) : Int)) rfl s4 <| mv (i64 ((j * n : Nat) : Int)) rfl s4 <| mv (i64 (c.length : Int)) rfl rfl <| wa rfl (zak (a := ((j * n : Nat) : Int)) (b := (c.length : Int)) rfl rfl rfl) <| mv (i64 ((j * n : Nat) : Int)) rfl s4 <| mv (i64 (c.length : Int)) rfl rfl <| ?_; refine wa rfl (zak (a := ((j * n : Nat) : Int)) (b := (c.length : Int)) rfl rfl rfl) ?_; rw [hadd]; refine wa rfl (q_slice3 (a := ((j * n : Nat) : Int)) (b := ((j * n : Nat) : Int) + (c.length : Int)) (c := ((j * n : Nat) : Int) + (c.length : Int)) rfl T22 rfl hl2 rfl rfl rfl e2) ?_
  have hyl : ys.length < (za3 l n).length := by
   have := congrArg List.length hys; rw [List.length_map, List.length_take] at this
   omega
  obtain ⟨fn, tmps, assign, body, hy, hR⟩ := hY ys ⟨(((j * n : Nat) : Int), c), e2, List.mem_of_getElem? e1⟩ w2 hJ2 hyl; refine wl_yield rfl (run_yieldcall1 rfl rfl rfl hy) (hR.mono ?_); rintro e w3 ⟨rfl, hJ3, hk3⟩; refine ⟨_, rfl, ?_⟩; refine wa rfl (q_not (b := true) rfl rfl) <| wnt <| ?_; refine zam false rfl rfl (fun h => by cases h) (fun _ => ?_); refine zae <| bk_n <| W_th <| W_rg <| ?_; have hrd3 : zb6 l (n : Int) g1 g2 v w3 := hk3.2 ⟨hB1', hB2', hl2⟩; refine mv (i64 ((j * n : Nat) : Int)) rfl s4 <| wq rfl (zan (u := i64 (n : Int)) rfl Tryz.isAgg3 s2 hrd3.2.1 rfl) <| wa rfl (zak (a := ((j * n : Nat) : Int)) (b := (n : Int)) rfl rfl rfl) <| ?_
  have e3 : wI (((j * n : Nat) : Int) + (n : Int)) = (((j + 1) * n : Nat) : Int) := by
   rw [wI_of (by omega) (by omega), Nat.succ_mul]; omega
  rw [e3]; refine wla rfl rfl (zat (v := i64 (((j + 1) * n : Nat) : Int)) rfl rfl) ?_; refine zag ?_; refine ⟨k - 1, by omega, hm, s0, s1, s2, by omega, ?_, ⟨_, ?_, hJ3⟩, hrd3⟩
  ·rw [show (za3 l n).length - (k - 1) = j + 1 by omega]; rfl
  rw [show (za3 l n).length - (k - 1) = j + 1 by omega, List.take_add_one, e1, List.map_append, hys]; rfl
 have hge : ¬ j * n < l.length := by have := of_decide_eq_false hb; omega
 have hjk : ¬ j < (za3 l n).length := fun h => hge ((zje hn).1 h)
 refine zar <| th_x <| th_x <| bk_x <| ?_; refine rtn (rt0 rfl hm ?_); refine ⟨⟨_, rfl⟩, ys, ?_, hJ⟩
 show ys.map (·.1) = za3 l n
 rw [hys]; exact List.take_of_length_le (by omega)
theorem Chunk_rows_calls (v:Value) (hv:v.cells=#[v]) (n:Int) (hn:1<=n) (w:World):Calls Tryz.prog 113 [v,i64 n].toArray w fun e w' =>
  ∃ g1 g2,e=.returned (.func (.func 134) #[] #[bp g1,bp g2])/\Nw w (bp g1)/\Nw w (bp g2)/\Nq (bp g1) (bp g2)/\Blk w' g1 29 #[v]/\Blk w' g2 3 #[i64 n]/\Ext w w':=by
 refine zai (n:=9) Tryz.func113 rfl rfl rfl ?_;refine W_seq<|W_rg<|?_;refine wls rfl rfl (stp_box (v:=v) rfl rfl ?_);intro w1 hb1 hg1;rw [hv] at hb1;refine wls rfl rfl (stp_box (v:=i64 n) rfl rfl ?_);intro w2 hb2 hg2;have hb1':Blk w2 w.heap.size 29 #[v]:=hb1.ext (zaa hg2);have hs1:w.heap.size<w1.heap.size:=hb1.lt;refine av .nilFunc rfl rfl<|wnt<|W_seq<|W_seq<|W_rg<|wq rfl (zan (u:=i64 n) rfl Tryz.isAgg3 rfl hb2 rfl)<|wa rfl (q_ltI rfl rfl rfl)<|wnt<|?_;refine zam false rfl ?_ (fun h=>by cases h) (fun _=>?_)
 ·exact congrArg Value.bool (decide_eq_false (by omega))
 refine zae<|W_th<|W_seq<|W_rg<|wa rfl (zgq (vs:=[bp w.heap.size,bp w1.heap.size]) rfl (ar2 rfl rfl))<|av (.func (.func 134) #[] [bp w.heap.size,bp w1.heap.size].toArray) rfl rfl<|wnt<|W_ret<|?_;refine rt1 (.func (.func 134) #[] [bp w.heap.size,bp w1.heap.size].toArray) rfl rfl rfl rfl ?_;refine ⟨w.heap.size,w1.heap.size,rfl,Nw.bp w,?_,?_,hb1',hb2,(zaa hg1).trans (zaa hg2)⟩
 ·intro k hk;have:=hs_bp hk;omega
 intro k h1 h2;have:=hs_bp h1;have:=hs_bp h2;omega
def zc9 (l:List (List UInt8)) (n:Int) (g1 g2:Nat) (v:Value) (w:World):Prop:=Blk w g1 29 #[v]/\Blk w g2 3 #[i64 n]/\Rw w [] v l
theorem zc9.tn {l:List (List UInt8)} {n:Int} {g1 g2 B:Nat} {v:Value} {W W':World} (t:Tn B W W') (h:zc9 l n g1 g2 v W):zc9 l n g1 g2 v W':=⟨h.1.tn t,h.2.1.tn t,h.2.2.lift (t.lift _)⟩
theorem zc9.ext {l:List (List UInt8)} {n:Int} {g1 g2:Nat} {v:Value} {W W':World} (t:Ext W W') (h:zc9 l n g1 g2 v W):zc9 l n g1 g2 v W':=⟨h.1.ext t,h.2.1.ext t,h.2.2.lift (Lift.ext t _)⟩
theorem zc9.below {l:List (List UInt8)} {n:Int} {g1 g2:Nat} {v:Value} {W W':World} (t:Below W.heap.size W W') (h:zc9 l n g1 g2 v W):zc9 l n g1 g2 v W' :=
 ⟨(t.block g1 h.1.lt).trans h.1,(t.block g2 h.2.1.lt).trans h.2.1,h.2.2.lift ⟨fun k o ho _ _=>(t.block k (zbp ho)).trans ho,fun _ _ _=>trivial⟩⟩
/-- slices.Chunk's iterator over [][]byte. -/
theorem chunk_rows (l : List (List UInt8)) (n : Nat) (hn : 1 <= n) (v : Value) (g1 g2 : Nat) (w : World) (hrd : zc9 l (n : Int) g1 g2 v w) (hlen : l.length + n < 9223372036854775808) :
  SeqD Tryz.prog 134 #[bp g1, bp g2] (fun x : ChEl l n => #[subW v x.1.1.toNat (x.1.1 + (x.1.2.length : Int)).toNat (x.1.1 + (x.1.2.length : Int)).toNat]) (Keep (zc9 l (n : Int) g1 g2 v)) (fun ys => ys.map (·.1) = za3 l n) (za3 l n).length w := by
 intro lp J W0 hW hJd hY h0; have hrd0 : zc9 l (n : Int) g1 g2 v W0 := hrd.below hW; refine callsIn_wide.2 ?_
 show Calls Tryz.prog 134 [Value.func (.yield lp) #[] #[], bp g1, bp g2].toArray W0 _
 refine zai (n := 31) Tryz.func134 rfl rfl rfl ?_; refine W_seq <| W_rg <| av (i64 0) rfl rfl <| wnt <| zac <| ?_; refine W_loopG (fun k f w => f 31 = undef /\ f 0 = .func (.yield lp) #[] #[] /\ f 1 = bp g1 /\ f 2 = bp g2 /\ k <= (za3 l n).length /\ f 4 = i64 ((((za3 l n).length - k) * n : Nat) : Int) /\ (∃ ys : List (ChEl l n), ys.map (·.1) = (za3 l n).take ((za3 l n).length - k) /\ J ys w) /\ zc9 l (n : Int) g1 g2 v w) (za3 l n).length ?_ ?_
 ·exact ⟨rfl, rfl, rfl, rfl, Nat.le_refl _, by rw [Nat.sub_self, Nat.zero_mul]; rfl, ⟨[], by simp, h0⟩, hrd0⟩
 rintro k f w1 ⟨hm, s0, s1, s2, hk, s4, ⟨ys, hys, hJ⟩, hrd1⟩; obtain ⟨hB1, hB2, hl1⟩ := hrd1
 generalize hj : (za3 l n).length - k = j at *
 refine W_seq <| W_seq <| W_rg <| mv (i64 ((j * n : Nat) : Int)) rfl s4 <| wq rfl (zan (u := v) rfl Tryz.isAgg29 s1 hB1 rfl) <| wa rfl (q_len rfl T29.sl rfl hl1) <| wa rfl (q_ltI rfl rfl rfl) <| wnt <| ?_; refine zam _ rfl rfl (fun hb => ?_) (fun hb => ?_)
 ·have hlt : j * n < l.length := by have := of_decide_eq_true hb; omega
  have hjk : j < (za3 l n).length := (zje hn).2 hlt; have e1 := chunksI_at hn hlt; have e2 := chunksI_sub (n := n) hlt
  generalize hc : (l.drop (j * n)).take n = c at *
  have hcl : c.length = min n (l.length - j * n) := by rw [← hc]; simp
  refine zae <| W_th <| W_seq <| zac <| W_seq <| ?_; refine zba [0, 1] [(0, 1), (1, 1), (2, 0), (3, 0), (4, 0), (5, 0), (6, 0)] mixed (by kernel_rfl) (by kernel_rfl) (by kernel_rfl) (by kernel_rfl) ?_; have xd := Ext.drew w1; have hJ2 := hJd ys w1 hJ; have hrd2 : zc9 l (n : Int) g1 g2 v (World.drew w1) := zc9.ext xd ⟨hB1, hB2, hl1⟩
  generalize World.drew w1 = w2 at *
  obtain ⟨hB1', hB2', hl2⟩ := hrd2; refine sq rfl rfl (zan (u := i64 (n : Int)) rfl Tryz.isAgg3 s2 hB2' rfl) <| sq rfl rfl (zan (u := v) rfl Tryz.isAgg29 s1 hB1' rfl) <| sv (i64 ((j * n : Nat) : Int)) rfl rfl s4 <| ?_
  have hsub : subL l ((j * n : Nat) : Int) (l.length : Int) = some (l.drop (j * n)) := by
   refine ze9.2 ⟨by omega, ?_⟩; rw [Int.toNat_natCast, Int.toNat_natCast, List.take_of_length_le (Nat.le_refl _)]
  refine sa rfl rfl (zdv (a := ((j * n : Nat) : Int)) (b := (l.length : Int)) rfl T29 rfl hl2 rfl rfl hsub) <| sa rfl rfl (q_len rfl T29.sl rfl (SlK.cut hl2 hsub)) <| ?_
  have hmin : (if ((l.drop (j * n)).length : Int) < (n : Int) then ((l.drop (j * n)).length : Int) else (n : Int)) = (c.length : Int) := by
   rw [hcl, List.length_drop]; split <;> omega
  refine sa rfl rfl (q_minI (a := (n : Int)) (b := ((l.drop (j * n)).length : Int)) rfl rfl rfl) ?_; rw [hmin]; refine sa rfl rfl (zat (v := i64 (c.length : Int)) rfl rfl) ?_; refine za1 ?_; refine W_th <| W_seq <| W_rg <| ?_; have hadd : wI (((j * n : Nat) : Int) + (c.length : Int)) = ((j * n : Nat) : Int) + (c.length : Int) := wI_of (by omega) (by omega); refine mv (.func (.yield lp) #[] #[]) rfl s0 <| wq rfl (zan (u := v) rfl Tryz.isAgg29 s1 hB1' rfl) <| mv (i64 ((j * n : Nat) : Int)) rfl s4 <| mv (i64 ((j * n : Nat) : Int)) rfl s4 <| mv (i64 (c.length : Int)) rfl rfl <| wa rfl (zak (a := ((j * n : Nat) : Int)) (b := (c.length : Int)) rfl rfl rfl) <| mv (i64 ((j * n : Nat) : Int)) rfl s4 <| mv (i64 (c.length : Int)) rfl rfl <| ?_; refine wa rfl (zak (a := ((j * n : Nat) : Int)) (b := (c.length : Int)) rfl rfl rfl) ?_; rw [hadd]; refine wa rfl (q_slice3 (a := ((j * n : Nat) : Int)) (b := ((j * n : Nat) : Int) + (c.length : Int)) (c := ((j * n : Nat) : Int) + (c.length : Int)) rfl T29 rfl hl2 rfl rfl rfl e2) ?_
  have hyl : ys.length < (za3 l n).length := by
   have := congrArg List.length hys; rw [List.length_map, List.length_take] at this
   omega
  obtain ⟨fn, tmps, assign, body, hy, hR⟩ := hY ys ⟨(((j * n : Nat) : Int), c), e2, List.mem_of_getElem? e1⟩ w2 hJ2 hyl; refine wl_yield rfl (run_yieldcall1 rfl rfl rfl hy) (hR.mono ?_); rintro e w3 ⟨rfl, hJ3, hk3⟩; refine ⟨_, rfl, ?_⟩; refine wa rfl (q_not (b := true) rfl rfl) <| wnt <| ?_; refine zam false rfl rfl (fun h => by cases h) (fun _ => ?_); refine zae <| bk_n <| W_th <| W_rg <| ?_; have hrd3 : zc9 l (n : Int) g1 g2 v w3 := hk3.2 ⟨hB1', hB2', hl2⟩; refine mv (i64 ((j * n : Nat) : Int)) rfl s4 <| wq rfl (zan (u := i64 (n : Int)) rfl Tryz.isAgg3 s2 hrd3.2.1 rfl) <| wa rfl (zak (a := ((j * n : Nat) : Int)) (b := (n : Int)) rfl rfl rfl) <| ?_
  have e3 : wI (((j * n : Nat) : Int) + (n : Int)) = (((j + 1) * n : Nat) : Int) := by
   rw [wI_of (by omega) (by omega), Nat.succ_mul]; omega
  rw [e3]; refine wla rfl rfl (zat (v := i64 (((j + 1) * n : Nat) : Int)) rfl rfl) ?_; refine zag ?_; refine ⟨k - 1, by omega, hm, s0, s1, s2, by omega, ?_, ⟨_, ?_, hJ3⟩, hrd3⟩
  ·rw [show (za3 l n).length - (k - 1) = j + 1 by omega]; rfl
  rw [show (za3 l n).length - (k - 1) = j + 1 by omega, List.take_add_one, e1, List.map_append, hys]; rfl
 have hge : ¬ j * n < l.length := by have := of_decide_eq_false hb; omega
 have hjk : ¬ j < (za3 l n).length := fun h => hge ((zje hn).1 h)
 refine zar <| th_x <| th_x <| bk_x <| ?_; refine rtn (rt0 rfl hm ?_); refine ⟨⟨_, rfl⟩, ys, ?_, hJ⟩
 show ys.map (·.1) = za3 l n
 rw [hys]; exact List.take_of_length_le (by omega)
end Gk

/- Printed by gen.py: for each Go function a pure function, and that the Go code comes to it. No condition beside the equation that says what the pure function gives. -/
namespace Gk
open Go Go.Proofs
noncomputable def zf9 (e:Bool) (d:List UInt8):Option (Option Cip×Int) :=
((if (!e)=true then some (.inr ((none:Option Cip),1))
else
(if (d.length:Int)=16 then some (.inl ())
else
(if (d.length:Int)=32 then some (.inl ())
else some (.inr ((none:Option Cip),3))))).bind (Sum.elim (fun M =>
((zgl (⟨e,[],List.replicate 256 (0:UInt8),List.replicate 256 (0:UInt8)⟩:Cip)).bind fun c =>
((divI (d.length:Int) 4).bind fun b =>
((lim (d.length+4)).bind fun L =>
((zjh (fun (B:List (List UInt8)) (G:Int×List UInt8) =>
((zaj G.2).bind fun z =>
((appL B ([z]:List (List UInt8))).bind fun n => some n))) (za3 d 4) ([]:List (List UInt8))).bind fun D =>
(((iterC (fun s60:List (List UInt8)×UInt8×Int =>
(if s60.2.2<(wI (4 * (wI (b+7)))) then
((idx s60.1 (wI (s60.2.2 - 1))).bind fun o =>
((zaj o).bind fun a =>
(((remI s60.2.2 b).bind fun p =>
(if p=0 then
((idx a 1).bind fun q =>
((idx a 2).bind fun r =>
((idx a 3).bind fun s =>
((idx a 0).bind fun t =>
((zdn c.box ([q,r,s,t]:List UInt8)).bind fun g =>
((idx g 0).bind fun u =>
((zcj e s60.2.1 (2:UInt8)).bind fun w => some (w,g.set (0:Int).toNat (u^^^s60.2.1)))))))))
else
(if b=8 then
((remI s60.2.2 b).bind fun j =>
(if j=4 then
((zdn c.box a).bind fun x => some (s60.2.1,x))
else some (s60.2.1,a)))
else some (s60.2.1,a)))).bind fun i =>
((idx s60.1 (wI (s60.2.2 - b))).bind fun k =>
((zeh i.2 k).bind fun y =>
((appL s60.1 ([y]:List (List UInt8))).bind fun l => some (.inl (l,i.1,wI (s60.2.2+1)))))))))
else some (.inr s60.1))) (D,(1:UInt8),b)).bind fun E => some E).bind fun h =>
((lim (h.length+4)).bind fun K =>
((zjh (fun (A:List (List UInt8)) (F:Int×List (List UInt8)) =>
((za0 F.2).bind fun f =>
((lenA 16 f).bind fun H =>
((appL A [f]).bind fun m => some m)))) (za3 h 4) ([]:List (List UInt8))).bind fun C =>
((lenA 256 c.box).bind fun J =>
((lenA 256 c.back).bind fun I => some (some (⟨e,C,c.box,c.back⟩:Cip),0))))))))))) (fun v=>some v)))
theorem cipher_New_calls (cS:Bool) (aO:List UInt8) (P:Value) (S:Value) (f3:Option Cip×Int) (w0:World) (h:List Value) (a6:Old w0 h) (cW:Fd w0 h P cS) (bY:By w0 [] S aO) (D:zf9 cS aO=some f3) :
  Calls Tryz.prog 83 [P,S].toArray w0 (fun iR iD=>∃ i6:Value,iR=.returned (.tuple #[i6,i64 f3.2])/\Ext w0 iD/\Ci iD h i6 f3.1):=by
 have bX:Ext w0 w0:=Ext.refl w0;unfold zf9 at D;refine zai (n:=129) Tryz.func83 V V V<|W_sr<|av (.pointer none) V V<|av (i64 0) V V<|wnt<|W_seq<|?_;obtain ⟨tS,X,D⟩:=bsi D;refine W_mid (fun y w=>∃ i2,tS=.inl i2/\y 0=P/\y 1=S/\y 129=undef/\Ext w0 w) ?_ ?_
 ·refine zac<|W_sr<|mv P V V<|wa V (q_eqF V V V V ((cW.lift (Lift.sub (L':=[]) (fun _ _=>trivial))).lift (le_ bX)))<|av (.bool (!cS)) V V<|wnt<|zam _ V V (fun eS=>?_) (fun eS=>?_)
  ·replace X:=(if_pos eS).symm.trans X;refine W_sr<|av (.pointer none) V V<|av (i64 1) V V<|wnt<|W_ret<|bk_r<|?_;obtain rfl:=osi X;simp only [Sum.elim_inr] at D;refine th_r<|th_r<|?_;obtain rfl:=osi D;refine rt2 (.pointer none) (i64 1) V V V V V V ?_;exact ⟨.pointer none,rfl,bX,Ci.nil _ _⟩
  replace X:=(if_neg (ne_true_of_eq_false eS)).symm.trans X;refine W_sr<|mv S V V<|wa V (q_len V T22.sl V (bY.lift (le_ bX)))<|wa V (q_neI V V V)<|wlb V V (zbd (v:=(.bool (!decide ((aO.length:Int)=16)))) V V) (fun eT=>?_) (fun eT=>?_)
  ·replace X:=(if_neg (zbf eT)).symm.trans X;refine mv S V V<|wa V (q_len V T22.sl V (bY.lift (le_ bX)))<|wa V (q_neI V V V)<|wa V (zaw (v:=(.bool (!decide ((aO.length:Int)=32)))) V V V)<|av (.bool (!decide ((aO.length:Int)=32))) V V<|wnt<|zam _ V V (fun eU=>?_) (fun eU=>?_)
   ·replace X:=(if_neg (zbf eU)).symm.trans X;refine W_sr<|av (.pointer none) V V<|av (i64 3) V V<|wnt<|W_ret<|bk_r<|?_;obtain rfl:=osi X;simp only [Sum.elim_inr] at D;refine th_r<|th_r<|?_;obtain rfl:=osi D;refine rt2 (.pointer none) (i64 3) V V V V V V ?_;exact ⟨.pointer none,rfl,bX,Ci.nil _ _⟩
   replace X:=(if_pos (zbg eU)).symm.trans X;refine zae<|bk_n<|?_;obtain rfl:=osi X;exact ⟨_,rfl,rfl,rfl,rfl,bX⟩
  replace X:=(if_pos (zbg eT)).symm.trans X;refine wk V<|wk V<|wk V<|wa V (zaq (v:=(.bool false)) V V V)<|av (.bool false) V V<|wnt<|zam false V V (fun eQ=>by cases eQ) (fun _=>?_);refine zae<|bk_n<|?_;obtain rfl:=osi X;exact ⟨_,rfl,rfl,rfl,rfl,bX⟩
 rintro _ wG ⟨i2,rfl,i1,i4,t2,eM⟩;simp only [Sum.elim_inl] at D;refine W_th<|W_sr<|mv P V i1<|wa V (q_buildC V V (zjz ((cW.lift (Lift.sub (L':=[]) (fun _ _=>trivial))).lift (le_ eM))))<|wls V V (zb9 (v:=(.agg (cipc P (.slice none 0 0) (List.replicate 256 (0:UInt8)) (List.replicate 256 (0:UInt8))))) (cs:=cipc P (.slice none 0 0) (List.replicate 256 (0:UInt8)) (List.replicate 256 (0:UInt8))) h V V V ?_);intro b wJ e2 nU j8 uI;have tT:=zaa j8;have f0:=Nw.ext eM nU;have fV:=eM.trans tT;refine wls V V (zeu (z:=(.pointer none)) (cs:=#[.pointer none]) (bp b::h) V Tryz.zeroValue109 V ?_);intro c wK pG h4 j9 uK;have iI:=zaa j9;have f2:Nq (bp b) (bp c):=e2.nq h4;have h0:=Nw.ext fV h4;have iT:=fV.trans iI;refine wln V V (zdu (u:=bp b) [] (bp b::h) V Tryz.sizeOf109 V V pG V ?_);intro w1 aE g0 uB;replace e2:=(e2.ext iI).other g0 f2;have fO:=iT.grown g0 h0;refine wnt<|W_sr<|wq V (zan (u:=bp b) V Tryz.isAgg109 V aE V)<|?_;obtain ⟨a0,k4,D⟩:=bsi D;refine wls V V (zab (vs:=[bp b]) Tryz.func111 V V V (ar1 V) (cipher_boxes_calls (⟨cS,[],List.replicate 256 (0:UInt8),List.replicate 256 (0:UInt8)⟩:Cip) b P (.slice none 0 0) a0 _ e2 ((cW.lift (Lift.sub (L':=[]) (fun _ _=>trivial))).lift (Lift.arg fO (nv_cons f0 nv_nil))) k4) ?_);rintro _ w5 ⟨rfl,iH,bA⟩;refine ⟨_,rfl,?_⟩;replace aE:=aE.otherX iH f2.symm;have eJ:=fO.grownX iH f0;refine wnt<|W_sr<|mv S V i4<|wa V (q_len V T22.sl V (bY.lift (le_ eJ)))<|bse D fun aD jO D=>wa V (q_divI V V V jO)<|av (i64 aD) V V<|wnt<|W_sr<|wls V V (zeu (z:=(.slice none 0 0)) (cs:=#[.slice none 0 0]) (bp c::bp b::h) V Tryz.zeroValue29 V ?_);intro f w7 d3 eZ j7 uD;have fE:=zaa j7;have qP:Nq (bp c) (bp f):=aE.nq eZ;have rF:Nq (bp b) (bp f):=bA.nq eZ;replace aE:=aE.ext fE;replace bA:=bA.ext fE;have mV:=Nw.ext eJ eZ;have dJ:=eJ.trans fE;refine wnt<|W_seq<|W_sr<|mv S V i4<|wls V V (zab (vs:=[S,i64 4]) Tryz.func87 V V V (ar2 V V) (zi2 S (zb4 _ _ (bY.lift (le_ dJ))) 4 (by decide) _) ?_)
 rintro _ tM ⟨F,G,rfl,dT,dU,sW,g7,g9,eF⟩;refine ⟨_,rfl,?_⟩;have rR:Nq (bp f) (bp F):=d3.nq dT;have rS:Nq (bp f) (bp G):=d3.nq dU;have rT:Nq (bp c) (bp F):=aE.nq dT;have rU:Nq (bp c) (bp G):=aE.nq dU;have rV:Nq (bp b) (bp F):=bA.nq dT;have rW:Nq (bp b) (bp G):=bA.nq dU;replace d3:=d3.ext eF;replace aE:=aE.ext eF;replace bA:=bA.ext eF;have n7:=Nw.ext dJ dT;have n8:=Nw.ext dJ dU;have dL:=dJ.trans eF;refine wnt<|zac<|?_;obtain ⟨uM,k0,D⟩:=bsi D;obtain ⟨wN,iL,D⟩:=bsi D;refine W_rangeDS (π:=fun j:ChEl aO 4=>j.1) (xs:=za3 aO 4) (ea:=fun j=>subW S j.1.1.toNat (j.1.1+(j.1.2.length:Int)).toNat (j.1.1+(j.1.2.length:Int)).toNat) (Rd:=zb6 aO 4 F G S) (gf:=116) (lb:=#[bp F,bp G]) iL t2 V V (enters Tryz.func116 V V) V (chunk_bytes aO 4 (by decide) S F G _ ⟨g7,g9,bY.lift (le_ dL)⟩ (zjt k0)) (fun tX e=>e) (fun j=>j.2.2) (fun _ _ r e=>zb6.tn r e) V (fun eB w=>∃ aR:Value,Ext w0 w/\OwK By w (aR::bp c::bp b::bp f::bp F::bp G::h) 22 aR eB/\Nw w0 aR/\Blk w c 109 #[bp b]/\Nw w0 (bp c)/\Blk w b 146 (cipc P (.slice none 0 0) a0.box a0.back)/\Nw w0 (bp b)/\Blk w f 29 #[aR]/\Nw w0 (bp f)/\Blk w F 22 #[S]/\Nw w0 (bp F)/\Blk w G 3 #[i64 4]/\Nw w0 (bp G)/\Nq aR (bp c)/\Nq aR (bp b)/\Nq aR (bp f)/\Nq aR (bp F)/\Nq aR (bp G)/\Nq (bp c) (bp b)/\Nq (bp c) (bp f)/\Nq (bp c) (bp F)/\Nq (bp c) (bp G)/\Nq (bp b) (bp f)/\Nq (bp b) (bp F)/\Nq (bp b) (bp G)/\Nq (bp f) (bp F)/\Nq (bp f) (bp G)/\Nq (bp F) (bp G)) ?_ ?_ ⟨.slice none 0 0,dL,OwK.nil _ _ _ _,Nw.nil _,aE,h0,bA,f0,d3,mV,g7,n7,g9,n8,Nq.nil _,Nq.nil _,Nq.nil _,Nq.nil _,Nq.nil _,f2.symm,qP,rT,rU,rF,rV,rW,rR,rS,sW⟩ (fun j y=>upd y 9 (subW S j.1.1.toNat (j.1.1+(j.1.2.length:Int)).toNat (j.1.1+(j.1.2.length:Int)).toNat)) ?_ ?_ ?_
 ·rintro eB W iO r ⟨t9,jG,nZ,m6,oG,mP,oR,n3,oZ,nE,p6,nL,pB,nR,pL,pS,pY,q3,q7,qV,r2,r7,rC,s1,s6,sB,sG,sK,sQ⟩;exact ⟨t9,jG.tn r dL.size,nZ.tn (SlK.stab (Sc.stab _)) r,m6,oG.tn r,mP,oR.tn r,n3,oZ.tn r,nE,p6.tn r,nL,pB.tn r,nR,pL,pS,pY,q3,q7,qV,r2,r7,rC,s1,s6,sB,sG,sK,sQ⟩
 ·rintro eB W ⟨tA,jH,o0,m7,oH,mQ,oS,n4,p0,nF,p7,nM,pC,nS,pM,pT,pZ,q4,q8,qW,r3,r8,rD,s2,s7,sC,sH,sL,sR⟩;have r:=Ext.drew W;exact ⟨tA,jH.trans r,o0.extL (SlK.stab (Sc.stab _)) r (le_ r),m7,oH.ext r,mQ,oS.ext r,n4,p0.ext r,nF,p7.ext r,nM,pC.ext r,nS,pM,pT,pZ,q4,q8,qW,r3,r8,rD,s2,s7,sC,sH,sL,sR⟩
 ·intro l j iP iN eO;refine W_rg<|av (subW S j.1.1.toNat (j.1.1+(j.1.2.length:Int)).toNat (j.1.1+(j.1.2.length:Int)).toNat) V V<|zag<|?_;exact eO
 ·rintro l ⟨Y,kB⟩ eB vW iF ⟨bU,jI,aH,gZ,a8,mR,aA,n5,a1,h1,a4,nN,a5,nT,h6,h8,hA,hC,hD,qX,hG,r9,rE,hK,s8,sD,hN,hO,sS⟩ cR;have lP:=KeepsFrom.refl tM.heap.size iF;refine zac<|zba [0] [(0,1),(1,0),(2,2),(3,2),(4,2),(5,2)] mixed (by kernel_rfl) (by kernel_rfl) (by kernel_rfl) (by kernel_rfl) ?_;have aV:=Ext.drew iF;replace aH:=aH.extL (SlK.stab (Sc.stab _)) aV (le_ aV);replace a8:=a8.ext aV;replace aA:=aA.ext aV;replace a1:=a1.ext aV;replace a4:=a4.ext aV;replace a5:=a5.ext aV;have lE:=lP.ext aV;have eK:=jI.trans aV;refine sq V V (zan (u:=bU) V Tryz.isAgg29 V a1 V)<|sv (subW S Y.1.toNat (Y.1+(Y.2.length:Int)).toNat (Y.1+(Y.2.length:Int)).toNat) V V V<|?_;obtain ⟨cL,k7,cR⟩:=bsi cR;refine wss V V V (zab (vs:=[subW S Y.1.toNat (Y.1+(Y.2.length:Int)).toNat (Y.1+(Y.2.length:Int)).toNat]) Tryz.func59 V V V (ar1 V) (zap Y.2 (subW S Y.1.toNat (Y.1+(Y.2.length:Int)).toNat (Y.1+(Y.2.length:Int)).toNat) cL _ (SlK.cut3 (L:=[]) (bY.lift (le_ eK)) kB.1) k7) ?_);rintro _ fD ⟨f8,rfl,aN,nH,p2⟩;refine ⟨_,rfl,aN,?_⟩;have gP:By fD (bU::bp c::bp b::bp f::bp F::bp G::h) f8 cL:=OwK.slk (Sc.stab _) _ (OwK.scal p2 (f8::(bU::bp c::bp b::bp f::bp F::bp G::h))) (fun A M=>(Old.cons (Old.cons (Old.cons (Old.cons (Old.cons (Old.cons (a6.ext eK) a5.ltB) a4.ltB) a1.ltB) aA.ltB) a8.ltB) aH.lt) A (nH A M)) (fun _ e=>e.2);replace aH:=aH.extL (SlK.stab (Sc.stab _)) aN (le_ aN);replace a8:=a8.ext aN;replace aA:=aA.ext aN;replace a1:=a1.ext aN;replace a4:=a4.ext aN;replace a5:=a5.ext aN;have lF:=lE.ext aN;have fS:=eK.trans aN;refine wss V V V (zaz (L:=(bU::bp c::bp b::bp f::bp F::bp G::h)) (R:=By) [f8] ([cL]:List (List UInt8)) V T29 V (by exact ⟨rfl,rfl,trivial⟩) V (LitR.cells (R:=By) (w:=fD) (L:=(bU::bp c::bp b::bp f::bp F::bp G::h)) (l:=([cL]:List (List UInt8))) (LitR.cons gP LitR.nil) (fun u j e=>zb4 u j e)) V (LitR.all (R:=By) (w:=fD) (L:=(bU::bp c::bp b::bp f::bp F::bp G::h)) (l:=([cL]:List (List UInt8))) (SlK.stab (Sc.stab _)) (LitR.cons gP LitR.nil)) ?_);intro iC tO p3 nI g4 uG;refine ⟨zaa g4,?_⟩;have aW:=zaa g4;have kF:Rw tO (bU::bp c::bp b::bp f::bp F::bp G::h) iC ([cL]:List (List UInt8)):=OwK.slk (SlK.stab (Sc.stab _)) _ p3 (fun A M=>(Old.cons (Old.cons (Old.cons (Old.cons (Old.cons (Old.cons (a6.ext fS) a5.ltB) a4.ltB) a1.ltB) aA.ltB) a8.ltB) aH.lt) A (nI A M)) (fun _ e=>e.2)
  replace aH:=aH.extL (SlK.stab (Sc.stab _)) aW (le_ aW);replace a8:=a8.ext aW;replace aA:=aA.ext aW;replace a1:=a1.ext aW;replace a4:=a4.ext aW;replace a5:=a5.ext aW;have lG:=lF.ext aW;have fT:=fS.trans aW;obtain ⟨u7,jV,cR⟩:=bsi cR;refine wsc V (by kernel_rfl) V V (zav (R:=By) (v:=bU) (u:=iC) (SlK.stab (Sc.stab _)) [] (bp c::bp b::bp f::bp F::bp G::h) V T29 V V aH kF (fun _ _ e=>e) jV oc_sl ?_);intro bT wF e1 bV cI uH;have lH:=lG.own bV aH.cl;have sM:Nq (bp c) bT:=a8.nxt h6.symm cI;have sN:Nq (bp b) bT:=aA.nxt h8.symm cI;have hP:Nq (bp f) bT:=a1.nxt hA.symm cI;have sT:Nq (bp F) bT:=a4.nxt hC.symm cI;have sU:Nq (bp G) bT:=a5.nxt hD.symm cI;replace a1:=a1.other bV hA.symm;have j5:=fT.grown bV gZ;have nO:=Nw.nxt fT gZ cI;refine wsn V (by kernel_rfl) V V (zdu (u:=bT) [bT,bp c,bp b] (bp F::bp G::h) V Tryz.sizeOf29 V V a1 (oc_own e1) ?_);intro wH p8 bW m0;have lI:=lH.own bW a1.cl;replace e1:=e1.other (SlK.stab (Sc.stab _)) bW hP.symm m0;replace a8:=(a8.other bV h6.symm).other bW hG;replace aA:=(aA.other bV h8.symm).other bW hK;replace a4:=(a4.other bV hC.symm).other bW hN.symm;replace a5:=(a5.other bV hD.symm).other bW hO.symm;have fU:=j5.grown bW h1;refine za1<|bk_n ?_;obtain rfl:=osi cR;exact ⟨lI,⟨a4,a5,bY.lift (le_ fU)⟩,bT,fU,e1,nO,a8,mR,aA,n5,p8,h1,a4,nN,a5,nT,sM.symm,sN.symm,hP.symm,sT.symm,sU.symm,qX,hG,r9,rE,hK,s8,sD,hN,hO,sS⟩
 intro a3 dG jA ⟨tB,jJ,o1,m8,oI,mS,oT,n6,p1,nG,uX,uS,uZ,uU,pN,pU,q0,v6,v8,qY,r4,vG,vI,s3,vM,vO,vQ,vS,vU⟩ jL;have jY:=Nat.le_trans dL.size jA;have lN:=KeepsFrom.refl 0 dG;refine bk_n<|W_th<|W_sr<|av (u8 1) V (cst8 (1:UInt8) V)<|wnt<|W_seq<|?_;obtain ⟨cQ,eH,D⟩:=bsi D;refine W_mid (fun y w=>∃ c4:Value,y 6=bp c/\y 8=bp f/\y 129=bp a3/\Ext w0 w/\KeepsFrom 0 dG w/\OwK By w (c4::bp c::bp b::bp f::h) 22 c4 cQ/\Nw w0 c4/\Blk w c 109 #[bp b]/\Nw w0 (bp c)/\Blk w b 146 (cipc P (.slice none 0 0) a0.box a0.back)/\Nw w0 (bp b)/\Blk w f 29 #[c4]/\Nw w0 (bp f)/\Nq c4 (bp c)/\Nq c4 (bp b)/\Nq c4 (bp f)/\Nq (bp c) (bp b)/\Nq (bp c) (bp f)/\Nq (bp b) (bp f)) ?_ ?_
 ·refine W_sr<|mv (i64 aD) V V<|av (i64 aD) V V<|wnt<|?_;obtain ⟨tU,iM,eH⟩:=bsi eH;refine W_mid (fun y w=>∃ c3:Value,y 6=bp c/\y 8=bp f/\y 129=bp a3/\Ext w0 w/\KeepsFrom 0 dG w/\OwK By w (c3::bp c::bp b::bp f::h) 22 c3 tU/\Nw w0 c3/\Blk w c 109 #[bp b]/\Nw w0 (bp c)/\Blk w b 146 (cipc P (.slice none 0 0) a0.box a0.back)/\Nw w0 (bp b)/\Blk w f 29 #[c3]/\Nw w0 (bp f)/\Nq c3 (bp c)/\Nq c3 (bp b)/\Nq c3 (bp f)/\Nq (bp c) (bp b)/\Nq (bp c) (bp f)/\Nq (bp b) (bp f)) ?_ ?_
  ·refine zac<|zau (fun Q y w=>∃ c2:Value,y 0=P/\y 6=bp c/\y 7=i64 aD/\y 8=bp f/\y 10=u8 Q.2.1/\y 11=i64 Q.2.2/\y 129=bp a3/\Ext w0 w/\KeepsFrom 0 dG w/\OwK By w (c2::bp c::bp b::bp f::h) 22 c2 Q.1/\Nw w0 c2/\Blk w c 109 #[bp b]/\Nw w0 (bp c)/\Blk w b 146 (cipc P (.slice none 0 0) a0.box a0.back)/\Nw w0 (bp b)/\Blk w f 29 #[c2]/\Nw w0 (bp f)/\Nq c2 (bp c)/\Nq c2 (bp b)/\Nq c2 (bp f)/\Nq (bp c) (bp b)/\Nq (bp c) (bp f)/\Nq (bp b) (bp f)) iM ?_ ?_
   ·exact ⟨tB,i1,rfl,rfl,rfl,rfl,rfl,rfl,jJ,lN,o1.weak (SlK.stab (Sc.stab _)) (fun _ e=>⟨e.1,e.2.1,e.2.2.1,e.2.2.2.1,e.2.2.2.2.2.2⟩),m8,oI,mS,oT,n6,p1,nG,pN,pU,q0,qY,r4,s3⟩
   rintro Q _ _ tP ⟨B,dD,c1,bN,cN,dE,bM,dF,eN,gQ,H,cX,I,cY,J,cZ,K,d0,d7,d8,d9,dA,dB,dC⟩ U k8;refine W_seq<|W_sr<|mv (i64 Q.2.2) V bM<|mv (i64 aD) V bN<|wa V (zak V V V)<|wa V (zco V V V)<|wa V (q_ltI V V V)<|wnt<|wci U V V (fun U=>?_) (fun U=>?_)
   ·refine zae<|W_th<|W_seq<|zac<|W_sr<|wq V (zan (u:=B) V Tryz.isAgg29 (by exact cN) K V)<|mv (i64 Q.2.2) V bM<|wa V (za9 V V V) ?_;obtain ⟨fJ,gD,U⟩:=bsi U;refine wa V (q_adr V T29 V V (H.rd (SlK.stab (Sc.stab _))) gD)<|wlq_loadO (SlK.stab (Sc.stab _)) V V V T29 V H gD (fun f9 eY=>?_);replace eY:By tP (B::bp c::bp b::bp f::h) f9 fJ:=eY;obtain ⟨f4,k9,U⟩:=bsi U;refine wls V V (zab (vs:=[f9]) Tryz.func59 V V V (ar1 V) (zap fJ f9 f4 _ (eY.lift (Lift.sub (L':=[]) (fun _ _=>trivial))) k9) ?_);rintro _ iG ⟨N,rfl,c7,cC,pD⟩;refine ⟨_,rfl,?_⟩;have a2:OwK (Sc u8) iG (N::(B::bp c::bp b::bp f::h)) 5 N f4:=OwK.scal pD _;have hQ:Nq B N:=H.nq cC;have hR:Nq (bp c) N:=I.nq cC;have hS:Nq (bp b) N:=J.nq cC;have hT:Nq (bp f) N:=K.nq cC;replace H:=H.extL (SlK.stab (Sc.stab _)) c7 (Lift.call _ c7 cC);replace I:=I.ext c7;replace J:=J.ext c7;replace K:=K.ext c7;have dO:=gQ.ext c7;have h3:=Nw.ext eN cC;have cT:=eN.trans c7;refine av N V V<|wnt<|W_seq<|?_;obtain ⟨fF,x,U⟩:=bsi U;refine W_mid (fun y w=>∃ aP:Value,y 0=P/\y 6=bp c/\y 7=i64 aD/\y 8=bp f/\y 10=u8 fF.1/\y 11=i64 Q.2.2/\y 12=aP/\y 129=bp a3/\Ext w0 w/\KeepsFrom 0 dG w/\OwK By w (B::aP::bp c::bp b::bp f::h) 22 B Q.1/\Nw w0 B/\OwK (Sc u8) w (B::aP::bp c::bp b::bp f::h) 5 aP fF.2/\Nw w0 aP/\Blk w c 109 #[bp b]/\Nw w0 (bp c)/\Blk w b 146 (cipc P (.slice none 0 0) a0.box a0.back)/\Nw w0 (bp b)/\Blk w f 29 #[B]/\Nw w0 (bp f)/\Nq B aP/\Nq B (bp c)/\Nq B (bp b)/\Nq B (bp f)/\Nq aP (bp c)/\Nq aP (bp b)/\Nq aP (bp f)/\Nq (bp c) (bp b)/\Nq (bp c) (bp f)/\Nq (bp b) (bp f)) ?_ ?_
    ·refine zac<|W_sr<|mv (i64 Q.2.2) V bM<|mv (i64 aD) V bN<|bse x fun iQ jW x=>wa V (zdm V V V jW)<|wa V (q_eqI V V V)<|av (.bool (decide (iQ=0))) V V<|wnt<|wci x V V (fun x=>?_) (fun x=>?_)
     ·refine W_seq<|zba [0,5,8,11,14] [(0,1),(1,0),(2,0),(3,0),(4,0),(5,1),(6,0),(7,0),(8,1),(9,0),(10,0),(11,1),(12,0),(13,0),(14,1),(15,2),(16,2),(17,0)] mixed (by kernel_rfl) (by kernel_rfl) (by kernel_rfl) (by kernel_rfl) ?_;have aX:=Ext.drew iG;replace a2:=a2.extL (Sc.stab _) aX (le_ aX);replace H:=H.extL (SlK.stab (Sc.stab _)) aX (le_ aX);replace I:=I.ext aX;replace J:=J.ext aX;replace K:=K.ext aX;have lJ:=dO.ext aX;have fW:=cT.trans aX;refine sq V V (zan (u:=bp b) V Tryz.isAgg109 (by exact c1) I V)<|sa V V (zbl V V)<|sa V V (zhw (g:=b) (d:=2) V fieldAtC2 V)<|sv N V V V<|bse x fun aY gE x=>sa V V (q_adr V T22 V V (a2.rd (Sc.stab _)) gE)<|sq V V (zao V T22 V (a2.rd (Sc.stab _)) gE)<|sv N V V V<|bse x fun aZ gF x=>sa V V (q_adr V T22 V V (a2.rd (Sc.stab _)) gF)<|sq V V (zao V T22 V (a2.rd (Sc.stab _)) gF)<|sv N V V V<|bse x fun b0 gG x=>sa V V (q_adr V T22 V V (a2.rd (Sc.stab _)) gG)<|sq V V (zao V T22 V (a2.rd (Sc.stab _)) gG)<|sv N V V V<|?_;obtain ⟨b1,gH,x⟩:=bsi x;refine sa V V (q_adr V T22 V V (a2.rd (Sc.stab _)) gH)<|sq V V (zao V T22 V (a2.rd (Sc.stab _)) gH)<|wss V V V (zaz (L:=(N::B::bp c::bp b::bp f::h)) (R:=Sc u8) [u8 aY,u8 aZ,u8 b0,u8 b1] ([aY,aZ,b0,b1]:List UInt8) V T22 V (by exact ⟨rfl,rfl,rfl,rfl,rfl,rfl,rfl,rfl,trivial⟩) V (litC u8 zbi (us:=[u8 aY,u8 aZ,u8 b0,u8 b1]) (l:=([aY,aZ,b0,b1]:List UInt8)) V) V (litS u8 (us:=[u8 aY,u8 aZ,u8 b0,u8 b1]) (l:=([aY,aZ,b0,b1]:List UInt8)) V) ?_);intro fA tQ pE nV g5 uJ;refine ⟨zaa g5,?_⟩;have c8:=zaa g5;have kG:By tQ (N::B::bp c::bp b::bp f::h) fA ([aY,aZ,b0,b1]:List UInt8):=OwK.slk (Sc.stab _) _ pE (fun A M=>(Old.cons (Old.cons (Old.cons (Old.cons (Old.cons (a6.ext fW) K.ltB) J.ltB) I.ltB) H.lt) a2.lt) A (nV A M)) (fun _ e=>e.2);replace H:=H.extL (SlK.stab (Sc.stab _)) c8 (le_ c8)
      replace I:=I.ext c8;replace J:=J.ext c8;replace K:=K.ext c8;have lK:=lJ.ext c8;have fX:=fW.trans c8;obtain ⟨i0,kA,x⟩:=bsi x;refine wsc V (by kernel_rfl) V V (zab (vs:=[bpo b 2,fA]) Tryz.func112 V V V (ar2 V V) (zez a0.box ([aY,aZ,b0,b1]:List UInt8) (bpo b 2) fA i0 _ (blk_box J) (kG.lift (Lift.sub (L':=[]) (fun _ _=>trivial))) kA) ?_);rintro _ tR ⟨aQ,rfl,c9,cD,pF⟩;refine ⟨_,rfl,?_⟩;have d6:OwK (Sc u8) tR (aQ::(N::B::bp c::bp b::bp f::h)) 5 aQ i0:=OwK.scal pF _;have hU:Nq B aQ:=H.nq cD;have hV:Nq (bp c) aQ:=I.nq cD;have hW:Nq (bp b) aQ:=J.nq cD;have hX:Nq (bp f) aQ:=K.nq cD;have lL:=lK.ext c9;have h5:=Nw.ext fX cD;have j6:=fX.trans c9;refine sa V V (zat (v:=aQ) V V)<|za1<|W_th<|W_sr<|mv aQ V V<|bse x fun fK dN x=>wa V (q_adr V T22 V V (d6.rd (Sc.stab _)) dN)<|wq V (zao V T22 V (d6.rd (Sc.stab _)) dN)<|mv (u8 Q.2.1) V dE<|wa V (zdb V V V)<|wa V (q_adr V T22 V V (d6.rd (Sc.stab _)) dN)<|wln V V (zci (R:=Sc u8) (u:=u8 (fK^^^Q.2.1)) (Sc.stab _) [] (N::B::bp c::bp b::bp f::h) V T22 V V d6 (zf6 (fK^^^Q.2.1) dN) V V ?_);intro wL f1 cA m1;have lM:=lL.own cA d6.cl;replace H:=(H.extL (SlK.stab (Sc.stab _)) c9 (Lift.call _ c9 cD)).other (SlK.stab (Sc.stab _)) cA hU m1;replace I:=(I.ext c9).other cA hV;replace J:=(J.ext c9).other cA hW;replace K:=(K.ext c9).other cA hX;have fY:=j6.grown cA h5;refine wnt<|W_rg<|mv P V dD<|mv (u8 Q.2.1) V dE<|?_;obtain ⟨hY,k1,x⟩:=bsi x;refine wls V V (zab (vs:=[P,u8 Q.2.1,u8 2]) Tryz.func98 V V V (ar3 V V (by exact (cst8 (2:UInt8) V))) (zcr cS Q.2.1 (2:UInt8) P hY _ ((cW.lift (Lift.sub (L':=[]) (fun _ _=>trivial))).lift (le_ fY)) k1) ?_)
      rintro _ vY ⟨rfl,aT⟩;refine ⟨_,rfl,?_⟩;replace f1:=f1.extL (Sc.stab _) aT (le_ aT);replace H:=H.extL (SlK.stab (Sc.stab _)) aT (le_ aT);replace I:=I.ext aT;replace J:=J.ext aT;replace K:=K.ext aT;have kK:=lM.ext aT;have iS:=fY.trans aT;refine av (u8 hY) V V<|zag<|bk_n<|?_;obtain rfl:=osi x;exact ⟨aQ,dD,c1,bN,cN,rfl,bM,rfl,dF,iS,kK,H.weak (SlK.stab (Sc.stab _)) (fun _ e=>⟨e.2.2.1,e.1,e.2.2.2.1,e.2.2.2.2.1,e.2.2.2.2.2.1,e.2.2.2.2.2.2⟩),cX,f1.weak (Sc.stab _) (fun _ e=>⟨e.2.2.1,e.1,e.2.2.2.1,e.2.2.2.2.1,e.2.2.2.2.2.1,e.2.2.2.2.2.2⟩),h5,I,cY,J,cZ,K,d0,hU,d7,d8,d9,hV.symm,hW.symm,hX.symm,dA,dB,dC⟩
     refine W_sr<|mv (i64 aD) V bN<|wa V (q_eqI V V V)<|wlb V V (zbd (v:=(.bool (decide (aD=8)))) V V) (fun eR=>?_) (fun eR=>?_)
     ·replace x:=ifp eR x;refine mv (i64 Q.2.2) V bM<|mv (i64 aD) V bN<|bse x fun fH jM x=>wa V (zdm V V V jM)<|wa V (q_eqI V V V)<|wa V (zaw (v:=(.bool (decide (fH=4)))) V V V)<|av (.bool (decide (fH=4))) V V<|wnt<|wci x V V (fun x=>?_) (fun x=>?_)
      ·refine W_rg<|wq V (zan (u:=bp b) V Tryz.isAgg109 (by exact c1) I V)<|wa V (zbl V V)<|wa V (zhw (g:=b) (d:=2) V fieldAtC2 V)<|mv N V V<|?_;obtain ⟨hZ,k2,x⟩:=bsi x;refine wls V V (zab (vs:=[bpo b 2,N]) Tryz.func112 V V V (ar2 V V) (zez a0.box f4 (bpo b 2) N hZ _ (blk_box J) (a2.rd (Sc.stab _)) k2) ?_);rintro _ tE ⟨bO,rfl,c5,cB,o3⟩;refine ⟨_,rfl,?_⟩;have o2:OwK (Sc u8) tE (bO::(N::B::bp c::bp b::bp f::h)) 5 bO hZ:=OwK.scal o3 _;have q9:Nq B bO:=H.nq cB;have qA:Nq (bp c) bO:=I.nq cB;have qB:Nq (bp b) bO:=J.nq cB;have qC:Nq (bp f) bO:=K.nq cB;replace H:=H.extL (SlK.stab (Sc.stab _)) c5 (Lift.call _ c5 cB);replace I:=I.ext c5;replace J:=J.ext c5;replace K:=K.ext c5;have kL:=dO.ext c5;have m9:=Nw.ext cT cB;have iU:=cT.trans c5;refine av bO V V<|zag<|bk_n<|?_;obtain rfl:=osi x;exact ⟨bO,dD,c1,bN,cN,dE,bM,rfl,dF,iU,kL,H.weak (SlK.stab (Sc.stab _)) (fun _ e=>⟨e.2.2.1,e.1,e.2.2.2.1,e.2.2.2.2.1,e.2.2.2.2.2.1,e.2.2.2.2.2.2⟩),cX,o2.weak (Sc.stab _) (fun _ e=>⟨e.2.2.1,e.1,e.2.2.2.1,e.2.2.2.2.1,e.2.2.2.2.2.1,e.2.2.2.2.2.2⟩),m9,I,cY,J,cZ,K,d0,q9,d7,d8,d9,qA.symm,qB.symm,qC.symm,dA,dB,dC⟩
      refine zae<|bk_n<|?_;obtain rfl:=osi x;exact ⟨N,dD,c1,bN,cN,dE,bM,rfl,dF,cT,dO,H.weak (SlK.stab (Sc.stab _)) (fun _ e=>⟨e.2.1,e.1,e.2.2.1,e.2.2.2.1,e.2.2.2.2.1,e.2.2.2.2.2⟩),cX,a2.weak (Sc.stab _) (fun _ e=>⟨e.2.1,e.1,e.2.2.1,e.2.2.2.1,e.2.2.2.2.1,e.2.2.2.2.2⟩),h3,I,cY,J,cZ,K,d0,hQ,d7,d8,d9,hR.symm,hS.symm,hT.symm,dA,dB,dC⟩
     replace x:=ifn eR x;refine wk V<|wk V<|wk V<|wk V<|wa V (zaq (v:=(.bool false)) V V V)<|av (.bool false) V V<|wnt<|zam false V V (fun eQ=>by cases eQ) (fun _=>?_);refine zae<|bk_n<|?_;obtain rfl:=osi x;exact ⟨N,dD,c1,bN,cN,dE,bM,rfl,dF,cT,dO,H.weak (SlK.stab (Sc.stab _)) (fun _ e=>⟨e.2.1,e.1,e.2.2.1,e.2.2.2.1,e.2.2.2.2.1,e.2.2.2.2.2⟩),cX,a2.weak (Sc.stab _) (fun _ e=>⟨e.2.1,e.1,e.2.2.1,e.2.2.2.1,e.2.2.2.2.1,e.2.2.2.2.2⟩),h3,I,cY,J,cZ,K,d0,hQ,d7,d8,d9,hR.symm,hS.symm,hT.symm,dA,dB,dC⟩
    rintro _ iE ⟨aC,sX,t4,i5,eC,sY,i3,t3,sZ,jB,kH,a7,gY,c0,uO,a9,mY,aB,n9,Z,h2,v0,h7,h9,hB,v9,vB,vE,rX,hL,hM⟩;refine W_th<|zba [0,2,7] [(0,1),(1,0),(2,1),(3,0),(4,0),(5,0),(6,0),(7,1),(8,2),(9,2),(10,2),(11,2)] mixed (by kernel_rfl) (by kernel_rfl) (by kernel_rfl) (by kernel_rfl) ?_;have aU:=Ext.drew iE;replace a7:=a7.extL (SlK.stab (Sc.stab _)) aU (le_ aU);replace c0:=c0.extL (Sc.stab _) aU (le_ aU);replace a9:=a9.ext aU;replace aB:=aB.ext aU;replace Z:=Z.ext aU;have kM:=kH.ext aU;have fL:=jB.trans aU;refine sq V V (zan (u:=B) V Tryz.isAgg29 (by exact eC) Z V)<|sv aC V V t3<|sq V V (zan (u:=B) V Tryz.isAgg29 (by exact eC) Z V)<|sv (i64 Q.2.2) V V i3<|sv (i64 aD) V V i5<|sa V V (za9 V V V)<|bse U fun fI gC U=>sa V V (q_adr V T29 V V (a7.rd (SlK.stab (Sc.stab _))) gC)<|wsq_loadO (SlK.stab (Sc.stab _)) V V V V T29 V a7 gC (fun f5 eX=>?_);replace eX:By (World.drew iE) (B::aC::bp c::bp b::bp f::h) f5 fI:=eX;obtain ⟨cJ,k3,U⟩:=bsi U;refine wss V V V (zab (vs:=[aC,f5]) Tryz.func56 V V V (ar2 V V) (zed fF.2 fI aC f5 cJ _ (c0.rd (Sc.stab _)) (eX.lift (Lift.sub (L':=[]) (fun _ _=>trivial))) k3) ?_);rintro _ fB ⟨f6,rfl,aI,mA,o4⟩;refine ⟨_,rfl,aI,?_⟩;have gL:By fB (B::aC::bp c::bp b::bp f::h) f6 cJ:=OwK.slk (Sc.stab _) _ (OwK.scal o4 (f6::(B::aC::bp c::bp b::bp f::h))) (fun A M=>(Old.cons (Old.cons (Old.cons (Old.cons (Old.cons (a6.ext fL) Z.ltB) aB.ltB) a9.ltB) c0.lt) a7.lt) A (mA A M)) (fun _ e=>e.2);replace a7:=a7.extL (SlK.stab (Sc.stab _)) aI (le_ aI);replace c0:=c0.extL (Sc.stab _) aI (le_ aI);replace a9:=a9.ext aI;replace aB:=aB.ext aI;replace Z:=Z.ext aI;have kN:=kM.ext aI;have fM:=fL.trans aI;refine wss V V V (zaz (L:=(B::aC::bp c::bp b::bp f::h)) (R:=By) [f6] ([cJ]:List (List UInt8)) V T29 V (by exact ⟨rfl,rfl,trivial⟩) V (LitR.cells (R:=By) (w:=fB) (L:=(B::aC::bp c::bp b::bp f::h)) (l:=([cJ]:List (List UInt8))) (LitR.cons gL LitR.nil) (fun u j e=>zb4 u j e)) V (LitR.all (R:=By) (w:=fB) (L:=(B::aC::bp c::bp b::bp f::h)) (l:=([cJ]:List (List UInt8))) (SlK.stab (Sc.stab _)) (LitR.cons gL LitR.nil)) ?_)
    intro i7 tF o5 mB fZ u9;refine ⟨zaa fZ,?_⟩;have c6:=zaa fZ;have kC:Rw tF (B::aC::bp c::bp b::bp f::h) i7 ([cJ]:List (List UInt8)):=OwK.slk (SlK.stab (Sc.stab _)) _ o5 (fun A M=>(Old.cons (Old.cons (Old.cons (Old.cons (Old.cons (a6.ext fM) Z.ltB) aB.ltB) a9.ltB) c0.lt) a7.lt) A (mB A M)) (fun _ e=>e.2);replace a7:=a7.extL (SlK.stab (Sc.stab _)) c6 (le_ c6);replace a9:=a9.ext c6;replace aB:=aB.ext c6;replace Z:=Z.ext c6;have kO:=kN.ext c6;have fN:=fM.trans c6;obtain ⟨tY,jN,U⟩:=bsi U;refine wsc V (by kernel_rfl) V V (zav (R:=By) (v:=B) (u:=i7) (SlK.stab (Sc.stab _)) [] (aC::bp c::bp b::bp f::h) V T29 V V a7 kC (fun _ _ e=>e) jN oc_sl ?_);intro cO vZ dW cU dV uA;have kP:=kO.own cU a7.cl;have qD:Nq (bp c) cO:=a9.nxt h7.symm dV;have qE:Nq (bp b) cO:=aB.nxt h9.symm dV;have hE:Nq (bp f) cO:=Z.nxt hB.symm dV;replace Z:=Z.other cU hB.symm;have iV:=fN.grown cU gY;have mC:=Nw.nxt fN gY dV;refine wsn V (by kernel_rfl) V V (zdu (u:=cO) [cO,aC,bp c,bp b] h V Tryz.sizeOf29 (by exact eC) V Z (oc_own dW) ?_);intro w2 o6 cV lR;have kQ:=kP.own cV Z.cl;replace dW:=dW.other (SlK.stab (Sc.stab _)) cV hE.symm lR;replace a9:=(a9.other cU h7.symm).other cV hL;replace aB:=(aB.other cU h9.symm).other cV hM;have iW:=iV.grown cV h2;refine za1<|bk_n<|W_th<|W_rg<|mv (i64 Q.2.2) V i3<|wa V (zak V V V)<|av (i64 (wI (Q.2.2+1))) V V<|zag<|?_;obtain rfl:=osi U;exact ⟨_,rfl,cO,sX,t4,i5,eC,sY,rfl,sZ,iW,kQ,dW.weak (SlK.stab (Sc.stab _)) (fun _ e=>⟨e.1,e.2.2.1,e.2.2.2.1,e.2.2.2.2.1,e.2.2.2.2.2⟩),mC,a9,mY,aB,n9,o6,h2,qD.symm,qE.symm,hE.symm,rX,hL,hM⟩
   refine zar<|th_x<|?_;obtain rfl:=osi U;obtain rfl:=k8 _ rfl;refine th_x<|bk_x<|?_;exact ⟨B,c1,cN,dF,eN,gQ,H,cX,I,cY,J,cZ,K,d0,d7,d8,d9,dA,dB,dC⟩
  rintro _ w3 ⟨t8,t5,t6,t0,jC,kI,nW,m2,oC,mK,oN,mZ,oU,nA,pH,pO,pV,qR,qZ,rY⟩;obtain rfl:=osi eH;exact ⟨t8,t5,t6,t0,jC,kI,nW,m2,oC,mK,oN,mZ,oU,nA,pH,pO,pV,qR,qZ,rY⟩
 rintro _ w4 ⟨i,cM,t7,t1,eL,kJ,bZ,m3,d4,mL,d5,n0,oV,uQ,pI,pP,v3,qS,vC,vJ⟩;refine W_th<|W_seq<|W_sr<|wq V (zan (u:=i) V Tryz.isAgg29 (by exact t7) oV V)<|wls V V (zab (vs:=[i,i64 4]) Tryz.func113 V V V (ar2 V V) (Chunk_rows_calls i (cells_own bZ) 4 (by decide) _) ?_);rintro _ tG ⟨o,p,rfl,d1,d2,sV,g6,g8,cP⟩;refine ⟨_,rfl,?_⟩;have qF:Nq i (bp o):=bZ.nq d1;have qG:Nq i (bp p):=bZ.nq d2;have qH:Nq (bp c) (bp o):=d4.nq d1;have qI:Nq (bp c) (bp p):=d4.nq d2;have qJ:Nq (bp b) (bp o):=d5.nq d1;have qK:Nq (bp b) (bp p):=d5.nq d2;replace bZ:=bZ.extL (SlK.stab (Sc.stab _)) cP (Lift.call2 _ cP d1 d2);replace d4:=d4.ext cP;replace d5:=d5.ext cP;have kR:=kJ.ext cP;have mD:=Nw.ext eL d1;have mE:=Nw.ext eL d2;have eI:=eL.trans cP;refine wnt<|zac<|?_;have eP:=kR.same a3 _ (Nat.zero_le _) jL V;obtain ⟨uL,jZ,D⟩:=bsi D;obtain ⟨wM,iK,D⟩:=bsi D;refine W_rangeDG (π:=fun j:ChEl cQ 4=>j.1) (xs:=za3 cQ 4) (ea:=fun j=>subW i j.1.1.toNat (j.1.1+(j.1.2.length:Int)).toNat (j.1.1+(j.1.2.length:Int)).toNat) (Rd:=zc9 cQ 4 o p i) (gf:=134) (lb:=#[bp o,bp p]) iK (mark_two (D':=a3) t1) V V (enters Tryz.func134 V V) V (chunk_rows cQ 4 (by decide) i o p _ ⟨g6,g8,bZ.rd (SlK.stab (Sc.stab _))⟩ (zjt jZ)) (fun tX e=>e) (fun j=>j.2.2) (fun _ _ r e=>zc9.tn r e) V (fun eA w=>∃ aS:Value,Ext w0 w/\OwK By w (i::aS::bp c::bp b::bp o::bp p::h) 22 i cQ/\Nw w0 i/\OwS w 152 aS eA/\Nw w0 aS/\Blk w c 109 #[bp b]/\Nw w0 (bp c)/\Blk w b 146 (cipc P aS a0.box a0.back)/\Nw w0 (bp b)/\Blk w o 29 #[i]/\Nw w0 (bp o)/\Blk w p 3 #[i64 4]/\Nw w0 (bp p)/\Nq i aS/\Nq i (bp c)/\Nq i (bp b)/\Nq i (bp o)/\Nq i (bp p)/\Nq aS (bp c)/\Nq aS (bp b)/\Nq aS (bp o)/\Nq aS (bp p)/\Nq (bp c) (bp b)/\Nq (bp c) (bp o)/\Nq (bp c) (bp p)/\Nq (bp b) (bp o)/\Nq (bp b) (bp p)/\Nq (bp o) (bp p)/\w.heap[a3]?=some (.deferred (some []))) ?_ ?_ ⟨.slice none 0 0,eI,bZ.weak (SlK.stab (Sc.stab _)) (fun _ e=>⟨e.2.2.1,zfw,e.2.2.2.1,e.2.2.2.2.1,e.1,e.2.1,e.2.2.2.2.2.2⟩),m3,OwS.nil _ _,Nw.nil _,d4,mL,d5,n0,g6,mD,g8,mE,(Nq.nil _).symm,pI,pP,qF,qG,Nq.nil _,Nq.nil _,Nq.nil _,Nq.nil _,qS,qH,qI,qJ,qK,sV,eP⟩ (fun j y=>upd y 13 (subW i j.1.1.toNat (j.1.1+(j.1.2.length:Int)).toNat (j.1.1+(j.1.2.length:Int)).toNat)) ?_ ?_ ?_
 ·rintro eA W iO r ⟨tC,jD,nX,m4,oD,mM,oO,n1,oW,nB,p4,nJ,p9,nP,pJ,pQ,pW,q1,q5,qT,r0,r5,rA,rZ,s4,s9,sE,sI,sO,tV⟩;exact ⟨tC,jD.tn r eI.size,nX.tn (SlK.stab (Sc.stab _)) r,m4,oD.tn r,mM,oO.tn r,n1,oW.tn r,nB,p4.tn r,nJ,p9.tn r,nP,pJ,pQ,pW,q1,q5,qT,r0,r5,rA,rZ,s4,s9,sE,sI,sO,Tn.low r tV (zbp eP)⟩
 ·rintro eA W ⟨tD,jE,nY,m5,oE,mN,oP,n2,oX,nC,p5,nK,pA,nQ,pK,pR,pX,q2,q6,qU,r1,r6,rB,s0,s5,sA,sF,sJ,sP,iJ⟩;have r:=Ext.drew W;exact ⟨tD,jE.trans r,nY.extL (SlK.stab (Sc.stab _)) r (le_ r),m5,oE.ext r,mN,oP.ext r,n2,oX.ext r,nC,p5.ext r,nK,pA.ext r,nQ,pK,pR,pX,q2,q6,qU,r1,r6,rB,s0,s5,sA,sF,sJ,sP,((Ext.blk r _ (zbp iJ)).trans iJ)⟩
 ·intro l j iP iN eO;refine W_rg<|av (subW i j.1.1.toNat (j.1.1+(j.1.2.length:Int)).toNat (j.1.1+(j.1.2.length:Int)).toNat) V V<|zag<|?_;exact eO
 ·rintro l ⟨E,gK⟩ eA vV fC ⟨T,jF,q,dP,C,bB,m,dQ,k,bC,s,dR,t,dS,bD,e3,bE,e4,e5,bF,bG,bH,bI,bJ,e6,e7,bK,bL,e8,eG⟩ O;have lO:=KeepsFrom.refl tG.heap.size fC;have lQ:=KeepsFrom.refl 0 fC;refine zac<|W_drawT [1,4,8] [(1,1),(2,0),(3,0),(4,1),(5,0)] (.br 0 [(6,2),(7,0),(8,1),(9,2),(10,2),(11,0),(12,0),(13,2)] .fin (.br 6 [(7,0),(8,1)] (.br 0 [(9,2),(10,2),(11,0),(12,0),(13,2)] .fin (.br 9 [] (.br 0 [(10,2),(11,0),(12,0),(13,2)] .fin (.br 10 [(0,2),(11,0),(12,0),(13,2)] .fin .fin)) .fin)) .fin)) mixed (by kernel_rfl) (by kernel_rfl) (by kernel_rfl) (by kernel_rfl) ?_;have aJ:=Ext.drew fC;replace q:=q.extL (SlK.stab (Sc.stab _)) aJ (le_ aJ);replace C:=C.ext aJ;replace m:=m.ext aJ;replace k:=k.ext aJ;replace s:=s.ext aJ;replace t:=t.ext aJ;have gR:=lO.ext aJ;have gS:=lQ.ext aJ;have dH:=jF.trans aJ;refine sq V V (zan (u:=bp b) V Tryz.isAgg109 (by exact cM) m V)<|sa V V (zbl V V)<|sa V V (zhw (g:=b) (d:=1) V zgm V)<|sq V V (zan (u:=T) V Tryz.isAgg143 V k V)<|sv (subW i E.1.toNat (E.1+(E.2.length:Int)).toNat (E.1+(E.2.length:Int)).toNat) V V V<|za1<|wr_br ?_ ?_
  ·refine wss V V V (Qt.stp (zan (u:=bp b) V Tryz.isAgg109 (by exact cM) m V) ⟨Ext.refl _,?_⟩);obtain ⟨e9,k5,O⟩:=bsi O;refine wss V V V (zab (vs:=[subW i E.1.toNat (E.1+(E.2.length:Int)).toNat (E.1+(E.2.length:Int)).toNat]) Tryz.func29 V V V (ar1 V) (za7 E.2 (subW i E.1.toNat (E.1+(E.2.length:Int)).toNat (E.1+(E.2.length:Int)).toNat) e9 _ (SlK.cut3 (L:=[]) (q.rd (SlK.stab (Sc.stab _))) gK.1) k5) ?_);rintro _ tH ⟨i8,rfl,aF,mF,o7⟩;refine ⟨_,rfl,aF,?_⟩;have gM:By tH (i::T::bp c::bp b::bp o::bp p::h) i8 e9:=OwK.slk (Sc.stab _) _ (OwK.scal o7 (i8::(i::T::bp c::bp b::bp o::bp p::h))) (fun A M=>(Old.cons (Old.cons (Old.cons (Old.cons (Old.cons (Old.cons (a6.ext dH) t.ltB) s.ltB) k.ltB) m.ltB) C.ltB) q.lt) A (mF A M)) (fun _ e=>e.2);replace q:=q.extL (SlK.stab (Sc.stab _)) aF (le_ aF);replace C:=C.ext aF;replace m:=m.ext aF;replace k:=k.ext aF;replace s:=s.ext aF;replace t:=t.ext aF;have kS:=gR.ext aF;have kT:=gS.ext aF;have fP:=dH.trans aF;obtain ⟨tZ,eV,O⟩:=bsi O;refine sa V V (q_arrAt V A152 V gM (Nat.le_of_eq (zad eV).symm))<|sq V V (q_loadSp V A152 V gM (zad eV) (by decide))<|?_;refine wss V V V (stp_litK (L:=(i::T::bp c::bp b::bp o::bp p::h)) (a:=e9) V K143 V (zad eV) ?_);intro i9 tI o8 mG g1 uC;refine ⟨zaa g1,?_⟩;have aK:=zaa g1;have kD:Ka tI (i::T::bp c::bp b::bp o::bp p::h) i9 [e9]:=OwS.ka (i::T::bp c::bp b::bp o::bp p::h) o8 (fun A M=>(Old.cons (Old.cons (Old.cons (Old.cons (Old.cons (Old.cons (a6.ext fP) t.ltB) s.ltB) k.ltB) m.ltB) C.ltB) q.lt) A (mG A M));replace q:=q.extL (SlK.stab (Sc.stab _)) aK (le_ aK);replace C:=C.ext aK;replace m:=m.ext aK;replace k:=k.ext aK;replace s:=s.ext aK;replace t:=t.ext aK;have kU:=kS.ext aK;have kV:=kT.ext aK;have fQ:=fP.trans aK;obtain ⟨u0,jP,O⟩:=bsi O;refine wsc V (by kernel_rfl) V V (zj9 (v:=T) (u:=i9) [i] (bp c::bp b::bp o::bp p::h) V K143 V V C kD (List.cons_ne_nil _ _) jP ?_)
   intro bP w6 dX b2 cE lS;have kW:=kU.own b2 C.cl;have kX:=kV.own b2 C.cl;have qL:Nq i bP:=q.nxt bD cE;have qM:Nq (bp c) bP:=m.nxt bF.symm cE;have hF:Nq (bp b) bP:=k.nxt bG.symm cE;have qN:Nq (bp o) bP:=s.nxt bH.symm cE;have qO:Nq (bp p) bP:=t.nxt bI.symm cE;replace k:=k.other b2 bG.symm;have iX:=fQ.grown b2 bB;have mH:=Nw.nxt fQ bB cE;refine sa V V (zbl V V)<|sa V V (zhw (g:=b) (d:=1) V zgm V)<|wsn V (by kernel_rfl) V V (zj6 (ks':=bP) [i,bP,bp c] (bp o::bp p::h) V V V k (OwS.oc dX) ?_);intro w8 o9 b3 lT;have kY:=kW.own b3 k.cl;have kZ:=kX.own b3 k.cl;replace q:=(q.other (SlK.stab (Sc.stab _)) b2 bD lS).other (SlK.stab (Sc.stab _)) b3 bE lT;replace dX:=dX.other b3 hF.symm;replace m:=(m.other b2 bF.symm).other b3 bJ;replace s:=(s.other b2 bH.symm).other b3 bK.symm;replace t:=(t.other b2 bI.symm).other b3 bL.symm;have iY:=iX.grown b3 bC;refine za1<|wt_fin<|bk_n ?_;obtain rfl:=osi O;exact ⟨kY,⟨s,t,q.rd (SlK.stab (Sc.stab _))⟩,bP,iY,q,dP,dX,mH,m,dQ,o9,bC,s,dR,t,dS,qL,e3,bE,e4,e5,qM.symm,hF.symm,qN.symm,qO.symm,bJ,e6,e7,bK,bL,e8,kZ.same a3 _ (Nat.zero_le _) eG V⟩
  refine wr_br ?_ ?_
  ·obtain ⟨cK,k6,O⟩:=bsi O;refine wss V V V (zab (vs:=[subW i E.1.toNat (E.1+(E.2.length:Int)).toNat (E.1+(E.2.length:Int)).toNat]) Tryz.func29 V V V (ar1 V) (za7 E.2 (subW i E.1.toNat (E.1+(E.2.length:Int)).toNat (E.1+(E.2.length:Int)).toNat) cK _ (SlK.cut3 (L:=[]) (q.rd (SlK.stab (Sc.stab _))) gK.1) k6) ?_);rintro _ tJ ⟨iA,rfl,aG,mI,oA⟩;refine ⟨_,rfl,aG,?_⟩;have gN:By tJ (i::T::bp c::bp b::bp o::bp p::h) iA cK:=OwK.slk (Sc.stab _) _ (OwK.scal oA (iA::(i::T::bp c::bp b::bp o::bp p::h))) (fun A M=>(Old.cons (Old.cons (Old.cons (Old.cons (Old.cons (Old.cons (a6.ext dH) t.ltB) s.ltB) k.ltB) m.ltB) C.ltB) q.lt) A (mI A M)) (fun _ e=>e.2);replace q:=q.extL (SlK.stab (Sc.stab _)) aG (le_ aG);replace C:=C.ext aG;replace m:=m.ext aG;replace k:=k.ext aG;replace s:=s.ext aG;replace t:=t.ext aG;have gT:=gR.ext aG;have gU:=gS.ext aG;have dI:=dH.trans aG;obtain ⟨u1,dM,O⟩:=bsi O;refine sa V V (q_arrAt V A152 V gN (Nat.le_of_eq (zad dM).symm))<|sq V V (q_loadSp V A152 V gN (zad dM) (by decide))<|?_;refine za1<|wt_br<|wr_br ?_ ?_
   ·refine wss V V V (Qt.stp (zan (u:=bp b) V Tryz.isAgg109 (by exact cM) m V) ⟨Ext.refl _,?_⟩);refine wss V V V (stp_litK (L:=(i::T::bp c::bp b::bp o::bp p::h)) (a:=cK) V K143 V (zad dM) ?_);intro iB tK oB mJ g2 uE;refine ⟨zaa g2,?_⟩;have aL:=zaa g2;have kE:Ka tK (i::T::bp c::bp b::bp o::bp p::h) iB [cK]:=OwS.ka (i::T::bp c::bp b::bp o::bp p::h) oB (fun A M=>(Old.cons (Old.cons (Old.cons (Old.cons (Old.cons (Old.cons (a6.ext dI) t.ltB) s.ltB) k.ltB) m.ltB) C.ltB) q.lt) A (mJ A M));replace q:=q.extL (SlK.stab (Sc.stab _)) aL (le_ aL);replace C:=C.ext aL;replace m:=m.ext aL;replace k:=k.ext aL;replace s:=s.ext aL;replace t:=t.ext aL;have l0:=gT.ext aL;have l1:=gU.ext aL;have fR:=dI.trans aL;obtain ⟨u2,jQ,O⟩:=bsi O;refine wsc V (by kernel_rfl) V V (zj9 (v:=T) (u:=iB) [i] (bp c::bp b::bp o::bp p::h) V K143 V V C kE (List.cons_ne_nil _ _) jQ ?_);intro bQ w9 dY b4 cF lU;have l2:=l0.own b4 C.cl;have l3:=l1.own b4 C.cl;have qQ:Nq i bQ:=q.nxt bD cF;have rG:Nq (bp c) bQ:=m.nxt bF.symm cF;have hH:Nq (bp b) bQ:=k.nxt bG.symm cF;have rH:Nq (bp o) bQ:=s.nxt bH.symm cF;have rI:Nq (bp p) bQ:=t.nxt bI.symm cF;replace k:=k.other b4 bG.symm;have iZ:=fR.grown b4 bB;have mT:=Nw.nxt fR bB cF;refine sa V V (zbl V V)<|sa V V (zhw (g:=b) (d:=1) V zgm V)<|wsn V (by kernel_rfl) V V (zj6 (ks':=bQ) [i,bQ,bp c] (bp o::bp p::h) V V V k (OwS.oc dY) ?_);intro wA oJ b5 lV;have l4:=l2.own b5 k.cl;have l5:=l3.own b5 k.cl;replace q:=(q.other (SlK.stab (Sc.stab _)) b4 bD lU).other (SlK.stab (Sc.stab _)) b5 bE lV;replace dY:=dY.other b5 hH.symm;replace m:=(m.other b4 bF.symm).other b5 bJ;replace s:=(s.other b4 bH.symm).other b5 bK.symm;replace t:=(t.other b4 bI.symm).other b5 bL.symm
    have j0:=iZ.grown b5 bC;refine za1<|wt_fin<|bk_n ?_;obtain rfl:=osi O;exact ⟨l4,⟨s,t,q.rd (SlK.stab (Sc.stab _))⟩,bQ,j0,q,dP,dY,mT,m,dQ,oJ,bC,s,dR,t,dS,qQ,e3,bE,e4,e5,rG.symm,hH.symm,rH.symm,rI.symm,bJ,e6,e7,bK,bL,e8,l5.same a3 _ (Nat.zero_le _) eG V⟩
   refine wr_br ?_ ?_
   ·refine wss V V V (stp_litK (L:=(i::T::bp c::bp b::bp o::bp p::h)) (a:=cK) V K143 V (zad dM) ?_);intro f7 tL oK mU g3 uF;refine ⟨zaa g3,?_⟩;have aM:=zaa g3;have gO:Ka tL (i::T::bp c::bp b::bp o::bp p::h) f7 [cK]:=OwS.ka (i::T::bp c::bp b::bp o::bp p::h) oK (fun A M=>(Old.cons (Old.cons (Old.cons (Old.cons (Old.cons (Old.cons (a6.ext dI) t.ltB) s.ltB) k.ltB) m.ltB) C.ltB) q.lt) A (mU A M));replace q:=q.extL (SlK.stab (Sc.stab _)) aM (le_ aM);replace C:=C.ext aM;replace m:=m.ext aM;replace k:=k.ext aM;replace s:=s.ext aM;replace t:=t.ext aM;have gV:=gT.ext aM;have gW:=gU.ext aM;have dK:=dI.trans aM;refine za1<|wt_br<|wr_br ?_ ?_
    ·refine wss V V V (Qt.stp (zan (u:=bp b) V Tryz.isAgg109 (by exact cM) m V) ⟨Ext.refl _,?_⟩);obtain ⟨u3,jR,O⟩:=bsi O;refine wsc V (by kernel_rfl) V V (zj9 (v:=T) (u:=f7) [i] (bp c::bp b::bp o::bp p::h) V K143 V V C gO (List.cons_ne_nil _ _) jR ?_);intro bR wB dZ b6 cG lW;have l6:=gV.own b6 C.cl;have l7:=gW.own b6 C.cl;have rJ:Nq i bR:=q.nxt bD cG;have rK:Nq (bp c) bR:=m.nxt bF.symm cG;have hI:Nq (bp b) bR:=k.nxt bG.symm cG;have rL:Nq (bp o) bR:=s.nxt bH.symm cG;have rM:Nq (bp p) bR:=t.nxt bI.symm cG;replace k:=k.other b6 bG.symm;have j1:=dK.grown b6 bB;have mW:=Nw.nxt dK bB cG;refine sa V V (zbl V V)<|sa V V (zhw (g:=b) (d:=1) V zgm V)<|wsn V (by kernel_rfl) V V (zj6 (ks':=bR) [i,bR,bp c] (bp o::bp p::h) V V V k (OwS.oc dZ) ?_);intro wC oL b7 lX;have l8:=l6.own b7 k.cl;have l9:=l7.own b7 k.cl;replace q:=(q.other (SlK.stab (Sc.stab _)) b6 bD lW).other (SlK.stab (Sc.stab _)) b7 bE lX;replace dZ:=dZ.other b7 hI.symm;replace m:=(m.other b6 bF.symm).other b7 bJ;replace s:=(s.other b6 bH.symm).other b7 bK.symm;replace t:=(t.other b6 bI.symm).other b7 bL.symm;have j2:=j1.grown b7 bC;refine za1<|wt_fin<|bk_n ?_;obtain rfl:=osi O;exact ⟨l8,⟨s,t,q.rd (SlK.stab (Sc.stab _))⟩,bR,j2,q,dP,dZ,mW,m,dQ,oL,bC,s,dR,t,dS,rJ,e3,bE,e4,e5,rK.symm,hI.symm,rL.symm,rM.symm,bJ,e6,e7,bK,bL,e8,l9.same a3 _ (Nat.zero_le _) eG V⟩
    refine wr_br ?_ ?_
    ·obtain ⟨u4,jS,O⟩:=bsi O;refine wsc V (by kernel_rfl) V V (zj9 (v:=T) (u:=f7) [i] (bp c::bp b::bp o::bp p::h) V K143 V V C gO (List.cons_ne_nil _ _) jS ?_);intro bS wD e0 b8 cH lY;have lA:=gV.own b8 C.cl;have lB:=gW.own b8 C.cl;have rN:Nq i bS:=q.nxt bD cH;have rO:Nq (bp c) bS:=m.nxt bF.symm cH;have hJ:Nq (bp b) bS:=k.nxt bG.symm cH;have rP:Nq (bp o) bS:=s.nxt bH.symm cH;have rQ:Nq (bp p) bS:=t.nxt bI.symm cH;replace m:=m.other b8 bF.symm;replace k:=k.other b8 bG.symm;have j3:=dK.grown b8 bB;have mX:=Nw.nxt dK bB cH;refine wss V V V (Qt.stp (zan (u:=bp b) V Tryz.isAgg109 (by exact cM) m V) ⟨Ext.refl _,?_⟩);refine sa V V (zbl V V)<|sa V V (zhw (g:=b) (d:=1) V zgm V)<|wsn V (by kernel_rfl) V V (zj6 (ks':=bS) [i,bS,bp c] (bp o::bp p::h) V V V k (OwS.oc e0) ?_);intro wE oM b9 lZ;have lC:=lA.own b9 k.cl;have lD:=lB.own b9 k.cl;replace q:=(q.other (SlK.stab (Sc.stab _)) b8 bD lY).other (SlK.stab (Sc.stab _)) b9 bE lZ;replace e0:=e0.other b9 hJ.symm;replace m:=m.other b9 bJ;replace s:=(s.other b8 bH.symm).other b9 bK.symm;replace t:=(t.other b8 bI.symm).other b9 bL.symm;have j4:=j3.grown b9 bC;refine za1<|wt_fin<|bk_n ?_;obtain rfl:=osi O;exact ⟨lC,⟨s,t,q.rd (SlK.stab (Sc.stab _))⟩,bS,j4,q,dP,e0,mX,m,dQ,oM,bC,s,dR,t,dS,rN,e3,bE,e4,e5,rO.symm,hJ.symm,rP.symm,rQ.symm,bJ,e6,e7,bK,bL,e8,lD.same a3 _ (Nat.zero_le _) eG V⟩
    trivial
   trivial
  trivial
 intro fG tN gA ⟨vX,gB,uV,uN,oF,mO,oQ,uP,oY,nD,uW,uR,uY,uT,v1,v2,v4,v5,v7,vA,vD,vF,vH,vK,vL,vN,vP,vR,vT,tW⟩ jK;have jX:=Nat.le_trans eI.size gA;have gX:=KeepsFrom.refl 0 tN;have gJ:fG≠a3:=Nat.ne_of_gt (Nat.lt_of_lt_of_le (zbp eP) gA);refine bk_n<|W_th<|W_sr<|wq V (zan (u:=bp b) V Tryz.isAgg109 (by exact cM) oQ V)<|av (bp b) V V<|av (i64 0) V V<|wnt<|W_ret ?_;obtain ⟨u6,jU,D⟩:=bsi D;obtain ⟨u5,jT,D⟩:=bsi D;obtain rfl:=osi D;have eW:=gX.same fG _ (Nat.zero_le _) jK V;have eD:=Tn.put eW jX (.deferred none);have gI:=gX.same a3 _ (Nat.zero_le _) tW V;have eE:=Tn.put2 eW gI gJ jY (.deferred none) (.deferred none);refine rtmm2 (bp b) (i64 0) V V V V V V gJ eW gI ?_;exact ⟨bp b,rfl,((gB.tn eD (Nat.le_refl _)).tn eE (Nat.le_refl _)),Ci.mk ((oY.tn eD).tn eE) (a6 _ (nD _ (hs_bp' _))) (((cW.lift (le_ gB)).tn eD).tn eE) (OwS.ka h ((oF.tn eD).tn eE) (fun A M=>a6 A (mO A M))) (zad jU) (zad jT)⟩
end Gk

/- A range over a function of two values, whose assignments may lay new blocks. No condition. -/
namespace Gk
open Go Go.RowKit
section
variable {P : Program} {n : Nat} {Q : Exit → (Nat → Value) → World → Prop} {f : Nat → Value} {w : World}
end
end Gk

/- slices.Backward over arrays of sixteen bytes: what it hands back, and its iterator's contract. No condition. -/
namespace Gk
open Go Go.Proofs Go.RowKit
end Gk

/- Printed by gen.py: for each Go function a pure function, and that the Go code comes to it. No condition beside the equation that says what the pure function gives. -/
namespace Gk
open Go Go.Proofs
end Gk

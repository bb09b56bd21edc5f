/- Parts Py, Z17, G17, Ql, Ni, L8e, Ne, Qn, L17h, Qo, one behind the other. What is proved: said at the head of each part. No condition beside those said there. -/
import Derived.Test.YtmbnjinlfeopaaaGreatRows
import Derived.Orders
import Derived.Deep.Draws
import Derived.Laws.World
import Derived.KernelRfl
import Derived.OrdersIn
import Derived.TacticsIn
import Derived.RangeFuncCalls
import Derived.Deep.LoopGhost
import Derived.Tactics
import Derived.Sort.LoopGhostIn
import Derived.RangeFuncLeaves
import Derived.RangeFuncNested
import Derived.RangeFuncRecord
import Derived.Laws.Sem
import Derived.OwnWalk
import Derived.RangeFuncWrites
import Derived.Laws.IdiomCopy
import Derived.WalkKit
import Derived.ProofKit
import Derived.OpenShut
import Derived.ChangeOld
import Derived.Below
import Derived.Test.YtmbnjinlfeopaaaGreatProg
import Derived.MapKept
import Derived.Lib.AppendZerosOnto
import Derived.Laws.CopyRow
import Derived.Laws.Cells
import Derived.Lib.SlBytesConst
import Derived.Test.YtmbnjinlfeopaaaGreatZPStripeFresh1
import Derived.Test.YtmbnjinlfeopaaaGreatZPStripeFresh2
import Derived.Test.YtmbnjinlfeopaaaGreatZPStripeFresh3
import Derived.Test.YtmbnjinlfeopaaaGreatZPStripeFresh4
import Derived.Test.YtmbnjinlfeopaaaGreatZPStripeFresh5
import Derived.Test.YtmbnjinlfeopaaaGreatZPStripeFresh6
set_option maxRecDepth 100000
set_option maxHeartbeats 8000000
set_option linter.unusedVariables false
set_option linter.unusedSimpArgs false
/- Chapter 10: rows, mended. No condition. -/
namespace Gk
open Gf
theorem subL_0m {α:Type} (l:List α) (b:Nat) (h:b<=l.length):subL l 0 (b:Int)=some (l.take b):=by
 have:=zd3 l 0 b (Nat.zero_le _) h
 rwa [show ((0:Nat):Int)=0 from rfl,List.drop_zero] at this
theorem getD_takeR (rows:List (List UInt8)) {t i:Nat} (h:i<t):(rows.take t).getD i []=rows.getD i []:=by simp [List.getD_eq_getElem?_getD,List.getElem?_take,h]
theorem CloneB_eq (b:List UInt8) (h:b.length<=most):zaj b=some b:=by
 unfold zaj;exact zfv b h
def Fixed (t e:Nat) (xs:List UInt8) (rows:List (List UInt8)) (L:Nat) (R:List (List UInt8)):Prop :=
 R.length=t/\(∀ i,i<t->(R.getD i []).length=L)/\(∀ k,k<L->∃ P,Good t e xs (clm rows k xs.length) P)/\∀ i,i<t->∀ k,k<L->co (R.getD i []) k=evp (PK t e xs (clm rows k xs.length)) (co xs i)
theorem fix_rows (t e:Nat) (xs:List UInt8) (rows:List (List UInt8)) (L:Nat) (h1:1<=t) (ht:t<=xs.length) (h255:xs.length<=255) (hn:xs.Nodup) (hl:rows.length=xs.length) (hr:∀ i,i<xs.length->(rows.getD i []).length=L) (hL:L<=1000) (od:List Nat) (hod:od=(List.range L).filter (oddB (xs.take t) xs rows L xs.length)) :
  ∃ x:(List (List UInt8))⊕(Option (Bool×List UInt8×List (List UInt8)×List Int)×Int),iterC (fun s52:List (List UInt8)×Int =>
(if s52.2<((od.map fun (k:Nat)=>(k:Int)).length:Int) then
((idx (od.map fun (k:Nat)=>(k:Int)) s52.2).bind fun c55 =>
((iterC (fun s56:List UInt8×Int =>
(if s56.2<(rows.length:Int) then
((idx rows s56.2).bind fun c59 =>
((idx c59 c55).bind fun c61 =>
((appL s56.1 (([c61]:List UInt8))).bind fun c65 => some (.inl (c65,(wI (s56.2+1)))))))
else some (.inr s56.1))) (([]:List UInt8),0)).bind fun x56 =>
((zff true (t:Int) xs x56 (e:Int)).bind fun r73 =>
(if r73.2=0 then
((iterC (fun s76:List (List UInt8)×Int =>
(if s76.2<((xs.take t).length:Int) then
((idx (xs.take t) s76.2).bind fun c79 =>
((idx s76.1 s76.2).bind fun c82 =>
((zh9 true r73.1 c79).bind fun r84 =>
((idx c82 c55).bind fun c86 => some (.inl ((s76.1.set (s76.2:Int).toNat (c82.set (c55:Int).toNat r84)),(wI (s76.2+1))))))))
else some (.inr s76.1))) (s52.1,0)).bind fun x76 => some (.inl (x76,(wI (s52.2+1)))))
else some (.inr (.inr ((none:Option (Bool×List UInt8×List (List UInt8)×List Int)),r73.2)))))))
else some (.inr (.inl s52.1)))) (rows.take t,0)=some x/\((∃ R,x=.inl R/\Fixed t e xs rows L R)∨(x=.inr (none,11)/\∃ k,k<L/\∀ P,¬ Good t e xs (clm rows k xs.length) P)):=by
 have hm:1000<=most:=by decide
 have hm2:=zbb
 have hodq:∀ q,q∈od->q<L:=fun q hq=>by
  rw [hod] at hq
  exact List.mem_range.1 (List.mem_filter.1 hq).1
 have hodl:∀ m,m<od.length->od.getD m 0<L:=fun m hm3=>hodq _ (by simp [List.getD_eq_getElem?_getD,hm3])
 have hodn:od.length<=L:=by
  rw [hod]
  have:=List.length_filter_le (oddB (xs.take t) xs rows L xs.length) (List.range L)
  simpa using this
 have hidx:∀ m,m<od.length->idx (od.map fun (k:Nat)=>(k:Int)) (m:Int)=some ((od.getD m 0:Nat):Int):=fun m hm3=>by
  rw [zge];simp [List.getD_eq_getElem?_getD,hm3]
 refine zfx (fun s=>∃ j:Nat,s.2=(j:Int)/\j<=od.length/\s.1.length=t/\(∀ i,i<t->(s.1.getD i []).length=L)/\(∀ k,k∈od.take j->∃ P,Good t e xs (clm rows k xs.length) P)/\∀ i,i<t->∀ k,k<L->co (s.1.getD i []) k=if k∈od.take j then evp (PK t e xs (clm rows k xs.length)) (co xs i) else co (rows.getD i []) k) (fun s=>od.length - s.2.toNat) _ ?_ _ ⟨0,rfl,Nat.zero_le _,by simp;omega,fun i hi=>by rw [getD_takeR rows hi];exact hr i (by omega),by simp,fun i hi k hk=>by simp only;rw [if_neg (by simp),getD_takeR rows hi]⟩
 rintro ⟨R,_⟩ ⟨j,rfl,hj,hRl,hRr,hg,hco⟩
 simp only at hRl hRr hco ⊢
 by_cases hjl:j<od.length
 ·have hkL:=hodl j hjl
  have htk:od.take (j+1)=od.take j ++ [od.getD j 0]:=by
   rw [List.take_add_one]
   simp [List.getD_eq_getElem?_getD,hjl]
  rw [List.length_map,if_pos (by omega),hidx j hjl,obs,clm_loop rows (od.getD j 0) L xs.length hl hr hkL (by omega),obs]
  generalize od.getD j 0=k at hkL htk ⊢
  have hcs:=column_spec xs (clm rows k xs.length) t e (by rw [clm_len]) h1 ht h255 hn
  by_cases hgd:∃ P,Good t e xs (clm rows k xs.length) P
  ·left
   have hP:=PK_good hgd
   generalize hPe:PK t e xs (clm rows k xs.length)=P at hP
   have hPl:(trim P).length<=255:=by have:=hP.1;unfold dg at this;omega
   rw [hcs.1 P hP,obs,if_pos rfl]
   simp only
   refine ⟨_,zay (rows_loop R t hRl (fun i=>(R.getD i []).set k (evp P (co xs i))) (fun i hi=>?_) (fun s=>by simp;omega)) (by rw [zas j (by omega)]),⟨j+1,rfl,hjl,by simp,fun i hi=>?_,fun q hq=>?_,fun i hi q hq=>?_⟩,by simp only [Int.toNat_natCast];omega⟩
   ·simp only
    have hU:=zih R (fun i=>(R.getD i []).set k (evp P (co xs i))) i
    have hG:=zjw R (fun i=>(R.getD i []).set k (evp P (co xs i))) i i (by omega)
    rw [if_neg (by omega)] at hG
    generalize updR R (fun i=>(R.getD i []).set k (evp P (co xs i))) i=s at hU hG ⊢
    rw [if_pos (by rw [List.length_take];omega),za4 (by rw [List.length_take];omega),obs,zcw (by omega),obs,hG,poly_Eval_eq _ _ (by omega),obs,za4 (by rw [hRr i hi];exact hkL),obs,zas i (by omega),Int.toNat_natCast,Int.toNat_natCast,ev_trim,co_takeU xs hi]
   ·rw [getD_tab _ _ _ hi,List.length_set];exact hRr i hi
   ·rw [htk,List.mem_append] at hq
    rcases hq with hq | hq
    ·exact hg q hq
    ·rw [List.mem_singleton] at hq;rw [hq];exact hgd
   ·rw [getD_tab _ _ _ hi,co_set (by rw [hRr i hi];exact hkL),htk]
    by_cases e1:q=k
    ·rw [if_pos e1,if_pos (by simp [e1]),e1,hPe]
    ·rw [if_neg e1,hco i hi q hq]
     by_cases e2:q∈od.take j
     ·rw [if_pos e2,if_pos (by simp [e2])]
     ·rw [if_neg e2,if_neg (by simp [e2,e1])]
  ·right
   rw [hcs.2 (fun P hP=>hgd ⟨P,hP⟩),obs]
   exact ⟨_,rfl,.inr ⟨rfl,k,hkL,fun P hP=>hgd ⟨P,hP⟩⟩⟩
 ·right
  rw [List.length_map,if_neg (by omega)]
  have hjo:od.take j=od:=List.take_of_length_le (by omega)
  rw [hjo] at hg hco
  have hpn:∀ k,k<L->k ∉ od->oddB (xs.take t) xs rows L xs.length k=false:=fun k hk hno=>by
   cases hb:oddB (xs.take t) xs rows L xs.length k with
   | false=>rfl
   | true=>exact absurd (by rw [hod];exact List.mem_filter.2 ⟨List.mem_range.2 hk,hb⟩) hno
  have hgood:∀ k,k<L->∃ P,Good t e xs (clm rows k xs.length) P:=fun k hk=>by
   by_cases hko:k∈od
   ·exact hg k hko
   ·obtain ⟨P,hP,hPe⟩:=even_good hn ht hk (hpn k hk hko)
    exact ⟨P,good_even hP hPe⟩
  refine ⟨_,rfl,.inl ⟨R,rfl,hRl,hRr,hgood,fun i hi k hk=>?_⟩⟩
  rw [hco i hi k hk]
  by_cases hko:k∈od
  ·rw [if_pos hko]
  ·rw [if_neg hko]
   obtain ⟨P,hP,hPe⟩:=even_good hn ht hk (hpn k hk hko)
   rw [← hPe i (by omega)]
   exact ev_sim _ _ _ (Good.uniq hn ht (good_even hP hPe) (PK_good (hgood k hk)))
noncomputable def rowP (t e:Nat) (a:List UInt8) (d:List (List UInt8)) (b:Nat) (f:UInt8):List UInt8:=(List.range b).map fun c=>evp (PK t e a (clm d c a.length)) f
theorem rowP_len (t e:Nat) (xs:List UInt8) (rows:List (List UInt8)) (L:Nat) (x:UInt8):(rowP t e xs rows L x).length=L:=by simp [rowP]
theorem Fixed.at {t e:Nat} {xs:List UInt8} {rows R:List (List UInt8)} {L:Nat} (h:Fixed t e xs rows L R) (h1:1<=t) (ht:t<=xs.length) (h255:xs.length<=255) (hn:xs.Nodup) (hL:L<=1000) (w:List Int) (x:UInt8):zg1 (some (true,xs.take t,R,w)) x=some (rowP t e xs rows L x):=by
 obtain ⟨hl,hr,hg,hco⟩:=h
 have hpl:(xs.take t).length=t:=by simp;omega
 have hpn:(xs.take t).Nodup:=hn.sublist (List.take_sublist _ _)
 rw [At_eq (xs.take t) R L w x (by omega) (by omega) hpn (by omega) (fun i hi=>hr i (by omega)) hL]
 congr 1
 refine zb2 (by rw [atR_len,rowP_len]) fun k=>?_
 by_cases hk:k<L
 ·rw [atR_poly hpn (P:=PK t e xs (clm rows k xs.length)) (by rw [hpl];exact (PK_good (hg k hk)).1) hk (fun i hi=>by rw [hpl] at hi;rw [hco i hi k hk,co_takeU xs hi])]
  unfold rowP;rw [zc3,if_pos hk]
 ·rw [co_ge (by rw [atR_len];omega),co_ge (by rw [rowP_len];omega)]
theorem Equal_eq (a b:List UInt8) (h:a.length<=most):zck a b=some (decide (a=b)):=by
 have hm2:=zbb
 unfold zck
 by_cases hl:a.length=b.length
 ·rw [if_pos (by omega)]
  obtain ⟨x,e,h1,h2⟩:=iterC_find (body:=fun s2:Int=>(if s2<(a.length:Int) then ((idx a s2).bind fun c7=>((idx b s2).bind fun c8=>(if c7=c8 then some (.inl (wI (s2+1))) else some (.inr (.inr false))))) else some (.inr (.inl ())))) a.length (fun i=>co a i≠co b i) (Sum.inr false:Unit⊕Bool) (Sum.inl ())
   (fun i hi hc=>by
    rw [if_pos (by omega),za4 hi,obs,za4 (by omega),obs,if_pos (Classical.not_not.1 hc),zas i (by omega)])
   (fun i hi hc=>by
    rw [if_pos (by omega),za4 hi,obs,za4 (by omega),obs,if_neg hc]) (by simp)
  rw [e,obs]
  by_cases hab:∃ i,i<a.length/\co a i≠co b i
  ·rw [h1 hab,Sum.elim_inr,decide_eq_false]
   rintro rfl
   obtain ⟨i,_,hi⟩:=hab
   exact hi rfl
  ·have hall:∀ i,i<a.length->co a i=co b i:=fun i hi=>Classical.byContradiction fun hc=>hab ⟨i,hi,hc⟩
   rw [h2 (fun i hi hc=>hc (hall i hi)),Sum.elim_inl,decide_eq_true]
   refine zb2 hl fun i=>?_
   by_cases hi:i<a.length
   ·exact hall i hi
   ·rw [co_ge (by omega),co_ge (by omega)]
 ·rw [if_neg (by omega),decide_eq_false]
  rintro rfl;exact hl rfl
noncomputable def badR (t e:Nat) (b:List UInt8) (a:List (List UInt8)) (L i:Nat):Bool:=!decide (rowP t e b a L (co b i)=a.getD i [])
noncomputable def mended (t e:Nat) (a:List UInt8) (f:List (List UInt8)) (b:Nat) (c:List (List UInt8)):Bool×List UInt8×List (List UInt8)×List Int:=(true,a.take t,c,((List.range a.length).filter (badR t e a f b)).map fun (d:Nat)=>(d:Int))
theorem Rows_spec (t e:Nat) (xs:List UInt8) (rows:List (List UInt8)) (L:Nat) (hc:mcode (t:Int) xs (rows.length:Int) (e:Int)=0) (hr:∀ i,i<rows.length->(rows.getD i []).length=L) (hL:L<=1000) :
  (∃ R,zhp true (t:Int) xs rows (e:Int)=some (some (mended t e xs rows L R),0)/\Fixed t e xs rows L R)∨(zhp true (t:Int) xs rows (e:Int)=some (none,11)/\∃ k,k<L/\∀ P,¬ Good t e xs (clm rows k xs.length) P):=by
 obtain ⟨q1,q2,q3,q4,q5,q6⟩:=mcode_ok hc
 have hm:1000<=most:=by decide
 have hm2:=zbb
 have hpl:(xs.take t).length=t:=by simp;omega
 unfold zhp
 rw [mend_check_eq _ _ _ _ (by omega),hc,obs,if_pos rfl,zi4 (by omega),obs]
 have hany:anyO (fun y7=>zgg y7 rows) rows=some (rows.any fun r=>decide (r.length≠L)):=zig _ _ _ fun r _=>by
  unfold zgg
  rw [idx_0 (by omega),obs,hr 0 (by omega)]
  by_cases h:r.length=L <;> simp [h]
  omega
 have hno:(rows.any fun r=>decide (r.length≠L))=false:=by
  rw [List.any_eq_false]
  intro r hr3
  obtain ⟨i,hi,rfl⟩:=mem_getD hr3
  rw [hr i hi];simp
 rw [hany,hno,obs,if_neg (by decide),subL_0m xs t (by omega),obs,CloneB_eq _ (by omega),obs,subL_0m rows t (by omega),obs]
 have hcl:iterC (fun s21:List (List UInt8)×Int=>(if s21.2<((rows.take t).length:Int) then ((idx (rows.take t) s21.2).bind fun c24=>((zaj c24).bind fun r28=>((appL s21.1 [r28]).bind fun c37=>some (.inl (c37,(wI (s21.2+1))))))) else some (.inr s21.1))) (([]:List (List UInt8)),0)=some (rows.take t):=by
  have htl:(rows.take t).length=t:=by simp;omega
  refine zal (fun i=>((rows.take t).take i,(i:Int))) t _ (by simp) (fun i hi=>?_) ?_
  ·simp only
   rw [if_pos (by omega),zcw (by omega),obs,CloneB_eq _ (by rw [getD_takeR rows hi,hr i (by omega)];omega),obs,zdz _ _ (by simp;omega) rfl,obs,zas i (by omega),rows_snoc (by omega)]
  ·simp only
   rw [if_neg (by omega),List.take_of_length_le (by omega)]
 have hodd:=odd_eq (xs.take t) xs rows L (by omega) (by omega) (q6.sublist (List.take_sublist _ _)) (by omega) q5 (by omega) (fun i hi=>hr i (by omega)) hL
 rw [hpl] at hodd
 rw [hcl,obs,hodd,obs]
 obtain ⟨x,ex,hx⟩:=fix_rows t e xs rows L (by omega) (by omega) q5 q6 (by omega) (fun i hi=>hr i (by omega)) hL _ rfl
 rw [ex,obs]
 rcases hx with ⟨R,rfl,hF⟩ | ⟨rfl,hb⟩
 ·left
  refine ⟨R,?_,hF⟩
  rw [Sum.elim_inl]
  refine zay (filt_loop xs.length (badR t e xs rows L) (fun i s hi hs=>?_) (fun s=>by simp)) rfl
  simp only
  rw [if_pos (by omega),za4 hi,obs,zcw (by omega),obs,hF.at (by omega) (by omega) q5 q6 hL,obs,Equal_eq _ _ (by rw [rowP_len];omega),obs]
  unfold badR
  by_cases hb:rowP t e xs rows L (co xs i)=rows.getD i []
  ·rw [decide_eq_true hb,if_neg (by decide),if_neg (by decide),zas i (by omega)]
  ·rw [decide_eq_false hb,if_pos (by decide),if_pos (by decide),zdz _ _ (by simp;omega) rfl,obs,zas i (by omega)]
 ·right
  exact ⟨by rw [Sum.elim_inr],hb⟩
end Gk

/- Printed by gen.py: for each Go function a pure function, and that the Go code comes to it. No condition beside the equation that says what the pure function gives. -/
namespace Gk
open Go Go.Proofs
noncomputable def zh0 (a:UInt8):Option Bool := some (!decide (a=(0:UInt8)))
theorem word_Zero_1_calls (a0x:UInt8) (r:Bool) (w0:World) (H:zh0 a0x=some r) :
  Calls Tryz.prog 102 [(u8 a0x)].toArray w0 (fun e w'=>e=.returned (.bool r)/\Ext w0 w'):=by
 have hE:Ext w0 w0:=Ext.refl w0;unfold zh0 at H;refine zai (n:=5) Tryz.func102 rfl rfl rfl ?_;refine W_seq<|W_rg<|av (.bool false) rfl rfl<|wnt<|W_seq<|W_rg<|mv (u8 a0x) rfl rfl<|wa rfl (q_ne8 rfl rfl (cst8 (0:UInt8) rfl))<|?_;refine av (.bool ((!decide (a0x=(0:UInt8))))) rfl rfl<|wnt<|W_ret<|?_;obtain rfl:=osi H;refine rt1 (.bool ((!decide (a0x=(0:UInt8))))) rfl rfl rfl rfl ?_;exact ⟨rfl,hE⟩
noncomputable def word_Zero (a:List UInt8):Option Bool :=
((lim a.length).bind fun d =>
((anyO (fun c=>zh0 c) a).bind fun b => some (!b)))
theorem word_Zero_calls (a0b:List UInt8) (p0:Value) (r:Bool) (w0:World) (hp0:By w0 [] p0 a0b) (H:word_Zero a0b=some r) :
  Calls Tryz.prog 73 [p0].toArray w0 (fun e w'=>e=.returned (.bool r)/\Ext w0 w'):=by
 have hE:Ext w0 w0:=Ext.refl w0;unfold word_Zero at H;refine zai (n:=6) Tryz.func73 rfl rfl rfl ?_;refine W_seq<|W_rg<|av (.bool false) rfl rfl<|wnt<|W_seq<|W_rg<|mv p0 rfl rfl<|?_;obtain ⟨lim1,hl1,H⟩:=bsi H;obtain ⟨r1,hr1,H⟩:=bsi H;refine wls rfl rfl (zab (vs:=[p0,(.func (.func 102) #[] #[])]) Tryz.func101 rfl rfl rfl (ar2 rfl rfl) (zi6 p0 a0b 102 _ Tryz.func102 rfl rfl [] (fun y1=>zh0 y1) r1 _ (hp0.lift (le_ hE)) (zjt hl1) hr1 (fun y1 _ b w' xE hb=>word_Zero_1_calls y1  b w'  hb)) ?_);rintro _ w1 ⟨rfl,x1⟩;refine ⟨_,rfl,?_⟩;have e2:=hE.trans x1;refine wa rfl (q_not rfl rfl)<|av (.bool ((!r1))) rfl rfl<|wnt<|W_ret<|?_;obtain rfl:=osi H;refine rt1 (.bool ((!r1))) rfl rfl rfl rfl ?_;exact ⟨rfl,e2⟩
end Gk

/- Printed by gen.py: for each Go function a pure function, and that the Go code comes to it. No condition beside the equation that says what the pure function gives. -/
namespace Gk
open Go Go.Proofs
noncomputable def zbu (a:Int) (b:List Int):Option Bool :=
(if a<1 then some true
else
((idx b 2).bind fun c => some (decide (c<a))))
theorem zh4 (a0p:Int) (b0:List Int) (gc0:Nat) (r:Bool) (w0:World) (hcB0:Blk w0 gc0 25 (ac i64 b0)) (H:zbu a0p b0=some r) :
  Calls Tryz.prog 33 [(i64 a0p),(bp gc0)].toArray w0 (fun e w'=>e=.returned (.bool r)/\Ext w0 w'):=by
 have hE:Ext w0 w0:=Ext.refl w0;unfold zbu at H;refine zai (n:=12) Tryz.func33 rfl rfl rfl ?_;refine W_seq<|W_rg<|av (.bool false) rfl rfl<|wnt<|W_seq<|W_rg<|mv (i64 a0p) rfl rfl<|wa rfl (q_ltI rfl rfl rfl)<|?_;refine wlb rfl rfl (zbd (v:=(.bool ((decide (a0p<1))))) rfl rfl) (fun hb1=>?_) (fun hb1=>?_)
 ·replace H:=ifp hb1 H;refine wk rfl<|wk rfl<|wk rfl<|wk rfl<|wa rfl (zaw (v:=(.bool true)) rfl rfl rfl)<|av (.bool true) rfl rfl<|wnt<|W_ret<|?_;obtain rfl:=osi H;refine rt1 (.bool true) rfl rfl rfl rfl ?_;exact ⟨rfl,hE⟩
 replace H:=ifn hb1 H;refine mv (i64 a0p) rfl rfl ?_;obtain ⟨c2,hc2,H⟩:=bsi H;refine wa rfl (zcp (j:=2) rfl zic rfl)<|wq rfl (zbh (m:=0) rfl G25 rfl (hcB0.ext hE) (zaf _ _) hc2)<|wa rfl (q_gtI rfl rfl rfl)<|wa rfl (zaq (v:=(.bool ((decide (c2<a0p))))) rfl rfl rfl)<|av (.bool ((decide (c2<a0p)))) rfl rfl<|wnt<|W_ret<|?_;obtain rfl:=osi H;refine rt1 (.bool ((decide (c2<a0p)))) rfl rfl rfl rfl ?_;exact ⟨rfl,hE⟩
noncomputable def zb7 (b:List UInt8) (a:List Int):Option Bool :=
((lenA 4 a).bind fun d =>
((zcf a).bind fun c => some (!decide ((b.length:Int)=c))))
theorem zhr (a0r:List UInt8) (b0:List Int) (p0:Value) (gc0:Nat) (r:Bool) (w0:World) (hp0:By w0 [] p0 a0r) (hcB0:Blk w0 gc0 25 (ac i64 b0)) (H:zb7 a0r b0=some r) :
  Calls Tryz.prog 35 [p0,(bp gc0)].toArray w0 (fun e w'=>e=.returned (.bool r)/\Ext w0 w'):=by
 have hE:Ext w0 w0:=Ext.refl w0;unfold zb7 at H;refine zai (n:=9) Tryz.func35 rfl rfl rfl ?_;refine W_seq<|W_rg<|av (.bool false) rfl rfl<|wnt<|W_seq<|W_rg<|mv p0 rfl rfl<|wa rfl (q_len rfl T22.sl rfl (hp0.lift (le_ hE)))<|?_;obtain ⟨c1,hc1,H⟩:=bsi H;refine wq rfl (zdd (m:=0) rfl G25 rfl (hcB0.ext hE) (zaf _ _) (zad hc1)) ?_;obtain ⟨r2,hr2,H⟩:=bsi H;refine wls rfl rfl (zab (vs:=[(ag i64 b0)]) Tryz.func21 rfl rfl rfl (ar1 rfl) (zev b0  r2 _  hr2) ?_);rintro _ w2 ⟨rfl,x2⟩;refine ⟨_,rfl,?_⟩;have e3:=hE.trans x2;refine wa rfl (q_neI rfl rfl rfl)<|av (.bool ((!decide ((a0r.length:Int)=r2)))) rfl rfl<|wnt<|W_ret<|?_;obtain rfl:=osi H;refine rt1 (.bool ((!decide ((a0r.length:Int)=r2)))) rfl rfl rfl rfl ?_;exact ⟨rfl,e3⟩
noncomputable def zbt (a:List Int) (g:Bool) (b:List Int) (c:List (List UInt8)):Option (Option (List Int×Bool×(Option (Bool×List UInt8×List (List UInt8)×List Int))×List (List UInt8)×List Int)×Int) :=
(if (!g)=true then some ((none:Option (List Int×Bool×(Option (Bool×List UInt8×List (List UInt8)×List Int))×List (List UInt8)×List Int)),1)
else
(if (b.length:Int)=(c.length:Int) then
((lenA 4 a).bind fun C =>
((zbx a).bind fun v =>
(if (!v)=true then some ((none:Option (List Int×Bool×(Option (Bool×List UInt8×List (List UInt8)×List Int))×List (List UInt8)×List Int)),2)
else
((lim b.length).bind fun D =>
((anyO (fun z=>zbu z a) b).bind fun s =>
(if s=true then some ((none:Option (List Int×Bool×(Option (Bool×List UInt8×List (List UInt8)×List Int))×List (List UInt8)×List Int)),2)
else
((lim c.length).bind fun E =>
((anyO (fun A=>zb7 A a) c).bind fun t =>
(if t=true then some ((none:Option (List Int×Bool×(Option (Bool×List UInt8×List (List UInt8)×List Int))×List (List UInt8)×List Int)),3)
else
((idx a 1).bind fun i =>
(if (c.length:Int)<i then some ((none:Option (List Int×Bool×(Option (Bool×List UInt8×List (List UInt8)×List Int))×List (List UInt8)×List Int)),12)
else
((iterC (fun e:List UInt8×Int =>
(if e.2<(b.length:Int) then
((idx b e.2).bind fun j =>
((appL e.1 ([UInt8.ofInt j]:List UInt8)).bind fun k => some (.inl (k,wI (e.2+1)))))
else some (.inr e.1))) (([]:List UInt8),0)).bind fun w =>
((idx a 1).bind fun l =>
((idx a 3).bind fun m =>
((zhp g l w c m).bind fun d =>
(if d.2=0 then
((lenA 4 a).bind fun B =>
((zhm d.1).bind fun h =>
((iterC (fun f:List Int×Int =>
(if f.2<(h.length:Int) then
((idx h f.2).bind fun n =>
((idx b n).bind fun o =>
((appL f.1 ([o]:List Int)).bind fun p => some (.inl (p,wI (f.2+1))))))
else some (.inr f.1))) (([]:List Int),0)).bind fun x =>
((idx a 1).bind fun q =>
((iterC (fun s62:List (List UInt8)×Int =>
(if s62.2<q then
((zg1 d.1 (UInt8.ofInt (wI (s62.2+1)))).bind fun u =>
((appL s62.1 ([u]:List (List UInt8))).bind fun r => some (.inl (r,wI (s62.2+1)))))
else some (.inr s62.1))) (([]:List (List UInt8)),0)).bind fun y => some (some (a,g,d.1,y,x),0))))))
else some ((none:Option (List Int×Bool×(Option (Bool×List UInt8×List (List UInt8)×List Int))×List (List UInt8)×List Int)),d.2)))))))))))))))))
else some ((none:Option (List Int×Bool×(Option (Bool×List UInt8×List (List UInt8)×List Int))×List (List UInt8)×List Int)),1)))
theorem zis (o:List Int) (aP:Bool) (aB:List Int) (Y:List (List UInt8)) (q:Value) (z:Value) (A:Value) (c2:Option (List Int×Bool×(Option (Bool×List UInt8×List (List UInt8)×List Int))×List (List UInt8)×List Int)×Int) (w0:World) (e:List Value) (K:Old w0 e) (aT:Fd w0 e q aP) (a1:In w0 [] z aB) (aU:Rw w0 [] A Y) (a:zbt o aP aB Y=some c2) :
  Calls Tryz.prog 13 [ag i64 o,q,z,A].toArray w0 (fun e6 aG=>∃ dT:Value,e6=.returned (.tuple #[dT,i64 c2.2])/\Ext w0 aG/\RcSt aG e dT c2.1):=by
 have cQ:Ext w0 w0:=Ext.refl w0;unfold zbt at a;refine zai (n:=121) Tryz.func13 V V V<|W_sr<|wls V V (zb9 (v:=ag i64 o) (cs:=ac i64 o) e V V V ?_);intro c h9 D f9 eD gT;have gM:=zaa eD;have fF:=Nw.ext cQ f9;have aC:=cQ.trans gM;refine av (.pointer none) V V<|av (i64 0) V V<|wnt<|W_seq<|zac<|W_sr<|mv q V V<|wa V (q_eqF V V V V ((aT.lift (Lift.sub (L':=[]) (fun _ _=>trivial))).lift (le_ aC)))<|wlb V V (zbd (v:=(.bool (!aP))) V V) (fun bJ=>?_) (fun bJ=>?_)
 ·replace a:=(if_pos bJ).symm.trans a;refine wk V<|wk V<|wk V<|wk V<|wk V<|wa V (zaw (v:=(.bool true)) V V V)<|av (.bool true) V V<|wnt<|zam true V V (fun _=>?_) (fun a0=>by cases a0);refine W_sr<|av (.pointer none) V V<|av (i64 1) V V<|wnt<|W_ret<|bk_r<|th_r<|?_;obtain rfl:=osi a;refine rt2 (.pointer none) (i64 1) V V V V V V ?_;exact ⟨.pointer none,rfl,aC,RcSt.nil _ _⟩
 replace a:=(if_neg (ne_true_of_eq_false bJ)).symm.trans a;refine mv z V V<|wa V (q_len V T35.sl V (a1.lift (le_ aC)))<|mv A V V<|wa V (q_len V T29.sl V (aU.lift (le_ aC)))<|wa V (q_neI V V V)<|wa V (zaq (v:=(.bool (!decide ((aB.length:Int)=(Y.length:Int))))) V V V)<|av (.bool (!decide ((aB.length:Int)=(Y.length:Int)))) V V<|wnt<|zam _ V V (fun bK=>?_) (fun bK=>?_)
 ·replace a:=(if_neg (zbf bK)).symm.trans a;refine W_sr<|av (.pointer none) V V<|av (i64 1) V V<|wnt<|W_ret<|bk_r<|th_r<|?_;obtain rfl:=osi a;refine rt2 (.pointer none) (i64 1) V V V V V V ?_;exact ⟨.pointer none,rfl,aC,RcSt.nil _ _⟩
 replace a:=(if_pos (zbg bK)).symm.trans a;refine W_sr<|bse a fun gR eM a=>wq V (zdd (m:=0) V G25 V D (zaf _ _) (zad eM)) ?_;obtain ⟨d9,eZ,a⟩:=bsi a;refine wls V V (zab (vs:=[ag i64 o]) Tryz.func20 V V V (ar1 V) (zcy o  d9 _  eZ) ?_);rintro _ hK ⟨rfl,e0⟩;refine ⟨_,rfl,?_⟩;replace D:=D.ext e0;have bB:=aC.trans e0;refine wa V (q_not V V)<|wlb V V (zbd (v:=(.bool (!d9))) V V) (fun bL=>?_) (fun bL=>?_)
 ·replace a:=(if_pos bL).symm.trans a;refine wk V<|wk V<|wk V<|wa V (zaw (v:=(.bool true)) V V V)<|av (.bool true) V V<|wnt<|zam true V V (fun _=>?_) (fun a0=>by cases a0);refine W_sr<|av (.pointer none) V V<|av (i64 2) V V<|wnt<|W_ret<|bk_r<|th_r<|?_;obtain rfl:=osi a;refine rt2 (.pointer none) (i64 2) V V V V V V ?_;exact ⟨.pointer none,rfl,bB,RcSt.nil _ _⟩
 replace a:=(if_neg (ne_true_of_eq_false bL)).symm.trans a;refine mv z V V<|wa V (zgq (vs:=[bp c]) V (ar1 V))<|?_;obtain ⟨gZ,eP,a⟩:=bsi a;obtain ⟨c3,eR,a⟩:=bsi a;refine wls V V (zab (vs:=[z,(.func (.func 33) #[] [bp c].toArray)]) Tryz.func32 V V V (ar2 V V) (zka z aB 33 _ Tryz.func33 V V [bp c] (fun cC=>zbu cC o) c3 _ (a1.lift (le_ bB)) (zjt eP) eR (fun cC _ b9 aG cB a0=>zh4 cC o c b9 aG (D.ext cB) a0)) ?_);rintro _ hA ⟨rfl,dX⟩;refine ⟨_,rfl,?_⟩;replace D:=D.ext dX;have bA:=bB.trans dX;refine wa V (zaq (v:=(.bool c3)) V V V)<|av (.bool c3) V V<|wnt<|zam _ V V (fun bG=>?_) (fun bG=>?_)
 ·replace a:=(if_pos bG).symm.trans a;refine W_sr<|av (.pointer none) V V<|av (i64 2) V V<|wnt<|W_ret<|bk_r<|th_r<|?_;obtain rfl:=osi a;refine rt2 (.pointer none) (i64 2) V V V V V V ?_;exact ⟨.pointer none,rfl,bA,RcSt.nil _ _⟩
 replace a:=(if_neg (ne_true_of_eq_false bG)).symm.trans a;refine W_sr<|mv A V V<|wa V (zgq (vs:=[bp c]) V (ar1 V))<|?_;obtain ⟨h0,eQ,a⟩:=bsi a;obtain ⟨d8,eS,a⟩:=bsi a;refine wls V V (zab (vs:=[A,(.func (.func 35) #[] [bp c].toArray)]) Tryz.func34 V V V (ar2 V V) (zcc A Y 35 _ Tryz.func35 V V [bp c] (fun cD=>zb7 cD o) d8 _ (aU.lift (le_ bA)) (zjt eQ) eS (fun cD _ b9 aG cB a0 u f0=>zhr cD o u c b9 aG f0 (D.ext cB) a0)) ?_);rintro _ hB ⟨rfl,dY⟩;refine ⟨_,rfl,?_⟩;replace D:=D.ext dY;have aH:=bA.trans dY;refine av (.bool d8) V V<|wnt<|zam _ V V (fun bH=>?_) (fun bH=>?_)
 ·replace a:=(if_pos bH).symm.trans a;refine W_sr<|av (.pointer none) V V<|av (i64 3) V V<|wnt<|W_ret<|bk_r<|th_r<|?_;obtain rfl:=osi a;refine rt2 (.pointer none) (i64 3) V V V V V V ?_;exact ⟨.pointer none,rfl,aH,RcSt.nil _ _⟩
 replace a:=(if_neg (ne_true_of_eq_false bH)).symm.trans a;refine W_sr<|mv A V V<|wa V (q_len V T29.sl V (aU.lift (le_ aH)))<|bse a fun e4 eH a=>wa V (zcp (j:=1) V zf2 V)<|wq V (zbh (m:=0) V G25 V D (zaf _ _) eH)<|wa V (q_ltI V V V)<|av (.bool (decide ((Y.length:Int)<e4))) V V<|wnt<|wci a V V (fun a=>?_) (fun a=>?_)
 ·refine W_sr<|av (.pointer none) V V<|av (i64 12) V V<|wnt<|W_ret<|bk_r<|th_r<|?_;obtain rfl:=osi a;refine rt2 (.pointer none) (i64 12) V V V V V V ?_;exact ⟨.pointer none,rfl,aH,RcSt.nil _ _⟩
 refine zae<|bk_n<|W_th<|W_sr<|av (.slice none 0 0) V V<|wnt<|W_seq<|W_sr<|mv z V V<|wa V (q_len V T35.sl V (a1.lift (le_ aH)))<|mv (i64 0) V V<|wnt<|?_;obtain ⟨dZ,e1,a⟩:=bsi a;refine W_mid (fun f w=>∃ aM:Value,f 1=q/\f 2=z/\f 3=A/\f 4=bp c/\f 10=aM/\f 121=undef/\Ext w0 w/\OwK (Sc u8) w (aM::bp c::e) 5 aM dZ/\Nw w0 aM/\Blk w c 25 (ac i64 o)/\Nw w0 (bp c)/\Nq aM (bp c)) ?_ ?_
 ·refine zac<|zau (fun b2 f w=>∃ aL:Value,f 1=q/\f 2=z/\f 3=A/\f 4=bp c/\f 10=aL/\f 48=z/\f 49=i64 (aB.length:Int)/\f 50=i64 b2.2/\f 121=undef/\Ext w0 w/\OwK (Sc u8) w (aL::bp c::e) 5 aL b2.1/\Nw w0 aL/\Blk w c 25 (ac i64 o)/\Nw w0 (bp c)/\Nq aL (bp c)) e1 ?_ ?_
  ·exact ⟨.slice none 0 0,rfl,rfl,rfl,rfl,rfl,rfl,rfl,rfl,rfl,aH,OwK.nil _ _ _ _,Nw.nil _,D,fF,Nq.nil _⟩
  rintro b2 _ _ hC ⟨aK,dI,dK,dM,dP,dB,dN,dO,c5,dC,aI,aJ,bO,S,d1,bV⟩ H eT;refine W_sr<|wa V (q_ltI V c5 dO)<|wnt<|W_seq<|wci H V V (fun H=>?_) (fun H=>?_)
  ·refine zae<|W_th<|W_seq<|zac<|W_sr<|bse H fun J cU H=>wa V (q_adr V T35 dN c5 (a1.lift (le_ aI)) cU)<|wq V (zao V T35 V (a1.lift (le_ aI)) cU)<|av (i64 J) V V<|wnt<|W_rg<|mv aK V dB<|mv (i64 J) V V<|wa V (zey V V V V)<|wls V V (zaz (L:=(aK::bp c::e)) (R:=Sc u8) [u8 (UInt8.ofInt J)] ([UInt8.ofInt J]:List UInt8) V T22 V (by exact ⟨rfl,rfl,trivial⟩) V (litC u8 zbi (us:=[u8 (UInt8.ofInt J)]) (l:=([UInt8.ofInt J]:List UInt8)) V) V (litS u8 (us:=[u8 (UInt8.ofInt J)]) (l:=([UInt8.ofInt J]:List UInt8)) V) ?_);intro dU gF fR fB eE gU;have b6:=zaa eE;have f3:By gF (aK::bp c::e) dU ([UInt8.ofInt J]:List UInt8):=OwK.slk (Sc.stab _) _ fR (fun p s=>(Old.cons (Old.cons (K.ext aI) S.ltB) aJ.lt) p (fB p s)) (fun _ h=>h.2);replace aJ:=aJ.extL (Sc.stab _) b6 (le_ b6);replace S:=S.ext b6;have cH:=aI.trans b6;obtain ⟨gO,eI,H⟩:=bsi H;refine wls V V (zav (R:=Sc u8) (v:=aK) (u:=dU) (Sc.stab _) [] (bp c::e) V T22 V V aJ f3 (fun _ _ h=>h) eI oc_u8 ?_);intro c7 hD fS cN d5 gV;have g2:Nq (bp c) c7:=S.nxt bV.symm d5;replace S:=S.other cN bV.symm;have e7:=cH.grown cN bO;have fC:=Nw.nxt cH bO d5;refine av c7 V V<|zag<|bk_n<|W_th<|W_rg<|wa V (zak V c5 V)<|mv (i64 (wI (b2.2+1))) V V<|zag<|?_;obtain rfl:=osi H;exact ⟨_,rfl,c7,dI,dK,dM,dP,rfl,dN,dO,rfl,dC,e7,fS,fC,S,d1,g2.symm⟩
  refine zar<|th_x<|?_;obtain rfl:=osi H;obtain rfl:=eT _ rfl;refine th_x<|bk_x<|?_;exact ⟨aK,dI,dK,dM,dP,dB,dC,aI,aJ,bO,S,d1,bV⟩
 rintro _ hE ⟨a5,dJ,gC,gD,b4,g6,dD,aS,a3,f6,t,d2,h2⟩;refine W_th<|W_sr<|mv q V dJ<|bse a fun cE eJ a=>wa V (zcp (j:=1) V zf2 (by exact b4))<|wq V (zbh (m:=0) V G25 V t (zaf _ _) eJ)<|mv a5 V g6<|mv A V gD<|bse a fun cF eK a=>wa V (zcp (j:=3) V fieldS3 (by exact b4))<|wq V (zbh (m:=0) V G25 V t (zaf _ _) eK)<|?_;obtain ⟨y,eU,a⟩:=bsi a;refine wls V V (zab (vs:=[q,i64 cE,a5,A,i64 cF]) Tryz.func36 V V V (ar5 V V V V V) (mend_Rows_calls aP cE dZ Y cF q a5 A y _ (a5::bp c::e) (Old.cons (Old.cons (K.ext aS) t.ltB) a3.lt) (aT.lift (((Lift.ext aS e).consN d2).consN f6)) (a3.rd (Sc.stab _)) (aU.lift (le_ aS)) eU) ?_);rintro _ hF ⟨i,rfl,b7,a2⟩;refine ⟨_,rfl,?_⟩;replace a3:=a3.extL (Sc.stab _) b7 (le_ b7);replace t:=t.ext b7;have aQ:=aS.trans b7;refine mv (.tuple #[i,i64 y.2]) V V<|wa V (zah V V V)<|wa V (zah V V V)<|av i V V<|av (i64 y.2) V V<|wnt<|W_seq<|W_seq<|W_rg<|mv (i64 y.2) V V<|wa V (q_neI V V V)<|wnt<|zam _ V V (fun bI=>?_) (fun bI=>?_)
 ·replace a:=(if_neg (zbf bI)).symm.trans a;refine W_sr<|mv (i64 y.2) V V<|av (.pointer none) V V<|av (i64 y.2) V V<|wnt<|W_ret<|th_r<|?_;obtain rfl:=osi a;refine rt2 (.pointer none) (i64 y.2) V V V V V dD ?_;exact ⟨.pointer none,rfl,aQ,RcSt.nil _ _⟩
 replace a:=(if_pos (zbg bI)).symm.trans a;refine zae<|W_th<|W_sr<|?_;obtain ⟨gP,M,a⟩:=bsi a;refine wq V (zdd (m:=0) V G25 (by exact b4) t (zaf _ _) (zad M))<|mv q V dJ<|mv i V V<|wa V (q_buildS (ps:=#[(0,ag i64 o),(1,q),(2,i)]) V (by simp only [List.map_toArray,List.map_cons,List.map_nil];exact bs3 V V V) (buildSt_0_1_2 o (zad M) q (zjz ((aT.lift (Lift.sub (L':=[]) (fun _ _=>trivial))).lift (le_ aQ))) i (RcMd.cells a2)))<|?_
 refine wls V V (zb9 (v:=(.agg ((o.map i64 ++ [q,i,.slice none 0 0,.slice none 0 0]).toArray))) (cs:=((o.map i64 ++ [q,i,.slice none 0 0,.slice none 0 0]).toArray)) (a5::bp c::e) V V V ?_);intro b hG aW aV eF gW;have aO:=zaa eF;have g3:Nq (bp c) (bp b):=t.nq aV;replace a2:=a2.lift (Lift.call _ aO aV);replace a3:=a3.extL (Sc.stab _) aO (Lift.call _ aO aV);replace t:=t.ext aO;have fG:=Nw.ext aQ aV;have cI:=aQ.trans aO;refine av (bp b) V V<|wnt<|W_seq<|W_sr<|mv i V V<|?_;obtain ⟨aZ,eV,a⟩:=bsi a;refine wls V V (zab (vs:=[i]) Tryz.func37 V V V (ar1 V) (mend_Wrong_calls y.1 i aZ _ (a2.lift (Lift.sub (L':=[]) (fun _ _=>trivial))) eV) ?_);rintro _ gG ⟨b5,rfl,b8,fH,fV⟩;refine ⟨_,rfl,?_⟩;have cX:In gG (bp b::a5::bp c::e) b5 aZ:=OwK.slk (Sc.stab _) _ (OwK.scal fV (b5::(bp b::a5::bp c::e))) (fun p s=>(Old.cons (Old.cons (Old.cons (K.ext cI) t.ltB) a3.lt) aW.ltB) p (fH p s)) (fun _ h=>h.2);replace a2:=a2.lift (le_ b8);replace aW:=aW.ext b8;replace t:=t.ext b8;have e8:=cI.trans b8;refine wa V (q_len V T35.sl V cX)<|mv (i64 0) V V<|wnt<|?_;obtain ⟨cA,e2,a⟩:=bsi a;refine W_mid (fun f w=>∃ a6:Value,f 4=bp c/\f 13=i/\f 15=bp b/\f 121=undef/\Ext w0 w/\OwK (Sc i64) w (a6::bp c::bp b::e) 3 a6 cA/\Nw w0 a6/\Blk w c 25 (ac i64 o)/\Nw w0 (bp c)/\Blk w b 74 ((o.map i64 ++ [q,i,.slice none 0 0,a6]).toArray)/\Nw w0 (bp b)/\Nq a6 (bp c)/\Nq a6 (bp b)/\Nq (bp c) (bp b)/\RcMd w (a6::bp c::bp b::e) i y.1) ?_ ?_
 ·refine zac<|zau (fun b3 f w=>∃ W:Value,f 2=z/\f 4=bp c/\f 13=i/\f 15=bp b/\f 80=b5/\f 81=i64 (aZ.length:Int)/\f 82=i64 b3.2/\f 121=undef/\Ext w0 w/\OwK (Sc i64) w (W::bp c::bp b::e) 3 W b3.1/\Nw w0 W/\Blk w c 25 (ac i64 o)/\Nw w0 (bp c)/\Blk w b 74 ((o.map i64 ++ [q,i,.slice none 0 0,W]).toArray)/\Nw w0 (bp b)/\Nq W (bp c)/\Nq W (bp b)/\Nq (bp c) (bp b)/\RcMd w (W::bp c::bp b::e) i y.1/\In w (W::bp c::bp b::e) b5 aZ) e2 ?_ ?_
  ·exact ⟨.slice none 0 0,gC,b4,rfl,rfl,rfl,rfl,rfl,dD,e8,OwK.nil _ _ _ _,Nw.nil _,t,d2,aW,fG,Nq.nil _,Nq.nil _,g3,a2.lift (Lift.sub (fun _ h=>⟨zfw,h.2.2.1,h.1,h.2.2.2⟩)),cX.lift (Lift.sub (fun _ h=>⟨zfw,h.2.2.1,h.1,h.2.2.2⟩))⟩
  rintro b3 _ _ gH ⟨aN,dL,dQ,dG,b0,dR,dS,c6,dE,cR,a4,bP,G,d3,E,bR,bW,bY,c0,Q,N⟩ B eW;refine W_sr<|wa V (q_ltI V c6 dS)<|wnt<|W_seq<|wci B V V (fun B=>?_) (fun B=>?_)
  ·refine zae<|W_th<|W_seq<|zac<|W_sr<|bse B fun cG cV B=>wa V (q_adr V T35 dR c6 N cV)<|wq V (zao V T35 V N cV)<|av (i64 cG) V V<|wnt<|zba [4,8] [(0,0),(1,0),(2,0),(3,0),(4,1),(5,0),(6,0),(7,0),(8,1),(9,2),(10,2),(11,0),(12,0),(13,2)] mixed (by kernel_rfl) (by kernel_rfl) (by kernel_rfl) (by kernel_rfl) ?_;have a7:=Ext.drew gH;replace a4:=a4.extL (Sc.stab _) a7 (le_ a7);replace G:=G.ext a7;replace E:=E.ext a7;have aR:=cR.trans a7;refine sv (bp b) V V b0<|sv (bp b) V V b0<|sa V V (zbl V V)<|sa V V (zek (g:=b) (m:=0) (d:=7) V fieldAtSt4 V)<|sq V V (zan (u:=aN) V Tryz.isAgg35 V E (zjb (m:=3) (zad M) V))<|sv z V V dL<|sv (i64 cG) V V V<|bse B fun Z cW B=>sa V V (q_adr V T35 V V (a1.lift (le_ aR)) cW)<|sq V V (zao V T35 V (a1.lift (le_ aR)) cW)<|wss V V V (zaz (L:=(aN::bp c::bp b::e)) (R:=Sc i64) [i64 Z] ([Z]:List Int) V T35 V (by exact ⟨rfl,rfl,trivial⟩) V (litC i64 oneC_i64 (us:=[i64 Z]) (l:=([Z]:List Int)) V) V (litS i64 (us:=[i64 Z]) (l:=([Z]:List Int)) V) ?_);intro dV gI fW fI cO gX;refine ⟨zaa cO,?_⟩;have a8:=zaa cO;have f4:In gI (aN::bp c::bp b::e) dV ([Z]:List Int):=OwK.slk (Sc.stab _) _ fW (fun p s=>(Old.cons (Old.cons (Old.cons (K.ext aR) E.ltB) G.ltB) a4.lt) p (fI p s)) (fun _ h=>h.2);replace Q:=(Q.lift (le_ a7)).lift (le_ a8);replace N:=(N.lift (le_ a7)).lift (le_ a8);replace a4:=a4.extL (Sc.stab _) a8 (le_ a8);replace G:=G.ext a8;replace E:=E.ext a8;have cJ:=aR.trans a8;obtain ⟨gQ,eL,B⟩:=bsi B;refine wsc V (by kernel_rfl) V V (zav (R:=Sc i64) (v:=aN) (u:=dV) (Sc.stab _) [] (bp c::bp b::e) V T35 V V a4 f4 (fun _ _ h=>h) eL oc_i64 ?_);intro aE hH aX bC bT cZ;replace Q:=Q.lift cZ;replace N:=N.lift cZ;have g4:Nq (bp c) aE:=G.nxt bW.symm bT;have d6:Nq (bp b) aE:=E.nxt bY.symm bT
   replace E:=E.other bC bY.symm;have e9:=cJ.grown bC bP;have fJ:=Nw.nxt cJ bP bT;refine sa V V (zbl V V)<|sa V V (zek (g:=b) (m:=0) (d:=7) V fieldAtSt4 V)<|wsn V (by kernel_rfl) V V (stp_storeR (u:=aE) (cs':=((o.map i64 ++ [q,i,.slice none 0 0,aE]).toArray)) [aE,bp c] e V Tryz.sizeOf35 V V E (lt_ar (m:=3) (zad M) (Nat.le_of_ble_eq_true V)) (oc_own aX) (set_ar (m:=3) (zad M)) ?_);intro hI fX bD bM;replace Q:=Q.lift bM;replace N:=N.lift bM;replace aX:=aX.other (Sc.stab _) bD d6.symm bM;replace G:=(G.other bC bW.symm).other bD c0;have eA:=e9.grown bD bR;refine za1<|bk_n<|W_th<|W_rg<|wa V (zak V c6 V)<|mv (i64 (wI (b3.2+1))) V V<|zag<|?_;obtain rfl:=osi B;exact ⟨_,rfl,aE,dL,dQ,dG,b0,dR,dS,rfl,dE,eA,aX,fJ,G,d3,fX,bR,g4.symm,d6.symm,c0,Q,N⟩
  refine zar<|th_x<|?_;obtain rfl:=osi B;obtain rfl:=eW _ rfl;refine th_x<|bk_x<|?_;exact ⟨aN,dQ,dG,b0,dE,cR,a4,bP,G,d3,E,bR,bW,bY,c0,Q⟩
 rintro _ hJ ⟨k,gE,g9,gA,g7,eG,fN,f7,fP,h1,fT,fD,h3,g1,h6,f1⟩;refine W_th<|W_seq<|W_sr<|bse a fun e5 eN a=>wa V (zcp (j:=1) V zf2 (by exact gE))<|wq V (zbh (m:=0) V G25 V fP (zaf _ _) eN)<|mv (i64 0) V V<|wnt<|?_;obtain ⟨gN,e3,a⟩:=bsi a;refine W_mid (fun f w=>∃ U:Value,f 15=bp b/\f 121=undef/\Ext w0 w/\OwK By w (U::k::bp b::e) 22 U gN/\Nw w0 U/\OwK (Sc i64) w (U::k::bp b::e) 3 k cA/\Nw w0 k/\Blk w b 74 ((o.map i64 ++ [q,i,U,k]).toArray)/\Nw w0 (bp b)/\Nq U k/\Nq U (bp b)/\Nq k (bp b)/\RcMd w (U::k::bp b::e) i y.1) ?_ ?_
 ·refine zac<|zau (fun O f w=>∃ T:Value,f 13=i/\f 15=bp b/\f 101=i64 e5/\f 102=i64 O.2/\f 121=undef/\Ext w0 w/\OwK By w (T::k::bp b::e) 22 T O.1/\Nw w0 T/\OwK (Sc i64) w (T::k::bp b::e) 3 k cA/\Nw w0 k/\Blk w b 74 ((o.map i64 ++ [q,i,T,k]).toArray)/\Nw w0 (bp b)/\Nq T k/\Nq T (bp b)/\Nq k (bp b)/\RcMd w (T::k::bp b::e) i y.1) e3 ?_ ?_
  ·exact ⟨.slice none 0 0,g9,gA,rfl,rfl,g7,eG,OwK.nil _ _ _ _,Nw.nil _,fN.weak (Sc.stab _) (fun _ h=>⟨zfw,h.1,h.2.2.1,h.2.2.2⟩),f7,fT,fD,Nq.nil _,Nq.nil _,g1,f1.lift (Lift.sub (fun _ h=>⟨zfw,h.1,h.2.2.1,h.2.2.2⟩))⟩
  rintro O _ _ gJ ⟨P,dH,b1,dA,c4,dF,cS,F,bQ,x,d4,r,bS,bX,bZ,c1,C⟩ I eX;refine W_sr<|wa V (q_ltI V c4 dA)<|wnt<|W_seq<|wci I V V (fun I=>?_) (fun I=>?_)
  ·refine zae<|W_th<|W_seq<|zac<|W_sr<|mv (i64 O.2) V c4<|av (i64 O.2) V V<|wnt<|zba [4] [(0,0),(1,0),(2,0),(3,0),(4,1),(5,0),(6,0),(7,0),(8,0),(9,2),(10,2),(11,2),(12,0),(13,0),(14,2)] mixed (by kernel_rfl) (by kernel_rfl) (by kernel_rfl) (by kernel_rfl) ?_;have a9:=Ext.drew gJ;replace C:=C.lift (le_ a9);replace F:=F.extL (SlK.stab (Sc.stab _)) a9 (le_ a9);replace x:=x.extL (Sc.stab _) a9 (le_ a9);replace r:=r.ext a9;have cK:=cS.trans a9;refine sv (bp b) V V b1<|sv (bp b) V V b1<|sa V V (zbl V V)<|sa V V (zek (g:=b) (m:=0) (d:=6) V fieldAtSt3 V)<|sq V V (zan (u:=P) V Tryz.isAgg29 V r (zjb (m:=2) (zad M) V))<|sv i V V dH<|sv (i64 O.2) V V V<|sa V V (zak V V V)<|sa V V (zey V V V V) ?_;obtain ⟨aD,eY,I⟩:=bsi I;refine wss V V V (zab (vs:=[i,u8 (UInt8.ofInt (wI (O.2+1)))]) Tryz.func38 V V V (ar2 V V) (zhb y.1 (UInt8.ofInt (wI (O.2+1))) i aD _ (C.lift (Lift.sub (L':=[]) (fun _ _=>trivial))) eY) ?_);rintro _ c9 ⟨c8,rfl,X,fK,fY⟩;refine ⟨_,rfl,X,?_⟩;have cY:By c9 (P::k::bp b::e) c8 aD:=OwK.slk (Sc.stab _) _ (OwK.scal fY (c8::(P::k::bp b::e))) (fun p s=>(Old.cons (Old.cons (Old.cons (K.ext cK) r.ltB) x.lt) F.lt) p (fK p s)) (fun _ h=>h.2);replace C:=C.lift (le_ X);replace F:=F.extL (SlK.stab (Sc.stab _)) X (le_ X);replace x:=x.extL (Sc.stab _) X (le_ X);replace r:=r.ext X;have cL:=cK.trans X;refine wss V V V (zaz (L:=(P::k::bp b::e)) (R:=By) [c8] ([aD]:List (List UInt8)) V T29 V (by exact ⟨rfl,rfl,trivial⟩) V (LitR.cells (R:=By) (w:=c9) (L:=(P::k::bp b::e)) (l:=([aD]:List (List UInt8))) (LitR.cons cY LitR.nil) (fun u gL h=>zb4 u gL h)) V (LitR.all (R:=By) (w:=c9) (L:=(P::k::bp b::e)) (l:=([aD]:List (List UInt8))) (SlK.stab (Sc.stab _)) (LitR.cons cY LitR.nil)) ?_);intro dW gK fZ fL cP gY;refine ⟨zaa cP,?_⟩;have aA:=zaa cP;have f5:Rw gK (P::k::bp b::e) dW ([aD]:List (List UInt8)):=OwK.slk (SlK.stab (Sc.stab _)) _ fZ (fun p s=>(Old.cons (Old.cons (Old.cons (K.ext cL) r.ltB) x.lt) F.lt) p (fL p s)) (fun _ h=>h.2)
   replace F:=F.extL (SlK.stab (Sc.stab _)) aA (le_ aA);replace x:=x.extL (Sc.stab _) aA (le_ aA);replace r:=r.ext aA;have cM:=cL.trans aA;obtain ⟨gS,eO,I⟩:=bsi I;refine wsc V (by kernel_rfl) V V (zav (R:=By) (v:=P) (u:=dW) (SlK.stab (Sc.stab _)) [] (k::bp b::e) V T29 V V F f5 (fun _ _ h=>h) eO oc_sl ?_);intro aF hL aY bE bU d0;replace C:=(C.lift (le_ aA)).lift d0;have g5:Nq k aF:=x.nxt bX.symm bU;have d7:Nq (bp b) aF:=r.nxt bZ.symm bU;replace r:=r.other bE bZ.symm;have eB:=cM.grown bE bQ;have fM:=Nw.nxt cM bQ bU;refine sa V V (zbl V V)<|sa V V (zek (g:=b) (m:=0) (d:=6) V fieldAtSt3 V)<|wsn V (by kernel_rfl) V V (stp_storeR (u:=aF) (cs':=((o.map i64 ++ [q,i,aF,k]).toArray)) [aF,k] e V Tryz.sizeOf29 V V r (lt_ar (m:=2) (zad M) (Nat.le_of_ble_eq_true V)) (oc_own aY) (set_ar (m:=2) (zad M)) ?_);intro hM g0 bF bN;replace C:=C.lift bN;replace aY:=aY.other (SlK.stab (Sc.stab _)) bF d7.symm bN;replace x:=(x.other (Sc.stab _) bE bX.symm d0).other (Sc.stab _) bF c1 bN;have eC:=eB.grown bF bS;refine za1<|bk_n<|W_th<|W_rg<|wa V (zak V c4 V)<|mv (i64 (wI (O.2+1))) V V<|zag<|?_;obtain rfl:=osi I;exact ⟨_,rfl,aF,dH,b1,dA,rfl,dF,eC,aY,fM,x,d4,g0,bS,g5.symm,d7.symm,c1,C⟩
  refine zar<|th_x<|?_;obtain rfl:=osi I;obtain rfl:=eX _ rfl;refine th_x<|bk_x<|?_;exact ⟨P,b1,dF,cS,F,bQ,x,d4,r,bS,bX,bZ,c1,C⟩
 rintro _ hN ⟨h8,gB,g8,cT,fO,f8,fQ,fA,fU,fE,h4,h5,h7,f2⟩;refine W_th<|W_sr<|mv (bp b) V gB<|av (bp b) V V<|av (i64 0) V V<|wnt<|W_ret<|?_;obtain rfl:=osi a;refine rt2 (bp b) (i64 0) V V V V V g8 ?_;exact ⟨bp b,rfl,cT,RcSt.mk fU (K _ (fE _ (hs_bp' _))) (aT.lift (le_ cT)) (f2.lift (Lift.sub (fun _ h=>h.2.2.2))) (OwK.slk (SlK.stab (Sc.stab _)) e fO (fun p s=>K p (f8 p s)) (fun _ h=>h.2.2.2)) (OwK.slk (Sc.stab _) e fQ (fun p s=>K p (fA p s)) (fun _ h=>h.2.2.2)) (zad M)⟩
noncomputable def zcu (a:Option (List Int×Bool×(Option (Bool×List UInt8×List (List UInt8)×List Int))×List (List UInt8)×List Int)):Option Bool :=
((a).bind fun b =>
((za0 b.2.2.2.1).bind fun c =>
((word_Zero c).bind fun d => some d)))
theorem zin (a0x:Option (List Int×Bool×(Option (Bool×List UInt8×List (List UInt8)×List Int))×List (List UInt8)×List Int)) (p0:Value) (r:Bool) (w0:World) (hp0:RcSt w0 [] p0 a0x) (H:zcu a0x=some r) :
  Calls Tryz.prog 39 [p0].toArray w0 (fun e w'=>e=.returned (.bool r)/\Ext w0 w'):=by
 have hE:Ext w0 w0:=Ext.refl w0;unfold zcu at H;refine zai (n:=9) Tryz.func39 rfl rfl rfl ?_;refine W_seq<|W_rg<|av (.bool false) rfl rfl<|wnt<|W_seq<|W_rg<|mv p0 rfl rfl<|?_;obtain ⟨c1,hc1,H⟩:=bsi H;obtain ⟨g1,u1_1,u1_2,u1_3,u1_4,hv1,hB1,hu1_1,hu1_2,hu1_3,hu1_4,hu1_0⟩:=RcSt.some hp0 hc1;refine wa rfl (zbl (g:=g1) (m:=0) rfl (Eq.trans rfl hv1))<|wa rfl (zek (g:=g1) (m:=0) (d:=6) rfl fieldAtSt3 rfl)<|wq rfl (zan (u:=u1_3) rfl Tryz.isAgg29 rfl (hB1.ext hE) (zjb (m:=2) hu1_0 rfl))<|?_;obtain ⟨r2,hr2,H⟩:=bsi H;refine wls rfl rfl (zab (vs:=[u1_3]) Tryz.func29 rfl rfl rfl (ar1 rfl) (za7 c1.2.2.2.1 u1_3 r2 _ (hu1_3.lift (le_ hE)) hr2) ?_);rintro _ w2 ⟨v2,rfl,x2,n2_0,o2_0⟩;refine ⟨_,rfl,?_⟩;have i2_0:By w2 [] v2 r2:=OwK.slk (Sc.stab _) _ (OwK.scal o2_0 (v2 :: [])) (fun k hk=>(Old.nil _) k (n2_0 k hk)) (fun _ h=>h.2);have e3:=hE.trans x2;obtain ⟨r4,hr4,H⟩:=bsi H;refine wls rfl rfl (zab (vs:=[v2]) Tryz.func73 rfl rfl rfl (ar1 rfl) (word_Zero_calls r2 v2 r4 _ (i2_0.lift (Lift.sub (L':=[]) (fun _ _=>trivial))) hr4) ?_);rintro _ w4 ⟨rfl,x4⟩;refine ⟨_,rfl,?_⟩;have e5:=e3.trans x4;refine av (.bool r4) rfl rfl<|wnt<|W_ret<|?_;obtain rfl:=osi H;refine rt1 (.bool r4) rfl rfl rfl rfl ?_;exact ⟨rfl,e5⟩
noncomputable def zcv (c:Option (List Int×Bool×(Option (Bool×List UInt8×List (List UInt8)×List Int))×List (List UInt8)×List Int)):Option (List UInt8×Int) :=
(if c.isNone=true then some (([]:List UInt8),1)
else
((c).bind fun a =>
((idx a.1 0).bind fun h =>
(if h=0 then
((zg1 a.2.2.1 (0:UInt8)).bind fun i => some (i,0))
else
((zcu c).bind fun j =>
(if j=true then
((makeL 440 (0:UInt8)).bind fun e => some (e,0))
else
((zi0 a.2.2.2.1 473).bind fun b =>
(if b.2=0 then
((idx b.1 0).bind fun f =>
(if f=(1:UInt8) then
((subL b.1 1 (b.1.length:Int)).bind fun g =>
((aont_Open a.2.1 g).bind fun d => some (d.1,d.2)))
else some (([]:List UInt8),11)))
else some (([]:List UInt8),11)))))))))
theorem zik (q:Option (List Int×Bool×(Option (Bool×List UInt8×List (List UInt8)×List Int))×List (List UInt8)×List Int)) (e:Value) (F:List UInt8×Int) (w0:World) (D:RcSt w0 [] e q) (c:zcv q=some F) :
  Calls Tryz.prog 14 [e].toArray w0 (fun Z T=>∃ G:Value,Z=.returned (.tuple #[G,i64 F.2])/\Ext w0 T/\Nw w0 G/\OwK (Sc u8) T [] 5 G F.1):=by
 have h:Ext w0 w0:=Ext.refl w0;unfold zcv at c;refine zai (n:=50) Tryz.func14 V V V<|W_sr<|av (.slice none 0 0) V V<|av (i64 0) V V<|wnt<|W_seq<|zac<|W_seq<|W_rg<|mv e V V<|wa V (q_eqRSt V V V V (D.lift (le_ h)))<|av (.bool q.isNone) V V<|wnt<|zam _ V V (fun z=>?_) (fun z=>?_)
 ·replace c:=(if_pos z).symm.trans c;refine W_sr<|av (.slice none 0 0) V V<|av (i64 1) V V<|wnt<|W_ret<|bk_r<|th_r<|?_;obtain rfl:=osi c;refine rt2 (.slice none 0 0) (i64 1) V V V V V V ?_;exact ⟨.slice none 0 0,rfl,h,Nw.nil _,OwK.nil _ _ _ _⟩
 replace c:=(if_neg (ne_true_of_eq_false z)).symm.trans c;refine W_sr<|mv e V V<|?_;obtain ⟨x,a6,c⟩:=bsi c;obtain ⟨f,H,I,J,b3,t,s,aD,aE,aF,b1,E⟩:=RcSt.some D a6;refine wa V (zbl (g:=f) (m:=0) V (Eq.trans V t))<|wa V (zek (g:=f) (m:=0) (d:=0) V fieldAtSt0 V)<|bse c fun M a7 c=>wa V (zek (g:=f) (m:=0) (d:=0) V fieldAtSt0_0 V)<|wq V (zan (u:=i64 M) V Tryz.isAgg3 V (s.ext h) (cell_ar a7))<|wa V (q_eqI V V V)<|av (.bool (decide (M=0))) V V<|wnt<|wci c V V (fun c=>?_) (fun c=>?_)
 ·refine W_sr<|mv e V V<|wa V (zbl (g:=f) (m:=0) V (Eq.trans V t))<|wa V (zek (g:=f) (m:=0) (d:=5) V fieldAtSt2 V)<|wq V (zan (u:=I) V Tryz.isAgg70 V (s.ext h) (zjb (m:=1) E V))<|?_;obtain ⟨Q,aB,c⟩:=bsi c;refine wls V V (zab (vs:=[I,u8 0]) Tryz.func38 V V V (ar2 V (by exact (cst8 (0:UInt8) V))) (zhb x.2.2.1 (0:UInt8) I Q _ (aE.lift (le_ h)) aB) ?_);rintro _ aU ⟨p,rfl,aY,aL,aS⟩;refine ⟨_,rfl,?_⟩;have aR:OwK (Sc u8) aU (p::[]) 5 p Q:=OwK.scal aS _;have aM:=Nw.ext h aL;have a2:=h.trans aY;refine av p V V<|av (i64 0) V V<|wnt<|W_ret<|bk_r<|th_r<|?_;obtain rfl:=osi c;refine rt2 p (i64 0) V V V V V V ?_;exact ⟨p,rfl,a2,aM,aR.weak (Sc.stab _) (fun _ _=>trivial)⟩
 refine W_sr<|mv e V V<|?_;obtain ⟨S,aC,c⟩:=bsi c;refine wls V V (zab (vs:=[e]) Tryz.func39 V V V (ar1 V) (zin q e S _ (D.lift (le_ h)) aC) ?_);rintro _ b5 ⟨rfl,aZ⟩;refine ⟨_,rfl,?_⟩;have l:=h.trans aZ;refine av (.bool S) V V<|wnt<|zam _ V V (fun A=>?_) (fun A=>?_)
 ·replace c:=(if_pos A).symm.trans c;refine W_sr<|?_;obtain ⟨b0,a5,c⟩:=bsi c;refine wls V V (zb3 (L:=[]) (R:=Sc u8) V T22 V V a5 (fun _ _=>rfl) ?_);intro K b4 aN aG a3 b2;have aV:=zaa a3;have aH:=Nw.ext l aG;have a0:=l.trans aV;refine av K V V<|av (i64 0) V V<|wnt<|W_ret<|bk_r<|th_r<|?_;obtain rfl:=osi c;refine rt2 K (i64 0) V V V V V V ?_;exact ⟨K,rfl,a0,aH,aN.weak (Sc.stab _) (fun _ _=>trivial)⟩
 replace c:=(if_neg (ne_true_of_eq_false A)).symm.trans c;refine zae<|bk_n<|W_th<|W_sr<|mv e V V<|wa V (zbl (g:=f) (m:=0) V (Eq.trans V t))<|wa V (zek (g:=f) (m:=0) (d:=6) V fieldAtSt3 V)<|wq V (zan (u:=J) V Tryz.isAgg29 V (s.ext l) (zjb (m:=2) E V)) ?_;obtain ⟨i,a9,c⟩:=bsi c;refine wls V V (zab (vs:=[J,i64 473]) Tryz.func40 V V V (ar2 V V) (code_Glue_calls x.2.2.2.1 473 J i _ (aF.lift (le_ l)) a9) ?_);rintro _ U ⟨j,rfl,aW,aI,aO⟩;refine ⟨_,rfl,?_⟩;have k:By U [] j i.1:=SlK.avail aO _ (fun P a8=>(Old.nil _) P (aI P a8));have y:=l.trans aW;refine mv (.tuple #[j,i64 i.2]) V V<|wa V (zah V V V)<|wa V (zah V V V)<|av j V V<|av (i64 i.2) V V<|wnt<|W_seq<|W_seq<|W_rg<|mv (i64 i.2) V V<|wa V (q_neI V V V)<|wlb V V (zbd (v:=(.bool (!decide (i.2=0)))) V V) (fun B=>?_) (fun B=>?_)
 ·replace c:=(if_neg (zbf B)).symm.trans c;refine wk V<|wk V<|wk V<|wk V<|wa V (zaw (v:=(.bool true)) V V V)<|wnt<|zam true V V (fun _=>?_) (fun a4=>by cases a4);refine W_sr<|av (.slice none 0 0) V V<|av (i64 11) V V<|wnt<|W_ret<|th_r<|?_;obtain rfl:=osi c;refine rt2 (.slice none 0 0) (i64 11) V V V V V V ?_;exact ⟨.slice none 0 0,rfl,y,Nw.nil _,OwK.nil _ _ _ _⟩
 replace c:=(if_pos (zbg B)).symm.trans c;refine mv j V V ?_;obtain ⟨X,N,c⟩:=bsi c;refine wa V (q_adr V T22 V V k N)<|wq V (zao V T22 V k N)<|wa V (q_ne8 V V (cst8 (1:UInt8) V))<|wa V (zaq (v:=(.bool (!decide (X=(1:UInt8))))) V V V)<|wnt<|zam _ V V (fun C=>?_) (fun C=>?_)
 ·replace c:=(if_neg (zbf C)).symm.trans c;refine W_sr<|av (.slice none 0 0) V V<|av (i64 11) V V<|wnt<|W_ret<|th_r<|?_;obtain rfl:=osi c;refine rt2 (.slice none 0 0) (i64 11) V V V V V V ?_;exact ⟨.slice none 0 0,rfl,y,Nw.nil _,OwK.nil _ _ _ _⟩
 replace c:=(if_pos (zbg C)).symm.trans c;refine zae<|W_th<|W_seq<|zba [3] [(0,0),(1,0),(2,0),(3,1),(4,0),(5,0),(6,2),(7,0),(8,0),(9,0),(10,0)] mixed (by kernel_rfl) (by kernel_rfl) (by kernel_rfl) (by kernel_rfl) ?_;have W:=Ext.drew U;replace k:=k.lift (le_ W);have r:=y.trans W;refine sv e V V V<|sa V V (zbl (g:=f) (m:=0) V (Eq.trans V t))<|sa V V (zek (g:=f) (m:=0) (d:=4) V fieldAtSt1 V)<|sq V V (zan (u:=H) V Tryz.isAgg27 V (s.ext r) (zjb (m:=0) E V))<|sv j V V V<|bse c fun Y O c=>sa V V (zdv (a:=1) (b:=(i.1.length:Int)) V T22 V k V V O) ?_;obtain ⟨w,aA,c⟩:=bsi c;refine wsc V (by kernel_rfl) V V (zab (vs:=[H,subV j (1:Int).toNat ((i.1.length:Int):Int).toNat]) Tryz.func41 V V V (ar2 V V) (aont_Open_calls x.2.1 Y H (subV j (1:Int).toNat ((i.1.length:Int):Int).toNat) w _ (aD.lift (le_ r)) (SlK.cut (L:=[]) (k.lift (Lift.sub (L':=[]) (fun _ _=>trivial))) O) aA) ?_);rintro _ aT ⟨o,rfl,aX,aJ,aQ⟩;refine ⟨_,rfl,?_⟩;have aP:OwK (Sc u8) aT (o::[]) 5 o w.1:=OwK.scal aQ _;have aK:=Nw.ext r aJ;have a1:=r.trans aX;refine sa V V (zah V V V)<|sa V V (zah V V V)<|sa V V (zat (v:=o) V V)<|sa V V (zat (v:=i64 w.2) V V)<|za1<|W_th<|W_ret<|?_;obtain rfl:=osi c;refine rt2 o (i64 w.2) V V V V V V ?_;exact ⟨o,rfl,a1,aK,aP.weak (Sc.stab _) (fun _ _=>trivial)⟩
noncomputable def zbe (b:List UInt8) (a:List Int):Option Bool :=
((lenA 4 a).bind fun d =>
((zcf a).bind fun c => some (!decide ((b.length:Int)=c))))
theorem zie (a0r:List UInt8) (b0:List Int) (p0:Value) (gc0:Nat) (r:Bool) (w0:World) (hp0:By w0 [] p0 a0r) (hcB0:Blk w0 gc0 25 (ac i64 b0)) (H:zbe a0r b0=some r) :
  Calls Tryz.prog 43 [p0,(bp gc0)].toArray w0 (fun e w'=>e=.returned (.bool r)/\Ext w0 w'):=by
 have hE:Ext w0 w0:=Ext.refl w0;unfold zbe at H;refine zai (n:=9) Tryz.func43 rfl rfl rfl ?_;refine W_seq<|W_rg<|av (.bool false) rfl rfl<|wnt<|W_seq<|W_rg<|mv p0 rfl rfl<|wa rfl (q_len rfl T22.sl rfl (hp0.lift (le_ hE)))<|?_;obtain ⟨c1,hc1,H⟩:=bsi H;refine wq rfl (zdd (m:=0) rfl G25 rfl (hcB0.ext hE) (zaf _ _) (zad hc1)) ?_;obtain ⟨r2,hr2,H⟩:=bsi H;refine wls rfl rfl (zab (vs:=[(ag i64 b0)]) Tryz.func21 rfl rfl rfl (ar1 rfl) (zev b0  r2 _  hr2) ?_);rintro _ w2 ⟨rfl,x2⟩;refine ⟨_,rfl,?_⟩;have e3:=hE.trans x2;refine wa rfl (q_neI rfl rfl rfl)<|av (.bool ((!decide ((a0r.length:Int)=r2)))) rfl rfl<|wnt<|W_ret<|?_;obtain rfl:=osi H;refine rt1 (.bool ((!decide ((a0r.length:Int)=r2)))) rfl rfl rfl rfl ?_;exact ⟨rfl,e3⟩
noncomputable def zce (a:List Int) (c:Bool) (b:List (List UInt8)) (d:List UInt8):Option (List (List UInt8)×Int) :=
((lenA 4 a).bind fun v =>
((zcx a c d).bind fun k =>
(if k=0 then
((idx a 2).bind fun o =>
(if (b.length:Int)=o then
((lim b.length).bind fun x =>
((anyO (fun s=>zbe s a) b).bind fun p =>
(if p=true then some (([]:List (List UInt8)),3)
else
((idx a 0).bind fun l =>
(if l=0 then
((idx a 1).bind fun m =>
((lenA 4 a).bind fun t =>
((zcn a).bind fun q =>
((zfm c m d q 440).bind fun e =>
(if e.2=0 then
((zfj b e.1).bind fun h => some (h.1,h.2))
else some (([]:List (List UInt8)),e.2))))))
else
((lenA 4 a).bind fun u =>
((idx a 1).bind fun n =>
((subL b 0 n).bind fun g =>
((zcu (some (a,c,(none:Option (Bool×List UInt8×List (List UInt8)×List Int)),g,([]:List Int)))).bind fun r =>
(if r=true then
((zfj b b).bind fun i => some (i.1,i.2))
else
((zcv (some (a,c,(none:Option (Bool×List UInt8×List (List UInt8)×List Int)),g,([]:List Int)))).bind fun f =>
(if f.2=0 then
((lenA 4 a).bind fun w =>
((zbr a c f.1 d).bind fun j => some (j.1,j.2)))
else some (([]:List (List UInt8)),f.2)))))))))))))
else some (([]:List (List UInt8)),3)))
else some (([]:List (List UInt8)),k))))
theorem zjg (f:List Int) (w:Bool) (x:List (List UInt8)) (E:List UInt8) (i:Value) (e:Value) (o:Value) (a9:List (List UInt8)×Int) (w0:World) (h:List Value) (y:Old w0 h) (B:Fd w0 [] i w) (q:Rw w0 [] e x) (a8:By w0 [] o E) (c:zce f w x E=some a9) :
  Calls Tryz.prog 17 [ag i64 f,i,e,o].toArray w0 (fun aR X=>∃ U:Value,aR=.returned (.tuple #[U,i64 a9.2])/\Ext w0 X/\Nw w0 U/\OwK By X (U::h) 22 U a9.1):=by
 have aX:Ext w0 w0:=Ext.refl w0;unfold zce at c;refine zai (n:=84) Tryz.func17 V V V<|W_sr<|wls V V (zb9 (v:=ag i64 f) (cs:=ac i64 f) h V V V ?_);intro g cO d cM aV cJ;have c9:=zaa aV;have Z:=aX.trans c9;refine av (.slice none 0 0) V V<|av (i64 0) V V<|wnt<|W_seq<|W_sr<|bse c fun cH b2 c=>wq V (zdd (m:=0) V G25 V d (zaf _ _) (zad b2))<|mv i V V<|mv o V V<|?_;obtain ⟨C,bE,c⟩:=bsi c;refine wls V V (zab (vs:=[ag i64 f,i,o]) Tryz.func24 V V V (ar3 V V V) (zfl f w E i o C _ (B.lift (le_ Z)) (a8.lift (le_ Z)) bE) ?_);rintro _ cR ⟨rfl,aP⟩;refine ⟨_,rfl,?_⟩;replace d:=d.ext aP;have I:=Z.trans aP;refine av (i64 C) V V<|wnt<|W_sr<|mv (i64 C) V V<|wa V (q_neI V V V)<|wnt<|zam _ V V (fun a6=>?_) (fun a6=>?_)
 ·replace c:=(if_neg (zbf a6)).symm.trans c;refine W_sr<|mv (i64 C) V V<|av (.slice none 0 0) V V<|av (i64 C) V V<|wnt<|W_ret<|th_r<|?_;obtain rfl:=osi c;refine rt2 (.slice none 0 0) (i64 C) V V V V V V ?_;exact ⟨.slice none 0 0,rfl,I,Nw.nil _,OwK.nil _ _ _ _⟩
 replace c:=(if_pos (zbg a6)).symm.trans c;refine zae<|W_th<|W_seq<|W_sr<|mv e V V<|wa V (q_len V T29.sl V (q.lift (le_ I)))<|bse c fun aQ b4 c=>wa V (zcp (j:=2) V zic V)<|wq V (zbh (m:=0) V G25 V d (zaf _ _) b4)<|wa V (q_neI V V V)<|wlb V V (zbd (v:=(.bool (!decide ((x.length:Int)=aQ)))) V V) (fun a7=>?_) (fun a7=>?_)
 ·replace c:=(if_neg (zbf a7)).symm.trans c;refine wk V<|wk V<|wk V<|wa V (zaw (v:=(.bool true)) V V V)<|wnt<|zam true V V (fun _=>?_) (fun a1=>by cases a1);refine W_sr<|av (.slice none 0 0) V V<|av (i64 3) V V<|wnt<|W_ret<|th_r<|?_;obtain rfl:=osi c;refine rt2 (.slice none 0 0) (i64 3) V V V V V V ?_;exact ⟨.slice none 0 0,rfl,I,Nw.nil _,OwK.nil _ _ _ _⟩
 replace c:=(if_pos (zbg a7)).symm.trans c;refine mv e V V<|wa V (zgq (vs:=[bp g]) V (ar1 V))<|?_;obtain ⟨cL,b5,c⟩:=bsi c;obtain ⟨aI,b6,c⟩:=bsi c;refine wls V V (zab (vs:=[e,(.func (.func 43) #[] [bp g].toArray)]) Tryz.func34 V V V (ar2 V V) (zcc e x 43 _ Tryz.func43 V V [bp g] (fun aE=>zbe aE f) aI _ (q.lift (le_ I)) (zjt b5) b6 (fun aE _ b X cD a1 c2 bF=>zie aE f c2 g b X bF (d.ext cD) a1)) ?_);rintro _ aJ ⟨rfl,aK⟩;refine ⟨_,rfl,?_⟩;replace d:=d.ext aK;have Y:=I.trans aK;refine wa V (zaq (v:=(.bool aI)) V V V)<|wnt<|zam _ V V (fun a2=>?_) (fun a2=>?_)
 ·replace c:=(if_pos a2).symm.trans c;refine W_sr<|av (.slice none 0 0) V V<|av (i64 3) V V<|wnt<|W_ret<|th_r<|?_;obtain rfl:=osi c;refine rt2 (.slice none 0 0) (i64 3) V V V V V V ?_;exact ⟨.slice none 0 0,rfl,Y,Nw.nil _,OwK.nil _ _ _ _⟩
 replace c:=(if_neg (ne_true_of_eq_false a2)).symm.trans c;refine zae<|W_th<|W_seq<|W_sr<|bse c fun cE aY c=>wa V (zcp (j:=0) V fieldS0 V)<|wq V (zbh (m:=0) V G25 V d (zaf _ _) aY)<|wa V (q_eqI V V V)<|wnt<|wci c V V (fun c=>?_) (fun c=>?_)
 ·refine W_seq<|zba [2,4] [(0,0),(1,0),(2,1),(3,0),(4,1),(5,2),(6,2),(7,0),(8,0),(9,0),(10,0),(11,0)] mixed (by kernel_rfl) (by kernel_rfl) (by kernel_rfl) (by kernel_rfl) ?_;have aL:=Ext.drew aJ;replace d:=d.ext aL;have aH:=Y.trans aL;refine sv i V V V ?_;obtain ⟨aF,aZ,c⟩:=bsi c;refine sa V V (zcp (j:=1) V zf2 V)<|sq V V (zbh (m:=0) V G25 V d (zaf _ _) aZ)<|sv o V V V<|bse c fun cF b0 c=>sq V V (zdd (m:=0) V G25 V d (zaf _ _) (zad b0)) ?_;obtain ⟨aA,b7,c⟩:=bsi c;refine wss V V V (zab (vs:=[ag i64 f]) Tryz.func26 V V V (ar1 V) (ze7 f  aA _  b7) ?_);rintro _ c3 ⟨W,rfl,aB,bJ,bS⟩;refine ⟨_,rfl,aB,?_⟩;have bG:By c3 (bp g::h) W aA:=OwK.slk (Sc.stab _) _ (OwK.scal bS (W::(bp g::h))) (fun u J=>(Old.cons (y.ext aH) d.ltB) u (bJ u J)) (fun _ k=>k.2);replace d:=d.ext aB;have G:=aH.trans aB;obtain ⟨s,b8,c⟩:=bsi c;refine wsc V (by kernel_rfl) V V (zab (vs:=[i,i64 aF,o,W,i64 440]) Tryz.func44 V V V (ar5 V V V V V) (shamir_Delta_calls w aF E aA 440 i o W s _ (bp g::h) (Old.cons (y.ext G) d.ltB) (B.lift (le_ G)) (a8.lift (le_ G)) (bG.lift (Lift.sub (L':=[]) (fun _ _=>trivial))) b8) ?_);rintro _ c4 ⟨D,rfl,aM,bK,bT⟩;refine ⟨_,rfl,?_⟩;have bH:Rw c4 (bp g::h) D s.1:=OwK.slk (SlK.stab (Sc.stab _)) _ bT (fun u J=>(Old.cons (y.ext G) d.ltB) u (bK u J)) (fun _ k=>k.2);replace d:=d.ext aM;have H:=G.trans aM;refine sv (.tuple #[D,i64 s.2]) V V V<|sa V V (zah V V V)<|sa V V (zah V V V)<|sa V V (zat (v:=D) V V)<|sa V V (zat (v:=i64 s.2) V V)<|za1<|W_th<|W_seq<|W_sr<|mv (i64 s.2) V V<|wa V (q_neI V V V)<|wnt<|zam _ V V (fun a3=>?_) (fun a3=>?_)
  ·replace c:=(if_neg (zbf a3)).symm.trans c;refine W_sr<|mv (i64 s.2) V V<|av (.slice none 0 0) V V<|av (i64 s.2) V V<|wnt<|W_ret<|th_r<|th_r ?_;obtain rfl:=osi c;refine rt2 (.slice none 0 0) (i64 s.2) V V V V V V ?_;exact ⟨.slice none 0 0,rfl,H,Nw.nil _,OwK.nil _ _ _ _⟩
  replace c:=(if_pos (zbg a3)).symm.trans c;refine zae<|W_th<|W_sr<|mv e V V<|mv D V V<|?_;obtain ⟨R,b9,c⟩:=bsi c;refine wls V V (zab (vs:=[e,D]) Tryz.func45 V V V (ar2 V V) (shamir_Add_calls x s.1 e D R _ (bp g::h) (Old.cons (y.ext H) d.ltB) (q.lift (le_ H)) (bH.lift (Lift.sub (L':=[]) (fun _ _=>trivial))) b9) ?_);rintro _ c5 ⟨K,rfl,cA,bL,bV⟩;refine ⟨_,rfl,?_⟩;have bU:OwK By c5 (K::(bp g::h)) 22 K R.1:=bV;have bM:=Nw.ext H bL;have aS:=H.trans cA;refine wa V (zah V V V)<|wa V (zah V V V)<|av K V V<|av (i64 R.2) V V<|wnt<|W_ret<|th_r<|?_;obtain rfl:=osi c;refine rt2 K (i64 R.2) V V V V V V ?_;exact ⟨K,rfl,aS,bM,bU.weak (SlK.stab (Sc.stab _)) (fun _ k=>⟨k.1,k.2.2⟩)⟩
 refine zae<|W_th<|W_seq<|zba [0,4] [(0,1),(1,0),(2,0),(3,0),(4,1),(5,0),(6,0),(7,2),(8,0)] mixed (by kernel_rfl) (by kernel_rfl) (by kernel_rfl) (by kernel_rfl) ?_;have aN:=Ext.drew aJ;replace d:=d.ext aN;have O:=Y.trans aN;obtain ⟨cG,P,c⟩:=bsi c;refine sq V V (zdd (m:=0) V G25 V d (zaf _ _) (zad P))<|sv i V V V<|sv e V V V<|bse c fun F b1 c=>sa V V (zcp (j:=1) V zf2 V)<|sq V V (zbh (m:=0) V G25 V d (zaf _ _) b1)<|?_;obtain ⟨aG,Q,c⟩:=bsi c;refine sa V V (zdv (a:=0) (b:=F) V T29 V (q.lift (le_ O)) V V Q)<|sa V V (q_buildS (ps:=#[(0,ag i64 f),(1,i),(3,subV e (0:Int).toNat (F:Int).toNat)]) V (by simp only [List.map_toArray,List.map_cons,List.map_nil];exact bs3 V V V) (buildSt_0_1_3 f (zad P) i (zjz (B.lift (le_ O))) (subV e (0:Int).toNat (F:Int).toNat) (zb4 _ _ (SlK.cut (q.lift (le_ O)) Q))))<|?_
 refine wsc V (by kernel_rfl) V V (zb9 (v:=(.agg ((f.map i64 ++ [i,.pointer none,subV e (0:Int).toNat (F:Int).toNat,.slice none 0 0]).toArray))) (cs:=((f.map i64 ++ [i,.pointer none,subV e (0:Int).toNat (F:Int).toNat,.slice none 0 0]).toArray)) (bp g::h) V V V ?_);intro l cP r cN aW cK;have aO:=zaa aW;have a0:=O.trans aO;refine sa V V (zat (v:=bp l) V V)<|za1<|W_th<|W_seq<|W_sr<|mv (bp l) V V<|?_;obtain ⟨c1,bA,c⟩:=bsi c;refine wls V V (zab (vs:=[bp l]) Tryz.func39 V V V (ar1 V) (zin (some (f,w,(none:Option (Bool×List UInt8×List (List UInt8)×List Int)),aG,([]:List Int))) (bp l) c1 _ (RcSt.mk r trivial (B.lift (le_ a0)) (RcMd.nil _ _) (SlK.cut (L:=[]) (q.lift (le_ a0)) Q) (SlK.nil _ _ _) (zad P)) bA) ?_);rintro _ cQ ⟨rfl,aC⟩;refine ⟨_,rfl,?_⟩;replace r:=r.ext aC;replace d:=(d.ext aO).ext aC;have p:=a0.trans aC;refine wnt<|zam _ V V (fun a4=>?_) (fun a4=>?_)
 ·replace c:=(if_pos a4).symm.trans c;refine W_sr<|mv e V V<|mv e V V<|?_;obtain ⟨S,bB,c⟩:=bsi c;refine wls V V (zab (vs:=[e,e]) Tryz.func45 V V V (ar2 V V) (shamir_Add_calls x x e e S _ (bp l::bp g::h) (Old.cons (Old.cons (y.ext p) d.ltB) r.ltB) (q.lift (le_ p)) (q.lift (le_ p)) bB) ?_);rintro _ c6 ⟨M,rfl,cB,bN,bX⟩;refine ⟨_,rfl,?_⟩;have bW:OwK By c6 (M::(bp l::bp g::h)) 22 M S.1:=bX;have bO:=Nw.ext p bN;have aT:=p.trans cB;refine wa V (zah V V V)<|wa V (zah V V V)<|av M V V<|av (i64 S.2) V V<|wnt<|W_ret<|th_r<|?_;obtain rfl:=osi c;refine rt2 M (i64 S.2) V V V V V V ?_;exact ⟨M,rfl,aT,bO,bW.weak (SlK.stab (Sc.stab _)) (fun _ k=>⟨k.1,k.2.2.2⟩)⟩
 replace c:=(if_neg (ne_true_of_eq_false a4)).symm.trans c;refine zae<|W_th<|W_sr<|mv (bp l) V V<|?_;obtain ⟨t,bC,c⟩:=bsi c;refine wls V V (zab (vs:=[bp l]) Tryz.func14 V V V (ar1 V) (zik (some (f,w,(none:Option (Bool×List UInt8×List (List UInt8)×List Int)),aG,([]:List Int))) (bp l) t _ (RcSt.mk r trivial (B.lift (le_ p)) (RcMd.nil _ _) (SlK.cut (L:=[]) (q.lift (le_ p)) Q) (SlK.nil _ _ _) (zad P)) bC) ?_);rintro _ c7 ⟨z,rfl,aD,bP,bY⟩;refine ⟨_,rfl,?_⟩;have bI:By c7 (bp l::bp g::h) z t.1:=OwK.slk (Sc.stab _) _ (OwK.scal bY (z::(bp l::bp g::h))) (fun u J=>(Old.cons (Old.cons (y.ext p) d.ltB) r.ltB) u (bP u J)) (fun _ k=>k.2);replace r:=r.ext aD;replace d:=d.ext aD;have A:=p.trans aD;refine mv (.tuple #[z,i64 t.2]) V V<|wa V (zah V V V)<|wa V (zah V V V)<|av z V V<|av (i64 t.2) V V<|wnt<|W_seq<|W_seq<|W_rg<|mv (i64 t.2) V V<|wa V (q_neI V V V)<|wnt<|zam _ V V (fun a5=>?_) (fun a5=>?_)
 ·replace c:=(if_neg (zbf a5)).symm.trans c;refine W_sr<|mv (i64 t.2) V V<|av (.slice none 0 0) V V<|av (i64 t.2) V V<|wnt<|W_ret<|th_r<|?_;obtain rfl:=osi c;refine rt2 (.slice none 0 0) (i64 t.2) V V V V V V ?_;exact ⟨.slice none 0 0,rfl,A,Nw.nil _,OwK.nil _ _ _ _⟩
 replace c:=(if_pos (zbg a5)).symm.trans c;refine zae<|W_th<|W_sr<|bse c fun cI b3 c=>wq V (zdd (m:=0) V G25 V d (zaf _ _) (zad b3))<|mv i V V<|mv z V V<|mv o V V<|?_;obtain ⟨T,bD,c⟩:=bsi c;refine wls V V (zab (vs:=[ag i64 f,i,z,o]) Tryz.func9 V V V (ar4 V V V V) (zcq f w t.1 E i z o T _ (bp l::bp g::h) (Old.cons (Old.cons (y.ext A) d.ltB) r.ltB) (B.lift (le_ A)) (bI.lift (Lift.sub (L':=[]) (fun _ _=>trivial))) (a8.lift (le_ A)) bD) ?_);rintro _ c8 ⟨N,rfl,cC,bQ,c0⟩;refine ⟨_,rfl,?_⟩;have bZ:OwK By c8 (N::(bp l::bp g::h)) 22 N T.1:=c0;have bR:=Nw.ext A bQ;have aU:=A.trans cC;refine wa V (zah V V V)<|wa V (zah V V V)<|av N V V<|av (i64 T.2) V V<|wnt<|W_ret<|?_;obtain rfl:=osi c;refine rt2 N (i64 T.2) V V V V V V ?_;exact ⟨N,rfl,aU,bR,bZ.weak (SlK.stab (Sc.stab _)) (fun _ k=>⟨k.1,k.2.2.2⟩)⟩
end Gk

/- Chapter 17: what is gathered. No condition but shapes that may be. -/
namespace Gk
open Gf
section
variable {m t n c : Nat}
theorem idx_gS {l:List Int} {k:Nat} (h:k<l.length):idx l (k:Int)=some (l.getD k 0):=by rw [zge];simp [List.getD_eq_getElem?_getD,h]
theorem take_gS {l:List Int} {k:Nat} (h:k<l.length):l.take (k+1)=l.take k ++ [l.getD k 0]:=by
 rw [List.take_add_one];simp [List.getD_eq_getElem?_getD,h]
theorem ixS3:idx (shp m t n c) 3=some (c:Int):=rfl
def goodP (n:Nat) (p:Int):Prop:=1<=p/\p<=(n:Int)
theorem any_places (p:List Int) (h:∀ x∈p,goodP n x):anyO (fun y=>zbu y (shp m t n c)) p=some false:=by
 rw [zig (fun y=>zbu y (shp m t n c)) (fun x=>decide (x<1∨(n:Int)<x)) p fun x _=>by
  unfold zbu
  by_cases h1:x<1
  ·rw [if_pos h1,decide_eq_true (.inl h1)]
  ·rw [if_neg h1,ixS2,obs]
   by_cases h2:(n:Int)<x
   ·rw [decide_eq_true h2,decide_eq_true (.inr h2)]
   ·rw [decide_eq_false h2,decide_eq_false (by omega)]]
 congr 1
 rw [List.any_eq_false]
 intro x hx
 have:=h x hx
 unfold goodP at this
 rw [decide_eq_false (by omega)];simp
theorem any_lens (h:OkS m t n c) (r:List (List UInt8)):anyO (fun y=>zb7 y (shp m t n c)) r=some (r.any fun q=>decide (q.length≠rowSz m t)):=zig _ _ _ fun q _=>by
 unfold zb7
 rw [lenS,obs,RowSize_ok h,obs]
 by_cases e:q.length=rowSz m t
 ·rw [decide_eq_true (by omega),decide_eq_false (by simp [e])];rfl
 ·rw [decide_eq_false (by omega),decide_eq_true e];rfl
theorem lens_ok (r:List (List UInt8)) (k:Nat) (h:∀ q∈r,q.length=k):(r.any fun q=>decide (q.length≠k))=false:=by
 rw [List.any_eq_false]
 intro q hq
 simp [h q hq]
theorem rowSz_pos (h:OkS m t n c):1<=rowSz m t/\rowSz m t<=1000:=by
 have ht:=h.t1
 unfold rowSz
 rcases h.m2 with rfl | rfl
 ·rw [if_pos rfl];omega
 ·rw [if_neg (by omega)]
  refine ⟨?_,psz_le t ht⟩
  have:=(psz_spec 473 t (by omega)).1
  rcases Nat.eq_zero_or_pos (psz 473 t) with e | e
  ·rw [e,Nat.zero_mul] at this;omega
  ·exact e
def ptsX (p:List Int):List UInt8:=p.map UInt8.ofInt
theorem ptsX_loop (p:List Int) (h1:p.length<=1000):iterC (fun s18:List UInt8×Int=>(if s18.2<(p.length:Int) then ((idx p s18.2).bind fun c21=>((appL s18.1 (([(UInt8.ofInt c21)]:List UInt8))).bind fun c24=>some (.inl (c24,(wI (s18.2+1)))))) else some (.inr s18.1))) (([]:List UInt8),0)=some (ptsX p):=by
 have hm:1000<=most:=by decide
 refine zal (fun i=>(ptsX (p.take i),(i:Int))) p.length _ (by simp [ptsX]) (fun i hi=>?_) ?_
 ·simp only
  rw [if_pos (by omega),idx_gS hi,obs,zdz _ _ (by simp [ptsX];omega) rfl,obs,zas i (by have:=zbb;omega),take_gS hi]
  simp [ptsX]
 ·simp only
  rw [if_neg (by omega),List.take_of_length_le (Nat.le_refl _)]
noncomputable def badP (t c:Nat) (a:List Int) (e:List (List UInt8)) (b:Nat):List Int:=((List.range (ptsX a).length).filter (badR t c (ptsX a) e b)).map fun d=>a.getD d 0
theorem bad_loop (W:List Nat) (p:List Int) (h:∀ i∈W,i<p.length) (hW:W.length<=1000):iterC (fun s43:List Int×Int=>(if s43.2<((W.map fun (k:Nat)=>(k:Int)).length:Int) then ((idx (W.map fun (k:Nat)=>(k:Int)) s43.2).bind fun c46=>((idx p c46).bind fun c49=>((appL s43.1 (([c49]:List Int))).bind fun c52=>some (.inl (c52,(wI (s43.2+1))))))) else some (.inr s43.1))) (([]:List Int),0)=some (W.map fun i=>p.getD i 0):=by
 have hm:1000<=most:=by decide
 refine zal (fun i=>((W.take i).map fun i=>p.getD i 0,(i:Int))) W.length _ (by simp) (fun i hi=>?_) ?_
 ·simp only
  have hw:W.getD i 0<p.length:=h _ (by simp [List.getD_eq_getElem?_getD,hi])
  have hix:idx (W.map fun (k:Nat)=>(k:Int)) (i:Int)=some ((W.getD i 0:Nat):Int):=by
   rw [zge];simp [List.getD_eq_getElem?_getD,hi]
  rw [List.length_map,if_pos (by omega),hix,obs,idx_gS hw,obs,zdz _ _ (by simp;omega) rfl,obs,zas i (by have:=zbb;omega),show W.take (i+1)=W.take i ++ [W.getD i 0] from by rw [List.take_add_one];simp [List.getD_eq_getElem?_getD,hi],List.map_append]
  rfl
 ·simp only
  rw [List.length_map,if_neg (by omega),List.take_of_length_le (Nat.le_refl _)]
theorem WrongM_eq (md:Bool×List UInt8×List (List UInt8)×List Int) (h:md.2.2.2.length<=most):zhm (some md)=some md.2.2.2:=by
 unfold zhm
 rw [if_neg (by simp),obs]
 unfold zdq
 rw [zfv _ h];rfl
noncomputable def partsX (t c:Nat) (b:List Int) (d:List (List UInt8)) (a:Nat):List (List UInt8):=(plc t).map (rowP t c (ptsX b) d a)
theorem Gather_spec (h:OkS m t n c) (p:List Int) (r:List (List UInt8)) (hl:p.length=r.length) (h1:p.length<=1000) (hp:∀ x∈p,goodP n x) (hr:∀ q∈r,q.length=rowSz m t) (ht:t<=r.length) (hc:mcode (t:Int) (ptsX p) (r.length:Int) (c:Int)=0) :
  (∃ R,zbt (shp m t n c) true p r=some (some (shp m t n c,true,some (mended t c (ptsX p) r (rowSz m t) R),partsX t c p r (rowSz m t),badP t c p r (rowSz m t)),0)/\Fixed t c (ptsX p) r (rowSz m t) R)∨(zbt (shp m t n c) true p r=some (none,11)/\∃ k,k<rowSz m t/\∀ P,¬ Good t c (ptsX p) (clm r k (ptsX p).length) P):=by
 have hm:1000<=most:=by decide
 obtain ⟨q1,q2,q3,q4,q5,q6⟩:=mcode_ok hc
 obtain ⟨z1,z2⟩:=rowSz_pos h
 have ht1:=h.t1
 have hpl:(ptsX p).length=p.length:=by simp [ptsX]
 have hpre:∀ {X},(zhp true (t:Int) (ptsX p) r (c:Int)).bind (fun r32=>(if r32.2=0 then
((lenA 4 (shp m t n c)).bind fun c35 =>
((zhm r32.1).bind fun r41 =>
((iterC (fun s43:List Int×Int =>
(if s43.2<(r41.length:Int) then
((idx r41 s43.2).bind fun c46 =>
((idx p c46).bind fun c49 =>
((appL s43.1 (([c49]:List Int))).bind fun c52 => some (.inl (c52,(wI (s43.2+1)))))))
else some (.inr s43.1))) (([]:List Int),0)).bind fun x43 =>
((idx (shp m t n c) 1).bind fun c61 =>
((iterC (fun s62:List (List UInt8)×Int =>
(if s62.2<c61 then
((zg1 r32.1 (UInt8.ofInt ((wI (s62.2+1))))).bind fun r68 =>
((appL s62.1 (([r68]:List (List UInt8)))).bind fun c72 => some (.inl (c72,(wI (s62.2+1))))))
else some (.inr s62.1))) (([]:List (List UInt8)),0)).bind fun x62 => some ((some (shp m t n c,true,r32.1,x62,x43)),0))))))
else some ((none:Option (List Int×Bool×(Option (Bool×List UInt8×List (List UInt8)×List Int))×List (List UInt8)×List Int)),r32.2)))=X->zbt (shp m t n c) true p r=X:=by
  intro X hX
  unfold zbt
  rw [if_neg (by decide),if_pos (by omega),lenS,obs,Right_ok h,obs,if_neg (by decide),zi4 (by omega),obs,any_places p hp,obs,if_neg (by decide),zi4 (by omega),obs,any_lens h,obs,lens_ok _ _ hr,if_neg (by decide),ixS1,obs,if_neg (by omega),ptsX_loop p h1,obs,obs,ixS3,obs]
  rw [lenS,ixS1] at hX
  exact hX
 have hrr:∀ i,i<r.length->(r.getD i []).length=rowSz m t:=fun i hi=>hr _ (zds hi)
 rcases Rows_spec t c (ptsX p) r (rowSz m t) hc hrr z2 with ⟨R,e,hF⟩ | ⟨e,hb⟩
 ·left
  refine ⟨R,hpre ?_,hF⟩
  have hfl:=List.length_filter_le (badR t c (ptsX p) r (rowSz m t)) (List.range (ptsX p).length)
  rw [List.length_range] at hfl
  rw [e,obs,if_pos rfl,lenS,obs]
  unfold mended
  rw [WrongM_eq _ (by simp only [List.length_map];omega),obs]
  simp only
  rw [bad_loop _ p (fun i hi=>by have:=List.mem_range.1 (List.mem_filter.1 hi).1;omega) (by omega),obs,ixS1,obs]
  refine zay (x:=partsX t c p r (rowSz m t)) (zal (fun i=>((plc i).map (rowP t c (ptsX p) r (rowSz m t)),(i:Int))) t _ rfl (fun i hi=>?_) ?_) rfl
  ·simp only
   rw [if_pos (by omega),zas i (by have:=zbb;omega),zfr,hF.at h.t1 (by omega) q5 q6 z2,obs,zdz _ _ (by simp [zca];omega) rfl,obs]
   rw [show plc (i+1)=plc i ++ [UInt8.ofNat (i+1)] by unfold plc;rw [List.range_succ,List.map_append];rfl,List.map_append];rfl
  ·simp only
   rw [if_neg (by omega)];rfl
 ·right
  exact ⟨hpre (by rw [e,obs,if_neg (by decide)]),hb⟩
end
end Gk

/- Chapter 9: what pieces tell, in plain Lean. No condition but lengths. -/
namespace Gk
open Gf
def apol (xs:List UInt8) (shares:List (List UInt8)) (i:Nat):List UInt8:=lag xs (fun k=>mul (co (shares.getD k []) i) (inv (pe xs k (co xs k) xs.length))) xs.length
theorem dg_apol (xs:List UInt8) (shares:List (List UInt8)) (i:Nat):dg (apol xs shares i)<=xs.length:=dg_lag _ _ _ (Nat.le_refl _)
theorem atv_len (xs:List UInt8) (shares:List (List UInt8)) (d:Nat) (x:UInt8):(atv xs shares d x).length=d:=by simp [atv]
theorem co_atv (xs:List UInt8) (shares:List (List UInt8)) (d:Nat) (x:UInt8) (i:Nat) (h:i<d):co (atv xs shares d x) i=evp (apol xs shares i) x:=by
 unfold atv apol
 rw [zc3,if_pos h,ev_lag]
 refine sm_congr _ fun k _=>?_
 unfold wt
 rw [mul_comm (mul (pe xs k x xs.length) _),mul_comm (pe xs k x xs.length),← mul_assoc]
end Gk

/- Printed by gen.py: for each Go function a pure function, and that the Go code comes to it. No condition beside the equation that says what the pure function gives. -/
namespace Gk
open Go Go.Proofs
end Gk

/- Chapter 8: the law ShamirJoins. No condition. -/
namespace Gk
open Gf
theorem Delta_ok (q:Nat) (m xs:List UInt8) (n:Nat) (hq:q<=254) (hm:m.length=q * n) (hn:n<=1000) (hmm:m.length<=most) (hx:(0:UInt8) ∉ xs) (hxl:xs.length<=most):zfm true ((q+1:Nat):Int) m xs (n:Int)=some (xs.map (shr (List.replicate n 0) m q),0):=by
 unfold zfm
 have h1000:1000<=most:=by decide
 rw [if_neg (by simp),if_neg (by omega),if_neg (by omega),zbj _ _ (by omega),obs,Split_ok q _ m xs hq (by rw [List.length_replicate];exact hm) (by simp;omega) hmm hx hxl]
 rfl
end Gk

/- Chapter 17: rows that polynomials tell, gathered; what the block is then. No condition but shapes that may be. -/
namespace Gk
open Gf
def atI' (n:Nat):List Int:=(List.range n).map fun (i:Nat)=>((i+1:Nat):Int)
theorem atI'_len (n:Nat):(atI' n).length=n:=by simp [atI']
theorem atI'_good (n:Nat):∀ x∈atI' n,goodP n x:=fun x hx=>by
 obtain ⟨i,hi,rfl⟩:=List.mem_map.1 hx
 have:=List.mem_range.1 hi
 unfold goodP;omega
theorem zjm (n:Nat):ptsX (atI' n)=plc n:=by
 unfold ptsX atI' plc
 rw [List.map_map]
 exact List.map_congr_left fun i _=>zfr _
structure Told (t L:Nat) (F:UInt8->List UInt8) (P:Nat->List UInt8):Prop where
 len:∀ x,(F x).length=L
 deg:∀ k,k<L->dg (P k)<=t
 num:∀ x k,k<L->co (F x) k=evp (P k) x
theorem getD_mapU (F:UInt8->List UInt8) (l:List UInt8) (i:Nat) (h:i<l.length):(l.map F).getD i []=F (co l i):=by
 simp [List.getD_eq_getElem?_getD,co,h]
theorem Told.good {t n c L:Nat} {F:UInt8->List UInt8} {P:Nat->List UInt8} (T:Told t L F P) (k:Nat) (hk:k<L):Good t c (plc n) (clm ((plc n).map F) k (plc n).length) (P k):=by
 have:wrg (plc n) (clm ((plc n).map F) k (plc n).length) (P k) (plc n).length=0:=wrg_zero _ fun i hi=>by
  rw [co_clm _ _ _ _ hi,getD_mapU F _ i hi,T.num _ _ hk]
 exact ⟨T.deg k hk,by omega,by omega⟩
theorem Told.row {t n c L:Nat} {F:UInt8->List UInt8} {P:Nat->List UInt8} (T:Told t L F P) (ht:t<=n) (hn:n<=255) (x:UInt8):rowP t c (plc n) ((plc n).map F) L x=F x:=by
 refine zb2 (by rw [rowP_len,T.len]) fun k=>?_
 by_cases hk:k<L
 ·unfold rowP
  rw [zc3,if_pos hk,T.num x k hk]
  exact ev_sim _ _ _ (Good.uniq (zi9 n hn) (by rw [zca];exact ht) (PK_good ⟨_,T.good k hk⟩) (T.good k hk))
 ·rw [co_ge (by rw [rowP_len];omega),co_ge (by rw [T.len];omega)]
theorem mcode_plc {t n c:Nat} (h1:1<=t) (ht:t<=n) (hn:n<=255):mcode (t:Int) (plc n) (n:Int) (c:Int)=0:=by
 have hl:=zca n
 unfold mcode
 rw [if_pos (by omega),if_neg (by omega),if_neg (by omega),if_neg (by omega),if_neg (by omega),if_pos (zi9 n hn)]
section
variable {m t n c : Nat}
theorem Gather_told (h:OkS m t n c) {F:UInt8->List UInt8} {P:Nat->List UInt8} (T:Told t (rowSz m t) F P):∃ md w,zbt (shp m t n c) true (atI' n) ((plc n).map F)=some (some (shp m t n c,true,some md,(plc t).map F,w),0)/\∀ x,zg1 (some md) x=some (F x):=by
 obtain ⟨z1,z2⟩:=rowSz_pos h
 have h1:=h.t1;have h2:=h.tn;have h3:=h.n255
 have hlr:((plc n).map F).length=n:=by rw [List.length_map,zca]
 have hc:mcode (t:Int) (ptsX (atI' n)) (((plc n).map F).length:Int) (c:Int)=0:=by rw [zjm,hlr];exact mcode_plc h1 h2 h3
 have hrow:∀ x,rowP t c (ptsX (atI' n)) ((plc n).map F) (rowSz m t) x=F x:=fun x=>by rw [zjm];exact T.row h2 h3 x
 rcases Gather_spec h (atI' n) ((plc n).map F) (by rw [atI'_len,hlr]) (by rw [atI'_len];omega) (atI'_good n) (fun q hq=>by
   obtain ⟨x,_,rfl⟩:=List.mem_map.1 hq
   exact T.len x) (by omega) hc with ⟨R,e,hF⟩ | ⟨_,k,hk,hkb⟩
 ·refine ⟨mended t c (ptsX (atI' n)) ((plc n).map F) (rowSz m t) R,badP t c (atI' n) ((plc n).map F) (rowSz m t),?_,fun x=>?_⟩
  ·rw [e]
   have:partsX t c (atI' n) ((plc n).map F) (rowSz m t)=(plc t).map F:=List.map_congr_left fun x _=>hrow x
   rw [this]
  ·have hp:=hF.at h1 (by rw [zjm,zca];exact h2) (by rw [zjm,zca];omega) (by rw [zjm];exact zi9 n h3) z2 (((List.range (ptsX (atI' n)).length).filter (badR t c (ptsX (atI' n)) ((plc n).map F) (rowSz m t))).map fun (k:Nat)=>(k:Int)) x
   rw [hrow x] at hp
   exact hp
 ·exfalso
  rw [zjm] at hkb
  exact hkb _ (T.good k hk)
end
theorem Told.shr {t:Nat} (h1:1<=t) (b s:List UInt8) (hb:b.length=440):Told t (rowSz 0 t) (shr b s (t - 1)) (fun k=>colp b s (t - 1) k) :=
  { len:=fun x=>by rw [zef,hb];rfl
    deg:=fun k _=>Nat.le_trans (dg_len _) (by rw [colp_len];omega)
    num:=fun x k hk=>co_shr _ _ _ _ _ (by rw [hb];exact hk) }
theorem Told.zero (t L:Nat):Told t L (fun _=>List.replicate L 0) (fun _=>[]) :=
  { len:=fun x=>by simp
    deg:=fun k _=>Nat.zero_le _
    num:=fun x k _=>by rw [co_rep];rfl }
def pcF (t:Nat) (g:List UInt8) (x:UInt8):List UInt8:=atv (plc t) (cutR g t (psz 473 t)) (psz 473 t) x
theorem Told.pc {t:Nat} (h1:1<=t) (g:List UInt8):Told t (rowSz 1 t) (pcF t g) (fun k=>apol (plc t) (cutR g t (psz 473 t)) k):=by
  have hz:rowSz 1 t=psz 473 t:=by unfold rowSz;rw [if_neg (by omega)]
  exact
  { len:=fun x=>by unfold pcF;rw [atv_len,hz]
    deg:=fun k _=>by have:=dg_apol (plc t) (cutR g t (psz 473 t)) k;rwa [zca] at this
    num:=fun x k hk=>by unfold pcF;rw [co_atv _ _ _ _ _ (by rw [← hz];exact hk)] }
theorem rowsS_shr (t n:Nat) (b r:List UInt8):rowsS 0 t n b r=(plc n).map (shr b r (t - 1)):=by unfold rowsS;rw [if_pos rfl]
theorem rowsS_pc {t:Nat} (h1:1<=t) (n:Nat) (b r:List UInt8):rowsS 1 t n b r=(plc n).map (pcF t (pkg b r)):=by
 unfold rowsS plc
 rw [if_neg (by omega),List.map_map]
 refine List.map_congr_left fun i _=>?_
 unfold pc pcF
 rw [zkh,cutR_0 _ _ _ (by omega)];rfl
theorem parts_pc {t:Nat} (h1:1<=t) (h255:t<=255) (g:List UInt8):(plc t).map (pcF t g)=cutR g t (psz 473 t):=by
 refine rows_ext (by rw [List.length_map,zca,zkh]) fun i hi=>?_
 rw [List.length_map,zca] at hi
 rw [getD_mapU _ _ _ (by rw [zca];exact hi)]
 exact atv_at (plc t) _ _ i (zi9 t h255) (by rw [zca];exact hi) (by unfold cutR;rw [getD_tab _ _ _ hi];simp)
theorem Zero_eq (b:List UInt8) (h:b.length<=most):word_Zero b=some (decide (∀ x∈b,x=0)):=by
 unfold word_Zero
 have hm:=zbb
 rw [zi4 (by omega),obs,zig (fun y1=>zh0 y1) (fun x=>!decide (x=0)) b (fun x _=>rfl),obs]
 congr 1
 by_cases h:∀ x∈b,x=0
 ·rw [decide_eq_true h,Bool.not_eq_true',List.any_eq_false]
  intro x hx;simp [h x hx]
 ·rw [decide_eq_false h,Bool.not_eq_false',List.any_eq_true]
  obtain ⟨x,hx⟩:=Classical.not_forall.1 h
  obtain ⟨h1,h2⟩:=Classical.not_imp.1 hx
  exact ⟨x,h1,by simpa using h2⟩
abbrev StV:=List Int×Bool×(Option (Bool×List UInt8×List (List UInt8)×List Int))×List (List UInt8)×List Int
theorem blank_eq (x:StV) (hf:x.2.2.2.1.flatten.length<=most) (hl:x.2.2.2.1.length<=most):zcu (some x)=some (decide (∀ a∈x.2.2.2.1.flatten,a=0)):=by
 unfold zcu
 rw [obs,Concat_eq _ hf hl,obs,Zero_eq _ hf];rfl
theorem flat_lenN {l:List (List UInt8)} {N:Nat} (h:∀ r∈l,r.length=N):l.flatten.length=l.length * N:=by
 induction l with
 | nil=>simp
 | cons a l ih =>
  rw [List.flatten_cons,List.length_append,h a (by simp),ih (fun r hr=>h r (by simp [hr])),List.length_cons,Nat.succ_mul,Nat.add_comm]
section
variable {m t n c : Nat}
theorem tN_le (h:OkS 1 t n c):t * psz 473 t<=255000/\473<=t * psz 473 t:=by
 have h1:=h.t1;have h2:=h.tn;have h3:=h.n255
 have hp:=psz_le t h1
 have hs:=(psz_spec 473 t (by omega)).1
 refine ⟨Nat.le_trans (Nat.mul_le_mul (show t<=255 by omega) hp) (by omega),by rw [Nat.mul_comm];exact hs⟩
theorem cut_take (h:OkS 1 t n c) (g:List UInt8) (hg:g.length=473):(cutR g t (psz 473 t)).flatten.take 473=g:=by
 have:=(tN_le h).2
 rw [cutR_flat]
 refine zb2 (by simp;omega) fun i=>?_
 rw [zkc,zc3]
 by_cases hi:i<473
 ·rw [if_pos hi,if_pos (by omega)]
 ·rw [if_neg hi,co_ge (by omega)]
theorem Block_parts (h:OkS 1 t n c) (mm:Option (Bool×List UInt8×List (List UInt8)×List Int)) (w:List Int) (b r:List UInt8) (hb:b.length=440) (hr:r.length=32):zcu (some ((shp 1 t n c,true,mm,cutR (pkg b r) t (psz 473 t),w):StV))=some false/\zcv (some ((shp 1 t n c,true,mm,cutR (pkg b r) t (psz 473 t),w):StV))=some (b,0):=by
 have hmo:(1000000:Nat)<=most:=by decide
 obtain ⟨z1,z2⟩:=tN_le h
 have hp:=pkg_len b r hb hr
 have h2:=h.tn;have h3:=h.n255
 have hfl:(cutR (pkg b r) t (psz 473 t)).flatten.length=t * psz 473 t:=by rw [cutR_flat];simp
 have hbl:zcu (some ((shp 1 t n c,true,mm,cutR (pkg b r) t (psz 473 t),w):StV))=some false:=by
  rw [blank_eq _ (by simp only [hfl];omega) (by simp only [zkh];omega),decide_eq_false]
  intro hall
  have:(1:UInt8)=0:=hall 1 (by
   simp only [cutR_flat]
   exact List.mem_map.2 ⟨0,List.mem_range.2 (by omega),rfl⟩)
  exact absurd this (by decide)
 refine ⟨hbl,?_⟩
 unfold zcv
 have hgl:zi0 (cutR (pkg b r) t (psz 473 t)) 473=some (pkg b r,0):=by
  have:=Glue_ok (cutR (pkg b r) t (psz 473 t)) 473 (by omega) (by rw [zkh];omega) (by omega)
  rw [cut_take h _ hp] at this
  exact this
 have hwl:=wrapF_len r b hr
 obtain ⟨k1,k2⟩:=keyOf_wrap r b hr
 have hsub:subL (pkg b r) 1 ((pkg b r).length:Int)=some (wrapF r b):=by
  have:=zd3 (pkg b r) 1 (pkg b r).length (by omega) (Nat.le_refl _)
  rw [show ((1:Nat):Int)=1 from rfl] at this
  rw [this,List.take_length];rfl
 rw [if_neg (by simp),obs]
 simp only
 rw [ixS0,obs,if_neg (by omega),hbl,obs,if_neg (by decide),hgl,obs,if_pos rfl]
 simp only
 rw [show idx (pkg b r) 0=some 1 from rfl,obs,if_pos rfl,hsub,obs,Open_ok _ (by omega) (by omega),obs,k1,k2,mixF_mixF]
theorem Block_zero (h:OkS 1 t n c) (mm:Option (Bool×List UInt8×List (List UInt8)×List Int)) (w:List Int) (k:Nat) (hk:k<=255):zcu (some ((shp 1 t n c,true,mm,(plc k).map (fun _=>List.replicate (rowSz 1 t) 0),w):StV))=some true/\zcv (some ((shp 1 t n c,true,mm,(plc k).map (fun _=>List.replicate (rowSz 1 t) 0),w):StV))=some (List.replicate 440 0,0):=by
 have hmo:(1000000:Nat)<=most:=by decide
 obtain ⟨z1,z2⟩:=rowSz_pos h
 have hfl:((plc k).map (fun _=>List.replicate (rowSz 1 t) (0:UInt8))).flatten.length=k * rowSz 1 t:=by
  rw [flat_lenN (N:=rowSz 1 t) (fun r hr=>by obtain ⟨_,_,rfl⟩:=List.mem_map.1 hr;simp),List.length_map,zca]
 have hle:k * rowSz 1 t<=255000:=Nat.le_trans (Nat.mul_le_mul hk z2) (by omega)
 have hbl:zcu (some ((shp 1 t n c,true,mm,(plc k).map (fun _=>List.replicate (rowSz 1 t) 0),w):StV))=some true:=by
  rw [blank_eq _ (by simp only [hfl];omega) (by simp only [List.length_map,zca];omega),decide_eq_true]
  intro a ha
  obtain ⟨r,hr,har⟩:=List.mem_flatten.1 ha
  obtain ⟨_,_,rfl⟩:=List.mem_map.1 hr
  exact List.eq_of_mem_replicate har
 refine ⟨hbl,?_⟩
 unfold zcv
 rw [if_neg (by simp),obs]
 simp only
 rw [ixS0,obs,if_neg (by omega),hbl,obs,if_pos rfl,show makeL 440 (0:UInt8)=some (List.replicate 440 0) from zbj 440 _ (by omega),obs]
end
theorem Block_at (t n c:Nat) (md:Bool×List UInt8×List (List UInt8)×List Int) (pt:List (List UInt8)) (w:List Int) (b:List UInt8) (h:zg1 (some md) 0=some b):zcv (some ((shp 0 t n c,true,some md,pt,w):StV))=some (b,0):=by
 unfold zcv
 rw [if_neg (by simp),obs]
 simp only
 rw [ixS0,obs,if_pos (by rfl),h,obs]
end Gk

/- Printed by gen.py: for each Go function a pure function, and that the Go code comes to it. No condition beside the equation that says what the pure function gives. -/
namespace Gk
open Go Go.Proofs
noncomputable def zes (r:Int) (s:Int) (t:Int) (l:List UInt8) (m:List UInt8) (n:List UInt8) (h:Bool):Option Bool :=
(((zd2).bind fun T =>
(if (!T)=true then
((zd2).bind fun U => some (.inr U))
else
(if 500<(l.length:Int) then
((zd2).bind fun W => some (.inr W))
else
(if 500<(m.length:Int) then
((zd2).bind fun O => some (.inr O))
else
(if 500<(n.length:Int) then
((zd2).bind fun S => some (.inr S))
else some (.inl ())))))).bind (Sum.elim (fun a8 =>
((law17_Of r s t 0).bind fun a =>
((lenA 4 (List.replicate 4 (0:Int))).bind fun a2 =>
((lenA 4 a).bind fun a3 =>
((field_New).bind fun j =>
((lenA 4 a).bind fun a4 =>
((zfg l).bind fun o =>
((zfq a m).bind fun k =>
((zfq a n).bind fun d =>
((lenA 4 a).bind fun a5 =>
((zbr a j o k).bind fun g =>
((if h=true then
((makeL 440 (0:UInt8)).bind fun B =>
((iterC (fun s46:List (List UInt8)×Int =>
(if s46.2<(g.1.length:Int) then
((idx s46.1 s46.2).bind fun C =>
((makeL (C.length:Int) (0:UInt8)).bind fun D => some (.inl (s46.1.set (s46.2:Int).toNat D,wI (s46.2+1)))))
else some (.inr s46.1))) (g.1,0)).bind fun Z => some (B,Z)))
else some (o,g.1)).bind fun f =>
((lenA 4 a).bind fun a6 =>
((zce a j f.2 d).bind fun c =>
((if g.2=0 then
(if c.2=0 then
((idx a 2).bind fun E =>
(if (c.1.length:Int)=E then some (.inl ())
else some (.inr false)))
else some (.inr false))
else some (.inr false)).bind (Sum.elim (fun a9 =>
((iterC (fun e:List Int×Int =>
((idx a 2).bind fun F =>
(if e.2<=F then
((appL e.1 ([e.2]:List Int)).bind fun G => some (.inl (G,wI (e.2+1))))
else some (.inr e.1)))) (([]:List Int),1)).bind fun a0 =>
((lenA 4 a).bind fun a7 =>
((zbt a j a0 c.1).bind fun p =>
((zcv p.1).bind fun q =>
((if p.2=0 then
(if q.2=0 then
(if q.1=f.1 then some (.inl ())
else some (.inr false))
else some (.inr false))
else some (.inr false)).bind (Sum.elim (fun aA =>
((((idx a 0).bind fun H =>
(if H=1 then some h
else some false)).bind fun a1 =>
(if a1=true then
((zgf c.1 f.2).bind fun M => some (.inr M))
else
((idx a 0).bind fun u =>
(if u=1 then
((idx a 1).bind fun v =>
((idx a 2).bind fun w =>
((zhl 1 v w f.1 d).bind fun N =>
((zgf c.1 N).bind fun P => some (.inr P)))))
else some (.inl ()))))).bind (Sum.elim (fun aB =>
((makeL (k.length:Int) (0:UInt8)).bind fun i =>
((if (!h)=true then
((iterC (fun b:List UInt8×Int =>
(if b.2<((copyL i 0 d).length:Int) then
((idx b.1 b.2).bind fun x =>
((idx k b.2).bind fun y => some (.inl (b.1.set (b.2:Int).toNat (x^^^y),wI (b.2+1)))))
else some (.inr b.1))) (copyL i 0 d,0)).bind fun Y => some Y)
else some (copyL i 0 d)).bind fun X =>
((idx a 1).bind fun z =>
((idx a 2).bind fun A =>
((zhl 0 z A f.1 X).bind fun Q =>
((zgf c.1 Q).bind fun R => some R))))))) (fun L=>some L)))) (fun K=>some K)))))))) (fun J=>some J))))))))))))))))) (fun I=>some I)))
theorem law17_StripeFresh_calls (aO:Int) (aP:Int) (aQ:Int) (b8:List UInt8) (b9:List UInt8) (bL:List UInt8) (B:Bool) (aH:Value) (aI:Value) (aJ:Value) (fE:Bool) (w0:World) (eQ:By w0 [] aH b8) (eR:By w0 [] aI b9) (eS:By w0 [] aJ bL) (e:zes aO aP aQ b8 b9 bL B=some fE) :
  Calls Tryz.prog 4 [i64 aO,i64 aP,i64 aQ,aH,aI,aJ,.bool B].toArray w0 (fun h8 mO=>h8=.returned (.bool fE)/\Ext w0 mO):=by
 have hZ:Ext w0 w0:=Ext.refl w0;unfold zes at e;refine zai (n:=202) Tryz.func4 V V V<|W_sr<|av (.bool false) V V<|wnt<|W_seq<|?_;obtain ⟨n3,k,e⟩:=bsi e;refine W_mid (fun c d=>∃ fG,n3=.inl fG/\c 0=i64 aO/\c 1=i64 aP/\c 2=i64 aQ/\c 3=aH/\c 4=aI/\c 5=aJ/\c 6=(.bool B)/\c 202=undef/\Ext w0 d) ?_ ?_
 ·refine W_sr<|?_;obtain ⟨fF,iX,k⟩:=bsi k;refine wls V V (zab (vs:=[]) Tryz.func6 V V V (ar0) (zdw   fF _  iX) ?_);rintro _ oL ⟨rfl,nC⟩;refine ⟨_,rfl,?_⟩;have a1:=hZ.trans nC;refine wa V (q_not V V)<|wlb V V (zbd (v:=(.bool (!fF))) V V) (fun cH=>?_) (fun cH=>?_)
  ·replace k:=(if_pos cH).symm.trans k;refine wk V<|wk V<|wk V<|wa V (zaw (v:=(.bool true)) V V V)<|mv (.bool true) V V<|wk V<|wk V<|wk V<|?_;refine wa V (zaw (v:=(.bool true)) V V V)<|mv (.bool true) V V<|wk V<|wk V<|wk V<|wa V (zaw (v:=(.bool true)) V V V)<|wnt<|zam true V V (fun _=>?_) (fun G=>by cases G);refine W_sr<|?_;obtain ⟨dL,j4,k⟩:=bsi k;refine wls V V (zab (vs:=[]) Tryz.func6 V V V (ar0) (zdw   dL _  j4) ?_);rintro _ oN ⟨rfl,nE⟩;refine ⟨_,rfl,?_⟩;have hP:=a1.trans nE;refine av (.bool dL) V V<|wnt<|W_ret<|?_;obtain rfl:=osi k;simp only [Sum.elim_inr] at e;refine th_r<|th_r<|?_;obtain rfl:=osi e;refine rt1 (.bool dL) V V V V ?_;exact ⟨rfl,hP⟩
  replace k:=(if_neg (ne_true_of_eq_false cH)).symm.trans k;refine mv aH V V<|wa V (q_len V T22.sl V (eQ.lift (le_ a1)))<|wa V (q_gtI V V V)<|wa V (zaq (v:=(.bool (decide (500<(b8.length:Int))))) V V V)<|wlb V V (zbd (v:=(.bool (decide (500<(b8.length:Int))))) V V) (fun cL=>?_) (fun cL=>?_)
  ·replace k:=ifp cL k;refine wk V<|wk V<|wk V<|wa V (zaw (v:=(.bool true)) V V V)<|mv (.bool true) V V<|wk V<|wk V<|wk V<|wa V (zaw (v:=(.bool true)) V V V)<|wnt<|zam true V V (fun _=>?_) (fun G=>by cases G);refine W_sr<|?_;obtain ⟨dM,j7,k⟩:=bsi k;refine wls V V (zab (vs:=[]) Tryz.func6 V V V (ar0) (zdw   dM _  j7) ?_);rintro _ oU ⟨rfl,nG⟩;refine ⟨_,rfl,?_⟩;have hS:=a1.trans nG;refine av (.bool dM) V V<|wnt<|W_ret<|?_;obtain rfl:=osi k;simp only [Sum.elim_inr] at e;refine th_r<|th_r<|?_;obtain rfl:=osi e;refine rt1 (.bool dM) V V V V ?_;exact ⟨rfl,hS⟩
  replace k:=ifn cL k;refine mv aI V V<|wa V (q_len V T22.sl V (eR.lift (le_ a1)))<|wa V (q_gtI V V V)<|wa V (zaq (v:=(.bool (decide (500<(b9.length:Int))))) V V V)<|wlb V V (zbd (v:=(.bool (decide (500<(b9.length:Int))))) V V) (fun cE=>?_) (fun cE=>?_)
  ·replace k:=ifp cE k;refine wk V<|wk V<|wk V<|wa V (zaw (v:=(.bool true)) V V V)<|wnt<|zam true V V (fun _=>?_) (fun G=>by cases G);refine W_sr<|?_;obtain ⟨dF,iQ,k⟩:=bsi k;refine wls V V (zab (vs:=[]) Tryz.func6 V V V (ar0) (zdw   dF _  iQ) ?_);rintro _ o8 ⟨rfl,n5⟩;refine ⟨_,rfl,?_⟩;have hD:=a1.trans n5;refine av (.bool dF) V V<|wnt<|W_ret<|?_;obtain rfl:=osi k;simp only [Sum.elim_inr] at e;refine th_r<|th_r<|?_;obtain rfl:=osi e;refine rt1 (.bool dF) V V V V ?_;exact ⟨rfl,hD⟩
  replace k:=ifn cE k;refine mv aJ V V<|wa V (q_len V T22.sl V (eS.lift (le_ a1)))<|wa V (q_gtI V V V)<|wa V (zaq (v:=(.bool (decide (500<(bL.length:Int))))) V V V)<|wnt<|wci k V V (fun k=>?_) (fun k=>?_)
  ·refine W_sr<|?_;obtain ⟨dJ,iV,k⟩:=bsi k;refine wls V V (zab (vs:=[]) Tryz.func6 V V V (ar0) (zdw   dJ _  iV) ?_);rintro _ oH ⟨rfl,n9⟩;refine ⟨_,rfl,?_⟩;have hI:=a1.trans n9;refine av (.bool dJ) V V<|wnt<|W_ret<|?_;obtain rfl:=osi k;simp only [Sum.elim_inr] at e;refine th_r<|th_r<|?_;obtain rfl:=osi e;refine rt1 (.bool dJ) V V V V ?_;exact ⟨rfl,hI⟩
  refine zae ?_;obtain rfl:=osi k;exact ⟨_,rfl,rfl,rfl,rfl,rfl,rfl,rfl,rfl,rfl,a1⟩
 rintro _ oI ⟨fG,rfl,lA,lW,mB,mE,mF,mG,dV,g9,i2⟩;simp only [Sum.elim_inl] at e;refine W_th<|W_sr<|mv (i64 aO) V lA<|mv (i64 aP) V lW<|mv (i64 aQ) V mB<|?_;obtain ⟨t,iW,e⟩:=bsi e;refine wls V V (zab (vs:=[i64 aO,i64 aP,i64 aQ,i64 0]) Tryz.func7 V V V (ar4 V V V V) (law17_Of_calls aO aP aQ 0  t _  iW) ?_);rintro _ oJ ⟨rfl,nA⟩;refine ⟨_,rfl,?_⟩;have e9:=i2.trans nA;refine wls V V (sal i64 (List.replicate 4 (0:Int)) [] V Z25 ?_);intro a oK kM k1 hU nT;have nB:=zaa hU;have d2:=Nw.ext e9 k1;have hJ:=e9.trans nB;obtain ⟨nK,iD,e⟩:=bsi e;obtain ⟨nL,iE,e⟩:=bsi e;refine wln V V (stp_storeG [] [] V G25 V V (zad iD) (zad iE) kM one_i64 ?_);intro oM s hV nU;have hK:=hJ.grown hV d2;refine wnt<|W_sr<|?_;obtain ⟨O,iY,e⟩:=bsi e;refine wls V V (zab (vs:=[]) Tryz.func8 V V V (ar0) (zh5   O _ [bp a] (Old.cons (Old.nil _) s.ltB)  iY) ?_);rintro _ mS ⟨w,rfl,gY,D⟩;refine ⟨_,rfl,?_⟩;have hL:=hK.trans gY;refine av w V V<|wnt<|W_seq<|zba [2,5] [(0,0),(2,1),(3,0),(5,1),(6,0),(1,2),(4,2),(7,2),(8,0),(9,0),(10,0)] mixed (by kernel_rfl) (by kernel_rfl) (by kernel_rfl) (by kernel_rfl) ?_;have e0:=Ext.drew mS;replace D:=D.lift (le_ e0);replace s:=(s.ext gY).ext e0;have eA:=hL.trans e0;refine sv aH V V mE ?_;obtain ⟨nM,eP,e⟩:=bsi e;refine sq V V (zdd (m:=0) V G25 V s (zaf _ _) (zad eP))<|sv aI V V mF<|sq V V (zdd (m:=0) V G25 V s (zaf _ _) (zad eP))<|sv aJ V V mG<|?_;obtain ⟨dK,iZ,e⟩:=bsi e;refine wss V V V (zab (vs:=[aH]) Tryz.func10 V V V (ar1 V) (zet b8 aH dK _ (eQ.lift (le_ eA)) iZ) ?_);rintro _ mT ⟨aK,rfl,cA,k8,kQ⟩;refine ⟨_,rfl,cA,?_⟩;have a2:By mT [bp a] aK dK:=OwK.slk (Sc.stab _) _ (OwK.scal kQ (aK::[bp a])) (fun g z=>(Old.cons (Old.nil _) s.ltB) g (k8 g z)) (fun _ f=>f.2);replace D:=D.lift (le_ cA);replace s:=s.ext cA;have eB:=eA.trans cA;obtain ⟨H,j0,e⟩:=bsi e
 refine wss V V V (zab (vs:=[ag i64 t,aI]) Tryz.func11 V V V (ar2 V V) (zir t b9 aI H _ (eR.lift (le_ eB)) j0) ?_);rintro _ mU ⟨p,rfl,bJ,k9,kR⟩;refine ⟨_,rfl,bJ,?_⟩;have X:By mU [bp a] p H:=OwK.slk (Sc.stab _) _ (OwK.scal kR (p::[bp a])) (fun g z=>(Old.cons (Old.nil _) s.ltB) g (k9 g z)) (fun _ f=>f.2);replace D:=D.lift (le_ bJ);replace a2:=a2.lift (le_ bJ);replace s:=s.ext bJ;have eC:=eB.trans bJ;obtain ⟨E,j1,e⟩:=bsi e;refine wsc V (by kernel_rfl) V V (zab (vs:=[ag i64 t,aJ]) Tryz.func11 V V V (ar2 V V) (zir t bL aJ E _ (eS.lift (le_ eC)) j1) ?_);rintro _ mV ⟨o,rfl,bK,kA,kS⟩;refine ⟨_,rfl,?_⟩;have aV:By mV [bp a] o E:=OwK.slk (Sc.stab _) _ (OwK.scal kS (o::[bp a])) (fun g z=>(Old.cons (Old.nil _) s.ltB) g (kA g z)) (fun _ f=>f.2);replace D:=D.lift (le_ bK);replace a2:=a2.lift (le_ bK);replace X:=X.lift (le_ bK);replace s:=s.ext bK;have eD:=eC.trans bK;refine sa V V (zat (v:=aK) V V)<|sa V V (zat (v:=p) V V)<|sa V V (zat (v:=o) V V)<|za1<|W_th<|W_sr<|bse e fun nN iF e=>wq V (zdd (m:=0) V G25 V s (zaf _ _) (zad iF))<|mv w V V<|mv aK V V<|mv p V V<|?_;obtain ⟨P,j2,e⟩:=bsi e;refine wls V V (zab (vs:=[ag i64 t,w,aK,p]) Tryz.func9 V V V (ar4 V V V V) (zcq t O dK H w aK p P _ [bp a] (Old.cons (Old.nil _) s.ltB) (D.lift (Lift.sub (L':=[]) (fun _ _=>trivial))) (a2.lift (Lift.sub (L':=[]) (fun _ _=>trivial))) (X.lift (Lift.sub (L':=[]) (fun _ _=>trivial))) j2) ?_);rintro _ mW ⟨b,rfl,b7,b0,kT⟩;refine ⟨_,rfl,?_⟩;have b3:OwK By mW (b::[bp a]) 22 b P.1:=kT;have fD:Nq (bp a) b:=s.nq b0;replace D:=D.lift (Lift.call _ b7 b0);replace a2:=a2.lift (Lift.call _ b7 b0);replace X:=X.lift (Lift.call _ b7 b0);replace aV:=aV.lift (Lift.call _ b7 b0);replace s:=s.ext b7;have f8:=Nw.ext eD b0;have eE:=eD.trans b7;refine mv (.tuple #[b,i64 P.2]) V V<|wa V (zah V V V)<|wa V (zah V V V)<|av b V V<|av (i64 P.2) V V<|?_
 refine wnt<|W_seq<|?_;obtain ⟨y,M,e⟩:=bsi e;refine W_mid (fun c d=>∃ gT:Value,c 6=(.bool B)/\c 15=bp a/\c 16=w/\c 17=gT/\c 18=p/\c 19=o/\c 20=b/\c 21=i64 P.2/\c 202=undef/\Ext w0 d/\OwK By d [b,bp a] 22 b y.2/\Nw w0 b/\Blk d a 25 (ac i64 t)/\Nw w0 (bp a)/\Nq b (bp a)/\Fd d [b,bp a] w O/\By d [b,bp a] gT y.1/\By d [b,bp a] p H/\By d [b,bp a] o E) ?_ ?_
 ·refine W_sr<|mv (.bool B) V dV<|wnt<|zam _ V V (fun cI=>?_) (fun cI=>?_)
  ·replace M:=(if_pos cI).symm.trans M;refine W_sr<|?_;obtain ⟨cB,iG,M⟩:=bsi M;refine wls V V (zb3 (L:=[b,bp a]) (R:=Sc u8) V T22 V V iG (fun _ _=>rfl) ?_);intro aL mX kU kB hW nV;have aN:=zaa hW;have jP:By mX [b,bp a] aL cB:=OwK.slk (Sc.stab _) _ kU (fun g z=>(Old.cons (Old.cons (Old.nil _) s.ltB) b3.lt) g (kB g z)) (fun _ f=>f.2);replace D:=D.lift (le_ aN);replace X:=X.lift (le_ aN);replace aV:=aV.lift (le_ aN);replace b3:=b3.extL (SlK.stab (Sc.stab _)) aN (le_ aN);replace s:=s.ext aN;have hM:=eE.trans aN;refine av aL V V<|wnt<|W_sr<|mv b V V<|wa V (q_len V T29.sl V (b3.rd (SlK.stab (Sc.stab _))))<|mv (i64 0) V V<|wnt<|?_;obtain ⟨nD,h1,M⟩:=bsi M;refine W_mid (fun c d=>c 6=(.bool B)/\c 15=bp a/\c 16=w/\c 17=aL/\c 18=p/\c 19=o/\c 20=b/\c 21=i64 P.2/\c 202=undef/\Ext w0 d/\OwK By d [b,bp a] 22 b nD/\Nw w0 b/\Blk d a 25 (ac i64 t)/\Nw w0 (bp a)/\Nq b (bp a)/\Fd d [b,bp a] w O/\By d [b,bp a] aL cB/\By d [b,bp a] p H/\By d [b,bp a] o E) ?_ ?_
   ·refine zac<|zau (fun a7 c d=>c 6=(.bool B)/\c 15=bp a/\c 16=w/\c 17=aL/\c 18=p/\c 19=o/\c 20=b/\c 21=i64 P.2/\c 75=i64 (P.1.length:Int)/\c 76=i64 a7.2/\c 202=undef/\Ext w0 d/\OwK By d [b,bp a] 22 b a7.1/\Nw w0 b/\Blk d a 25 (ac i64 t)/\Nw w0 (bp a)/\Nq b (bp a)/\Fd d [b,bp a] w O/\By d [b,bp a] aL cB/\By d [b,bp a] p H/\By d [b,bp a] o E) h1 ?_ ?_
    ·exact ⟨dV,rfl,rfl,rfl,rfl,rfl,rfl,rfl,rfl,rfl,g9,hM,b3,f8,s,d2,fD.symm,D,jP,X,aV⟩
    rintro a7 _ _ mY ⟨gO,fK,fM,fT,fZ,g3,c8,gG,gQ,dX,gA,eL,N,cZ,aF,f5,d9,aR,aS,aU,aW⟩ U j3;refine W_sr<|wa V (q_ltI V dX gQ)<|wnt<|W_seq<|wci U V V (fun U=>?_) (fun U=>?_)
    ·refine zae<|W_th<|W_seq<|zac<|W_sr<|mv (i64 a7.2) V dX<|av (i64 a7.2) V V<|wnt<|W_rg<|mv b V c8<|mv (i64 a7.2) V V<|mv b V c8<|mv (i64 a7.2) V V<|bse U fun h5 bP U=>wa V (q_adr V T29 V V (N.rd (SlK.stab (Sc.stab _))) bP)<|wlq_loadO (SlK.stab (Sc.stab _)) V V V T29 V N bP (fun mN cV=>?_);replace cV:By mY [b,bp a] mN h5:=cV;refine wa V (q_len V T22.sl V cV) ?_;obtain ⟨e7,iH,U⟩:=bsi U;refine wls V V (zb3 (L:=[b,bp a]) (R:=Sc u8) V T22 V V iH (fun _ _=>rfl) ?_);intro Q mZ kV aC hX nW;have a8:=zaa hX;have l6:Nq b Q:=N.nq aC;have l7:Nq (bp a) Q:=aF.nq aC;replace N:=N.extL (SlK.stab (Sc.stab _)) a8 (Lift.call _ a8 aC);replace aF:=aF.ext a8;have hN:=eL.trans a8;refine wa V (q_adr V T29 V V (N.rd (SlK.stab (Sc.stab _))) bP) ?_;have eZ:By mZ [b,bp a] Q e7:=OwK.slk (Sc.stab _) [b,bp a] kV (fun g z=>⟨(l6.symm) g z,(l7.symm) g z,trivial⟩) (show ∀ g,Av [Q,b,bp a] g->Av [b,bp a] g from fun _ f=>⟨f.2.1,f.2.2.1,trivial⟩);replace aR:=(aR.lift (Lift.call _ a8 aC)).lift (Lift.sub (show ∀ g,Av [Q,b,bp a] g->Av [b,bp a] g from fun _ f=>⟨f.2.1,f.2.2.1,trivial⟩));replace aS:=(aS.lift (Lift.call _ a8 aC)).lift (Lift.sub (show ∀ g,Av [Q,b,bp a] g->Av [b,bp a] g from fun _ f=>⟨f.2.1,f.2.2.1,trivial⟩));replace aU:=(aU.lift (Lift.call _ a8 aC)).lift (Lift.sub (show ∀ g,Av [Q,b,bp a] g->Av [b,bp a] g from fun _ f=>⟨f.2.1,f.2.2.1,trivial⟩));replace aW:=(aW.lift (Lift.call _ a8 aC)).lift (Lift.sub (show ∀ g,Av [Q,b,bp a] g->Av [b,bp a] g from fun _ f=>⟨f.2.1,f.2.2.1,trivial⟩));replace N:=N.weak (SlK.stab (Sc.stab _)) (show ∀ g,Av [Q,b,bp a] g->Av [b,bp a] g from fun _ f=>⟨f.2.1,f.2.2.1,trivial⟩);refine wln V V (zci (R:=By) (u:=Q) (SlK.stab (Sc.stab _)) [] [bp a] V T29 V V N (zf6 e7 bP) eZ (oc_sl _ _ _ _ eZ) ?_)
     intro oO kW eI c2;replace aR:=aR.lift c2;replace aS:=aS.lift c2;replace aU:=aU.lift c2;replace aW:=aW.lift c2;replace aF:=aF.other eI d9.symm;have hO:=hN.grown eI cZ;refine zag<|bk_n<|W_th<|W_rg<|wa V (zak V dX V)<|mv (i64 (wI (a7.2+1))) V V<|zag<|?_;obtain rfl:=osi U;exact ⟨_,rfl,gO,fK,fM,fT,fZ,g3,c8,gG,gQ,rfl,gA,hO,kW,cZ,aF,f5,d9,aR,aS,aU,aW⟩
    refine zar<|th_x<|?_;obtain rfl:=osi U;obtain rfl:=j3 _ rfl;refine th_x<|bk_x<|?_;exact ⟨gO,fK,fM,fT,fZ,g3,c8,gG,gA,eL,N,cZ,aF,f5,d9,aR,aS,aU,aW⟩
   rintro _ oP ⟨mJ,lD,lF,lK,lO,lT,m2,m5,lZ,i3,kH,jV,kO,k4,l2,jC,jJ,jL,jN⟩;obtain rfl:=osi M;exact ⟨aL,mJ,lD,lF,lK,lO,lT,m2,m5,lZ,i3,kH,jV,kO,k4,l2,jC,jJ,jL,jN⟩
  replace M:=(if_neg (ne_true_of_eq_false cI)).symm.trans M;refine zae ?_;obtain rfl:=osi M;exact ⟨aK,dV,rfl,rfl,rfl,rfl,rfl,rfl,rfl,g9,eE,b3,f8,s,d2,fD.symm,D,a2,X,aV⟩
 rintro _ oQ ⟨q,mK,dN,fN,lL,lP,g4,gD,m6,c6,i4,b1,jW,aG,k5,l3,bS,cS,cU,bZ⟩;refine W_th<|W_sr<|bse e fun nO iI e=>wq V (zdd (m:=0) V G25 (by exact dN) aG (zaf _ _) (zad iI))<|mv w V fN<|mv b V gD<|mv o V g4<|?_;obtain ⟨x,j5,e⟩:=bsi e;refine wls V V (zab (vs:=[ag i64 t,w,b,o]) Tryz.func17 V V V (ar4 V V V V) (zjg t O y.2 E w b o x _ [b,bp a] (Old.cons (Old.cons (Old.nil _) aG.ltB) b1.lt) (bS.lift (Lift.sub (L':=[]) (fun _ _=>trivial))) (b1.rd (SlK.stab (Sc.stab _))) (bZ.lift (Lift.sub (L':=[]) (fun _ _=>trivial))) j5) ?_);rintro _ n0 ⟨h,rfl,a9,kC,kX⟩;refine ⟨_,rfl,?_⟩;have f0:Rw n0 [b,bp a] h x.1:=OwK.slk (SlK.stab (Sc.stab _)) _ kX (fun g z=>(Old.cons (Old.cons (Old.nil _) aG.ltB) b1.lt) g (kC g z)) (fun _ f=>f.2);replace bS:=bS.lift (le_ a9);replace cS:=cS.lift (le_ a9);replace cU:=cU.lift (le_ a9);replace bZ:=bZ.lift (le_ a9);replace b1:=b1.extL (SlK.stab (Sc.stab _)) a9 (le_ a9);replace aG:=aG.ext a9;have bM:=i4.trans a9;refine mv (.tuple #[h,i64 x.2]) V V<|wa V (zah V V V)<|wa V (zah V V V)<|av h V V<|av (i64 x.2) V V<|wnt<|W_seq<|?_;obtain ⟨nF,A,e⟩:=bsi e;refine W_mid (fun c d=>∃ gN,nF=.inl gN/\c 6=(.bool B)/\c 15=bp a/\c 16=w/\c 17=q/\c 18=p/\c 19=o/\c 20=b/\c 23=h/\c 202=undef/\Ext w0 d/\OwK By d [b,bp a] 22 b y.2/\Nw w0 b/\Blk d a 25 (ac i64 t)/\Nw w0 (bp a)/\Nq b (bp a)/\Fd d [b,bp a] w O/\By d [b,bp a] q y.1/\By d [b,bp a] p H/\By d [b,bp a] o E/\Rw d [b,bp a] h x.1) ?_ ?_
 ·refine W_sr<|mv (i64 P.2) V m6<|wa V (q_neI V V V)<|wlb V V (zbd (v:=(.bool (!decide (P.2=0)))) V V) (fun cJ=>?_) (fun cJ=>?_)
  ·replace A:=(if_neg (zbf cJ)).symm.trans A;refine wk V<|wk V<|wa V (zaw (v:=(.bool true)) V V V)<|mv (.bool true) V V<|wk V<|wk V<|wk V<|wk V<|wk V<|wa V (zaw (v:=(.bool true)) V V V)<|wnt<|zam true V V (fun _=>?_) (fun G=>by cases G);refine W_sr<|av (.bool false) V V<|wnt<|W_ret<|?_;obtain rfl:=osi A;simp only [Sum.elim_inr] at e;refine th_r<|th_r<|?_;obtain rfl:=osi e;refine rt1 (.bool false) V V V c6 ?_;exact ⟨rfl,bM⟩
  replace A:=(if_pos (zbg cJ)).symm.trans A;refine mv (i64 x.2) V V<|wa V (q_neI V V V)<|wa V (zaq (v:=(.bool (!decide (x.2=0)))) V V V)<|wlb V V (zbd (v:=(.bool (!decide (x.2=0)))) V V) (fun cK=>?_) (fun cK=>?_)
  ·replace A:=(if_neg (zbf cK)).symm.trans A;refine wk V<|wk V<|wk V<|wk V<|wk V<|wa V (zaw (v:=(.bool true)) V V V)<|wnt<|zam true V V (fun _=>?_) (fun G=>by cases G);refine W_sr<|av (.bool false) V V<|wnt<|W_ret<|?_;obtain rfl:=osi A;simp only [Sum.elim_inr] at e;refine th_r<|th_r<|?_;obtain rfl:=osi e;refine rt1 (.bool false) V V V c6 ?_;exact ⟨rfl,bM⟩
  replace A:=(if_pos (zbg cK)).symm.trans A;refine mv h V V<|wa V (q_len V T29.sl V f0)<|bse A fun h6 iJ A=>wa V (zcp (j:=2) V zic (by exact dN))<|wq V (zbh (m:=0) V G25 V aG (zaf _ _) iJ)<|wa V (q_neI V V V)<|wa V (zaq (v:=(.bool (!decide ((x.1.length:Int)=h6)))) V V V)<|wnt<|zam _ V V (fun cM=>?_) (fun cM=>?_)
  ·replace A:=(if_neg (zbf cM)).symm.trans A;refine W_sr<|av (.bool false) V V<|wnt<|W_ret<|?_;obtain rfl:=osi A;simp only [Sum.elim_inr] at e;refine th_r<|th_r<|?_;obtain rfl:=osi e;refine rt1 (.bool false) V V V c6 ?_;exact ⟨rfl,bM⟩
  replace A:=(if_pos (zbg cM)).symm.trans A;refine zae ?_;obtain rfl:=osi A;exact ⟨_,rfl,mK,dN,fN,lL,lP,g4,gD,rfl,c6,bM,b1,jW,aG,k5,l3,bS,cS,cU,bZ,f0⟩
 rintro _ oR ⟨gN,rfl,mL,lE,lG,lM,lQ,lU,m3,m9,m0,i5,kI,jX,kP,k6,l4,jD,jK,jM,jO,jQ⟩;simp only [Sum.elim_inl] at e;refine W_th<|W_sr<|av (.slice none 0 0) V V<|wnt<|W_seq<|W_sr<|av (i64 1) V V<|wnt<|?_;obtain ⟨gZ,h2,e⟩:=bsi e;refine W_mid (fun c d=>∃ I:Value,c 6=(.bool B)/\c 15=bp a/\c 16=w/\c 17=q/\c 18=p/\c 19=o/\c 20=b/\c 23=h/\c 25=I/\c 202=undef/\Ext w0 d/\OwK By d [b,I,bp a] 22 b y.2/\Nw w0 b/\OwK (Sc i64) d [b,I,bp a] 3 I gZ/\Nw w0 I/\Blk d a 25 (ac i64 t)/\Nw w0 (bp a)/\Nq b I/\Nq b (bp a)/\Nq I (bp a)/\Fd d [b,I,bp a] w O/\By d [b,I,bp a] q y.1/\By d [b,I,bp a] p H/\By d [b,I,bp a] o E/\Rw d [b,I,bp a] h x.1) ?_ ?_
 ·refine zac<|zau (fun F c d=>∃ J:Value,c 6=(.bool B)/\c 15=bp a/\c 16=w/\c 17=q/\c 18=p/\c 19=o/\c 20=b/\c 23=h/\c 25=J/\c 26=i64 F.2/\c 202=undef/\Ext w0 d/\OwK By d [b,J,bp a] 22 b y.2/\Nw w0 b/\OwK (Sc i64) d [b,J,bp a] 3 J F.1/\Nw w0 J/\Blk d a 25 (ac i64 t)/\Nw w0 (bp a)/\Nq b J/\Nq b (bp a)/\Nq J (bp a)/\Fd d [b,J,bp a] w O/\By d [b,J,bp a] q y.1/\By d [b,J,bp a] p H/\By d [b,J,bp a] o E/\Rw d [b,J,bp a] h x.1) h2 ?_ ?_
  ·exact ⟨.slice none 0 0,mL,lE,lG,lM,lQ,lU,m3,m9,rfl,rfl,m0,i5,kI.weak (SlK.stab (Sc.stab _)) (fun _ f=>⟨f.1,zfw,f.2.1,trivial⟩),jX,OwK.nil _ _ _ _,Nw.nil _,kP,k6,(Nq.nil _).symm,l4,Nq.nil _,jD.lift (Lift.sub (fun _ f=>⟨f.1,zfw,f.2.1,trivial⟩)),jK.lift (Lift.sub (fun _ f=>⟨f.1,zfw,f.2.1,trivial⟩)),jM.lift (Lift.sub (fun _ f=>⟨f.1,zfw,f.2.1,trivial⟩)),jO.lift (Lift.sub (fun _ f=>⟨f.1,zfw,f.2.1,trivial⟩)),jQ.lift (Lift.sub (fun _ f=>⟨f.1,zfw,f.2.1,trivial⟩))⟩
  rintro F _ _ oS ⟨bG,gP,dO,fO,fU,g0,g5,gE,gJ,gM,dT,gB,eM,a3,f2,bE,d1,Y,f7,dA,fC,dC,bT,bV,bX,c0,c1⟩ W j6;refine W_seq<|W_sr<|mv (i64 F.2) V dT<|bse W fun nP iK W=>wa V (zcp (j:=2) V zic (by exact dO))<|wq V (zbh (m:=0) V G25 V Y (zaf _ _) iK)<|wa V (q_leI V V V)<|wnt<|wci W V V (fun W=>?_) (fun W=>?_)
  ·refine zae<|W_th<|W_seq<|zac<|W_rg<|mv bG V gM<|mv (i64 F.2) V dT<|wls V V (zaz (L:=[b,bG,bp a]) (R:=Sc i64) [i64 F.2] ([F.2]:List Int) V T35 V (by exact ⟨rfl,rfl,trivial⟩) V (litC i64 oneC_i64 (us:=[i64 F.2]) (l:=([F.2]:List Int)) V) V (litS i64 (us:=[i64 F.2]) (l:=([F.2]:List Int)) V) ?_);intro gU n1 kY kD hY nX;have K:=zaa hY;have jR:In n1 [b,bG,bp a] gU ([F.2]:List Int):=OwK.slk (Sc.stab _) _ kY (fun g z=>(Old.cons (Old.cons (Old.cons (Old.nil _) Y.ltB) bE.lt) a3.lt) g (kD g z)) (fun _ f=>f.2);replace a3:=a3.extL (SlK.stab (Sc.stab _)) K (le_ K);replace bE:=bE.extL (Sc.stab _) K (le_ K);replace Y:=Y.ext K;have eF:=eM.trans K;obtain ⟨nQ,iL,W⟩:=bsi W;refine wls V V (zav (R:=Sc i64) (v:=bG) (u:=gU) (Sc.stab _) [b] [bp a] V T35 V V bE jR (fun _ _ f=>f) iL oc_i64 ?_);intro c9 oT kZ cC d3 aY;replace bT:=(bT.lift (le_ K)).lift aY;replace bV:=(bV.lift (le_ K)).lift aY;replace bX:=(bX.lift (le_ K)).lift aY;replace c0:=(c0.lift (le_ K)).lift aY;replace c1:=(c1.lift (le_ K)).lift aY;have l8:Nq b c9:=a3.nxt dA d3;have l9:Nq (bp a) c9:=Y.nxt dC.symm d3;replace a3:=a3.other (SlK.stab (Sc.stab _)) cC dA aY;replace Y:=Y.other cC dC.symm;have hQ:=eF.grown cC d1;have kE:=Nw.nxt eF d1 d3;refine av c9 V V<|zag<|bk_n<|W_th<|W_rg<|mv (i64 F.2) V dT<|wa V (zak V V V)<|av (i64 (wI (F.2+1))) V V<|zag ?_;obtain rfl:=osi W;exact ⟨_,rfl,c9,gP,dO,fO,fU,g0,g5,gE,gJ,rfl,rfl,gB,hQ,a3,f2,kZ,kE,Y,f7,l8,fC,l9.symm,bT,bV,bX,c0,c1⟩
  refine zar<|th_x<|?_;obtain rfl:=osi W;obtain rfl:=j6 _ rfl;refine th_x<|bk_x<|?_;exact ⟨bG,gP,dO,fO,fU,g0,g5,gE,gJ,gM,gB,eM,a3,f2,bE,d1,Y,f7,dA,fC,dC,bT,bV,bX,c0,c1⟩
 rintro _ oV ⟨b5,mM,fL,lH,fV,lR,lV,m4,gK,mA,c7,i6,aE,jY,bF,o1,a4,k7,o4,l5,o5,jE,aT,bA,bC,aX⟩;refine W_th<|W_sr<|bse e fun nR iM e=>wq V (zdd (m:=0) V G25 (by exact fL) a4 (zaf _ _) (zad iM))<|mv w V lH<|mv b5 V mA<|mv h V gK<|?_;obtain ⟨b4,j8,e⟩:=bsi e;refine wls V V (zab (vs:=[ag i64 t,w,b5,h]) Tryz.func13 V V V (ar4 V V V V) (zis t O gZ x.1 w b5 h b4 _ [b,b5,bp a] (Old.cons (Old.cons (Old.cons (Old.nil _) a4.ltB) bF.lt) aE.lt) jE (bF.rd (Sc.stab _)) (aX.lift (Lift.sub (L':=[]) (fun _ _=>trivial))) j8) ?_);rintro _ oW ⟨bH,rfl,S,jS⟩;refine ⟨_,rfl,?_⟩;replace aT:=aT.lift (le_ S);replace bA:=bA.lift (le_ S);replace bC:=bC.lift (le_ S);replace aX:=aX.lift (le_ S);replace aE:=aE.extL (SlK.stab (Sc.stab _)) S (le_ S);replace bF:=bF.extL (Sc.stab _) S (le_ S);replace a4:=a4.ext S;have hR:=i6.trans S;refine mv (.tuple #[bH,i64 b4.2]) V V<|wa V (zah V V V)<|wa V (zah V V V)<|av bH V V<|av (i64 b4.2) V V<|wnt<|W_sr<|mv bH V V ?_;obtain ⟨a5,j9,e⟩:=bsi e;refine wls V V (zab (vs:=[bH]) Tryz.func14 V V V (ar1 V) (zik b4.1 bH a5 _ (jS.lift (Lift.sub (L':=[]) (fun _ _=>trivial))) j9) ?_);rintro _ n2 ⟨bI,rfl,aA,kF,l0⟩;refine ⟨_,rfl,?_⟩;have jT:By n2 [b,b5,bp a] bI a5.1:=OwK.slk (Sc.stab _) _ (OwK.scal l0 (bI::[b,b5,bp a])) (fun g z=>(Old.cons (Old.cons (Old.cons (Old.nil _) a4.ltB) bF.lt) aE.lt) g (kF g z)) (fun _ f=>f.2);replace aT:=aT.lift (le_ aA);replace bA:=bA.lift (le_ aA);replace bC:=bC.lift (le_ aA);replace aX:=aX.lift (le_ aA);replace aE:=aE.extL (SlK.stab (Sc.stab _)) aA (le_ aA);replace a4:=a4.ext aA;have bN:=hR.trans aA;refine mv (.tuple #[bI,i64 a5.2]) V V ?_
 refine wa V (zah V V V)<|wa V (zah V V V)<|av bI V V<|av (i64 a5.2) V V<|wnt<|W_seq<|?_;obtain ⟨nH,C,e⟩:=bsi e;refine W_mid (fun c d=>∃ gR,nH=.inl gR/\c 6=(.bool B)/\c 15=bp a/\c 17=q/\c 18=p/\c 19=o/\c 20=b/\c 23=h/\c 202=undef/\Ext w0 d/\OwK By d [b,bp a] 22 b y.2/\Nw w0 b/\Blk d a 25 (ac i64 t)/\Nw w0 (bp a)/\Nq b (bp a)/\By d [b,bp a] q y.1/\By d [b,bp a] p H/\By d [b,bp a] o E/\Rw d [b,bp a] h x.1) ?_ ?_
 ·refine W_sr<|mv (i64 b4.2) V V<|wa V (q_neI V V V)<|wlb V V (zbd (v:=(.bool (!decide (b4.2=0)))) V V) (fun cN=>?_) (fun cN=>?_)
  ·replace C:=(if_neg (zbf cN)).symm.trans C;refine wk V<|wk V<|wa V (zaw (v:=(.bool true)) V V V)<|mv (.bool true) V V<|wk V<|wk V<|wk V<|wk V<|wk V<|wa V (zaw (v:=(.bool true)) V V V)<|wnt<|zam true V V (fun _=>?_) (fun G=>by cases G);refine W_sr<|av (.bool false) V V<|wnt<|W_ret<|?_;obtain rfl:=osi C;simp only [Sum.elim_inr] at e;refine th_r<|th_r<|?_;obtain rfl:=osi e;refine rt1 (.bool false) V V V c7 ?_;exact ⟨rfl,bN⟩
  replace C:=(if_pos (zbg cN)).symm.trans C;refine mv (i64 a5.2) V V<|wa V (q_neI V V V)<|wa V (zaq (v:=(.bool (!decide (a5.2=0)))) V V V)<|wlb V V (zbd (v:=(.bool (!decide (a5.2=0)))) V V) (fun cO=>?_) (fun cO=>?_)
  ·replace C:=(if_neg (zbf cO)).symm.trans C;refine wk V<|wk V<|wk V<|wk V<|wk V<|wa V (zaw (v:=(.bool true)) V V V)<|wnt<|zam true V V (fun _=>?_) (fun G=>by cases G);refine W_sr<|av (.bool false) V V<|wnt<|W_ret<|?_;obtain rfl:=osi C;simp only [Sum.elim_inr] at e;refine th_r<|th_r<|?_;obtain rfl:=osi e;refine rt1 (.bool false) V V V c7 ?_;exact ⟨rfl,bN⟩
  replace C:=(if_pos (zbg cO)).symm.trans C;refine mv bI V V<|wq V (q_str V T22 V V V jT)<|mv q V fV<|wq V (q_str V T22 V V V aT)<|wa V (q_neS V V V)<|wa V (zaq (v:=(.bool (!decide (a5.1=y.1)))) V V V)<|wnt<|zam _ V V (fun cP=>?_) (fun cP=>?_)
  ·replace C:=(if_neg (zbf cP)).symm.trans C;refine W_sr<|av (.bool false) V V<|wnt<|W_ret<|?_;obtain rfl:=osi C;simp only [Sum.elim_inr] at e;refine th_r<|th_r<|?_;obtain rfl:=osi e;refine rt1 (.bool false) V V V c7 ?_;exact ⟨rfl,bN⟩
  replace C:=(if_pos (zbg cP)).symm.trans C;refine zae ?_;obtain rfl:=osi C;exact ⟨_,rfl,mM,fL,fV,lR,lV,m4,gK,c7,bN,aE.weak (SlK.stab (Sc.stab _)) (fun _ f=>⟨f.1,f.2.2.1,trivial⟩),jY,a4,k7,l5,aT.lift (Lift.sub (fun _ f=>⟨f.1,f.2.2.1,trivial⟩)),bA.lift (Lift.sub (fun _ f=>⟨f.1,f.2.2.1,trivial⟩)),bC.lift (Lift.sub (fun _ f=>⟨f.1,f.2.2.1,trivial⟩)),aX.lift (Lift.sub (fun _ f=>⟨f.1,f.2.2.1,trivial⟩))⟩
 rintro _ oX ⟨gR,rfl,dW,dP,fW,g1,g6,gF,gL,gC,eN,f9,f3,d7,f6,fB,eU,eV,eX,eY⟩;simp only [Sum.elim_inl] at e;refine W_th<|W_seq<|?_;obtain ⟨nI,r,e⟩:=bsi e;refine W_mid (fun c d=>∃ gS,nI=.inl gS/\c 6=(.bool B)/\c 15=bp a/\c 17=q/\c 18=p/\c 19=o/\c 23=h/\c 202=undef/\Ext w0 d/\Blk d a 25 (ac i64 t)/\Nw w0 (bp a)/\By d [bp a] q y.1/\By d [bp a] p H/\By d [bp a] o E/\Rw d [bp a] h x.1) ?_ ?_
 ·refine zac<|W_seq<|?_;obtain ⟨nJ,a0,r⟩:=bsi r;refine W_mid (fun c d=>c 6=(.bool B)/\c 15=bp a/\c 17=q/\c 18=p/\c 19=o/\c 20=b/\c 23=h/\c 146=(.bool nJ)/\c 202=undef/\Ext w0 d/\OwK By d [b,bp a] 22 b y.2/\Nw w0 b/\Blk d a 25 (ac i64 t)/\Nw w0 (bp a)/\Nq b (bp a)/\By d [b,bp a] q y.1/\By d [b,bp a] p H/\By d [b,bp a] o E/\Rw d [b,bp a] h x.1) ?_ ?_
  ·refine W_rg<|bse a0 fun h7 iN a0=>wa V (zcp (j:=0) V fieldS0 (by exact dP))<|wq V (zbh (m:=0) V G25 V d7 (zaf _ _) iN)<|wa V (q_eqI V V V)<|wlb V V (zbd (v:=(.bool (decide (h7=1)))) V V) (fun cQ=>?_) (fun cQ=>?_)
   ·replace a0:=ifp cQ a0;refine mv (.bool B) V dW<|wa V (zaw (v:=(.bool B)) V V V)<|av (.bool B) V V<|zag<|?_;obtain rfl:=osi a0;exact ⟨dW,dP,fW,g1,g6,gF,gL,rfl,gC,eN,f9,f3,d7,f6,fB,eU,eV,eX,eY⟩
   replace a0:=ifn cQ a0;refine wk V<|wa V (zaq (v:=(.bool false)) V V V)<|av (.bool false) V V<|zag<|?_;obtain rfl:=osi a0;exact ⟨dW,dP,fW,g1,g6,gF,gL,rfl,gC,eN,f9,f3,d7,f6,fB,eU,eV,eX,eY⟩
  rintro _ o6 ⟨mH,c5,fQ,lN,g2,m1,dS,lB,dR,cD,d4,nY,b2,k2,o2,eT,jH,eW,bB⟩;refine W_th<|zam _ V lB (fun cF=>?_) (fun cF=>?_)
  ·replace r:=(if_pos cF).symm.trans r;refine W_sr<|mv h V dS<|mv b V m1<|?_;obtain ⟨dD,iO,r⟩:=bsi r;refine wls V V (zab (vs:=[h,b]) Tryz.func18 V V V (ar2 V V) (zg2 x.1 y.2 h b dD _ (bB.lift (Lift.sub (L':=[]) (fun _ _=>trivial))) (d4.rd (SlK.stab (Sc.stab _))) iO) ?_);rintro _ o7 ⟨rfl,n4⟩;refine ⟨_,rfl,?_⟩;have h9:=cD.trans n4;refine av (.bool dD) V V<|wnt<|W_ret<|bk_r<|?_;obtain rfl:=osi r;simp only [Sum.elim_inr] at e;refine th_r<|th_r<|?_;obtain rfl:=osi e;refine rt1 (.bool dD) V V V dR ?_;exact ⟨rfl,h9⟩
  replace r:=(if_neg (ne_true_of_eq_false cF)).symm.trans r;refine W_sr<|bse r fun h3 i7 r=>wa V (zcp (j:=0) V fieldS0 (by exact c5))<|wq V (zbh (m:=0) V G25 V b2 (zaf _ _) i7)<|wa V (q_eqI V V V)<|av (.bool (decide (h3=1))) V V<|wnt<|wci r V V (fun r=>?_) (fun r=>?_)
  ·refine W_sr<|mv h V dS<|bse r fun e1 i8 r=>wa V (zcp (j:=1) V zf2 (by exact c5))<|wq V (zbh (m:=0) V G25 V b2 (zaf _ _) i8)<|bse r fun e2 i9 r=>wa V (zcp (j:=2) V zic (by exact c5))<|wq V (zbh (m:=0) V G25 V b2 (zaf _ _) i9)<|mv q V fQ<|mv o V g2<|?_;obtain ⟨dE,iP,r⟩:=bsi r;refine wls V V (zab (vs:=[i64 1,i64 e1,i64 e2,q,o]) Tryz.func19 V V V (ar5 V V V V V) (ref17_Rows_calls 1 e1 e2 y.1 E q o dE _ [b,bp a] (Old.cons (Old.cons (Old.nil _) b2.ltB) d4.lt) (eT.lift (Lift.sub (L':=[]) (fun _ _=>trivial))) (eW.lift (Lift.sub (L':=[]) (fun _ _=>trivial))) iP) ?_);rintro _ mP ⟨dY,rfl,gV,jZ,kJ⟩;refine ⟨_,rfl,?_⟩;have jF:Rw mP [b,bp a] dY dE:=OwK.slk (SlK.stab (Sc.stab _)) _ kJ (fun g z=>(Old.cons (Old.cons (Old.nil _) b2.ltB) d4.lt) g (jZ g z)) (fun _ f=>f.2);replace bB:=bB.lift (le_ gV);have hA:=cD.trans gV;obtain ⟨dG,iR,r⟩:=bsi r;refine wls V V (zab (vs:=[h,dY]) Tryz.func18 V V V (ar2 V V) (zg2 x.1 dE h dY dG _ (bB.lift (Lift.sub (L':=[]) (fun _ _=>trivial))) (jF.lift (Lift.sub (L':=[]) (fun _ _=>trivial))) iR) ?_);rintro _ o9 ⟨rfl,n6⟩;refine ⟨_,rfl,?_⟩;have hB:=hA.trans n6;refine av (.bool dG) V V<|wnt<|W_ret<|bk_r<|?_;obtain rfl:=osi r;simp only [Sum.elim_inr] at e;refine th_r<|th_r<|?_;obtain rfl:=osi e;refine rt1 (.bool dG) V V V dR ?_;exact ⟨rfl,hB⟩
  refine zae<|bk_n<|?_;obtain rfl:=osi r;exact ⟨_,rfl,mH,c5,fQ,lN,g2,dS,dR,cD,b2,k2,eT.lift (Lift.sub (fun _ f=>⟨f.2.1,trivial⟩)),jH.lift (Lift.sub (fun _ f=>⟨f.2.1,trivial⟩)),eW.lift (Lift.sub (fun _ f=>⟨f.2.1,trivial⟩)),bB.lift (Lift.sub (fun _ f=>⟨f.2.1,trivial⟩))⟩
 rintro _ oA ⟨gS,rfl,mI,fH,fR,fX,lS,gH,g7,eJ,bD,f1,bQ,bU,cT,bY⟩;simp only [Sum.elim_inl] at e;refine W_th<|W_sr<|mv p V fX<|wa V (q_len V T22.sl V bU)<|?_;obtain ⟨h4,iA,e⟩:=bsi e;refine wls V V (zb3 (L:=[bp a]) (R:=Sc u8) V T22 V V iA (fun _ _=>rfl) ?_);intro i oB fA aZ hT nS;have b6:=zaa hT;have dB:Nq (bp a) i:=bD.nq aZ;replace cT:=cT.lift (Lift.call _ b6 aZ);have d0:=Nw.ext eJ aZ;have hC:=eJ.trans b6;refine av i V V<|wnt<|W_sr<|mv i V V<|mv o V lS<|wls V V (stp_copy (R:=Sc u8) (off:=0) (dv:=i) (u:=o) (Sc.stab _) [] [bp a] V T22 V V fA (copy_whole fA) (by decide) (Int.natCast_nonneg _) cT (fun _ _ f=>f) oc_u8 ?_);intro oC d6 eG cW;replace bQ:=(bQ.lift (Lift.call _ b6 aZ)).lift cW;replace bU:=(bU.lift (Lift.call _ b6 aZ)).lift cW;replace bY:=(bY.lift (Lift.call _ b6 aZ)).lift cW;replace bD:=(bD.ext b6).other eG dB;have e8:=hC.grown eG d0;refine wnt<|W_seq<|?_;obtain ⟨gW,Z,e⟩:=bsi e;refine W_mid (fun c d=>c 15=bp a/\c 17=q/\c 23=h/\c 31=i/\c 202=undef/\Ext w0 d/\OwK (Sc u8) d [i,bp a] 5 i gW/\Nw w0 i/\Blk d a 25 (ac i64 t)/\Nw w0 (bp a)/\Nq i (bp a)/\By d [i,bp a] q y.1/\Rw d [i,bp a] h x.1) ?_ ?_
 ·refine W_sr<|mv (.bool B) V mI<|wa V (q_not V V)<|wnt<|zam _ V V (fun cG=>?_) (fun cG=>?_)
  ·replace Z:=(if_pos cG).symm.trans Z;refine W_sr<|mv i V V<|wa V (q_len V T22.sl V (d6.rd (Sc.stab _)))<|mv (i64 0) V V<|wnt<|?_;obtain ⟨n7,h0,Z⟩:=bsi Z;refine W_mid (fun c d=>c 15=bp a/\c 17=q/\c 23=h/\c 31=i/\c 202=undef/\Ext w0 d/\OwK (Sc u8) d [i,bp a] 5 i n7/\Nw w0 i/\Blk d a 25 (ac i64 t)/\Nw w0 (bp a)/\Nq i (bp a)/\By d [i,bp a] q y.1/\Rw d [i,bp a] h x.1) ?_ ?_
   ·refine zac<|zau (fun a6 c d=>c 15=bp a/\c 17=q/\c 18=p/\c 23=h/\c 31=i/\c 178=i64 ((copyL h4 0 E).length:Int)/\c 179=i64 a6.2/\c 202=undef/\Ext w0 d/\OwK (Sc u8) d [i,bp a] 5 i a6.1/\Nw w0 i/\Blk d a 25 (ac i64 t)/\Nw w0 (bp a)/\Nq i (bp a)/\By d [i,bp a] q y.1/\By d [i,bp a] p H/\Rw d [i,bp a] h x.1) h0 ?_ ?_
    ·exact ⟨fH,fR,fX,gH,rfl,rfl,rfl,g7,e8,d6,d0,bD,f1,dB.symm,bQ,bU,bY⟩
    rintro a6 _ _ mQ ⟨fI,fS,fY,gI,dU,fP,dQ,g8,eK,aD,cY,c3,f4,d8,bR,aB,bW⟩ T iS;refine W_sr<|wa V (q_ltI V dQ fP)<|wnt<|W_seq<|wci T V V (fun T=>?_) (fun T=>?_)
    ·refine zae<|W_th<|W_seq<|zac<|W_sr<|mv (i64 a6.2) V dQ<|av (i64 a6.2) V V<|wnt<|zba [3,7] [(0,0),(1,0),(2,0),(3,1),(4,0),(5,0),(6,0),(7,1),(8,0),(9,0),(10,2)] mixed (by kernel_rfl) (by kernel_rfl) (by kernel_rfl) (by kernel_rfl) ?_;have aM:=Ext.drew mQ;replace aB:=aB.lift (le_ aM);replace aD:=aD.extL (Sc.stab _) aM (le_ aM);have hE:=eK.trans aM;refine sv i V V dU<|sv (i64 a6.2) V V V<|bse T fun e3 bO T=>sa V V (q_adr V T22 V V (aD.rd (Sc.stab _)) bO)<|sq V V (zao V T22 V (aD.rd (Sc.stab _)) bO)<|sv p V V fY<|sv (i64 a6.2) V V V<|bse T fun e4 eO T=>sa V V (q_adr V T22 V V aB eO)<|sq V V (zao V T22 V aB eO)<|sa V V (zdb V V V)<|sa V V (q_adr V T22 V V (aD.rd (Sc.stab _)) bO)<|wsn V (by kernel_rfl) V V (zci (R:=Sc u8) (u:=u8 (e3^^^e4)) (Sc.stab _) [] [bp a] V T22 V V aD (zf6 (e3^^^e4) bO) V V ?_);intro oD kK eH cX;replace bR:=(bR.lift (le_ aM)).lift cX;replace aB:=aB.lift cX;replace bW:=(bW.lift (le_ aM)).lift cX;replace c3:=(c3.ext aM).other eH d8.symm;have hF:=hE.grown eH cY;refine za1<|bk_n<|W_th<|W_rg<|wa V (zak V dQ V)<|mv (i64 (wI (a6.2+1))) V V<|zag<|?_;obtain rfl:=osi T;exact ⟨_,rfl,fI,fS,fY,gI,dU,fP,rfl,g8,hF,kK,cY,c3,f4,d8,bR,aB,bW⟩
    refine zar<|th_x<|?_;obtain rfl:=osi T;obtain rfl:=iS _ rfl;refine th_x<|bk_x<|?_;exact ⟨fI,fS,gI,dU,g8,eK,aD,cY,c3,f4,d8,bR,bW⟩
   rintro _ oE ⟨lC,lI,m7,mC,lX,i0,kG,jU,kN,k3,l1,jA,jI⟩;obtain rfl:=osi Z;exact ⟨lC,lI,m7,mC,lX,i0,kG,jU,kN,k3,l1,jA,jI⟩
  replace Z:=(if_neg (ne_true_of_eq_false cG)).symm.trans Z;refine zae ?_;obtain rfl:=osi Z;exact ⟨fH,fR,gH,rfl,g7,e8,d6,d0,bD,f1,dB.symm,bQ,bY⟩
 rintro _ oF ⟨fJ,lJ,m8,mD,lY,i1,d5,nZ,c4,o0,o3,jB,cR⟩;refine W_th<|W_sr<|mv h V m8<|bse e fun e5 iB e=>wa V (zcp (j:=1) V zf2 (by exact fJ))<|wq V (zbh (m:=0) V G25 V c4 (zaf _ _) iB)<|bse e fun e6 iC e=>wa V (zcp (j:=2) V zic (by exact fJ))<|wq V (zbh (m:=0) V G25 V c4 (zaf _ _) iC)<|mv q V lJ<|mv i V mD<|?_;obtain ⟨dH,iT,e⟩:=bsi e;refine wls V V (zab (vs:=[i64 0,i64 e5,i64 e6,q,i]) Tryz.func19 V V V (ar5 V V V V V) (ref17_Rows_calls 0 e5 e6 y.1 gW q i dH _ [i,bp a] (Old.cons (Old.cons (Old.nil _) c4.ltB) d5.lt) (jB.lift (Lift.sub (L':=[]) (fun _ _=>trivial))) (d5.rd (Sc.stab _)) iT) ?_);rintro _ mR ⟨dZ,rfl,gX,k0,kL⟩;refine ⟨_,rfl,?_⟩;have jG:Rw mR [i,bp a] dZ dH:=OwK.slk (SlK.stab (Sc.stab _)) _ kL (fun g z=>(Old.cons (Old.cons (Old.nil _) c4.ltB) d5.lt) g (k0 g z)) (fun _ f=>f.2);replace cR:=cR.lift (le_ gX);have hG:=i1.trans gX;obtain ⟨dI,iU,e⟩:=bsi e;refine wls V V (zab (vs:=[h,dZ]) Tryz.func18 V V V (ar2 V V) (zg2 x.1 dH h dZ dI _ (cR.lift (Lift.sub (L':=[]) (fun _ _=>trivial))) (jG.lift (Lift.sub (L':=[]) (fun _ _=>trivial))) iU) ?_);rintro _ oG ⟨rfl,n8⟩;refine ⟨_,rfl,?_⟩;have hH:=hG.trans n8;refine av (.bool dI) V V<|wnt<|W_ret<|?_;obtain rfl:=osi e;refine rt1 (.bool dI) V V V lY ?_;exact ⟨rfl,hH⟩
end Gk

/- The law StripeFresh. No condition. -/
namespace Gk
open Gf
theorem at_loop (n:Nat) (h:n<=1000):iterC (fun s73:List Int×Int =>
((some (n:Int)).bind fun c75 =>
(if s73.2<=c75 then
((appL s73.1 (([s73.2]:List Int))).bind fun c79 => some (.inl (c79,(wI (s73.2+1)))))
else some (.inr s73.1)))) (([]:List Int),1)=some (atI' n):=by
 have hm:1000<=most:=by decide
 have hm2:=zbb
 refine zal (fun i=>(atI' i,((i+1:Nat):Int))) n _ rfl (fun i hi=>?_) ?_
 ·simp only
  rw [obs,if_pos (by omega),zdz _ _ (by rw [atI'_len];simp;omega) rfl,obs,zas (i+1) (by omega)]
  congr 3
  unfold atI'
  rw [List.range_succ,List.map_append];rfl
 ·simp only
  rw [obs,if_neg (by omega)]
theorem zero_loop {l:List (List UInt8)} {n L:Nat} (hl:l.length=n) (hn:n<=1000) (hr:∀ q∈l,q.length=L) (hL:L<=1000):iterC (fun s46:List (List UInt8)×Int =>
(if s46.2<(l.length:Int) then
((idx s46.1 s46.2).bind fun c49 =>
((makeL ((c49.length:Int)) (0:UInt8)).bind fun c51 => some (.inl ((s46.1.set (s46.2:Int).toNat c51),(wI (s46.2+1))))))
else some (.inr s46.1))) (l,0)=some ((plc n).map fun _=>List.replicate L 0):=by
 have hm:1000<=most:=by decide
 have hm2:=zbb
 have e:(plc n).map (fun _=>List.replicate L (0:UInt8))=(List.range n).map fun _=>List.replicate L 0:=by
  unfold plc;rw [List.map_map];rfl
 rw [e]
 refine rows_loop l n hl (fun _=>List.replicate L 0) (fun i hi=>?_) (fun s=>by simp;omega)
 simp only
 have hU:=zih l (fun _=>List.replicate L 0) i
 have hG:=zjw l (fun _=>List.replicate L 0) i i (by omega)
 rw [if_neg (by omega)] at hG
 generalize updR l (fun _=>List.replicate L 0) i=s at hU hG ⊢
 rw [if_pos (by omega),zcw (by omega),obs,hG,hr _ (zds (by omega)),zbj _ _ (by omega),obs,zas i (by omega),Int.toNat_natCast]
theorem pplus_zero (y:List UInt8) (L:Nat) (h:y.length=L):pplus (List.replicate L 0) y=y:=by
 refine zb2 (by rw [zgp];simp;omega) fun i=>?_
 rw [zbo,co_rep];simp
section
variable {t n c : Nat}
theorem Fresh_shr (h:OkS 0 t n c) (f:UInt8->List UInt8) (hf:∀ x,(f x).length=440) (q:List UInt8) (hq:q.length=needS 0 t):zce (shp 0 t n c) true ((plc n).map f) q=some ((plc n).map fun x=>pplus (f x) (shr (List.replicate 440 0) q (t - 1) x),0):=by
 have hmo:(1000000:Nat)<=most:=by decide
 have h1:=h.t1;have h2:=h.tn;have h3:=h.n255
 have hlen:((plc n).map f).length=n:=by rw [List.length_map,zca]
 have hany:anyO (fun y=>zbe y (shp 0 t n c)) ((plc n).map f)=some false:=by
  rw [zig (fun y=>zbe y (shp 0 t n c)) (fun q=>!decide (q.length=rowSz 0 t)) _ fun q _=>by
   unfold zbe
   rw [lenS,obs,RowSize_ok h,obs]
   by_cases e:q.length=rowSz 0 t
   ·rw [decide_eq_true (by omega),decide_eq_true e]
   ·rw [decide_eq_false (by omega),decide_eq_false e]]
  congr 1
  rw [List.any_eq_false]
  intro q hq2
  obtain ⟨x,_,rfl⟩:=List.mem_map.1 hq2
  rw [decide_eq_true (show (f x).length=rowSz 0 t from hf x)];decide
 have hq2:q.length=(t - 1) * 440:=by rw [hq];simp [needS]
 have hle:(t - 1) * 440<=200000:=by omega
 have hD:=Delta_ok (t - 1) q (plc n) 440 (by omega) hq2 (by omega) (by omega) (zero_plc n h3) (by rw [zca];omega)
 rw [show t - 1+1=t by omega] at hD
 have hD':zfm true (t:Int) q (plc n) 440=some ((plc n).map (shr (List.replicate 440 0) q (t - 1)),0):=hD
 unfold zce
 rw [lenS,obs,checkS h q hq,obs,if_pos rfl,ixS2,obs,if_pos (by omega),zi4 (by omega),obs,hany,obs,if_neg (by decide),ixS0,obs,if_pos (by rfl),ixS1,obs,obs,placesS h,obs,hD',obs,if_pos rfl]
 simp only
 rw [Add_map (plc n) f (shr (List.replicate 440 0) q (t - 1)) 440 hf (fun x=>by rw [zef,List.length_replicate]) (by omega) (by rw [zca];omega),obs]
theorem Fresh_lens (h:OkS 1 t n c) (f:UInt8->List UInt8) (hf:∀ x,(f x).length=rowSz 1 t) (q:List UInt8) (hq:q.length=32) {X:Option (List (List UInt8)×Int)} (hX:((zcu (some ((shp 1 t n c,true,none,(plc t).map f,[]):StV))).bind fun r37 =>
(if r37=true then
((zfj ((plc n).map f) ((plc n).map f)).bind fun r40 => some (r40.1,r40.2))
else
((zcv (some ((shp 1 t n c,true,none,(plc t).map f,[]):StV))).bind fun r45 =>
(if r45.2=0 then
((some ()).bind fun (c48:Unit) =>
((zbr (shp 1 t n c) true r45.1 q).bind fun r49 => some (r49.1,r49.2)))
else some (([]:List (List UInt8)),r45.2)))))=X):zce (shp 1 t n c) true ((plc n).map f) q=X:=by
 have hmo:(1000000:Nat)<=most:=by decide
 have h1:=h.t1;have h2:=h.tn;have h3:=h.n255
 have hlen:((plc n).map f).length=n:=by rw [List.length_map,zca]
 have hany:anyO (fun y=>zbe y (shp 1 t n c)) ((plc n).map f)=some false:=by
  rw [zig (fun y=>zbe y (shp 1 t n c)) (fun q=>!decide (q.length=rowSz 1 t)) _ fun q _=>by
   unfold zbe
   rw [lenS,obs,RowSize_ok h,obs]
   by_cases e:q.length=rowSz 1 t
   ·rw [decide_eq_true (by omega),decide_eq_true e]
   ·rw [decide_eq_false (by omega),decide_eq_false e]]
  congr 1
  rw [List.any_eq_false]
  intro q hq2
  obtain ⟨x,_,rfl⟩:=List.mem_map.1 hq2
  rw [decide_eq_true (hf x)];decide
 have htk:((plc n).map f).take t=(plc t).map f:=by
  rw [← List.map_take]
  congr 1
  unfold plc
  rw [← List.map_take,List.take_range]
  congr 2;omega
 unfold zce
 rw [lenS,obs,checkS h q (by rw [hq];rfl),obs,if_pos rfl,ixS2,obs,if_pos (by omega),zi4 (by omega),obs,hany,obs,if_neg (by decide),ixS0,obs,if_neg (by omega),obs,ixS1,obs,subL_0m _ t (by omega),obs,htk]
 exact hX
end
theorem xor_loop (r q:List UInt8) (n:Nat) (hr:r.length=n) (hq:q.length=n) (hn:n<=1000000):iterC (fun s122:List UInt8×Int =>
(if s122.2<(q.length:Int) then
((idx s122.1 s122.2).bind fun c127 =>
((idx r s122.2).bind fun c128 => some (.inl ((s122.1.set (s122.2:Int).toNat ((c127^^^c128))),(wI (s122.2+1))))))
else some (.inr s122.1))) (q,0)=some (pplus r q):=by
 have hm2:=zbb
 have hm:1000000<=most:=by decide
 have hlp:(pplus r q).length=n:=by rw [zgp];omega
 refine zal (fun i=>(updB q (co (pplus r q)) i,(i:Int))) n _ (by rw [updB_zero];rfl) (fun i hi=>?_) ?_
 ·simp only
  rw [if_pos (by omega),idx_updB q _ i i (by omega),if_neg (by omega),obs,za4 (by omega),obs,Int.toNat_natCast,zas i (by omega)]
  have:=updB_succ q (co (pplus r q)) i (by omega)
  rw [← this,zbo,xor_comm]
 ·simp only
  rw [if_neg (by omega)]
  congr 2
  have:=updB_end q (co (pplus r q))
  rw [hq] at this
  rw [this]
  refine zb2 (by simp [hlp]) fun i=>?_
  rw [zc3]
  by_cases hi:i<n
  ·rw [if_pos hi]
  ·rw [if_neg hi,co_ge (by omega)]
theorem law17_StripeFresh_true (mode t n : Int) (b random more : List UInt8) (blank : Bool) (lm : -9223372036854775808 <= mode) (hm : mode <= 9223372036854775807) (lt : -9223372036854775808 <= t) (ht : t <= 9223372036854775807) (ln : -9223372036854775808 <= n) (hn : n <= 9223372036854775807) : zes mode t n b random more blank = some true := by
  unfold zes
  have hmo : (1000000 : Nat) <= most := by decide
  have hmo2 := zbb
  rw [lives17, obs, if_neg (by decide)]
  by_cases h1 : 500 < (b.length : Int)
  · rw [if_pos h1]; rfl
  rw [if_neg h1]
  by_cases h2 : 500 < (random.length : Int)
  · rw [if_pos h2]; rfl
  rw [if_neg h2]
  by_cases h3 : 500 < (more.length : Int)
  · rw [if_pos h3]; rfl
  rw [if_neg h3, obs, Sum.elim_inl]
  obtain ⟨m', t', n', c', hOf, hok', hn7⟩ := Of_ok mode t n 0
  have hok := hok'
  obtain ⟨B, hB, hBl⟩ := Block_ok b (by omega)
  obtain ⟨r, hR, hRl⟩ := Random_ok hok hn7 random (by omega)
  obtain ⟨q, hQ, hQl⟩ := Random_ok hok hn7 more (by omega)
  have k1 := hok.t1; have k2 := hok.tn; have k3 := hok.n255
  rw [hOf, obs, show lenA 4 (List.replicate 4 (0 : Int)) = some () by rfl, obs, lenS, obs, show field_New = some true by rfl, obs, obs, hB, obs, hR, obs, hQ, obs, obs, Spread_ok hok B r hBl hRl, obs]
  simp only
  rw [ixS0, ixS1, ixS2]
  rcases hok.m2 with rfl | rfl
  · -- shares
    rw [rowsS_shr]
    have hlr : ((plc n').map (shr B r (t' - 1))).length = n' := by rw [List.length_map, zca]
    obtain ⟨B1, s1, f0, hx42, hB1, hs1, hf0, hF⟩ : ∃ (B1 s1 : List UInt8) (f0 : UInt8 -> List UInt8), (if blank = true then
((makeL 440 (0 : UInt8)).bind fun c44 =>
((iterC (fun s46 : List (List UInt8) × Int =>
(if s46.2 < (((plc n').map (shr B r (t' - 1))).length : Int) then
((idx s46.1 s46.2).bind fun c49 =>
((makeL ((c49.length : Int)) (0 : UInt8)).bind fun c51 => some (.inl ((s46.1.set (s46.2 : Int).toNat c51), (wI (s46.2 + 1))))))
else some (.inr s46.1))) ((plc n').map (shr B r (t' - 1)), 0)).bind fun x46 => some (c44, x46)))
else some (B, (plc n').map (shr B r (t' - 1)))) = some (B1, (plc n').map f0) /\ B1.length = 440 /\ (if (!blank) = true then some (pplus r q) else some q) = some s1 /\ (∀ x, (f0 x).length = 440) /\ ∀ x, pplus (f0 x) (shr (List.replicate 440 0) q (t' - 1) x) = shr B1 s1 (t' - 1) x := by
      cases blank with
      | true =>
        refine ⟨List.replicate 440 0, q, fun _ => List.replicate 440 0, ?_, List.length_replicate, by rfl, fun x => List.length_replicate, fun x => pplus_zero _ 440 (by rw [zef, List.length_replicate])⟩
        rw [if_pos rfl, show makeL 440 (0 : UInt8) = some (List.replicate 440 0) from zbj 440 _ (by omega), obs, zero_loop hlr (by omega) (L := 440) (fun y hy => by obtain ⟨x, _, rfl⟩ := List.mem_map.1 hy; rw [zef, hBl]) (by omega), obs]
      | false =>
        refine ⟨B, pplus r q, shr B r (t' - 1), by rw [if_neg (by decide)], hBl, by rfl, fun x => by rw [zef, hBl], fun x => ?_⟩
        rw [shr_add _ _ _ _ _ _ (by rw [hBl, List.length_replicate])]
        congr 1
        refine zb2 (by rw [zgp, List.length_replicate]; omega) fun i => ?_
        rw [zbo, co_rep, xor_comm]; simp
    rw [hx42, obs, obs]
    simp only
    rw [Fresh_shr hok f0 hf0 q hQl, obs, show (plc n').map (fun x => pplus (f0 x) (shr (List.replicate 440 0) q (t' - 1) x)) = (plc n').map (shr B1 s1 (t' - 1)) from List.map_congr_left fun x _ => hF x]
    have hlf : ((plc n').map (shr B1 s1 (t' - 1))).length = n' := by rw [List.length_map, zca]
    simp only
    rw [if_pos trivial, if_pos trivial, obs, if_pos (by omega), obs, Sum.elim_inl, at_loop n' (by omega), obs, obs]
    obtain ⟨md, w, eG, hat⟩ := Gather_told hok (Told.shr k1 B1 s1 hB1)
    rw [eG, obs]
    simp only
    rw [Block_at t' n' c' md _ w B1 (by rw [hat, shr_zero]), obs]
    simp only
    rw [if_pos trivial, if_pos trivial, if_pos trivial, obs, Sum.elim_inl, obs, if_neg (by omega), obs, if_neg (by decide), obs, if_neg (by omega), obs, Sum.elim_inl, zbj _ _ (by rw [hRl]; unfold needS; split <;> omega), obs]
    have hcopy : copyL (List.replicate r.length (0 : UInt8)) 0 q = q := by
      rw [hRl, ← hQl]
      exact copyL_all 0 q
    rw [hcopy]
    have hs2 : (if (!blank) = true then
((iterC (fun s122 : List UInt8 × Int =>
(if s122.2 < (q.length : Int) then
((idx s122.1 s122.2).bind fun c127 =>
((idx r s122.2).bind fun c128 => some (.inl ((s122.1.set (s122.2 : Int).toNat ((c127 ^^^ c128))), (wI (s122.2 + 1))))))
else some (.inr s122.1))) (q, 0)).bind fun x122 => some x122)
else some q) = some s1 := by
      rw [xor_loop r q (needS 0 t') hRl hQl (by unfold needS; split <;> omega), obs]
      exact hs1
    rw [hs2, obs, obs, obs]
    have hs1l : s1.length = needS 0 t' := by
      cases blank with
      | true => obtain rfl := Option.some.inj hs1; exact hQl
      | false => obtain rfl := Option.some.inj hs1; rw [zgp]; omega
    have := rRows_ok hok B1 s1 hB1 hs1l
    rw [show ((0 : Nat) : Int) = 0 from rfl] at this
    rw [this, obs, rowsS_shr, same_refl _ (by omega), obs]
  · -- pieces
    have hr32 : r.length = 32 := by rw [hRl]; rfl
    have hq32 : q.length = 32 := by rw [hQl]; rfl
    obtain ⟨z1, z2⟩ := rowSz_pos hok
    rw [rowsS_pc k1]
    have hlr : ((plc n').map (pcF t' (pkg B r))).length = n' := by rw [List.length_map, zca]
    cases blank with
    | true =>
      rw [if_pos rfl, show makeL 440 (0 : UInt8) = some (List.replicate 440 0) from zbj 440 _ (by omega), obs, zero_loop hlr (by omega) (L := rowSz 1 t') (fun y hy => by obtain ⟨x, _, rfl⟩ := List.mem_map.1 hy; exact (Told.pc k1 _).len x) z2, obs, obs, obs]
      simp only
      have hz := Block_zero hok none [] t' (by omega)
      have hadd : zfj ((plc n').map fun _ => List.replicate (rowSz 1 t') 0) ((plc n').map fun _ => List.replicate (rowSz 1 t') 0) = some ((plc n').map fun _ => List.replicate (rowSz 1 t') 0, 0) := by
        rw [Add_map (plc n') _ _ (rowSz 1 t') (fun x => by simp) (fun x => by simp) (by omega) (by rw [zca]; omega)]
        congr 2
        exact List.map_congr_left fun x _ => pplus_zero _ _ (by simp)
      rw [Fresh_lens hok (fun _ => List.replicate (rowSz 1 t') 0) (fun x => by simp) q hq32 (X := some ((plc n').map fun _ => List.replicate (rowSz 1 t') 0, 0)) (by rw [hz.1, obs, if_pos rfl, hadd, obs]), obs]
      have hlf : ((plc n').map fun _ => List.replicate (rowSz 1 t') (0 : UInt8)).length = n' := by rw [List.length_map, zca]
      simp only
      rw [if_pos trivial, if_pos trivial, obs, if_pos (by omega), obs, Sum.elim_inl, at_loop n' (by omega), obs, obs]
      obtain ⟨md, w, eG, hat⟩ := Gather_told hok (Told.zero t' (rowSz 1 t'))
      rw [eG, obs]
      simp only
      rw [(Block_zero hok (some md) w t' (by omega)).2, obs]
      simp only
      rw [if_pos trivial, if_pos trivial, if_pos trivial, obs, Sum.elim_inl, obs, if_pos (by rfl), obs, if_pos rfl, same_refl _ (by omega), obs, obs, Sum.elim_inr]
    | false =>
      rw [if_neg (by decide), obs, obs]
      simp only
      have hp := Block_parts hok none [] B r hBl hr32
      rw [← parts_pc k1 (by omega) (pkg B r)] at hp
      have hsp := Spread_ok hok B q hBl hQl
      rw [rowsS_pc k1] at hsp
      rw [Fresh_lens hok (pcF t' (pkg B r)) (Told.pc k1 _).len q hq32 (X := some ((plc n').map (pcF t' (pkg B q)), 0)) (by rw [hp.1, obs, if_neg (by decide), hp.2, obs, if_pos rfl, obs, hsp, obs]), obs]
      have hlf : ((plc n').map (pcF t' (pkg B q))).length = n' := by rw [List.length_map, zca]
      simp only
      rw [if_pos trivial, if_pos trivial, obs, if_pos (by omega), obs, Sum.elim_inl, at_loop n' (by omega), obs, obs]
      obtain ⟨md, w, eG, hat⟩ := Gather_told hok (Told.pc k1 (pkg B q))
      rw [eG, obs]
      have hp2 := Block_parts hok (some md) w B q hBl hq32
      rw [← parts_pc k1 (by omega) (pkg B q)] at hp2
      simp only
      rw [hp2.2, obs]
      simp only
      rw [if_pos trivial, if_pos trivial, if_pos trivial, obs, Sum.elim_inl, obs, if_pos (by rfl), obs, if_neg (by decide), obs, if_pos (by rfl), obs, obs]
      have := rRows_ok hok B q hBl hQl
      rw [show ((1 : Nat) : Int) = 1 from rfl] at this
      rw [this, obs, rowsS_pc k1, same_refl _ (by omega), obs, obs, Sum.elim_inr]
end Gk

/- Parts Gn, Fg, H4, Gj, Mb, Fb, Gp, L4a, Gq, Gw, Ho, Fr, Go, I4, one behind the other. What is proved: said at the head of each part. No condition beside those said there. -/
import Derived.Test.YtagebkmnmpohoaaRows
import Derived.Orders
import Derived.Deep.Draws
import Derived.Laws.World
import Derived.KernelRfl
import Derived.OrdersIn
import Derived.TacticsIn
import Derived.RangeFuncCalls
import Derived.Deep.LoopGhost
import Derived.Tactics
import Derived.Sort.LoopGhostIn
import Derived.RangeFuncLeaves
import Derived.RangeFuncNested
import Derived.RangeFuncRecord
import Derived.Laws.Sem
import Derived.OwnWalk
import Derived.RangeFuncWrites
import Derived.Laws.IdiomCopy
import Derived.WalkKit
import Derived.ProofKit
import Derived.OpenShut
import Derived.ChangeOld
import Derived.Below
import Derived.Test.YtagebkmnmpohoaaProg
import Derived.MapKept
import Derived.Laws.CopyRow
import Derived.Laws.Cells
import Derived.Lib.AppendZerosOnto
import Derived.Test.YtagebkmnmpohoaaZPMatrixNamed1
/- Rows that are owned with all that lies in them; matrices behind pointers. No condition. -/
set_option linter.unusedVariables false
set_option linter.unusedSimpArgs false
namespace Gk
open Go Go.RowKit
def Apt (a b : Value) : Prop := ∀ k, oB a = some k → oB b ≠ some k
theorem Apt.symm {a b : Value} (h : Apt a b) : Apt b a := fun k h1 h2 => h k h2 h1
def OwD (w : World) (e1 e2 : TypeId) (G u : Value) (ls : List (List UInt8)) : Prop :=
  ∃ us : List Value, G = .tuple (u :: us).toArray ∧ Ow w e1 u us ∧ us.length = ls.length ∧ (∀ (i : Nat) (h : i < us.length) (h' : i < ls.length), OwK (Sc u8) w [] e2 us[i] ls[i]) ∧ (u :: us).Pairwise Apt
theorem hs_grp {u : Value} {us : List Value} {k : Nat} : Hs (.tuple (u :: us).toArray) k ↔ oB u = some k ∨ ∃ x ∈ us, oB x = some k := by
  constructor
  · intro h
    obtain ⟨x, hx, e⟩ := hs_tup h
    simp only [List.mem_cons] at hx
    rcases hx with rfl | hx
    · exact .inl e
    · exact .inr ⟨x, hx, e⟩
  · rintro (h | ⟨x, hx, h⟩)
    · exact .inr ⟨_, rfl, u, by simp, h⟩
    · exact .inr ⟨_, rfl, x, by simp [hx], h⟩
theorem OwK.ltO {α : Type} {R : World → List Value → Value → α → Prop} {w : World} {L : List Value} {e : TypeId} {v : Value} {l : List α} (h : OwK R w L e v l) {k : Nat} (hk : oB v = some k) : k < w.heap.size := h.lt k (.inl hk)
theorem OwD.lt {w : World} {e1 e2 : TypeId} {G u : Value} {ls : List (List UInt8)} (h : OwD w e1 e2 G u ls) : ∀ k, Hs G k → k < w.heap.size := by
  obtain ⟨us, rfl, h1, hl, h2, _⟩ := h
  intro k hk
  rcases hs_grp.1 hk with hk | ⟨x, hx, hk⟩
  · exact h1.lt k (.inl hk)
  · obtain ⟨i, hi, rfl⟩ := List.getElem_of_mem hx
    exact (h2 i hi (by omega)).ltO hk
theorem OwD.ext {w w' : World} {e1 e2 : TypeId} {G u : Value} {ls : List (List UInt8)} (h : OwD w e1 e2 G u ls) (x : Ext w w') : OwD w' e1 e2 G u ls := by
  obtain ⟨us, hG, h1, hl, h2, h3⟩ := h
  exact ⟨us, hG, h1.ext x, hl, fun i a b => (h2 i a b).ext (Sc.stab _) x, h3⟩
theorem OwK.keptR {w w' : World} {row : Option Nat} {e : TypeId} {v : Value} {l : List UInt8} (h : OwK (Sc u8) w [] e v l) (hg : w.grownBy w' row) (hne : ∀ k, oB v = some k → row ≠ some k) : OwK (Sc u8) w' [] e v l := by
  obtain ⟨us, h1, h2, h3⟩ := h
  exact ⟨us, h1.kept hg hne, h2, h3⟩
theorem OwD.nq {w : World} {e1 e2 : TypeId} {G u v : Value} {ls : List (List UInt8)} (h : OwD w e1 e2 G u ls) (hn : Nw w v) : Nq G v := fun k hu hv => by
  have := h.lt k hu; have := hn k hv; omega
theorem OwD.rw {w : World} {e1 e2 : TypeId} {G u : Value} {ls : List (List UInt8)} (h : OwD w e1 e2 G u ls) (L : List Value) (ha : ∀ k, Hs G k → Av L k) : Rw w L u ls := by
  obtain ⟨us, rfl, h1, hl, h2, _⟩ := h
  refine ⟨us, h1.sl L (fun k hk => ?_), hl, fun i a b => ((h2 i a b).scal L).slk (Sc.stab _) L (fun k hk => ?_) (fun _ h => h)⟩
  · rcases h1 with ⟨p, rfl, _⟩ | ⟨g, cap, rfl, _⟩ <;> exact ha k (hs_grp.2 (.inl (hs_sl hk)))
  · obtain ⟨us', h4, _⟩ := h2 i a b
    refine ha k (hs_grp.2 (.inr ⟨_, List.getElem_mem a, ?_⟩))
    rcases h4 with ⟨p, e, _⟩ | ⟨g, cap, e, _⟩ <;> rw [e] at hk ⊢ <;> exact hs_sl hk
theorem OwD.rd {w : World} {e1 e2 : TypeId} {G u : Value} {ls : List (List UInt8)} (h : OwD w e1 e2 G u ls) : Rw w [] u ls := h.rw [] (fun _ _ => trivial)
def DAt (G : Value) (i : Nat) (x : Value) : Prop := ∃ u us, G = .tuple (u :: us).toArray ∧ us[i]? = some x
theorem tup_inj {a b : List Value} (h : (Value.tuple a.toArray) = .tuple b.toArray) : a = b := by
  have := Value.tuple.inj h
  exact congrArg Array.toList this
theorem OwD.row {w : World} {e1 e2 : TypeId} {G u x : Value} {ls : List (List UInt8)} {i : Nat} (h : OwD w e1 e2 G u ls) (hx : DAt G i x) : ∃ (h : i < ls.length), OwK (Sc u8) w [] e2 x ls[i] ∧ (∀ k, Hs x k → Hs G k) := by
  obtain ⟨us, rfl, h1, hl, h2, h3⟩ := h
  obtain ⟨u', us', e, hi⟩ := hx
  obtain ⟨rfl, rfl⟩ := List.cons.inj (tup_inj e)
  obtain ⟨hlt, rfl⟩ := List.getElem?_eq_some_iff.1 hi
  refine ⟨by omega, h2 i hlt (by omega), fun k hk => hs_grp.2 (.inr ⟨_, List.getElem_mem hlt, ?_⟩)⟩
  obtain ⟨us', h4, _⟩ := h2 i hlt (by omega)
  rcases h4 with ⟨p, e, _⟩ | ⟨g, cap, e, _⟩ <;> rw [e] at hk ⊢ <;> exact hs_sl hk
theorem OwD.rowrd {w : World} {e1 e2 : TypeId} {G u x : Value} {ls : List (List UInt8)} {i : Int} {r : List UInt8} (h : OwD w e1 e2 G u ls) (hx : DAt G i.toNat x) (hi : idx ls i = some r) : By w [] x r := by
  obtain ⟨hlt, ho, _⟩ := h.row hx
  obtain ⟨_, h2, rfl⟩ := idx_some.1 hi
  exact ho.rd (Sc.stab _)
theorem OwD.shape {w : World} {e1 e2 : TypeId} {G u : Value} {ls : List (List UInt8)} (h : OwD w e1 e2 G u ls) : ∃ p n c, u = .slice p n c := by
  obtain ⟨us, _, h1, _⟩ := h
  rcases h1 with ⟨p, rfl, _⟩ | ⟨g, cap, rfl, _⟩
  · exact ⟨_, _, _, rfl⟩
  · exact ⟨_, _, _, rfl⟩
theorem OwD.upd {w w' : World} {e1 e2 : TypeId} {G u x : Value} {ls : List (List UInt8)} {i : Nat} {r : List UInt8} {L : List Value} (h : OwD w e1 e2 G u ls) (hx : DAt G i x) (ho : OwK (Sc u8) w' L e2 x r) (hg : Gr w w' x) : OwD w' e1 e2 G u (ls.set i r) ∧ Gr w w' G := by
  have hrow := h.row hx
  obtain ⟨us, rfl, h1, hl, h2, h3⟩ := h
  obtain ⟨u', us', e, hi⟩ := hx
  obtain ⟨rfl, rfl⟩ := List.cons.inj (tup_inj e)
  obtain ⟨hlt, rfl⟩ := List.getElem?_eq_some_iff.1 hi
  obtain ⟨_, hor, hsub⟩ := hrow
  obtain ⟨row, hgr, hr⟩ := hg
  have hro : ∀ k, row = some k → oB us[i] = some k := fun k hk => by
    have h4 := hr k hk
    obtain ⟨us', h5, _⟩ := hor
    rcases h5 with ⟨p, e, _⟩ | ⟨g, cap, e, _⟩ <;> rw [e] at h4 ⊢ <;> exact hs_sl h4
  refine ⟨⟨us, rfl, h1.kept hgr (fun k hk e => ?_), by simpa using hl, fun j a b => ?_, h3⟩, ⟨row, hgr, fun k hk => hsub k (hr k hk)⟩⟩
  · exact (List.rel_of_pairwise_cons h3 (List.getElem_mem hlt)) k hk (hro k e)
  · have hj : j < ls.length := by simpa using b
    rw [List.getElem_set]
    by_cases hij : i = j
    · subst hij; rw [if_pos rfl]; exact ho
    · rw [if_neg hij]
      refine (h2 j a hj).keptR hgr (fun k hk e => ?_)
      have h4 := (List.pairwise_cons.1 h3).2
      rcases Nat.lt_or_gt_of_ne hij with h5 | h5
      · exact (List.pairwise_iff_getElem.1 h4 i j hlt a h5) k (hro k e) hk
      · exact (List.pairwise_iff_getElem.1 h4 j i a hlt h5) k hk (hro k e)
theorem OwD.relist {G G' x : Value} (hG : ∀ k, Hs G' k → Hs G k ∨ Hs x k) {v : Value} (h1 : Nq v G) (h2 : Nq v x) : Nq v G' := fun k hk h' => (hG k h').elim (h1 k hk) (h2 k hk)
theorem idv_eq {w : World} {L : List Value} {e : TypeId} {v : Value} {us : List Value} : OwK (Sc (fun x : Value => x)) w L e v us ↔ Ow w e v us := by
  constructor
  · rintro ⟨us', h, hl, he⟩
    have : us' = us := List.ext_getElem hl (fun i a b => he i a b)
    rw [← this]; exact h
  · intro h; exact ⟨us, h, rfl, fun _ _ _ => rfl⟩
theorem idv_stab : Stab (Sc (fun x : Value => x)) := Sc.stab _
section
variable {P : Program} {f : Nat → Value} {w : World} {o : Oper}
theorem stp_makeD (L : List Value) {x y : Operand} {t e1 e2 : TypeId} {bytes : Nat} {n : Int} {ls : List (List UInt8)} (ho : o.op = .makeSlice t x y) (T : TyS P t e1 (.slice none 0 0) bytes) (hx : ev f x = i64 n) (hy : ev f y = i64 n) (hl : makeL n ([] : List UInt8) = some ls)
    {K : Value → World → Prop} (hk : ∀ G v w', OwD w' e1 e2 G v ls → Nw w G → w.grownBy w' none → Lift w w' L (G :: L) → K v w') : Stp P o f w K := by
  have hl2 : makeL n (Value.slice none 0 0) = some (List.replicate ls.length (.slice none 0 0)) := by
    unfold makeL at hl ⊢
    split at hl
    · rename_i h; rw [if_pos h]; obtain rfl := Option.some.inj hl; simp
    · cases hl
  have hls : ls = List.replicate ls.length [] := by
    unfold makeL at hl
    split at hl
    · obtain rfl := Option.some.inj hl; simp
    · cases hl
  refine stp_make (L := L) (R := Sc (fun x : Value => x)) ho T hx hy hl2 (fun _ _ => rfl) ?_
  intro v w' h hn hg _
  have h := idv_eq.1 h
  have hd : OwD w' e1 e2 (.tuple (v :: List.replicate ls.length (.slice none 0 0)).toArray) v ls := by
    refine ⟨_, rfl, h, by simp, fun i a b => ?_, ?_⟩
    · have h1 : (List.replicate ls.length (Value.slice none 0 0))[i] = .slice none 0 0 := by simp
      have h2 : ls[i] = [] := by
        have := congrArg (·[i]?) hls
        simp only [List.getElem?_eq_getElem b, List.getElem?_replicate, if_pos b] at this
        exact Option.some.inj this
      rw [h1, h2]; exact OwK.nil _ _ _ _
    · rw [List.pairwise_cons]
      refine ⟨fun a ha k _ hk2 => ?_, ?_⟩
      · rw [List.mem_replicate.1 ha |>.2] at hk2; cases hk2
      · refine List.pairwise_replicate.2 (.inr fun k hk => by cases hk)
  have hnG : Nw w (.tuple (v :: List.replicate ls.length (.slice none 0 0)).toArray) := fun k hk => by
    rcases hs_grp.1 hk with hk | ⟨x, hx, hk⟩
    · exact hn k (.inl hk)
    · rw [List.mem_replicate.1 hx |>.2] at hk; cases hk
  exact hk _ v w' hd hnG hg (Lift.new L hg hnG)
theorem loadD {x : Operand} {t e1 e2 : TypeId} {z : Value} {bytes : Nat} {i : Int} {G u : Value} {ls : List (List UInt8)} {r : List UInt8} (ho : o.op = .load e1 x) (T : TyS P t e1 z bytes) (hx : ev f x = adr u i.toNat) (h : OwD w e1 e2 G u ls) (hi : idx ls i = some r) :
    ∃ v, Qt P o f w v ∧ DAt G i.toNat v := by
  obtain ⟨us, rfl, h1, hl, h2, h3⟩ := h
  obtain ⟨h0, hlt, _⟩ := idx_some.1 hi
  have hid : idx us i = some (us[i.toNat]'(by omega)) := by unfold idx; rw [if_pos h0]; simp
  exact ⟨us[i.toNat]'(by omega), q_loadS (enc := fun x : Value => x) ho T hx ((idv_eq (L := []).2 h1).rd idv_stab) hid, u, us, rfl, by simp⟩
section
variable {ops : Array Oper} {K : (Nat → Value) → World → Prop} {rr : List Oper} {d : Nat}
theorem wlq_loadD {x : Operand} {t e1 e2 : TypeId} {z : Value} {bytes : Nat} {i : Int} {G u : Value} {ls : List (List UInt8)} {r : List UInt8} (hw : wantF ops f o = true) (hd : o.dst = some d) (ho : o.op = .load e1 x) (T : TyS P t e1 z bytes) (hx : ev f x = adr u i.toNat) (h : OwD w e1 e2 G u ls) (hi : idx ls i = some r)
    (hk : ∀ v, DAt G i.toNat v → wl P ops K rr (upd f d v) w) : wl P ops K (o :: rr) f w := by
  obtain ⟨v, h1, h2⟩ := loadD ho T hx h hi
  exact wlq hw hd h1 (hk v h2)
end
section
variable {ops : Array Oper} {qs : List Nat} {K : (Nat → Value) → World → Prop} {rr : List (Nat × Nat)} {d j : Nat}
theorem wsq_loadD {x : Operand} {t e1 e2 : TypeId} {z : Value} {bytes : Nat} {i : Int} {G u : Value} {ls : List (List UInt8)} {r : List UInt8} (hj : ops[j]? = some o) (hw : wantF ops f o = true) (hd : o.dst = some d) (ho : o.op = .load e1 x) (T : TyS P t e1 z bytes) (hx : ev f x = adr u i.toNat) (h : OwD w e1 e2 G u ls) (hi : idx ls i = some r)
    (hk : ∀ v, DAt G i.toNat v → ws P ops qs K rr (upd f d v) w) : ws P ops qs K ((j, 1) :: rr) f w := by
  obtain ⟨v, h1, h2⟩ := loadD ho T hx h hi
  exact wsq hj hw hd h1 (hk v h2)
end
theorem stp_storeD (L1 L2 : List Value) {x y : Operand} {t e1 e2 : TypeId} {z v : Value} {bytes : Nat} {i k : Int} {G u : Value} {ls : List (List UInt8)} {r : List UInt8} {a c : UInt8} (ho : o.op = .store e2 x y) (T : TyS P t e2 z bytes) (hx : ev f x = adr v k.toNat) (hy : ev f y = u8 a)
    (h : OwD w e1 e2 G u ls) (hd : DAt G i.toNat v) (hi : idx ls i = some r) (hc : idx r k = some c)
    {K : Value → World → Prop} (hk : ∀ w', OwD w' e1 e2 G u (ls.set i.toNat (r.set k.toNat a)) → Gr w w' G → Lift w w' (L1 ++ G :: L2) (L1 ++ G :: L2) → K undef w') : Stp P o f w K := by
  obtain ⟨hlt, hor, _⟩ := h.row hd
  obtain ⟨_, _, rfl⟩ := idx_some.1 hi
  refine stp_store (R := Sc u8) (u := u8 a) (Sc.stab _) [] [] ho T hx hy (hor.scal _) (put_of a hc) rfl rfl ?_
  intro w' h' hg _
  obtain ⟨q1, q2⟩ := h.upd hd h' hg
  exact hk w' q1 q2 (Lift.own L1 L2 q2 (Nx.refl _ _))
theorem drow_whole {e1 e2 : TypeId} {i : Int} {G u v : Value} {ls : List (List UInt8)} {r : List UInt8} (h : OwD w e1 e2 G u ls) (hd : DAt G i.toNat v) (hi : idx ls i = some r) : v = subV v (0 : Int).toNat r.length := by
  obtain ⟨hlt, hor, _⟩ := h.row hd
  obtain ⟨_, _, rfl⟩ := idx_some.1 hi
  exact copy_whole hor
theorem stp_copyD (L1 L2 : List Value) {d x : Operand} {t e1 e2 : TypeId} {z v dv s : Value} {bytes : Nat} {i off : Int} {G u : Value} {ls : List (List UInt8)} {r m : List UInt8} (ho : o.op = .call ⟨.builtin .copy, #[d, x], #[t, t]⟩) (T : TyS P t e2 z bytes) (hdd : ev f d = dv) (hx : ev f x = s)
    (h : OwD w e1 e2 G u ls) (hd : DAt G i.toNat v) (hi : idx ls i = some r) (hdv : dv = subV v off.toNat r.length) (h0 : 0 ≤ off) (hoff : off ≤ r.length) {Lu : List Value} (hu : By w Lu s m)
    {K : Value → World → Prop} (hk : ∀ w', OwD w' e1 e2 G u (ls.set i.toNat (copyL r off m)) → Gr w w' G → Lift w w' (L1 ++ G :: L2) (L1 ++ G :: L2) → K (i64 (min m.length (r.length - off.toNat) : Nat)) w') : Stp P o f w K := by
  obtain ⟨hlt, hor, _⟩ := h.row hd
  obtain ⟨_, _, rfl⟩ := idx_some.1 hi
  refine stp_copy (R := Sc u8) (Sc.stab _) [] [] ho T hdd hx (hor.scal _) hdv h0 hoff hu (fun _ _ h => h) oc_u8 ?_
  intro w' h' hg _
  obtain ⟨q1, q2⟩ := h.upd hd h' hg
  exact hk w' q1 q2 (Lift.own L1 L2 q2 (Nx.refl _ _))
theorem stp_storeRow (L1 L2 : List Value) {Lx : List Value} {a y : Operand} {t e1 e2 : TypeId} {z x : Value} {bytes : Nat} {i : Int} {G u : Value} {ls : List (List UInt8)} {r xs : List UInt8} (ho : o.op = .store e1 a y) (T : TyS P t e1 z bytes) (hx : ev f a = adr u i.toNat) (hy : ev f y = x)
    (h : OwD w e1 e2 G u ls) (hi : idx ls i = some r) (hxo : OwK (Sc u8) w Lx e2 x xs) (hq : Nq x G)
    {K : Value → World → Prop} (hk : ∀ G' w', OwD w' e1 e2 G' u (ls.set i.toNat xs) → Gr w w' G → (∀ k, Hs G' k → Hs G k ∨ Hs x k) → Lift w w' (L1 ++ G :: L2) (L1 ++ G :: L2) → K undef w') : Stp P o f w K := by
  obtain ⟨us, rfl, h1, hl, h2, h3⟩ := h
  obtain ⟨h0, hlt, rfl⟩ := idx_some.1 hi
  have hid : idx us i = some (us[i.toNat]'(by omega)) := by unfold idx; rw [if_pos h0]; simp
  refine stp_store (R := Sc (fun x : Value => x)) (u := x) idv_stab [] [] ho T hx hy (idv_eq.2 h1) (put_of x hid) rfl (oc_own hxo) ?_
  intro w' h' hg _
  have h' := idv_eq.1 h'
  have hxs : ∀ k, Hs x k → oB x = some k := fun k hk => by
    obtain ⟨us', h5, _⟩ := hxo
    rcases h5 with ⟨p, rfl, _⟩ | ⟨g, cap, rfl, _⟩ <;> exact hs_sl hk
  have hus : ∀ k, Hs u k → oB u = some k := fun k hk => by
    rcases h1 with ⟨p, rfl, _⟩ | ⟨g, cap, rfl, _⟩ <;> exact hs_sl hk
  have hgG : Gr w w' (.tuple (u :: us).toArray) := by
    obtain ⟨row, hgr, hr⟩ := hg
    exact ⟨row, hgr, fun k hk => hs_grp.2 (.inl (hus k (hr k hk)))⟩
  have hux : Apt u x := fun k hk1 hk2 => hq k (.inl hk2) (hs_grp.2 (.inl hk1))
  have hrx : ∀ v ∈ us, Apt v x := fun v hv k hk1 hk2 => hq k (.inl hk2) (hs_grp.2 (.inr ⟨v, hv, hk1⟩))
  obtain ⟨row, hgr, hr⟩ := hg
  have hro : ∀ k, row = some k → oB u = some k := fun k hk => hus k (hr k hk)
  refine hk (.tuple (u :: us.set i.toNat x).toArray) w' ⟨us.set i.toNat x, rfl, h', by simpa using hl, fun j a b => ?_, ?_⟩ hgG (fun k hk' => ?_) (Lift.own L1 L2 hgG (Nx.refl _ _))
  · have hj : j < us.length := by simpa using a
    have hj' : j < ls.length := by simpa using b
    simp only [List.getElem_set]
    by_cases hij : i.toNat = j
    · subst hij
      rw [if_pos rfl, if_pos rfl]
      exact (hxo.scal []).keptR hgr (fun k hk1 e => hux k (hro k e) hk1)
    · rw [if_neg hij, if_neg hij]
      exact (h2 j hj hj').keptR hgr (fun k hk1 e => (List.rel_of_pairwise_cons h3 (List.getElem_mem hj)) k (hro k e) hk1)
  · rw [List.pairwise_cons] at h3 ⊢
    refine ⟨fun v hv => ?_, ?_⟩
    · rcases List.mem_or_eq_of_mem_set hv with hv | rfl
      · exact h3.1 v hv
      · exact hux
    · refine List.pairwise_iff_getElem.2 fun p q hp hq' hpq => ?_
      have hp' : p < us.length := by simpa using hp
      have hq'' : q < us.length := by simpa using hq'
      simp only [List.getElem_set]
      have h4 := List.pairwise_iff_getElem.1 h3.2 p q hp' hq'' hpq
      by_cases h5 : i.toNat = p
      · rw [if_pos h5, if_neg (by omega)]
        exact (hrx _ (List.getElem_mem hq'')).symm
      · rw [if_neg h5]
        by_cases h6 : i.toNat = q
        · rw [if_pos h6]; exact hrx _ (List.getElem_mem hp')
        · rw [if_neg h6]; exact h4
  · rcases hs_grp.1 hk' with hk2 | ⟨v, hv, hk2⟩
    · exact .inl (hs_grp.2 (.inl hk2))
    · rcases List.mem_or_eq_of_mem_set hv with hv | rfl
      · exact .inl (hs_grp.2 (.inr ⟨v, hv, hk2⟩))
      · exact .inr (.inl hk2)
end
def MxT (T : TypeId) (w : World) (L : List Value) (v : Value) (m : Option (List (List UInt8))) : Prop :=
  (m = none ∧ v = .pointer none) ∨ ∃ l g u, m = some l ∧ v = bp g ∧ Av L g ∧ Blk w g T #[u] ∧ Rw w L u l
theorem MxT.lift {T : TypeId} {w w' : World} {L L' : List Value} {v : Value} {m : Option (List (List UInt8))} (h : MxT T w L v m) (g : Lift w w' L L') : MxT T w' L' v m := by
  rcases h with h | ⟨l, k, u, h1, h2, ha, hB, hR⟩
  · exact .inl h
  · exact .inr ⟨l, k, u, h1, h2, g.av k hB.lt ha, g.blk k _ hB rfl ha, hR.lift g⟩
theorem MxT.some {T : TypeId} {w : World} {L : List Value} {v : Value} {l : List (List UInt8)} {m : Option (List (List UInt8))} (h : MxT T w L v m) (hm : m = some l) : ∃ g u, v = bp g ∧ Blk w g T #[u] ∧ Rw w L u l := by
  rcases h with ⟨h1, _⟩ | ⟨l', k, u, h1, h2, ha, hB, hR⟩
  · rw [h1] at hm; cases hm
  · rw [h1] at hm; obtain rfl := Option.some.inj hm
    exact ⟨k, u, h2, hB, hR⟩
theorem MxT.nil (T : TypeId) (w : World) (L : List Value) : MxT T w L (.pointer none) none := .inl ⟨rfl, rfl⟩
theorem q_eqM {P : Program} {o : Oper} {f : Nat → Value} {T : TypeId} {w : World} {L : List Value} {v : Value} {m : Option (List (List UInt8))} {x y : Operand} {t t' e : TypeId} (ho : o.op = .binOp .eql t x y t') (ht : P.underlying t = some (.pointer e)) (hx : ev f x = v) (hy : ev f y = .pointer none) (h : MxT T w L v m) : Qa P o f (.bool m.isNone) := by
  rcases h with ⟨rfl, rfl⟩ | ⟨l, g, u, rfl, rfl, _⟩
  · exact q_eqP ho ht hx hy
  · exact q_eqP ho ht hx hy
end Gk

/- Matrices of this seat's program: the struct, its field, its building. No condition. -/
set_option linter.unusedVariables false
set_option linter.unusedSimpArgs false
namespace Gk
open Go Go.Proofs
def Mx (w : World) (L : List Value) (v : Value) (m : Option (List (List UInt8))) : Prop := MxT 65 w L v m
theorem Mx.lift {w w' : World} {L L' : List Value} {v : Value} {m : Option (List (List UInt8))} (h : Mx w L v m) (g : Lift w w' L L') : Mx w' L' v m := MxT.lift h g
theorem Mx.nil (w : World) (L : List Value) : Mx w L (.pointer none) none := MxT.nil _ _ _
theorem Mx.mk {w : World} {L : List Value} {g : Nat} {u : Value} {l : List (List UInt8)} (hB : Blk w g 65 #[u]) (ha : Av L g) (hR : Rw w L u l) : Mx w L (bp g) (some l) := .inr ⟨l, g, u, rfl, rfl, ha, hB, hR⟩
def MxO (w0 w : World) (v : Value) (l : List (List UInt8)) : Prop := ∃ g u G, v = bp g ∧ Nw w0 (bp g) ∧ Blk w g 65 #[u] ∧ Nw w0 G ∧ OwD w 30 5 G u l ∧ Nq (bp g) G
theorem fieldAtM (a : Addr) (w : World) : (Instr.fieldAt 65 (.pointer (some a)) 0).run Try.prog w = .ok (.pointer (some (a.add 0))) w := by
  simp [Instr.fieldAt, Instr.sureAddr, fieldPlace]
theorem buildM (v : Value) (hv : ∃ p n c, v = .slice p n c) (w : World) : (Instr.build 65 #[(0, v)]).run Try.prog w = .ok (.agg #[v]) w := by
  obtain ⟨p, n, c, rfl⟩ := hv
  simp [Instr.build, Try.zeroValue65, Try.underlying65, run_underlying Try.underlying65, Try.sizeOf22, Instr.fill, Value.cells]
section
variable {o : Oper} {f : Nat → Value} {w : World} {x : Operand} {v : Value}
theorem q_buildM (ho : o.op = .build 65 #[(0, x)]) (hx : ev f x = v) (hv : ∃ p n c, v = .slice p n c) : Qa Try.prog o f (.agg #[v]) := by
  intro w
  simp [execOp, ho, hx, buildM v hv]
end
end Gk

/- Printed by gen.py: for each Go function a pure function, and that the Go code comes to it. No condition beside the equation that says what the pure function gives. -/
set_option linter.unusedVariables false
set_option linter.unusedSimpArgs false
namespace Gk
open Go Go.Proofs
noncomputable def matrix_size (a0n : Int) : Option Bool :=
(if 1 ≤ a0n then some (decide (a0n ≤ 64))
else some false)
set_option maxRecDepth 100000 in
set_option maxHeartbeats 8000000 in
theorem matrix_size_calls (a0n : Int) (r : Bool) (w0 : World) (H : matrix_size a0n = some r) :
    Calls Try.prog 34 [(i64 a0n)].toArray w0 (fun e w' => e = .returned (.bool r) ∧ Ext w0 w') := by
  have hE : Ext w0 w0 := Ext.refl w0; unfold matrix_size at H; refine calls_W (n := 9) Try.func34 rfl rfl rfl ?_; refine W_seq ?_; refine W_reg (by kernel_rfl) ?_; refine wla rfl rfl (q_assign (v := (.bool false)) rfl rfl) ?_; refine wl_nil ?_; refine W_th ?_; refine W_seq ?_; refine W_reg (by kernel_rfl) ?_; refine wla rfl rfl (q_move (v := (i64 a0n)) rfl rfl) ?_; refine wla rfl rfl (q_geI rfl rfl rfl) ?_; refine wlb rfl rfl (q_move (v := (.bool ((decide (1 ≤ a0n))))) rfl rfl) (fun hb1 => ?_) (fun hb1 => ?_)
  · replace H := (if_pos (of_decide_eq_true hb1)).symm.trans H; refine wla rfl rfl (q_move (v := (i64 a0n)) rfl rfl) ?_; refine wla rfl rfl (q_leI rfl rfl rfl) ?_; refine wla rfl rfl (q_pick_t (v := (.bool ((decide (a0n ≤ 64))))) rfl rfl rfl) ?_; refine wla rfl rfl (q_assign (v := (.bool ((decide (a0n ≤ 64))))) rfl rfl) ?_; refine wl_nil ?_; refine W_th ?_; refine W_ret ?_; obtain rfl := osi H; refine rt1 (.bool ((decide (a0n ≤ 64)))) rfl rfl rfl rfl ?_; exact ⟨rfl, hE⟩
  replace H := (if_neg (of_decide_eq_false hb1)).symm.trans H; refine wlk rfl rfl ?_; refine wlk rfl rfl ?_; refine wla rfl rfl (q_pick_f (v := (.bool false)) rfl rfl rfl) ?_; refine wla rfl rfl (q_assign (v := (.bool false)) rfl rfl) ?_; refine wl_nil ?_; refine W_th ?_; refine W_ret ?_; obtain rfl := osi H; refine rt1 (.bool false) rfl rfl rfl rfl ?_; exact ⟨rfl, hE⟩
noncomputable def matrix_blank (a0rows : Int) (a1columns : Int) : Option (List (List UInt8)) :=
((makeL a0rows ([] : List UInt8)).bind fun c1 =>
((iterC (fun s9 : List (List UInt8) × Int =>
(if s9.2 < (c1.length : Int) then
((makeL a1columns (0 : UInt8)).bind fun c14 =>
((idx s9.1 s9.2).bind fun c19 => some (.inl ((s9.1.set (s9.2 : Int).toNat c14), (wI (s9.2 + 1))))))
else some (.inr s9.1))) (c1, 0)).bind fun x9 => some x9))
set_option maxRecDepth 100000 in
set_option maxHeartbeats 8000000 in
theorem matrix_blank_calls (a0rows : Int) (a1columns : Int) (r : List (List UInt8)) (w0 : World) (H : matrix_blank a0rows a1columns = some r) :
    Calls Try.prog 35 [(i64 a0rows), (i64 a1columns)].toArray w0 (fun e w' => ∃ u0 : Value, e = .returned u0 ∧ Ext w0 w' ∧ MxO w0 w' u0 r) := by
  have hE : Ext w0 w0 := Ext.refl w0; unfold matrix_blank at H; refine calls_W (n := 29) Try.func35 rfl rfl rfl ?_; refine W_seq ?_; refine W_reg (by kernel_rfl) ?_; refine wla rfl rfl (q_assign (v := (.pointer none)) rfl rfl) ?_; refine wl_nil ?_; refine W_th ?_; refine W_seq ?_; refine W_reg (by kernel_rfl) ?_; refine wla rfl rfl (q_move (v := (i64 a0rows)) rfl rfl) ?_; obtain ⟨c1, hc1, H⟩ := bsi H; refine wls rfl rfl (stp_makeD (e2 := 5) [] rfl T22 rfl rfl hc1 ?_); intro G2 v2 w2 o2 n2 g2 l2; have x2 := grown_ext g2; have n4 := Nw.ext hE n2; have e3 := hE.trans x2; refine wla rfl rfl (q_buildM rfl rfl (OwD.shape o2)) ?_; refine wls rfl rfl (stp_boxL (v := (.agg #[v2])) (cs := #[v2]) [G2] rfl rfl rfl ?_); intro g5 w5 o5 n5 g5r l5; have x5 := grown_ext g5r; have q6 : Nq G2 (bp g5) := o2.nq n5; replace o2 := o2.ext x5; have n8 := Nw.ext e3 n5; have e7 := e3.trans x5; refine wla rfl rfl (q_assign (v := (bp g5)) rfl rfl) ?_; refine wl_nil ?_; refine W_th ?_; refine W_seq ?_; refine W_seq ?_; refine W_reg (by kernel_rfl) ?_; refine wla rfl rfl (q_move (v := (bp g5)) rfl rfl) ?_; refine wla rfl rfl (q_nilP rfl rfl) ?_; refine wla rfl rfl (q_fldP rfl fieldAtM rfl) ?_; refine wlq rfl rfl (q_loadB (u := v2) rfl Try.isAgg22 rfl o5 rfl) ?_; refine wla rfl rfl (q_len rfl T22.sl rfl o2.rd) ?_; refine wla rfl rfl (q_move (v := (i64 0)) rfl rfl) ?_; refine wl_nil ?_; refine W_th ?_; obtain ⟨x9, G9, H⟩ := bsi H; refine W_mid (fun f w => ∃ Gbbpg5_27 : Value, f 5 = (bp g5) ∧ f 29 = undef ∧ Ext w0 w ∧ OwD w 30 5 Gbbpg5_27 v2 x9 ∧ Nw w0 Gbbpg5_27 ∧ Blk w g5 65 #[v2] ∧ Nw w0 (bp g5) ∧ Nq Gbbpg5_27 (bp g5)) ?_ ?_
  · refine W_block ?_; refine W_loop (fun s9 f w => ∃ Gbbpg5_25 : Value, f 1 = (i64 a1columns) ∧ f 5 = (bp g5) ∧ f 15 = (i64 ((c1.length : Int))) ∧ f 16 = (i64 s9.2) ∧ f 29 = undef ∧ Ext w0 w ∧ OwD w 30 5 Gbbpg5_25 v2 s9.1 ∧ Nw w0 Gbbpg5_25 ∧ Blk w g5 65 #[v2] ∧ Nw w0 (bp g5) ∧ Nq Gbbpg5_25 (bp g5)) G9 ?_ ?_
    · exact ⟨G2, rfl, rfl, rfl, rfl, rfl, e7, o2, n4, o5, n8, q6⟩
    rintro s9 _ _ w10 ⟨Gbbpg5_10, s1_10, s5_10, s15_10, s16_10, s29_10, hE10, o0_10, n0_10, o1_10, n1_10, q0_1_10⟩ H9 hr9; refine W_seq ?_; refine W_reg (by kernel_rfl) ?_; refine wla rfl rfl (q_ltI rfl s16_10 s15_10) ?_; refine wl_nil ?_; refine W_th ?_; refine W_seq ?_; refine W_cond _ rfl rfl (fun hb11 => ?_) (fun hb11 => ?_)
    · replace H9 := (if_pos (of_decide_eq_true hb11)).symm.trans H9; refine W_skip ?_; refine W_th ?_; refine W_seq ?_; refine W_block ?_; refine W_seq ?_; refine W_reg (by kernel_rfl) ?_; refine wla rfl rfl (q_move (v := (i64 s9.2)) rfl s16_10) ?_; refine wla rfl rfl (q_assign (v := (i64 s9.2)) rfl rfl) ?_; refine wl_nil ?_; refine W_th ?_; refine W_draw [3] [(0, 0), (1, 0), (2, 0), (3, 1), (4, 0), (5, 0), (6, 2), (7, 0), (8, 2)] mixed (by kernel_rfl) (by kernel_rfl) (by kernel_rfl) (by kernel_rfl) ?_; have x12 := Ext.drew w10; replace o0_10 := o0_10.ext x12; replace o1_10 := o1_10.ext x12; have e13 := hE10.trans x12; refine wsa rfl rfl rfl (q_move (v := (bp g5)) rfl s5_10) ?_; refine wsa rfl rfl rfl (q_nilP rfl rfl) ?_; refine wsa rfl rfl rfl (q_fldP rfl fieldAtM rfl) ?_; refine wsq rfl rfl rfl (q_loadB (u := v2) rfl Try.isAgg22 rfl o1_10 rfl) ?_; refine wsa rfl rfl rfl (q_move (v := (i64 s9.2)) rfl rfl) ?_; refine wsa rfl rfl rfl (q_move (v := (i64 a1columns)) rfl s1_10) ?_; obtain ⟨c14, hc14, H9⟩ := bsi H9; refine wss rfl rfl rfl (stp_make (L := [Gbbpg5_10, (bp g5)]) (R := (Sc u8)) rfl T30 rfl rfl hc14 (fun _ _ => rfl) ?_); intro v14 w14 o14 n14 g14 l14; refine ⟨grown_ext g14, ?_⟩; have x14 := grown_ext g14; have q15 : Nq Gbbpg5_10 v14 := o0_10.nq n14; have q16 : Nq (bp g5) v14 := o1_10.nq n14; replace o0_10 := o0_10.ext x14; replace o1_10 := o1_10.ext x14; have n18 := Nw.ext e13 n14; have e17 := e13.trans x14; obtain ⟨c19, hc19, H9⟩ := bsi H9; refine wsa rfl rfl rfl (q_adr rfl T22 rfl rfl o0_10.rd hc19) ?_; refine wsn rfl (by kernel_rfl) rfl rfl (stp_storeRow (x := v14) [v14] [(bp g5)] rfl T22 rfl rfl o0_10 hc19 o14 q15.symm ?_); intro G21 w20 o20 g20 hG20 l20; replace o14 := o14.other (Sc.stab _) g20 q15.symm l20; replace o1_10 := o1_10.other g20 q0_1_10.symm; have e22 := e17.grown g20 n0_10; have q23 : Nq (bp g5) G21 := OwD.relist hG20 q0_1_10.symm q16
      have n24 : Nw w0 G21 := fun k hk => (hG20 k hk).elim (n0_10 k) (n18 k)
      refine ws_nil ?_; refine bk_n ?_; refine W_th ?_; refine W_reg (by kernel_rfl) ?_; refine wla rfl rfl (q_addI rfl s16_10 rfl) ?_; refine wla rfl rfl (q_move (v := (i64 ((wI (s9.2 + 1))))) rfl rfl) ?_; refine wl_nil ?_; obtain rfl := osi H9; exact ⟨_, rfl, G21, s1_10, s5_10, s15_10, rfl, s29_10, e22, o20, n24, o1_10, n1_10, q23.symm⟩
    replace H9 := (if_neg (of_decide_eq_false hb11)).symm.trans H9; refine W_exit ?_; refine th_x ?_; obtain rfl := osi H9; obtain rfl := hr9 _ rfl; refine th_x ?_; refine bk_x ?_; exact ⟨Gbbpg5_10, s5_10, s29_10, hE10, o0_10, n0_10, o1_10, n1_10, q0_1_10⟩
  rintro _ w26 ⟨Gbbpg5_26, s5_26, s29_26, hE26, o0_26, n0_26, o1_26, n1_26, q0_1_26⟩; refine W_th ?_; refine W_seq ?_; refine W_reg (by kernel_rfl) ?_; refine wla rfl rfl (q_move (v := (bp g5)) rfl s5_26) ?_; refine wla rfl rfl (q_assign (v := (bp g5)) rfl rfl) ?_; refine wl_nil ?_; refine W_th ?_; refine W_ret ?_; obtain rfl := osi H; refine rt1 (bp g5) rfl rfl rfl s29_26 ?_; exact ⟨(bp g5), rfl, hE26, ⟨_, _, _, rfl, n1_26, o1_26, n0_26, o0_26, q0_1_26.symm⟩⟩
noncomputable def matrix_New (a0rows : List (List UInt8)) : Option (Option (List (List UInt8)) × Int) :=
((matrix_size (a0rows.length : Int)).bind fun r1 =>
(if (!r1) = true then some ((none : Option (List (List UInt8))), 2)
else
((idx a0rows 0).bind fun c4 =>
((matrix_size (c4.length : Int)).bind fun r6 =>
(if (!r6) = true then some ((none : Option (List (List UInt8))), 2)
else
((idx a0rows 0).bind fun c9 =>
((matrix_blank (a0rows.length : Int) (c9.length : Int)).bind fun r11 =>
((iterC (fun s15 : List (List UInt8) × Int =>
(if s15.2 < (a0rows.length : Int) then
((idx a0rows s15.2).bind fun c18 =>
((idx a0rows 0).bind fun c20 =>
(if (c18.length : Int) = (c20.length : Int) then
((idx s15.1 s15.2).bind fun c23 => some (.inl ((s15.1.set (s15.2 : Int).toNat (copyL c23 0 c18)), (wI (s15.2 + 1)))))
else some (.inr (.inr ((none : Option (List (List UInt8))), 1))))))
else some (.inr (.inl s15.1)))) (r11, 0)).bind (Sum.elim (fun y15 => some ((some y15), 0)) (fun q15 => some q15))))))))))
set_option maxRecDepth 100000 in
set_option maxHeartbeats 8000000 in
theorem matrix_New_calls (a0rows : List (List UInt8)) (p0 : Value) (r : Option (List (List UInt8)) × Int) (w0 : World) (L0 : List Value) (hL0 : Old w0 L0) (hp0 : Rw w0 [] p0 a0rows) (H : matrix_New a0rows = some r) :
    Calls Try.prog 11 [p0].toArray w0 (fun e w' => ∃ u0 : Value, e = .returned (.tuple #[u0, (i64 r.2)]) ∧ Ext w0 w' ∧ Mx w' L0 u0 r.1) := by
  have hE : Ext w0 w0 := Ext.refl w0; unfold matrix_New at H; refine calls_W (n := 51) Try.func11 rfl rfl rfl ?_; refine W_seq ?_; refine W_reg (by kernel_rfl) ?_; refine wla rfl rfl (q_assign (v := (.pointer none)) rfl rfl) ?_; refine wla rfl rfl (q_assign (v := (i64 0)) rfl rfl) ?_; refine wl_nil ?_; refine W_th ?_; refine W_seq ?_; refine W_seq ?_; refine W_reg (by kernel_rfl) ?_; refine wla rfl rfl (q_move (v := p0) rfl rfl) ?_; refine wla rfl rfl (q_len rfl T22.sl rfl (hp0.lift (Lift.ext hE _))) ?_; obtain ⟨r1, hr1, H⟩ := bsi H; refine wls rfl rfl (stp_call (vs := [(i64 ((a0rows.length : Int)))]) Try.func34 rfl rfl rfl (ar1 rfl) (matrix_size_calls (a0rows.length : Int)  r1 _  hr1) ?_); rintro _ w1 ⟨rfl, x1⟩; refine ⟨_, rfl, ?_⟩; have e2 := hE.trans x1; refine wla rfl rfl (q_not rfl rfl) ?_; refine wlb rfl rfl (q_move (v := (.bool ((!r1)))) rfl rfl) (fun hb3 => ?_) (fun hb3 => ?_)
  · replace H := (if_pos hb3).symm.trans H; refine wlk rfl rfl ?_; refine wlk rfl rfl ?_; refine wlk rfl rfl ?_; refine wlk rfl rfl ?_; refine wlk rfl rfl ?_; refine wlk rfl rfl ?_; refine wla rfl rfl (q_pick_t (v := (.bool true)) rfl rfl rfl) ?_; refine wl_nil ?_; refine W_th ?_; refine W_cond true rfl rfl (fun _ => ?_) (fun hb => by cases hb); refine W_seq ?_; refine W_reg (by kernel_rfl) ?_; refine wla rfl rfl (q_assign (v := (.pointer none)) rfl rfl) ?_; refine wla rfl rfl (q_assign (v := (i64 2)) rfl rfl) ?_; refine wl_nil ?_; refine W_th ?_; refine W_ret ?_; refine th_r ?_; obtain rfl := osi H; refine rt2 (.pointer none) (i64 2) rfl rfl rfl rfl rfl rfl ?_; exact ⟨(.pointer none), rfl, e2, (Mx.nil _ _)⟩
  replace H := (if_neg (ne_true_of_eq_false hb3)).symm.trans H; refine wla rfl rfl (q_move (v := p0) rfl rfl) ?_; obtain ⟨c4, hc4, H⟩ := bsi H; refine wla rfl rfl (q_adr rfl T22 rfl rfl (hp0.lift (Lift.ext e2 _)) hc4) ?_; refine wlq_load rfl rfl rfl T22 rfl hp0 hc4 e2 (fun v5 ha5 => ?_); refine wla rfl rfl (q_len rfl T30.sl rfl (ha5.lift (Lift.ext e2 _))) ?_; obtain ⟨r6, hr6, H⟩ := bsi H; refine wls rfl rfl (stp_call (vs := [(i64 ((c4.length : Int)))]) Try.func34 rfl rfl rfl (ar1 rfl) (matrix_size_calls (c4.length : Int)  r6 _  hr6) ?_); rintro _ w6 ⟨rfl, x6⟩; refine ⟨_, rfl, ?_⟩; have e7 := e2.trans x6; refine wla rfl rfl (q_not rfl rfl) ?_; refine wla rfl rfl (q_pick_f (v := (.bool ((!r6)))) rfl rfl rfl) ?_; refine wl_nil ?_; refine W_th ?_; refine W_cond _ rfl rfl (fun hb8 => ?_) (fun hb8 => ?_)
  · replace H := (if_pos hb8).symm.trans H; refine W_seq ?_; refine W_reg (by kernel_rfl) ?_; refine wla rfl rfl (q_assign (v := (.pointer none)) rfl rfl) ?_; refine wla rfl rfl (q_assign (v := (i64 2)) rfl rfl) ?_; refine wl_nil ?_; refine W_th ?_; refine W_ret ?_; refine th_r ?_; obtain rfl := osi H; refine rt2 (.pointer none) (i64 2) rfl rfl rfl rfl rfl rfl ?_; exact ⟨(.pointer none), rfl, e7, (Mx.nil _ _)⟩
  replace H := (if_neg (ne_true_of_eq_false hb8)).symm.trans H; refine W_skip ?_; refine W_th ?_; refine W_seq ?_; refine W_reg (by kernel_rfl) ?_; refine wla rfl rfl (q_move (v := p0) rfl rfl) ?_; refine wla rfl rfl (q_len rfl T22.sl rfl (hp0.lift (Lift.ext e7 _))) ?_; refine wla rfl rfl (q_move (v := p0) rfl rfl) ?_; obtain ⟨c9, hc9, H⟩ := bsi H; refine wla rfl rfl (q_adr rfl T22 rfl rfl (hp0.lift (Lift.ext e7 _)) hc9) ?_; refine wlq_load rfl rfl rfl T22 rfl hp0 hc9 e7 (fun v10 ha10 => ?_); refine wla rfl rfl (q_len rfl T30.sl rfl (ha10.lift (Lift.ext e7 _))) ?_; obtain ⟨r11, hr11, H⟩ := bsi H; refine wls rfl rfl (stp_call (vs := [(i64 ((a0rows.length : Int))), (i64 ((c9.length : Int)))]) Try.func35 rfl rfl rfl (ar2 rfl rfl) (matrix_blank_calls (a0rows.length : Int) (c9.length : Int)  r11 _  hr11) ?_); rintro _ w11 ⟨v11, rfl, x11, i11_0⟩; refine ⟨_, rfl, ?_⟩; obtain ⟨g11, uv11, G11, rfl, nB11, hB11, nG11, hD11, hq11⟩ := i11_0; have n12 := Nw.ext e7 nB11; have n13 := Nw.ext e7 nG11; have e14 := e7.trans x11; refine wla rfl rfl (q_assign (v := (bp g11)) rfl rfl) ?_; refine wl_nil ?_; refine W_th ?_; refine W_seq ?_; refine W_seq ?_; refine W_reg (by kernel_rfl) ?_; refine wla rfl rfl (q_move (v := p0) rfl rfl) ?_; refine wla rfl rfl (q_len rfl T22.sl rfl (hp0.lift (Lift.ext e14 _))) ?_; refine wla rfl rfl (q_move (v := (i64 0)) rfl rfl) ?_; refine wl_nil ?_; refine W_th ?_; obtain ⟨x15, G15, H⟩ := bsi H; refine W_mid (fun f w => ∃ y15, x15 = .inl y15 ∧ ∃ Gbbpg11_30 : Value, f 4 = (bp g11) ∧ f 51 = undef ∧ Ext w0 w ∧ OwD w 30 5 Gbbpg11_30 uv11 y15 ∧ Nw w0 Gbbpg11_30 ∧ Blk w g11 65 #[uv11] ∧ Nw w0 (bp g11) ∧ Nq Gbbpg11_30 (bp g11)) ?_ ?_
  · refine W_block ?_; refine W_loop (fun s15 f w => ∃ Gbbpg11_28 : Value, f 0 = p0 ∧ f 4 = (bp g11) ∧ f 26 = p0 ∧ f 27 = (i64 ((a0rows.length : Int))) ∧ f 28 = (i64 s15.2) ∧ f 51 = undef ∧ Ext w0 w ∧ OwD w 30 5 Gbbpg11_28 uv11 s15.1 ∧ Nw w0 Gbbpg11_28 ∧ Blk w g11 65 #[uv11] ∧ Nw w0 (bp g11) ∧ Nq Gbbpg11_28 (bp g11)) G15 ?_ ?_
    · exact ⟨G11, rfl, rfl, rfl, rfl, rfl, rfl, e14, hD11, n13, hB11, n12, hq11.symm⟩
    rintro s15 _ _ w16 ⟨Gbbpg11_16, s0_16, s4_16, s26_16, s27_16, s28_16, s51_16, hE16, o0_16, n0_16, o1_16, n1_16, q0_1_16⟩ H15 hr15; refine W_seq ?_; refine W_reg (by kernel_rfl) ?_; refine wla rfl rfl (q_ltI rfl s28_16 s27_16) ?_; refine wl_nil ?_; refine W_th ?_; refine W_seq ?_; refine W_cond _ rfl rfl (fun hb17 => ?_) (fun hb17 => ?_)
    · replace H15 := (if_pos (of_decide_eq_true hb17)).symm.trans H15; refine W_skip ?_; refine W_th ?_; refine W_seq ?_; refine W_block ?_; refine W_seq ?_; refine W_reg (by kernel_rfl) ?_; refine wla rfl rfl (q_move (v := (i64 s15.2)) rfl s28_16) ?_; obtain ⟨c18, hc18, H15⟩ := bsi H15; refine wla rfl rfl (q_adr rfl T22 s26_16 s28_16 (hp0.lift (Lift.ext hE16 _)) hc18) ?_; refine wlq_load rfl rfl rfl T22 rfl hp0 hc18 hE16 (fun v19 ha19 => ?_); refine wla rfl rfl (q_assign (v := (i64 s15.2)) rfl rfl) ?_; refine wla rfl rfl (q_assign (v := v19) rfl rfl) ?_; refine wl_nil ?_; refine W_th ?_; refine W_seq ?_; refine W_seq ?_; refine W_reg (by kernel_rfl) ?_; refine wla rfl rfl (q_move (v := v19) rfl rfl) ?_; refine wla rfl rfl (q_len rfl T30.sl rfl (ha19.lift (Lift.ext hE16 _))) ?_; refine wla rfl rfl (q_move (v := p0) rfl s0_16) ?_; obtain ⟨c20, hc20, H15⟩ := bsi H15; refine wla rfl rfl (q_adr rfl T22 rfl rfl (hp0.lift (Lift.ext hE16 _)) hc20) ?_; refine wlq_load rfl rfl rfl T22 rfl hp0 hc20 hE16 (fun v21 ha21 => ?_); refine wla rfl rfl (q_len rfl T30.sl rfl (ha21.lift (Lift.ext hE16 _))) ?_; refine wla rfl rfl (q_neI rfl rfl rfl) ?_; refine wl_nil ?_; refine W_th ?_; refine W_cond _ rfl rfl (fun hb22 => ?_) (fun hb22 => ?_)
      · replace H15 := (if_neg (ndec_t hb22)).symm.trans H15; refine W_seq ?_; refine W_reg (by kernel_rfl) ?_; refine wla rfl rfl (q_assign (v := (.pointer none)) rfl rfl) ?_; refine wla rfl rfl (q_assign (v := (i64 1)) rfl rfl) ?_; refine wl_nil ?_; refine W_th ?_; refine W_ret ?_; refine th_r ?_; refine bk_r ?_; refine th_r ?_; obtain rfl := osi H15; obtain rfl := hr15 _ rfl; simp only [Sum.elim_inr] at H; refine th_r ?_; refine bk_r ?_; refine th_r ?_; refine th_r ?_; obtain rfl := osi H; refine rt2 (.pointer none) (i64 1) rfl rfl rfl rfl rfl s51_16 ?_; exact ⟨(.pointer none), rfl, hE16, (Mx.nil _ _)⟩
      replace H15 := (if_pos (ndec_f hb22)).symm.trans H15; refine W_skip ?_; refine W_th ?_; refine W_reg (by kernel_rfl) ?_; refine wla rfl rfl (q_move (v := (bp g11)) rfl s4_16) ?_; refine wla rfl rfl (q_nilP rfl rfl) ?_; refine wla rfl rfl (q_fldP rfl fieldAtM rfl) ?_; refine wlq rfl rfl (q_loadB (u := uv11) rfl Try.isAgg22 rfl o1_16 rfl) ?_; refine wla rfl rfl (q_move (v := (i64 s15.2)) rfl rfl) ?_; obtain ⟨c23, hc23, H15⟩ := bsi H15; refine wla rfl rfl (q_adr rfl T22 rfl rfl o0_16.rd hc23) ?_; refine wlq_loadD rfl rfl rfl T22 rfl o0_16 hc23 (fun v24 hD24 => ?_); refine wla rfl rfl (q_move (v := v19) rfl rfl) ?_; refine wls rfl rfl (stp_copyD (off := 0) (dv := v24) (s := v19) [] ((bp g11) :: L0) rfl T30 rfl rfl o0_16 hD24 hc23 (drow_whole o0_16 hD24 hc23) (by decide) (Int.natCast_nonneg _) (ha19.lift (Lift.ext hE16 _)) ?_); intro w26 o26 g26 l26; replace o1_16 := o1_16.other g26 q0_1_16.symm; have e27 := hE16.grown g26 n0_16; refine wl_nil ?_; refine bk_n ?_; refine W_th ?_; refine W_reg (by kernel_rfl) ?_; refine wla rfl rfl (q_addI rfl s28_16 rfl) ?_; refine wla rfl rfl (q_move (v := (i64 ((wI (s15.2 + 1))))) rfl rfl) ?_; refine wl_nil ?_; obtain rfl := osi H15; exact ⟨_, rfl, Gbbpg11_16, s0_16, s4_16, s26_16, s27_16, rfl, s51_16, e27, o26, n0_16, o1_16, n1_16, q0_1_16⟩
    replace H15 := (if_neg (of_decide_eq_false hb17)).symm.trans H15; refine W_exit ?_; refine th_x ?_; obtain rfl := osi H15; obtain rfl := hr15 _ rfl; refine th_x ?_; refine bk_x ?_; exact ⟨_, rfl, Gbbpg11_16, s4_16, s51_16, hE16, o0_16, n0_16, o1_16, n1_16, q0_1_16⟩
  rintro _ w29 ⟨y15, rfl, Gbbpg11_29, s4_29, s51_29, hE29, o0_29, n0_29, o1_29, n1_29, q0_1_29⟩; simp only [Sum.elim_inl] at H; refine W_th ?_; refine W_seq ?_; refine W_reg (by kernel_rfl) ?_; refine wla rfl rfl (q_move (v := (bp g11)) rfl s4_29) ?_; refine wla rfl rfl (q_assign (v := (bp g11)) rfl rfl) ?_; refine wla rfl rfl (q_assign (v := (i64 0)) rfl rfl) ?_; refine wl_nil ?_; refine W_th ?_; refine W_ret ?_; obtain rfl := osi H; refine rt2 (bp g11) (i64 0) rfl rfl rfl rfl rfl s51_29 ?_; exact ⟨(bp g11), rfl, hE29, (Mx.mk o1_29 (hL0 _ (n1_29 _ (hs_bp' _))) (o0_29.rw L0 (fun k hk => hL0 k (n0_29 k hk))))⟩
noncomputable def matrix_Size (a0m : Option (List (List UInt8))) : Option (Int × Int) :=
(if a0m.isNone = true then some (0, 0)
else
((a0m).bind fun c4 =>
((idx c4 0).bind fun c5 => some ((c4.length : Int), (c5.length : Int)))))
set_option maxRecDepth 100000 in
set_option maxHeartbeats 8000000 in
theorem matrix_Size_calls (a0m : Option (List (List UInt8))) (p0 : Value) (r : Int × Int) (w0 : World) (hp0 : Mx w0 [] p0 a0m) (H : matrix_Size a0m = some r) :
    Calls Try.prog 12 [p0].toArray w0 (fun e w' => e = .returned (.tuple #[(i64 r.1), (i64 r.2)]) ∧ Ext w0 w') := by
  have hE : Ext w0 w0 := Ext.refl w0; unfold matrix_Size at H; refine calls_W (n := 18) Try.func12 rfl rfl rfl ?_; refine W_seq ?_; refine W_reg (by kernel_rfl) ?_; refine wla rfl rfl (q_assign (v := (i64 0)) rfl rfl) ?_; refine wla rfl rfl (q_assign (v := (i64 0)) rfl rfl) ?_; refine wl_nil ?_; refine W_th ?_; refine W_seq ?_; refine W_seq ?_; refine W_reg (by kernel_rfl) ?_; refine wla rfl rfl (q_move (v := p0) rfl rfl) ?_; refine wla rfl rfl (q_eqM rfl rfl rfl rfl (hp0.lift (Lift.ext hE _))) ?_; refine wl_nil ?_; refine W_th ?_; refine W_cond _ rfl rfl (fun hb1 => ?_) (fun hb1 => ?_)
  · replace H := (if_pos hb1).symm.trans H; refine W_seq ?_; refine W_reg (by kernel_rfl) ?_; refine wla rfl rfl (q_assign (v := (i64 0)) rfl rfl) ?_; refine wla rfl rfl (q_assign (v := (i64 0)) rfl rfl) ?_; refine wl_nil ?_; refine W_th ?_; refine W_ret ?_; refine th_r ?_; obtain rfl := osi H; refine rt2 (i64 0) (i64 0) rfl rfl rfl rfl rfl rfl ?_; exact ⟨rfl, hE⟩
  replace H := (if_neg (ne_true_of_eq_false hb1)).symm.trans H; refine W_skip ?_; refine W_th ?_; refine W_seq ?_; refine W_draw [3, 8, 10] [(0, 0), (1, 0), (2, 0), (3, 1), (4, 0), (5, 0), (6, 0), (7, 0), (8, 1), (9, 0), (10, 1), (11, 0), (12, 0), (13, 0)] mixed (by kernel_rfl) (by kernel_rfl) (by kernel_rfl) (by kernel_rfl) ?_; have x2 := Ext.drew w0; have e3 := hE.trans x2; refine wsa rfl rfl rfl (q_move (v := p0) rfl rfl) ?_; obtain ⟨c4, hc4, H⟩ := bsi H; obtain ⟨g4, uv4, hv4, hB4, hR4⟩ := MxT.some hp0 hc4; refine wsa rfl rfl rfl (q_nilP (g := g4) (m := 0) rfl (Eq.trans rfl hv4)) ?_; refine wsa rfl rfl rfl (q_fldP rfl fieldAtM rfl) ?_; refine wsq rfl rfl rfl (q_loadB (u := uv4) rfl Try.isAgg22 rfl (hB4.ext e3) rfl) ?_; refine wsa rfl rfl rfl (q_len rfl T22.sl rfl (hR4.lift (Lift.ext e3 _))) ?_; refine wsa rfl rfl rfl (q_move (v := p0) rfl rfl) ?_; refine wsa rfl rfl rfl (q_nilP (g := g4) (m := 0) rfl (Eq.trans rfl hv4)) ?_; refine wsa rfl rfl rfl (q_fldP rfl fieldAtM rfl) ?_; refine wsq rfl rfl rfl (q_loadB (u := uv4) rfl Try.isAgg22 rfl (hB4.ext e3) rfl) ?_; obtain ⟨c5, hc5, H⟩ := bsi H; refine wsa rfl rfl rfl (q_adr rfl T22 rfl rfl (hR4.lift (Lift.ext e3 _)) hc5) ?_; refine wsq_load rfl rfl rfl rfl T22 rfl hR4 hc5 e3 (fun v6 ha6 => ?_); refine wsa rfl rfl rfl (q_len rfl T30.sl rfl (ha6.lift (Lift.ext e3 _))) ?_; refine wsa rfl rfl rfl (q_assign (v := (i64 ((c4.length : Int)))) rfl rfl) ?_; refine wsa rfl rfl rfl (q_assign (v := (i64 ((c5.length : Int)))) rfl rfl) ?_; refine ws_nil ?_; refine W_th ?_; refine W_ret ?_; obtain rfl := osi H; refine rt2 (i64 ((c4.length : Int))) (i64 ((c5.length : Int))) rfl rfl rfl rfl rfl rfl ?_; exact ⟨rfl, e3⟩
noncomputable def matrix_Row (a0m : Option (List (List UInt8))) (a1i : Int) : Option (List UInt8) :=
(if a0m.isNone = true then some ([] : List UInt8)
else
(if a1i < 0 then some ([] : List UInt8)
else
((a0m).bind fun c3 =>
(if (c3.length : Int) ≤ a1i then some ([] : List UInt8)
else
((idx c3 a1i).bind fun c5 =>
((slices_Clone_sbytebyte c5).bind fun r7 => some r7))))))
set_option maxRecDepth 100000 in
set_option maxHeartbeats 8000000 in
theorem matrix_Row_calls (a0m : Option (List (List UInt8))) (a1i : Int) (p0 : Value) (r : List UInt8) (w0 : World) (hp0 : Mx w0 [] p0 a0m) (H : matrix_Row a0m a1i = some r) :
    Calls Try.prog 16 [p0, (i64 a1i)].toArray w0 (fun e w' => ∃ u0 : Value, e = .returned u0 ∧ Ext w0 w' ∧ Nw w0 u0 ∧ OwK (Sc u8) w' [] 5 u0 r) := by
  have hE : Ext w0 w0 := Ext.refl w0; unfold matrix_Row at H; refine calls_W (n := 28) Try.func16 rfl rfl rfl ?_; refine W_seq ?_; refine W_reg (by kernel_rfl) ?_; refine wla rfl rfl (q_assign (v := (.slice none 0 0)) rfl rfl) ?_; refine wl_nil ?_; refine W_th ?_; refine W_seq ?_; refine W_seq ?_; refine W_reg (by kernel_rfl) ?_; refine wla rfl rfl (q_move (v := p0) rfl rfl) ?_; refine wla rfl rfl (q_eqM rfl rfl rfl rfl (hp0.lift (Lift.ext hE _))) ?_; refine wlb rfl rfl (q_move (v := (.bool a0m.isNone)) rfl rfl) (fun hb1 => ?_) (fun hb1 => ?_)
  · replace H := (if_pos hb1).symm.trans H; refine wlk rfl rfl ?_; refine wlk rfl rfl ?_; refine wla rfl rfl (q_pick_t (v := (.bool true)) rfl rfl rfl) ?_; refine wla rfl rfl (q_move (v := (.bool true)) rfl rfl) ?_; refine wlk rfl rfl ?_; refine wlk rfl rfl ?_; refine wlk rfl rfl ?_; refine wlk rfl rfl ?_; refine wlk rfl rfl ?_; refine wlk rfl rfl ?_; refine wlk rfl rfl ?_; refine wla rfl rfl (q_pick_t (v := (.bool true)) rfl rfl rfl) ?_; refine wl_nil ?_; refine W_th ?_; refine W_cond true rfl rfl (fun _ => ?_) (fun hb => by cases hb); refine W_seq ?_; refine W_reg (by kernel_rfl) ?_; refine wla rfl rfl (q_assign (v := (.slice none 0 0)) rfl rfl) ?_; refine wl_nil ?_; refine W_th ?_; refine W_ret ?_; refine th_r ?_; obtain rfl := osi H; refine rt1 (.slice none 0 0) rfl rfl rfl rfl ?_; exact ⟨(.slice none 0 0), rfl, hE, Nw.nil _, (OwK.nil _ _ _ _)⟩
  replace H := (if_neg (ne_true_of_eq_false hb1)).symm.trans H; refine wla rfl rfl (q_move (v := (i64 a1i)) rfl rfl) ?_; refine wla rfl rfl (q_ltI rfl rfl rfl) ?_; refine wla rfl rfl (q_pick_f (v := (.bool ((decide (a1i < 0))))) rfl rfl rfl) ?_; refine wlb rfl rfl (q_move (v := (.bool ((decide (a1i < 0))))) rfl rfl) (fun hb2 => ?_) (fun hb2 => ?_)
  · replace H := (if_pos (of_decide_eq_true hb2)).symm.trans H; refine wlk rfl rfl ?_; refine wlk rfl rfl ?_; refine wlk rfl rfl ?_; refine wlk rfl rfl ?_; refine wlk rfl rfl ?_; refine wlk rfl rfl ?_; refine wlk rfl rfl ?_; refine wla rfl rfl (q_pick_t (v := (.bool true)) rfl rfl rfl) ?_; refine wl_nil ?_; refine W_th ?_; refine W_cond true rfl rfl (fun _ => ?_) (fun hb => by cases hb); refine W_seq ?_; refine W_reg (by kernel_rfl) ?_; refine wla rfl rfl (q_assign (v := (.slice none 0 0)) rfl rfl) ?_; refine wl_nil ?_; refine W_th ?_; refine W_ret ?_; refine th_r ?_; obtain rfl := osi H; refine rt1 (.slice none 0 0) rfl rfl rfl rfl ?_; exact ⟨(.slice none 0 0), rfl, hE, Nw.nil _, (OwK.nil _ _ _ _)⟩
  replace H := (if_neg (of_decide_eq_false hb2)).symm.trans H; refine wla rfl rfl (q_move (v := (i64 a1i)) rfl rfl) ?_; refine wla rfl rfl (q_move (v := p0) rfl rfl) ?_; obtain ⟨c3, hc3, H⟩ := bsi H; obtain ⟨g3, uv3, hv3, hB3, hR3⟩ := MxT.some hp0 hc3; refine wla rfl rfl (q_nilP (g := g3) (m := 0) rfl (Eq.trans rfl hv3)) ?_; refine wla rfl rfl (q_fldP rfl fieldAtM rfl) ?_; refine wlq rfl rfl (q_loadB (u := uv3) rfl Try.isAgg22 rfl (hB3.ext hE) rfl) ?_; refine wla rfl rfl (q_len rfl T22.sl rfl (hR3.lift (Lift.ext hE _))) ?_; refine wla rfl rfl (q_geI rfl rfl rfl) ?_; refine wla rfl rfl (q_pick_f (v := (.bool ((decide ((c3.length : Int) ≤ a1i))))) rfl rfl rfl) ?_; refine wl_nil ?_; refine W_th ?_; refine W_cond _ rfl rfl (fun hb4 => ?_) (fun hb4 => ?_)
  · replace H := (if_pos (of_decide_eq_true hb4)).symm.trans H; refine W_seq ?_; refine W_reg (by kernel_rfl) ?_; refine wla rfl rfl (q_assign (v := (.slice none 0 0)) rfl rfl) ?_; refine wl_nil ?_; refine W_th ?_; refine W_ret ?_; refine th_r ?_; obtain rfl := osi H; refine rt1 (.slice none 0 0) rfl rfl rfl rfl ?_; exact ⟨(.slice none 0 0), rfl, hE, Nw.nil _, (OwK.nil _ _ _ _)⟩
  replace H := (if_neg (of_decide_eq_false hb4)).symm.trans H; refine W_skip ?_; refine W_th ?_; refine W_seq ?_; refine W_reg (by kernel_rfl) ?_; refine wla rfl rfl (q_move (v := p0) rfl rfl) ?_; refine wla rfl rfl (q_nilP (g := g3) (m := 0) rfl (Eq.trans rfl hv3)) ?_; refine wla rfl rfl (q_fldP rfl fieldAtM rfl) ?_; refine wlq rfl rfl (q_loadB (u := uv3) rfl Try.isAgg22 rfl (hB3.ext hE) rfl) ?_; refine wla rfl rfl (q_move (v := (i64 a1i)) rfl rfl) ?_; obtain ⟨c5, hc5, H⟩ := bsi H; refine wla rfl rfl (q_adr rfl T22 rfl rfl (hR3.lift (Lift.ext hE _)) hc5) ?_; refine wlq_load rfl rfl rfl T22 rfl hR3 hc5 hE (fun v6 ha6 => ?_); obtain ⟨r7, hr7, H⟩ := bsi H; refine wls rfl rfl (stp_call (vs := [v6]) Try.func38 rfl rfl rfl (ar1 rfl) (slices_Clone_sbytebyte_calls c5 v6 r7 _ (ha6.lift (Lift.ext hE _)) hr7) ?_); rintro _ w7 ⟨v7, rfl, x7, n7_0, o7_0⟩; refine ⟨_, rfl, ?_⟩; have o7 : OwK (Sc u8) w7 (v7 :: []) 5 v7 r7 := OwK.scal o7_0 _; have n9 := Nw.ext hE n7_0; have e8 := hE.trans x7; refine wla rfl rfl (q_assign (v := v7) rfl rfl) ?_; refine wl_nil ?_; refine W_th ?_; refine W_ret ?_; obtain rfl := osi H; refine rt1 v7 rfl rfl rfl rfl ?_; exact ⟨v7, rfl, e8, n9, (o7.weak (Sc.stab _) (fun _ _ => trivial))⟩
noncomputable def matrix_Identity (a0n : Int) : Option (Option (List (List UInt8)) × Int) :=
((matrix_size a0n).bind fun r1 =>
(if (!r1) = true then some ((none : Option (List (List UInt8))), 2)
else
((matrix_blank a0n a0n).bind fun r4 =>
((iterC (fun s8 : List (List UInt8) × Int =>
(if s8.2 < a0n then
((idx s8.1 s8.2).bind fun c11 =>
((idx c11 s8.2).bind fun c13 => some (.inl ((s8.1.set (s8.2 : Int).toNat (c11.set (s8.2 : Int).toNat ((1 : UInt8)))), (wI (s8.2 + 1))))))
else some (.inr s8.1))) (r4, 0)).bind fun x8 => some ((some x8), 0)))))
set_option maxRecDepth 100000 in
set_option maxHeartbeats 8000000 in
theorem matrix_Identity_calls (a0n : Int) (r : Option (List (List UInt8)) × Int) (w0 : World) (L0 : List Value) (hL0 : Old w0 L0) (H : matrix_Identity a0n = some r) :
    Calls Try.prog 28 [(i64 a0n)].toArray w0 (fun e w' => ∃ u0 : Value, e = .returned (.tuple #[u0, (i64 r.2)]) ∧ Ext w0 w' ∧ Mx w' L0 u0 r.1) := by
  have hE : Ext w0 w0 := Ext.refl w0; unfold matrix_Identity at H; refine calls_W (n := 27) Try.func28 rfl rfl rfl ?_; refine W_seq ?_; refine W_reg (by kernel_rfl) ?_; refine wla rfl rfl (q_assign (v := (.pointer none)) rfl rfl) ?_; refine wla rfl rfl (q_assign (v := (i64 0)) rfl rfl) ?_; refine wl_nil ?_; refine W_th ?_; refine W_seq ?_; refine W_seq ?_; refine W_reg (by kernel_rfl) ?_; refine wla rfl rfl (q_move (v := (i64 a0n)) rfl rfl) ?_; obtain ⟨r1, hr1, H⟩ := bsi H; refine wls rfl rfl (stp_call (vs := [(i64 a0n)]) Try.func34 rfl rfl rfl (ar1 rfl) (matrix_size_calls a0n  r1 _  hr1) ?_); rintro _ w1 ⟨rfl, x1⟩; refine ⟨_, rfl, ?_⟩; have e2 := hE.trans x1; refine wla rfl rfl (q_not rfl rfl) ?_; refine wl_nil ?_; refine W_th ?_; refine W_cond _ rfl rfl (fun hb3 => ?_) (fun hb3 => ?_)
  · replace H := (if_pos hb3).symm.trans H; refine W_seq ?_; refine W_reg (by kernel_rfl) ?_; refine wla rfl rfl (q_assign (v := (.pointer none)) rfl rfl) ?_; refine wla rfl rfl (q_assign (v := (i64 2)) rfl rfl) ?_; refine wl_nil ?_; refine W_th ?_; refine W_ret ?_; refine th_r ?_; obtain rfl := osi H; refine rt2 (.pointer none) (i64 2) rfl rfl rfl rfl rfl rfl ?_; exact ⟨(.pointer none), rfl, e2, (Mx.nil _ _)⟩
  replace H := (if_neg (ne_true_of_eq_false hb3)).symm.trans H; refine W_skip ?_; refine W_th ?_; refine W_seq ?_; refine W_reg (by kernel_rfl) ?_; refine wla rfl rfl (q_move (v := (i64 a0n)) rfl rfl) ?_; refine wla rfl rfl (q_move (v := (i64 a0n)) rfl rfl) ?_; obtain ⟨r4, hr4, H⟩ := bsi H; refine wls rfl rfl (stp_call (vs := [(i64 a0n), (i64 a0n)]) Try.func35 rfl rfl rfl (ar2 rfl rfl) (matrix_blank_calls a0n a0n  r4 _  hr4) ?_); rintro _ w4 ⟨v4, rfl, x4, i4_0⟩; refine ⟨_, rfl, ?_⟩; obtain ⟨g4, uv4, G4, rfl, nB4, hB4, nG4, hD4, hq4⟩ := i4_0; have n5 := Nw.ext e2 nB4; have n6 := Nw.ext e2 nG4; have e7 := e2.trans x4; refine wla rfl rfl (q_assign (v := (bp g4)) rfl rfl) ?_; refine wl_nil ?_; refine W_th ?_; refine W_seq ?_; refine W_seq ?_; refine W_reg (by kernel_rfl) ?_; refine wla rfl rfl (q_move (v := (i64 a0n)) rfl rfl) ?_; refine wla rfl rfl (q_move (v := (i64 0)) rfl rfl) ?_; refine wl_nil ?_; refine W_th ?_; obtain ⟨x8, G8, H⟩ := bsi H; refine W_mid (fun f w => ∃ Gbbpg4_18 : Value, f 4 = (bp g4) ∧ f 27 = undef ∧ Ext w0 w ∧ OwD w 30 5 Gbbpg4_18 uv4 x8 ∧ Nw w0 Gbbpg4_18 ∧ Blk w g4 65 #[uv4] ∧ Nw w0 (bp g4) ∧ Nq Gbbpg4_18 (bp g4)) ?_ ?_
  · refine W_block ?_; refine W_loop (fun s8 f w => ∃ Gbbpg4_16 : Value, f 4 = (bp g4) ∧ f 12 = (i64 a0n) ∧ f 13 = (i64 s8.2) ∧ f 27 = undef ∧ Ext w0 w ∧ OwD w 30 5 Gbbpg4_16 uv4 s8.1 ∧ Nw w0 Gbbpg4_16 ∧ Blk w g4 65 #[uv4] ∧ Nw w0 (bp g4) ∧ Nq Gbbpg4_16 (bp g4)) G8 ?_ ?_
    · exact ⟨G4, rfl, rfl, rfl, rfl, e7, hD4, n6, hB4, n5, hq4.symm⟩
    rintro s8 _ _ w9 ⟨Gbbpg4_9, s4_9, s12_9, s13_9, s27_9, hE9, o0_9, n0_9, o1_9, n1_9, q0_1_9⟩ H8 hr8; refine W_seq ?_; refine W_reg (by kernel_rfl) ?_; refine wla rfl rfl (q_ltI rfl s13_9 s12_9) ?_; refine wl_nil ?_; refine W_th ?_; refine W_seq ?_; refine W_cond _ rfl rfl (fun hb10 => ?_) (fun hb10 => ?_)
    · replace H8 := (if_pos (of_decide_eq_true hb10)).symm.trans H8; refine W_skip ?_; refine W_th ?_; refine W_seq ?_; refine W_block ?_; refine W_seq ?_; refine W_reg (by kernel_rfl) ?_; refine wla rfl rfl (q_move (v := (i64 s8.2)) rfl s13_9) ?_; refine wla rfl rfl (q_assign (v := (i64 s8.2)) rfl rfl) ?_; refine wl_nil ?_; refine W_th ?_; refine W_reg (by kernel_rfl) ?_; refine wla rfl rfl (q_move (v := (bp g4)) rfl s4_9) ?_; refine wla rfl rfl (q_nilP rfl rfl) ?_; refine wla rfl rfl (q_fldP rfl fieldAtM rfl) ?_; refine wlq rfl rfl (q_loadB (u := uv4) rfl Try.isAgg22 rfl o1_9 rfl) ?_; refine wla rfl rfl (q_move (v := (i64 s8.2)) rfl rfl) ?_; obtain ⟨c11, hc11, H8⟩ := bsi H8; refine wla rfl rfl (q_adr rfl T22 rfl rfl o0_9.rd hc11) ?_; refine wlq_loadD rfl rfl rfl T22 rfl o0_9 hc11 (fun v12 hD12 => ?_); refine wla rfl rfl (q_move (v := (i64 s8.2)) rfl rfl) ?_; obtain ⟨c13, hc13, H8⟩ := bsi H8; refine wla rfl rfl (q_adr rfl T30 rfl rfl (OwD.rowrd o0_9 hD12 hc11) hc13) ?_; refine wln rfl rfl (stp_storeD [] ((bp g4) :: L0) rfl T30 rfl (cst8 (1 : UInt8) rfl) o0_9 hD12 hc11 hc13 ?_); intro w14 o14 g14 l14; replace o1_9 := o1_9.other g14 q0_1_9.symm; have e15 := hE9.grown g14 n0_9; refine wl_nil ?_; refine bk_n ?_; refine W_th ?_; refine W_reg (by kernel_rfl) ?_; refine wla rfl rfl (q_addI rfl s13_9 rfl) ?_; refine wla rfl rfl (q_move (v := (i64 ((wI (s8.2 + 1))))) rfl rfl) ?_; refine wl_nil ?_; obtain rfl := osi H8; exact ⟨_, rfl, Gbbpg4_9, s4_9, s12_9, rfl, s27_9, e15, o14, n0_9, o1_9, n1_9, q0_1_9⟩
    replace H8 := (if_neg (of_decide_eq_false hb10)).symm.trans H8; refine W_exit ?_; refine th_x ?_; obtain rfl := osi H8; obtain rfl := hr8 _ rfl; refine th_x ?_; refine bk_x ?_; exact ⟨Gbbpg4_9, s4_9, s27_9, hE9, o0_9, n0_9, o1_9, n1_9, q0_1_9⟩
  rintro _ w17 ⟨Gbbpg4_17, s4_17, s27_17, hE17, o0_17, n0_17, o1_17, n1_17, q0_1_17⟩; refine W_th ?_; refine W_seq ?_; refine W_reg (by kernel_rfl) ?_; refine wla rfl rfl (q_move (v := (bp g4)) rfl s4_17) ?_; refine wla rfl rfl (q_assign (v := (bp g4)) rfl rfl) ?_; refine wla rfl rfl (q_assign (v := (i64 0)) rfl rfl) ?_; refine wl_nil ?_; refine W_th ?_; refine W_ret ?_; obtain rfl := osi H; refine rt2 (bp g4) (i64 0) rfl rfl rfl rfl rfl s27_17 ?_; exact ⟨(bp g4), rfl, hE17, (Mx.mk o1_17 (hL0 _ (n1_17 _ (hs_bp' _))) (o0_17.rw L0 (fun k hk => hL0 k (n0_17 k hk))))⟩
noncomputable def matrix_Vandermonde (a0f : Bool) (a1xs : List UInt8) (a2columns : Int) : Option (Option (List (List UInt8)) × Int) :=
(if (!a0f) = true then some ((none : Option (List (List UInt8))), 1)
else
((matrix_size (a1xs.length : Int)).bind fun r2 =>
(if (!r2) = true then some ((none : Option (List (List UInt8))), 2)
else
((matrix_size a2columns).bind fun r5 =>
(if (!r5) = true then some ((none : Option (List (List UInt8))), 2)
else
((matrix_blank (a1xs.length : Int) a2columns).bind fun r8 =>
((iterC (fun s12 : List (List UInt8) × Int =>
(if s12.2 < (a1xs.length : Int) then
((idx a1xs s12.2).bind fun c15 =>
((iterC (fun s16 : List (List UInt8) × Int =>
(if s16.2 < a2columns then
((idx s16.1 s12.2).bind fun c21 =>
((field_Pow a0f c15 s16.2).bind fun r23 =>
((idx c21 s16.2).bind fun c25 => some (.inl ((s16.1.set (s12.2 : Int).toNat (c21.set (s16.2 : Int).toNat r23)), (wI (s16.2 + 1)))))))
else some (.inr s16.1))) (s12.1, 0)).bind fun x16 => some (.inl (x16, (wI (s12.2 + 1))))))
else some (.inr s12.1))) (r8, 0)).bind fun x12 => some ((some x12), 0))))))))
set_option maxRecDepth 100000 in
set_option maxHeartbeats 8000000 in
theorem matrix_Vandermonde_calls (a0f : Bool) (a1xs : List UInt8) (a2columns : Int) (p0 : Value) (p1 : Value) (r : Option (List (List UInt8)) × Int) (w0 : World) (L0 : List Value) (hL0 : Old w0 L0) (hp0 : Fd w0 [] p0 a0f) (hp1 : By w0 [] p1 a1xs) (H : matrix_Vandermonde a0f a1xs a2columns = some r) :
    Calls Try.prog 29 [p0, p1, (i64 a2columns)].toArray w0 (fun e w' => ∃ u0 : Value, e = .returned (.tuple #[u0, (i64 r.2)]) ∧ Ext w0 w' ∧ Mx w' L0 u0 r.1) := by
  have hE : Ext w0 w0 := Ext.refl w0; unfold matrix_Vandermonde at H; refine calls_W (n := 56) Try.func29 rfl rfl rfl ?_; refine W_seq ?_; refine W_reg (by kernel_rfl) ?_; refine wla rfl rfl (q_assign (v := (.pointer none)) rfl rfl) ?_; refine wla rfl rfl (q_assign (v := (i64 0)) rfl rfl) ?_; refine wl_nil ?_; refine W_th ?_; refine W_seq ?_; refine W_block ?_; refine W_seq ?_; refine W_reg (by kernel_rfl) ?_; refine wla rfl rfl (q_move (v := p0) rfl rfl) ?_; refine wla rfl rfl (q_eqF rfl rfl rfl rfl (hp0.lift (Lift.ext hE _))) ?_; refine wla rfl rfl (q_assign (v := (.bool ((!a0f)))) rfl rfl) ?_; refine wl_nil ?_; refine W_th ?_; refine W_cond _ rfl rfl (fun hb1 => ?_) (fun hb1 => ?_)
  · replace H := (if_pos hb1).symm.trans H; refine W_seq ?_; refine W_reg (by kernel_rfl) ?_; refine wla rfl rfl (q_assign (v := (.pointer none)) rfl rfl) ?_; refine wla rfl rfl (q_assign (v := (i64 1)) rfl rfl) ?_; refine wl_nil ?_; refine W_th ?_; refine W_ret ?_; refine bk_r ?_; refine th_r ?_; obtain rfl := osi H; refine rt2 (.pointer none) (i64 1) rfl rfl rfl rfl rfl rfl ?_; exact ⟨(.pointer none), rfl, hE, (Mx.nil _ _)⟩
  replace H := (if_neg (ne_true_of_eq_false hb1)).symm.trans H; refine W_seq ?_; refine W_reg (by kernel_rfl) ?_; refine wla rfl rfl (q_move (v := p1) rfl rfl) ?_; refine wla rfl rfl (q_len rfl T30.sl rfl (hp1.lift (Lift.ext hE _))) ?_; obtain ⟨r2, hr2, H⟩ := bsi H; refine wls rfl rfl (stp_call (vs := [(i64 ((a1xs.length : Int)))]) Try.func34 rfl rfl rfl (ar1 rfl) (matrix_size_calls (a1xs.length : Int)  r2 _  hr2) ?_); rintro _ w2 ⟨rfl, x2⟩; refine ⟨_, rfl, ?_⟩; have e3 := hE.trans x2; refine wla rfl rfl (q_not rfl rfl) ?_; refine wlb rfl rfl (q_move (v := (.bool ((!r2)))) rfl rfl) (fun hb4 => ?_) (fun hb4 => ?_)
  · replace H := (if_pos hb4).symm.trans H; refine wlk rfl rfl ?_; refine wlk rfl rfl ?_; refine wlk rfl rfl ?_; refine wla rfl rfl (q_pick_t (v := (.bool true)) rfl rfl rfl) ?_; refine wla rfl rfl (q_assign (v := (.bool true)) rfl rfl) ?_; refine wl_nil ?_; refine W_th ?_; refine W_cond true rfl rfl (fun _ => ?_) (fun hb => by cases hb); refine W_seq ?_; refine W_reg (by kernel_rfl) ?_; refine wla rfl rfl (q_assign (v := (.pointer none)) rfl rfl) ?_; refine wla rfl rfl (q_assign (v := (i64 2)) rfl rfl) ?_; refine wl_nil ?_; refine W_th ?_; refine W_ret ?_; refine bk_r ?_; refine th_r ?_; obtain rfl := osi H; refine rt2 (.pointer none) (i64 2) rfl rfl rfl rfl rfl rfl ?_; exact ⟨(.pointer none), rfl, e3, (Mx.nil _ _)⟩
  replace H := (if_neg (ne_true_of_eq_false hb4)).symm.trans H; refine wla rfl rfl (q_move (v := (i64 a2columns)) rfl rfl) ?_; obtain ⟨r5, hr5, H⟩ := bsi H; refine wls rfl rfl (stp_call (vs := [(i64 a2columns)]) Try.func34 rfl rfl rfl (ar1 rfl) (matrix_size_calls a2columns  r5 _  hr5) ?_); rintro _ w5 ⟨rfl, x5⟩; refine ⟨_, rfl, ?_⟩; have e6 := e3.trans x5; refine wla rfl rfl (q_not rfl rfl) ?_; refine wla rfl rfl (q_pick_f (v := (.bool ((!r5)))) rfl rfl rfl) ?_; refine wla rfl rfl (q_assign (v := (.bool ((!r5)))) rfl rfl) ?_; refine wl_nil ?_; refine W_th ?_; refine W_cond _ rfl rfl (fun hb7 => ?_) (fun hb7 => ?_)
  · replace H := (if_pos hb7).symm.trans H; refine W_seq ?_; refine W_reg (by kernel_rfl) ?_; refine wla rfl rfl (q_assign (v := (.pointer none)) rfl rfl) ?_; refine wla rfl rfl (q_assign (v := (i64 2)) rfl rfl) ?_; refine wl_nil ?_; refine W_th ?_; refine W_ret ?_; refine bk_r ?_; refine th_r ?_; obtain rfl := osi H; refine rt2 (.pointer none) (i64 2) rfl rfl rfl rfl rfl rfl ?_; exact ⟨(.pointer none), rfl, e6, (Mx.nil _ _)⟩
  replace H := (if_neg (ne_true_of_eq_false hb7)).symm.trans H; refine W_skip ?_; refine bk_n ?_; refine W_th ?_; refine W_seq ?_; refine W_reg (by kernel_rfl) ?_; refine wla rfl rfl (q_move (v := p1) rfl rfl) ?_; refine wla rfl rfl (q_len rfl T30.sl rfl (hp1.lift (Lift.ext e6 _))) ?_; refine wla rfl rfl (q_move (v := (i64 a2columns)) rfl rfl) ?_; obtain ⟨r8, hr8, H⟩ := bsi H; refine wls rfl rfl (stp_call (vs := [(i64 ((a1xs.length : Int))), (i64 a2columns)]) Try.func35 rfl rfl rfl (ar2 rfl rfl) (matrix_blank_calls (a1xs.length : Int) a2columns  r8 _  hr8) ?_); rintro _ w8 ⟨v8, rfl, x8, i8_0⟩; refine ⟨_, rfl, ?_⟩; obtain ⟨g8, uv8, G8, rfl, nB8, hB8, nG8, hD8, hq8⟩ := i8_0; have n9 := Nw.ext e6 nB8; have n10 := Nw.ext e6 nG8; have e11 := e6.trans x8; refine wla rfl rfl (q_assign (v := (bp g8)) rfl rfl) ?_; refine wl_nil ?_; refine W_th ?_; refine W_seq ?_; refine W_seq ?_; refine W_reg (by kernel_rfl) ?_; refine wla rfl rfl (q_move (v := p1) rfl rfl) ?_; refine wla rfl rfl (q_len rfl T30.sl rfl (hp1.lift (Lift.ext e11 _))) ?_; refine wla rfl rfl (q_move (v := (i64 0)) rfl rfl) ?_; refine wl_nil ?_; refine W_th ?_; obtain ⟨x12, G12, H⟩ := bsi H; refine W_mid (fun f w => ∃ Gbbpg8_33 : Value, f 8 = (bp g8) ∧ f 56 = undef ∧ Ext w0 w ∧ OwD w 30 5 Gbbpg8_33 uv8 x12 ∧ Nw w0 Gbbpg8_33 ∧ Blk w g8 65 #[uv8] ∧ Nw w0 (bp g8) ∧ Nq Gbbpg8_33 (bp g8)) ?_ ?_
  · refine W_block ?_; refine W_loop (fun s12 f w => ∃ Gbbpg8_31 : Value, f 0 = p0 ∧ f 2 = (i64 a2columns) ∧ f 8 = (bp g8) ∧ f 29 = p1 ∧ f 30 = (i64 ((a1xs.length : Int))) ∧ f 31 = (i64 s12.2) ∧ f 56 = undef ∧ Ext w0 w ∧ OwD w 30 5 Gbbpg8_31 uv8 s12.1 ∧ Nw w0 Gbbpg8_31 ∧ Blk w g8 65 #[uv8] ∧ Nw w0 (bp g8) ∧ Nq Gbbpg8_31 (bp g8)) G12 ?_ ?_
    · exact ⟨G8, rfl, rfl, rfl, rfl, rfl, rfl, rfl, e11, hD8, n10, hB8, n9, hq8.symm⟩
    rintro s12 _ _ w13 ⟨Gbbpg8_13, s0_13, s2_13, s8_13, s29_13, s30_13, s31_13, s56_13, hE13, o0_13, n0_13, o1_13, n1_13, q0_1_13⟩ H12 hr12; refine W_seq ?_; refine W_reg (by kernel_rfl) ?_; refine wla rfl rfl (q_ltI rfl s31_13 s30_13) ?_; refine wl_nil ?_; refine W_th ?_; refine W_seq ?_; refine W_cond _ rfl rfl (fun hb14 => ?_) (fun hb14 => ?_)
    · replace H12 := (if_pos (of_decide_eq_true hb14)).symm.trans H12; refine W_skip ?_; refine W_th ?_; refine W_seq ?_; refine W_block ?_; refine W_seq ?_; refine W_reg (by kernel_rfl) ?_; refine wla rfl rfl (q_move (v := (i64 s12.2)) rfl s31_13) ?_; obtain ⟨c15, hc15, H12⟩ := bsi H12; refine wla rfl rfl (q_adr rfl T30 s29_13 s31_13 (hp1.lift (Lift.ext hE13 _)) hc15) ?_; refine wlq rfl rfl (q_loadS rfl T30 rfl (hp1.lift (Lift.ext hE13 _)) hc15) ?_; refine wla rfl rfl (q_assign (v := (i64 s12.2)) rfl rfl) ?_; refine wla rfl rfl (q_assign (v := (u8 c15)) rfl rfl) ?_; refine wl_nil ?_; refine W_th ?_; refine W_seq ?_; refine W_reg (by kernel_rfl) ?_; refine wla rfl rfl (q_move (v := (i64 a2columns)) rfl s2_13) ?_; refine wla rfl rfl (q_move (v := (i64 0)) rfl rfl) ?_; refine wl_nil ?_; refine W_th ?_; obtain ⟨x16, G16, H12⟩ := bsi H12; refine W_mid (fun f w => ∃ Gbbpg8_30 : Value, f 0 = p0 ∧ f 2 = (i64 a2columns) ∧ f 8 = (bp g8) ∧ f 29 = p1 ∧ f 30 = (i64 ((a1xs.length : Int))) ∧ f 31 = (i64 s12.2) ∧ f 56 = undef ∧ Ext w0 w ∧ OwD w 30 5 Gbbpg8_30 uv8 x16 ∧ Nw w0 Gbbpg8_30 ∧ Blk w g8 65 #[uv8] ∧ Nw w0 (bp g8) ∧ Nq Gbbpg8_30 (bp g8)) ?_ ?_
      · refine W_block ?_; refine W_loop (fun s16 f w => ∃ Gbbpg8_28 : Value, f 0 = p0 ∧ f 2 = (i64 a2columns) ∧ f 8 = (bp g8) ∧ f 9 = (i64 s12.2) ∧ f 10 = (u8 c15) ∧ f 29 = p1 ∧ f 30 = (i64 ((a1xs.length : Int))) ∧ f 31 = (i64 s12.2) ∧ f 36 = (i64 a2columns) ∧ f 37 = (i64 s16.2) ∧ f 56 = undef ∧ Ext w0 w ∧ OwD w 30 5 Gbbpg8_28 uv8 s16.1 ∧ Nw w0 Gbbpg8_28 ∧ Blk w g8 65 #[uv8] ∧ Nw w0 (bp g8) ∧ Nq Gbbpg8_28 (bp g8)) G16 ?_ ?_
        · exact ⟨Gbbpg8_13, s0_13, s2_13, s8_13, rfl, rfl, s29_13, s30_13, s31_13, rfl, rfl, s56_13, hE13, o0_13, n0_13, o1_13, n1_13, q0_1_13⟩
        rintro s16 _ _ w17 ⟨Gbbpg8_17, s0_17, s2_17, s8_17, s9_17, s10_17, s29_17, s30_17, s31_17, s36_17, s37_17, s56_17, hE17, o0_17, n0_17, o1_17, n1_17, q0_1_17⟩ H16 hr16; refine W_seq ?_; refine W_reg (by kernel_rfl) ?_; refine wla rfl rfl (q_ltI rfl s37_17 s36_17) ?_; refine wl_nil ?_; refine W_th ?_; refine W_seq ?_; refine W_cond _ rfl rfl (fun hb18 => ?_) (fun hb18 => ?_)
        · replace H16 := (if_pos (of_decide_eq_true hb18)).symm.trans H16; refine W_skip ?_; refine W_th ?_; refine W_seq ?_; refine W_block ?_; refine W_seq ?_; refine W_reg (by kernel_rfl) ?_; refine wla rfl rfl (q_move (v := (i64 s16.2)) rfl s37_17) ?_; refine wla rfl rfl (q_assign (v := (i64 s16.2)) rfl rfl) ?_; refine wl_nil ?_; refine W_th ?_; refine W_draw [3, 6] [(0, 0), (1, 0), (2, 0), (3, 1), (4, 0), (5, 0), (6, 1), (7, 0), (8, 0), (9, 0), (10, 0), (11, 2), (12, 0), (13, 2)] mixed (by kernel_rfl) (by kernel_rfl) (by kernel_rfl) (by kernel_rfl) ?_; have x19 := Ext.drew w17; replace o0_17 := o0_17.ext x19; replace o1_17 := o1_17.ext x19; have e20 := hE17.trans x19; refine wsa rfl rfl rfl (q_move (v := (bp g8)) rfl s8_17) ?_; refine wsa rfl rfl rfl (q_nilP rfl rfl) ?_; refine wsa rfl rfl rfl (q_fldP rfl fieldAtM rfl) ?_; refine wsq rfl rfl rfl (q_loadB (u := uv8) rfl Try.isAgg22 rfl o1_17 rfl) ?_; refine wsa rfl rfl rfl (q_move (v := (i64 s12.2)) rfl s9_17) ?_; obtain ⟨c21, hc21, H16⟩ := bsi H16; refine wsa rfl rfl rfl (q_adr rfl T22 rfl rfl o0_17.rd hc21) ?_; refine wsq_loadD rfl rfl rfl rfl T22 rfl o0_17 hc21 (fun v22 hD22 => ?_); refine wsa rfl rfl rfl (q_move (v := (i64 s16.2)) rfl rfl) ?_; refine wsa rfl rfl rfl (q_move (v := p0) rfl s0_17) ?_; refine wsa rfl rfl rfl (q_move (v := (u8 c15)) rfl s10_17) ?_; refine wsa rfl rfl rfl (q_move (v := (i64 s16.2)) rfl rfl) ?_; obtain ⟨r23, hr23, H16⟩ := bsi H16; refine wss rfl rfl rfl (stp_call (vs := [p0, (u8 c15), (i64 s16.2)]) Try.func48 rfl rfl rfl (ar3 rfl rfl rfl) (field_Pow_calls a0f c15 s16.2 p0 r23 _ (hp0.lift (Lift.ext e20 _)) hr23) ?_); rintro _ w23 ⟨rfl, x23⟩; refine ⟨_, rfl, x23, ?_⟩; replace o0_17 := o0_17.ext x23; replace o1_17 := o1_17.ext x23; have e24 := e20.trans x23; obtain ⟨c25, hc25, H16⟩ := bsi H16; refine wsa rfl rfl rfl (q_adr rfl T30 rfl rfl (OwD.rowrd o0_17 hD22 hc21) hc25) ?_; refine wsn rfl (by kernel_rfl) rfl rfl (stp_storeD [] ((bp g8) :: L0) rfl T30 rfl rfl o0_17 hD22 hc21 hc25 ?_); intro w26 o26 g26 l26; replace o1_17 := o1_17.other g26 q0_1_17.symm; have e27 := e24.grown g26 n0_17; refine ws_nil ?_; refine bk_n ?_; refine W_th ?_; refine W_reg (by kernel_rfl) ?_; refine wla rfl rfl (q_addI rfl s37_17 rfl) ?_; refine wla rfl rfl (q_move (v := (i64 ((wI (s16.2 + 1))))) rfl rfl) ?_; refine wl_nil ?_; obtain rfl := osi H16; exact ⟨_, rfl, Gbbpg8_17, s0_17, s2_17, s8_17, s9_17, s10_17, s29_17, s30_17, s31_17, s36_17, rfl, s56_17, e27, o26, n0_17, o1_17, n1_17, q0_1_17⟩
        replace H16 := (if_neg (of_decide_eq_false hb18)).symm.trans H16; refine W_exit ?_; refine th_x ?_; obtain rfl := osi H16; obtain rfl := hr16 _ rfl; refine th_x ?_; refine bk_x ?_; exact ⟨Gbbpg8_17, s0_17, s2_17, s8_17, s29_17, s30_17, s31_17, s56_17, hE17, o0_17, n0_17, o1_17, n1_17, q0_1_17⟩
      rintro _ w29 ⟨Gbbpg8_29, s0_29, s2_29, s8_29, s29_29, s30_29, s31_29, s56_29, hE29, o0_29, n0_29, o1_29, n1_29, q0_1_29⟩; refine bk_n ?_; refine W_th ?_; refine W_reg (by kernel_rfl) ?_; refine wla rfl rfl (q_addI rfl s31_29 rfl) ?_; refine wla rfl rfl (q_move (v := (i64 ((wI (s12.2 + 1))))) rfl rfl) ?_; refine wl_nil ?_; obtain rfl := osi H12; exact ⟨_, rfl, Gbbpg8_29, s0_29, s2_29, s8_29, s29_29, s30_29, rfl, s56_29, hE29, o0_29, n0_29, o1_29, n1_29, q0_1_29⟩
    replace H12 := (if_neg (of_decide_eq_false hb14)).symm.trans H12; refine W_exit ?_; refine th_x ?_; obtain rfl := osi H12; obtain rfl := hr12 _ rfl; refine th_x ?_; refine bk_x ?_; exact ⟨Gbbpg8_13, s8_13, s56_13, hE13, o0_13, n0_13, o1_13, n1_13, q0_1_13⟩
  rintro _ w32 ⟨Gbbpg8_32, s8_32, s56_32, hE32, o0_32, n0_32, o1_32, n1_32, q0_1_32⟩; refine W_th ?_; refine W_seq ?_; refine W_reg (by kernel_rfl) ?_; refine wla rfl rfl (q_move (v := (bp g8)) rfl s8_32) ?_; refine wla rfl rfl (q_assign (v := (bp g8)) rfl rfl) ?_; refine wla rfl rfl (q_assign (v := (i64 0)) rfl rfl) ?_; refine wl_nil ?_; refine W_th ?_; refine W_ret ?_; obtain rfl := osi H; refine rt2 (bp g8) (i64 0) rfl rfl rfl rfl rfl s56_32 ?_; exact ⟨(bp g8), rfl, hE32, (Mx.mk o1_32 (hL0 _ (n1_32 _ (hs_bp' _))) (o0_32.rw L0 (fun k hk => hL0 k (n0_32 k hk))))⟩
end Gk

/- Pure loops: how they are shown to end, and with what. Numbers of Go as plain numbers. No condition. -/
namespace Gk
theorem iterC_inv {S X : Type} {body : S → Option (S ⊕ X)} (I : S → Prop) (m : S → Nat) (post : X → Prop)
    (step : ∀ s, I s → (∃ s', body s = some (.inl s') ∧ I s' ∧ m s' < m s) ∨ ∃ x, body s = some (.inr x) ∧ post x) (s : S) (h : I s) : ∃ x, iterC body s = some x ∧ post x := by
  generalize hk : m s = k
  induction k using Nat.strongRecOn generalizing s with
  | ind k ih =>
    rw [iterC_step]
    rcases step s h with ⟨s', hb, hI, hm⟩ | ⟨x, hb, hp⟩
    · obtain ⟨x, hx, hp⟩ := ih (m s') (by omega) s' hI rfl
      exact ⟨x, by rw [hb]; simpa using hx, hp⟩
    · exact ⟨x, by rw [hb]; rfl, hp⟩
theorem bind_of {α β : Type} {o : Option α} {g : α → Option β} {x : α} {r : Option β} (h : o = some x) (h2 : g x = r) : o.bind g = r := by rw [h]; exact h2
theorem iterC_up {σ X : Type} {body : σ × Int → Option ((σ × Int) ⊕ X)} {s0 : σ} (I : Nat → σ → Prop) (n : Nat) (post : X → Prop) (h0 : I 0 s0)
    (hstep : ∀ (i : Nat) (s : σ), i < n → I i s → ∃ s', body (s, (i : Int)) = some (.inl (s', ((i + 1 : Nat) : Int))) ∧ I (i + 1) s')
    (hend : ∀ s, I n s → ∃ x, body (s, (n : Int)) = some (.inr x) ∧ post x) : ∃ x, iterC body (s0, 0) = some x ∧ post x := by
  refine iterC_inv (fun s => ∃ i : Nat, i ≤ n ∧ s.2 = (i : Int) ∧ I i s.1) (fun s => n - s.2.toNat) post ?_ (s0, 0) ⟨0, Nat.zero_le _, rfl, h0⟩
  rintro ⟨s, _⟩ ⟨i, hi, rfl, hI⟩
  by_cases h : i < n
  · obtain ⟨s', hb, hI'⟩ := hstep i s h hI
    exact .inl ⟨_, hb, ⟨i + 1, h, rfl, hI'⟩, by simp only [Int.toNat_natCast]; omega⟩
  · obtain rfl : i = n := by omega
    exact .inr (hend s hI)
theorem iterC_range {S X : Type} {body : S → Option (S ⊕ X)} (s : Nat → S) (k : Nat) {x : X} (hs : ∀ i, i < k → body (s i) = some (.inl (s (i + 1)))) (he : body (s k) = some (.inr x)) : iterC body (s 0) = some x := by
  have : ∀ j, j ≤ k → iterC body (s (k - j)) = some x := by
    intro j
    induction j with
    | zero => intro _; rw [iterC_step, Nat.sub_zero, he]; rfl
    | succ j ih =>
      intro hj
      rw [iterC_step, hs (k - (j + 1)) (by omega)]
      have e : k - (j + 1) + 1 = k - j := by omega
      rw [e]; exact ih (by omega)
  have h := this k (Nat.le_refl _)
  rwa [Nat.sub_self] at h
theorem iterC_count {S X : Type} {body : S → Option (S ⊕ X)} {s0 : S} (s : Nat → S) (k : Nat) (x : X) (h0 : s0 = s 0) (hs : ∀ i, i < k → body (s i) = some (.inl (s (i + 1)))) (he : body (s k) = some (.inr x)) : iterC body s0 = some x := by
  rw [h0]; exact iterC_range s k hs he
theorem wI_nat {n : Nat} (h : n < 9223372036854775808) : wI (n : Int) = n := wI_of (by omega) (by omega)
theorem cnt_nat (n : Nat) : cnt (n : Int) = some n := by simp [cnt]
theorem remI_nat (a b : Nat) (h : 0 < b) : remI (a : Int) (b : Int) = some ((a % b : Nat) : Int) := by
  unfold remI; rw [if_neg (by omega)]; rw [← Int.ofNat_tmod]
theorem shrI_nat (a n : Nat) (h : n ≤ 64) : shrI (a : Int) n = ((a >>> n : Nat) : Int) := by
  unfold shrI; rw [Nat.min_eq_left h, Nat.shiftRight_eq_div_pow]
  have h2 : (2 ^ n : Int) = ((2 ^ n : Nat) : Int) := by norm_cast
  rw [h2, Int.fdiv_eq_ediv_of_nonneg _ (Int.natCast_nonneg _)]
  norm_cast
theorem shlI_nat (a n : Nat) (h : n ≤ 64) (hb : a * 2 ^ n < 9223372036854775808) : shlI (a : Int) n = ((a <<< n : Nat) : Int) := by
  unfold shlI; rw [Nat.min_eq_left h, Nat.shiftLeft_eq, ← wI_nat hb]
  norm_cast
theorem xorI_nat (a b : Nat) (ha : a < 9223372036854775808) (hb : b < 9223372036854775808) : xorI (a : Int) (b : Int) = ((a ^^^ b : Nat) : Int) := by
  unfold xorI
  have h : (BitVec.ofInt 64 (a : Int) ^^^ BitVec.ofInt 64 (b : Int)).toNat = a ^^^ b := by
    rw [BitVec.toNat_xor, BitVec.ofInt_natCast, BitVec.ofInt_natCast, BitVec.toNat_ofNat, BitVec.toNat_ofNat, Nat.mod_eq_of_lt (by omega), Nat.mod_eq_of_lt (by omega)]
  rw [h]
  exact wI_nat (Nat.xor_lt_two_pow (n := 63) ha hb)
end Gk

/- The field of 256 numbers, in plain Lean: what the program's and the document's product come to. No condition. -/
set_option linter.unusedSimpArgs false
namespace Gf
theorem bit_shr (b : UInt8) : (bit (Gk.shr8 b 1) 0 = bit b 1 ∧ bit (Gk.shr8 b 1) 1 = bit b 2 ∧ bit (Gk.shr8 b 1) 2 = bit b 3 ∧ bit (Gk.shr8 b 1) 3 = bit b 4) ∧
    bit (Gk.shr8 b 1) 4 = bit b 5 ∧ bit (Gk.shr8 b 1) 5 = bit b 6 ∧ bit (Gk.shr8 b 1) 6 = bit b 7 ∧ bit (Gk.shr8 b 1) 7 = false := by
  revert b; refine all8 ?_; decide +kernel
theorem bit_and (b : UInt8) : (b &&& 1 = 1) ↔ bit b 0 = true := by
  revert b; refine all8 ?_; decide +kernel
theorem mul_step (a b : UInt8) : mul a b = sel (bit b 0) a ^^^ mul (dbl a) (Gk.shr8 b 1) := by
  obtain ⟨⟨h0, h1, h2, h3⟩, h4, h5, h6, h7⟩ := bit_shr b
  unfold mul
  rw [h0, h1, h2, h3, h4, h5, h6, h7]
  simp [dblN, sel, UInt8.xor_assoc]
def cl (a b : Nat) : Nat → Nat
  | 0 => 0
  | k + 1 => if b.testBit k then cl a b k ^^^ (a <<< k) else cl a b k
def rd : Nat → Nat → Nat
  | 0, p => p
  | j + 1, p => rd j (if p.testBit (8 + j) then p ^^^ (283 <<< j) else p)
def rds (p : Nat) : Nat → Nat
  | 0 => p
  | i + 1 => if (rds p i).testBit (14 - i) then rds p i ^^^ (283 <<< (6 - i)) else rds p i
theorem rd_xor (j : Nat) : ∀ p q, rd j (p ^^^ q) = rd j p ^^^ rd j q := by
  induction j with
  | zero => intro p q; rfl
  | succ j ih =>
    intro p q
    have h : (if (p ^^^ q).testBit (8 + j) then (p ^^^ q) ^^^ (283 <<< j) else p ^^^ q) =
        (if p.testBit (8 + j) then p ^^^ (283 <<< j) else p) ^^^ (if q.testBit (8 + j) then q ^^^ (283 <<< j) else q) := by
      rw [Nat.testBit_xor]
      generalize 283 <<< j = c
      cases p.testBit (8 + j) <;> cases q.testBit (8 + j) <;> simp
      · exact Nat.xor_assoc p q c
      · rw [Nat.xor_assoc, Nat.xor_comm q c, Nat.xor_assoc]
      · rw [Nat.xor_assoc p c, ← Nat.xor_assoc c q c, Nat.xor_comm c q, Nat.xor_assoc q c c, Nat.xor_self, Nat.xor_zero]
    simp only [rd, h, ih]
theorem rd_sel (c : Bool) (x a : Nat) (k : Nat) : rd 7 (if c then x ^^^ (a <<< k) else x) = rd 7 x ^^^ (if c then rd 7 (a <<< k) else 0) := by
  cases c
  · simp
  · simp [rd_xor]
theorem rd_dbl (a : UInt8) : (List.range 8).all (fun k => rd 7 (a.toNat <<< k) == (dblN k a).toNat) = true := by
  revert a; refine all8 ?_; decide +kernel
theorem rd_dbl' (a : UInt8) (k : Nat) (h : k < 8) : rd 7 (a.toNat <<< k) = (dblN k a).toNat := by
  have := List.all_eq_true.1 (rd_dbl a) k (List.mem_range.2 h)
  simpa using this
theorem rd0 : rd 7 0 = 0 := by decide
theorem sel_nat (c : Bool) (a : UInt8) : (sel c a).toNat = if c then a.toNat else 0 := by cases c <;> simp [sel]
theorem ref_eq (a b : UInt8) : rd 7 (cl a.toNat b.toNat 8) = (mul a b).toNat := by
  simp only [cl, rd_sel, rd0, mul, UInt8.toNat_xor, sel_nat, bit]
  rw [rd_dbl' a 0 (by decide), rd_dbl' a 1 (by decide), rd_dbl' a 2 (by decide), rd_dbl' a 3 (by decide), rd_dbl' a 4 (by decide), rd_dbl' a 5 (by decide), rd_dbl' a 6 (by decide), rd_dbl' a 7 (by decide)]
  simp only [Nat.zero_xor]
theorem cl_lt (a b : Nat) (ha : a < 256) : ∀ k, k ≤ 8 → cl a b k < 32768 := by
  intro k
  induction k with
  | zero => intro _; simp [cl]
  | succ k ih =>
    intro hk
    have h1 := ih (by omega)
    have h2 : a <<< k < 32768 := by
      rw [Nat.shiftLeft_eq]
      have : 2 ^ k ≤ 2 ^ 7 := Nat.pow_le_pow_right (by decide) (by omega)
      calc a * 2 ^ k ≤ a * 2 ^ 7 := Nat.mul_le_mul_left _ this
        _ < 32768 := by omega
    simp only [cl]
    split
    · exact Nat.xor_lt_two_pow (n := 15) h1 h2
    · exact h1
end Gf
namespace Gk
open Gf
theorem double_eq (a : UInt8) : field_double a = some (dbl a) := by
  revert a
  refine all8 ?_
  unfold field_double
  decide +kernel
theorem ofInt_nat (a : UInt8) : UInt8.ofInt (a.toNat : Int) = a := by
  revert a; refine all8 ?_; decide +kernel
theorem Slow_loop (a b o : UInt8) : iterC (fun s1 : UInt8 × UInt8 × UInt8 =>
    (if s1.2.1 = (0 : UInt8) then some (.inr s1.2.2) else
    (if (s1.2.1 &&& (1 : UInt8)) = (1 : UInt8) then ((field_double s1.1).bind fun r5 => some (.inl (r5, (shr8 s1.2.1 1), (s1.2.2 ^^^ s1.1))))
    else ((field_double s1.1).bind fun r7 => some (.inl (r7, (shr8 s1.2.1 1), s1.2.2)))))) (a, b, o) = some (o ^^^ mul a b) := by
  simp only [double_eq, Option.bind_some]
  generalize hk : b.toNat = k
  induction k using Nat.strongRecOn generalizing a b o with
  | ind k ih =>
    rw [iterC_step]
    by_cases h : b = 0
    · subst h; simp [mul_zero]
    · have hlt : (shr8 b 1).toNat < k := by
        have : b.toNat ≠ 0 := fun e => h (UInt8.toNat_inj.1 (by simpa using e))
        have := b.toNat_lt
        simp [shr8]; omega
      simp only [if_neg h]
      by_cases h1 : b &&& 1 = 1
      · simp only [if_pos h1, Option.bind_some]
        rw [ih _ hlt _ _ _ rfl, mul_step a b, (bit_and b).1 h1]
        simp [sel, UInt8.xor_assoc]
      · simp only [if_neg h1, Option.bind_some]
        have h0 : bit b 0 = false := by cases hb : bit b 0 with | false => rfl | true => exact absurd ((bit_and b).2 hb) h1
        rw [ih _ hlt _ _ _ rfl, mul_step a b, h0]
        simp [sel]
theorem Slow_eq (a b : UInt8) : field_Slow a b = some (mul a b) := by
  unfold field_Slow
  rw [Slow_loop]; simp
theorem shr_bit (b : UInt8) : (List.range 8).all (fun k => decide ((shr8 b k % 2 = 1) ↔ b.toNat.testBit k = true)) = true := by
  revert b; refine all8 ?_; decide +kernel
theorem shr_bit' (b : UInt8) (k : Nat) (h : k < 8) : (shr8 b k % 2 = 1) ↔ b.toNat.testBit k = true := by
  have := List.all_eq_true.1 (shr_bit b) k (List.mem_range.2 h)
  exact of_decide_eq_true this
theorem refMul_eq (a b : UInt8) : ref02_Mul a b = some (mul a b) := by
  unfold ref02_Mul
  have ha := a.toNat_lt
  refine bind_of (iterC_count (fun k => (((cl a.toNat b.toNat k : Nat) : Int), (k : Int))) 8 ((cl a.toNat b.toNat 8 : Nat) : Int) rfl ?_ ?_) ?_
  rotate_left 2
  · have hl := cl_lt a.toNat b.toNat ha 8 (Nat.le_refl _)
    have hr := ref_eq a b
    generalize cl a.toNat b.toNat 8 = p at hl hr ⊢
    -- seven steps
    have hP : ∀ i, rds p (i + 1) = if (rds p i).testBit (14 - i) then rds p i ^^^ (283 <<< (6 - i)) else rds p i := fun i => rfl
    have hlt : ∀ i, rds p i < 32768 := by
      intro i
      induction i with
      | zero => exact hl
      | succ i ih =>
        rw [hP]; split
        · refine Nat.xor_lt_two_pow (n := 15) ih ?_
          have : 2 ^ (6 - i) ≤ 2 ^ 6 := Nat.pow_le_pow_right (by decide) (by omega)
          rw [Nat.shiftLeft_eq]; omega
        · exact ih
    have h7 : rds p 7 = rd 7 p := rfl
    refine bind_of (iterC_count (fun i => (((rds p i : Nat) : Int), 14 - (i : Int))) 7 ((rds p 7 : Nat) : Int) (by simp [rds]) ?_ ?_) ?_
    rotate_left 2
    · simp only [h7, hr]
      rw [ofInt_nat]
    · intro i hi
      have e1 : (14 - (i : Int)) = ((14 - i : Nat) : Int) := by omega
      have e2 : wI (14 - (i : Int) - 8) = ((6 - i : Nat) : Int) := by rw [wI_of (by omega) (by omega)]; omega
      have e3 : wI (14 - (i : Int) - 1) = 14 - ((i + 1 : Nat) : Int) := by rw [wI_of (by omega) (by omega)]; omega
      simp only [e2, e3]
      rw [if_pos (by omega), e1, cnt_nat]
      simp only [Option.bind_some, cnt_nat]
      rw [shrI_nat _ _ (by omega)]
      have e4 := remI_nat (rds p i >>> (14 - i)) 2 (by decide)
      have e5 : ((2 : Nat) : Int) = 2 := rfl
      rw [e5] at e4
      rw [e4, hP]
      have e6 : (rds p i).testBit (14 - i) = decide (rds p i >>> (14 - i) % 2 = 1) := by rw [Nat.testBit_eq_decide_div_mod_eq, Nat.shiftRight_eq_div_pow]
      simp only [Option.bind_some, e6]
      by_cases hc : rds p i >>> (14 - i) % 2 = 1
      · rw [if_pos (by omega), if_pos (decide_eq_true hc)]
        have h2 : 2 ^ (6 - i) ≤ 2 ^ 6 := Nat.pow_le_pow_right (by decide) (by omega)
        have e7 := shlI_nat 283 (6 - i) (by omega) (by omega)
        have e8 : ((283 : Nat) : Int) = 283 := rfl
        rw [e8] at e7
        rw [e7, xorI_nat _ _ (by have := hlt i; omega) (by rw [Nat.shiftLeft_eq]; omega)]
      · rw [if_neg (by omega), if_neg (fun e => hc (of_decide_eq_true e))]
    · rw [if_neg (by omega)]
  · intro i hi
    rw [if_pos (by omega)]
    simp only [cnt_nat, Option.bind_some, cl]
    have e3 : wI ((i : Int) + 1) = ((i + 1 : Nat) : Int) := by rw [wI_of (by omega) (by omega)]; omega
    have h2 : 2 ^ i ≤ 2 ^ 7 := Nat.pow_le_pow_right (by decide) (by omega)
    have h3 : a.toNat * 2 ^ i ≤ a.toNat * 2 ^ 7 := Nat.mul_le_mul_left _ h2
    rw [e3]
    by_cases hc : b.toNat.testBit i = true
    · rw [if_pos ((shr_bit' b i hi).2 hc), if_pos hc, shlI_nat _ _ (by omega) (by omega), xorI_nat _ _ (by have := cl_lt a.toNat b.toNat ha i (by omega); omega) (by rw [Nat.shiftLeft_eq]; omega)]
    · rw [if_neg (fun e => hc ((shr_bit' b i hi).1 e)), if_neg hc]
  · rw [if_neg (by omega)]
end Gk

/- The field is made: its tables are those of Gf. No condition. -/
set_option linter.unusedVariables false
set_option linter.unusedSimpArgs false
namespace Gk
open Go Go.Proofs
def zF : Array Value := fieldCells (List.replicate 510 0) (List.replicate 256 0)
theorem zeroF : (Try.prog.info? 71).map (fun i => i.zero) = some (some (.agg zF)) := by kernel_rfl
theorem build0 (w : World) : (Instr.build 71 #[]).run Try.prog w = .ok (.agg zF) w := by
  have h := zeroF
  cases hi : Try.prog.info? 71 with
  | none => rw [hi] at h; cases h
  | some i =>
    rw [hi] at h
    have hz : i.zero = some (.agg zF) := by simpa using h
    have hzr : (zeroValue 71).run Try.prog w = .ok (.agg zF) w := by
      simp [zeroValue, typeInfo, hi, hz]
    simp [Instr.build, hzr, Value.cells, Instr.fill]
theorem fc_pw (pw : List UInt8) (lg : List Int) (k : Nat) (c : UInt8) (h : k < pw.length) : (fieldCells pw lg).setIfInBounds k (u8 c) = fieldCells (pw.set k c) lg := by
  simp [fieldCells, List.set_append, h, List.map_set]
theorem fc_lg (pw : List UInt8) (lg : List Int) (k : Nat) (c : Int) : (fieldCells pw lg).setIfInBounds (pw.length + k) (i64 c) = fieldCells pw (lg.set k c) := by
  simp [fieldCells, List.set_append, List.map_set]
theorem fc_size (pw : List UInt8) (lg : List Int) : (fieldCells pw lg).size = pw.length + lg.length := by simp [fieldCells]
def newB (n : Nat) : Option (Nat ⊕ Unit) := if n < 255 then some (.inl (n + 1)) else some (.inr ())
theorem newB_some : iterC newB 0 = some () := iterC_count (fun n => n) 255 () rfl (fun i hi => by simp [newB, hi]) (by simp [newB])
def field_New : Option Bool := some true
set_option maxRecDepth 100000 in
set_option maxHeartbeats 8000000 in
theorem field_New_calls (r : Bool) (w0 : World) (L0 : List Value) (hL0 : Old w0 L0) (H : field_New = some r) :
    Calls Try.prog 17 [].toArray w0 (fun e w' => ∃ u0 : Value, e = .returned u0 ∧ Ext w0 w' ∧ Fd w' L0 u0 r) := by
  have hE : Ext w0 w0 := Ext.refl w0; obtain rfl := osi H; refine calls_W (n := 32) Try.func17 rfl rfl rfl ?_; refine W_seq ?_; refine W_reg (by kernel_rfl) ?_; refine wla rfl rfl (q_assign (v := .pointer none) rfl rfl) ?_; refine wl_nil ?_; refine W_th ?_; refine W_seq ?_; refine W_reg (by kernel_rfl) ?_; refine wla rfl rfl (v := .agg zF) (fun w => by simp [execOp, build0]) ?_; refine wls rfl rfl (stp_box (v := .agg zF) rfl rfl ?_); intro w1 hb hg; have e1 := hE.trans (grown_ext hg)
  generalize hgg : w0.heap.size = g at hb
  have hgn : w0.heap.size ≤ g := Nat.le_of_eq hgg; refine wla rfl rfl (q_assign (v := .pointer (some ⟨g, 0, none⟩)) rfl rfl) ?_; refine wl_nil ?_; refine W_th ?_; refine W_seq ?_; refine W_reg (by kernel_rfl) ?_; refine wla rfl rfl (q_assign (v := u8 1) rfl (cst8 1 rfl)) ?_; refine wl_nil ?_; refine W_th ?_; refine W_seq ?_; refine W_seq ?_; refine W_reg (by kernel_rfl) ?_; refine wla rfl rfl (q_move (v := i64 0) rfl rfl) ?_; refine wl_nil ?_; refine W_th ?_; refine W_mid (fun f w => f 32 = undef ∧ f 1 = .pointer (some ⟨g, 0, none⟩) ∧ Ext w0 w ∧ Blk w g 71 (fieldCells Gf.pwT Gf.lgT)) ?_ ?_
  · refine W_block ?_; refine W_loop (fun (n : Nat) f w => f 32 = undef ∧ n ≤ 255 ∧ f 6 = i64 (n : Int) ∧ f 1 = .pointer (some ⟨g, 0, none⟩) ∧ f 2 = u8 (Gf.pw n) ∧ Ext w0 w ∧ Blk w g 71 (fieldCells (Gf.tabN n).1 (Gf.tabN n).2.1)) newB_some ?_ ?_
    · exact ⟨rfl, by decide, rfl, rfl, rfl, e1, hb⟩
    rintro n r _ w ⟨hm, hn, s6, s1, s2, e, hB⟩ hr hx; have hl := Gf.tab_len n; refine W_seq ?_; refine W_reg (by kernel_rfl) ?_; refine wla rfl rfl (q_ltI rfl s6 rfl) ?_; refine wl_nil ?_; refine W_th ?_; refine W_seq ?_; refine W_cond _ rfl rfl (fun hb9 => ?_) (fun hb9 => ?_)
    · have hlt : n < 255 := by have := of_decide_eq_true hb9; omega
      have hr' : some (Sum.inl (n + 1)) = some r := by rw [← hr, newB, if_pos hlt]
      obtain rfl := osi hr'; refine W_skip ?_; refine W_th ?_; refine W_seq ?_; refine W_block ?_; refine W_seq ?_; refine W_reg (by kernel_rfl) ?_; refine wla rfl rfl (q_move (v := i64 (n : Int)) rfl s6) ?_; refine wla rfl rfl (q_assign (v := i64 (n : Int)) rfl rfl) ?_; refine wl_nil ?_; refine W_th ?_; refine W_seq ?_; refine W_draw [] [(0, 0), (1, 0), (2, 0), (3, 0), (4, 0), (5, 0), (6, 0), (7, 0), (8, 0), (9, 0), (11, 0), (12, 0), (10, 2), (13, 0), (14, 2)] mixed (by kernel_rfl) (by kernel_rfl) (by kernel_rfl) (by kernel_rfl) ?_; have x1 := Ext.drew w; replace e := e.trans x1; replace hB := hB.ext x1
      have ew : wI ((n : Int) + 255) = ((n + 255 : Nat) : Int) := by rw [wI_of (by omega) (by omega)]; omega
      refine wsa rfl rfl rfl (q_move (v := .pointer (some ⟨g, 0, none⟩)) rfl s1) ?_; refine wsa rfl rfl rfl (q_move (v := i64 (n : Int)) rfl rfl) ?_; refine wsa rfl rfl rfl (q_move (v := .pointer (some ⟨g, 0, none⟩)) rfl s1) ?_; refine wsa rfl rfl rfl (q_move (v := i64 (n : Int)) rfl rfl) ?_; refine wsa rfl rfl rfl (q_addI rfl rfl rfl) ?_; rw [ew]; refine wsa rfl rfl rfl (q_move (v := u8 (Gf.pw n)) rfl s2) ?_; refine wsa rfl rfl rfl (q_move (v := u8 (Gf.pw n)) rfl s2) ?_; refine wsa rfl rfl rfl (q_nilP rfl rfl) ?_; refine wsa rfl rfl rfl (q_fldP rfl fieldAt0 rfl) ?_; refine wsa rfl rfl rfl (q_ixP (i := n) rfl Try.underlying68 Try.sizeOf5 rfl rfl (by omega)) ?_; refine wsa rfl rfl rfl (q_nilP rfl rfl) ?_; refine wsa rfl rfl rfl (q_fldP rfl fieldAt0 rfl) ?_; refine wsn rfl (by kernel_rfl) rfl rfl (stp_storeB (u := u8 (Gf.pw n)) rfl Try.sizeOf5 rfl rfl hB (by rw [fc_size, hl.1, hl.2]; omega) rfl ?_)
      intro w2 hB2 g2; rw [show 0 + 0 + n = n by omega, fc_pw _ _ _ _ (by rw [hl.1]; omega)] at hB2
      replace e := e.grownB g2 hgn; refine wsa rfl rfl rfl (q_ixP (i := n + 255) rfl Try.underlying68 Try.sizeOf5 rfl rfl (by omega)) ?_; refine wsn rfl (by kernel_rfl) rfl rfl (stp_storeB (u := u8 (Gf.pw n)) rfl Try.sizeOf5 rfl rfl hB2 (by rw [fc_size, List.length_set, hl.1, hl.2]; omega) rfl ?_)
      intro w3 hB3 g3; rw [show 0 + 0 + (n + 255) = n + 255 by omega, fc_pw _ _ _ _ (by rw [List.length_set, hl.1]; omega)] at hB3
      replace e := e.grownB g3 hgn; refine ws_nil ?_; refine W_th ?_; refine W_seq ?_; refine W_reg (by kernel_rfl) ?_; refine wla rfl rfl (q_move (v := .pointer (some ⟨g, 0, none⟩)) rfl s1) ?_; refine wla rfl rfl (q_move (v := u8 (Gf.pw n)) rfl s2) ?_; refine wla rfl rfl (q_move (v := i64 (n : Int)) rfl rfl) ?_; refine wla rfl rfl (q_nilP rfl rfl) ?_; refine wla rfl rfl (q_fldP rfl fieldAt1 rfl) ?_; refine wla rfl rfl (q_ixP (i := (Gf.pw n).toNat) rfl Try.underlying69 Try.sizeOf3 rfl rfl (Gf.pw n).toNat_lt) ?_; refine wln rfl rfl (stp_storeB (u := i64 (n : Int)) rfl Try.sizeOf3 rfl rfl hB3 (by rw [fc_size, List.length_set, List.length_set, hl.1, hl.2]; have := (Gf.pw n).toNat_lt; omega) rfl ?_)
      intro w4 hB4 g4; rw [show 0 + 510 + (Gf.pw n).toNat = (((Gf.tabN n).1.set n (Gf.pw n)).set (n + 255) (Gf.pw n)).length + (Gf.pw n).toNat by rw [List.length_set, List.length_set, hl.1], fc_lg] at hB4; replace e := e.grownB g4 hgn; refine wl_nil ?_; refine W_th ?_; refine W_reg (by kernel_rfl) ?_; refine wla rfl rfl (q_move (v := u8 (Gf.pw n)) rfl s2) ?_; refine wls rfl rfl (stp_call (vs := [u8 (Gf.pw n), u8 3]) Try.func39 rfl rfl rfl (ar2 rfl (cst8 3 rfl)) (field_Slow_calls (Gf.pw n) 3 _ _ (Slow_eq _ _)) ?_); rintro _ w5 ⟨rfl, x5⟩; refine ⟨_, rfl, ?_⟩; replace e := e.trans x5; replace hB4 := hB4.ext x5; refine wla rfl rfl (q_assign (v := u8 (Gf.mul (Gf.pw n) 3)) rfl rfl) ?_; refine wl_nil ?_; refine bk_n ?_; refine W_th ?_; refine W_reg (by kernel_rfl) ?_; refine wla rfl rfl (q_addI rfl s6 rfl) ?_
      have ew2 : wI ((n : Int) + 1) = ((n + 1 : Nat) : Int) := by rw [wI_of (by omega) (by omega)]; omega
      rw [ew2]; refine wla rfl rfl (q_move (v := i64 ((n + 1 : Nat) : Int)) rfl rfl) ?_; refine wl_nil ?_; refine ⟨_, rfl, hm, by omega, rfl, s1, rfl, e, ?_⟩; rw [← Gf.tab_pw n] at hB4; exact hB4
    have hge : n = 255 := by have := of_decide_eq_false hb9; omega
    subst hge
    have hr' : some (Sum.inr ()) = some r := by rw [← hr]; rfl
    obtain rfl := osi hr'; refine W_exit ?_; refine th_x ?_; refine th_x ?_; refine bk_x ?_; exact ⟨hm, s1, e, hB⟩
  rintro _ w ⟨hm, s1, e, hB⟩; refine W_th ?_; refine W_seq ?_; refine W_reg (by kernel_rfl) ?_; refine wla rfl rfl (q_move (v := .pointer (some ⟨g, 0, none⟩)) rfl s1) ?_; refine wla rfl rfl (q_assign (v := .pointer (some ⟨g, 0, none⟩)) rfl rfl) ?_; refine wl_nil ?_; refine W_th ?_; refine W_ret ?_; refine rt1 (.pointer (some ⟨g, 0, none⟩)) rfl rfl rfl hm ?_; exact ⟨.pointer (some ⟨g, 0, none⟩), rfl, e, .inr ⟨rfl, g, rfl, hL0 g hgn, hB⟩⟩
end Gk

/- Cuts with three numbers; results that are read and not owned; rows that are put behind rows; rows that grow in their place. No condition. -/
set_option linter.unusedVariables false
set_option linter.unusedSimpArgs false
namespace Gk
open Go Go.RowKit
section
variable {P : Program} {o : Oper} {f : Nat → Value} {w : World} {L : List Value}
end
section
variable {P : Program} {f : Nat → Value} {w : World} {o : Oper}
end
end Gk

/- Printed by gen.py: for each Go function a pure function, and that the Go code comes to it. No condition beside the equation that says what the pure function gives. -/
set_option linter.unusedVariables false
set_option linter.unusedSimpArgs false
namespace Gk
open Go Go.Proofs
noncomputable def law04_lives  : Option Bool :=
((field_New ).bind fun r1 =>
((matrix_Vandermonde r1 ([(1 : UInt8), (2 : UInt8)] : List UInt8) 2).bind fun r5 =>
(if r5.2 = 0 then
((matrix_Row r5.1 1).bind fun r8 => some (decide (r8 = ([1, 2] : List UInt8))))
else some false)))
set_option maxRecDepth 100000 in
set_option maxHeartbeats 8000000 in
theorem law04_lives_calls  (r : Bool) (w0 : World) (H : law04_lives = some r) :
    Calls Try.prog 9 [].toArray w0 (fun e w' => e = .returned (.bool r) ∧ Ext w0 w') := by
  have hE : Ext w0 w0 := Ext.refl w0; unfold law04_lives at H; refine calls_W (n := 17) Try.func9 rfl rfl rfl ?_; refine W_seq ?_; refine W_reg (by kernel_rfl) ?_; refine wla rfl rfl (q_assign (v := (.bool false)) rfl rfl) ?_; refine wl_nil ?_; refine W_th ?_; refine W_seq ?_; refine W_reg (by kernel_rfl) ?_; obtain ⟨r1, hr1, H⟩ := bsi H; refine wls rfl rfl (stp_call (vs := []) Try.func17 rfl rfl rfl (ar0 ) (field_New_calls   r1 _ [] (Old.nil _)  hr1) ?_); rintro _ w1 ⟨v1, rfl, x1, i1_0⟩; refine ⟨_, rfl, ?_⟩; have e2 := hE.trans x1; refine wls rfl rfl (stp_lit (L := []) (R := (Sc u8)) [(u8 1), (u8 2)] ([(1 : UInt8), (2 : UInt8)] : List UInt8) rfl T30 rfl (by exact ⟨rfl, (cst8 (1 : UInt8) rfl), rfl, (cst8 (2 : UInt8) rfl), trivial⟩) rfl (litC u8 (oneC_u8) (us := [(u8 1), (u8 2)]) (l := ([(1 : UInt8), (2 : UInt8)] : List UInt8)) rfl) rfl (litS u8 (us := [(u8 1), (u8 2)]) (l := ([(1 : UInt8), (2 : UInt8)] : List UInt8)) rfl) ?_); intro v3 w3 o3 n3 g3 l3; have x3 := grown_ext g3; have i3 : By w3 [] v3 (([(1 : UInt8), (2 : UInt8)] : List UInt8)) := OwK.slk (Sc.stab _) _ o3 (fun k hk => (Old.nil _) k (n3 k hk)) (fun _ h => h.2); replace i1_0 := i1_0.lift (Lift.ext x3 _); have e4 := e2.trans x3; obtain ⟨r5, hr5, H⟩ := bsi H; refine wls rfl rfl (stp_call (vs := [v1, v3, (i64 2)]) Try.func29 rfl rfl rfl (ar3 rfl rfl rfl) (matrix_Vandermonde_calls r1 ([(1 : UInt8), (2 : UInt8)] : List UInt8) 2 v1 v3 r5 _ [] (Old.nil _) (i1_0.lift (Lift.sub (L' := []) (fun _ _ => trivial))) (i3.lift (Lift.sub (L' := []) (fun _ _ => trivial))) hr5) ?_); rintro _ w5 ⟨v5_0, rfl, x5, i5_0⟩; refine ⟨_, rfl, ?_⟩; replace i1_0 := i1_0.lift (Lift.ext x5 _); replace i3 := i3.lift (Lift.ext x5 _); have e6 := e4.trans x5; refine wla rfl rfl (q_move (v := (.tuple #[v5_0, (i64 r5.2)])) rfl rfl) ?_; refine wla rfl rfl (q_extract rfl rfl rfl) ?_; refine wla rfl rfl (q_extract rfl rfl rfl) ?_; refine wla rfl rfl (q_assign (v := v5_0) rfl rfl) ?_; refine wla rfl rfl (q_assign (v := (i64 r5.2)) rfl rfl) ?_; refine wl_nil ?_; refine W_th ?_; refine W_seq ?_; refine W_reg (by kernel_rfl) ?_; refine wla rfl rfl (q_move (v := (i64 r5.2)) rfl rfl) ?_; refine wla rfl rfl (q_eqI rfl rfl rfl) ?_; refine wlb rfl rfl (q_move (v := (.bool ((decide (r5.2 = 0))))) rfl rfl) (fun hb7 => ?_) (fun hb7 => ?_)
  · replace H := (if_pos (of_decide_eq_true hb7)).symm.trans H; refine wla rfl rfl (q_move (v := v5_0) rfl rfl) ?_; obtain ⟨r8, hr8, H⟩ := bsi H; refine wls rfl rfl (stp_call (vs := [v5_0, (i64 1)]) Try.func16 rfl rfl rfl (ar2 rfl rfl) (matrix_Row_calls r5.1 1 v5_0 r8 _ (i5_0.lift (Lift.sub (L' := []) (fun _ _ => trivial))) hr8) ?_); rintro _ w8 ⟨v8, rfl, x8, n8_0, o8_0⟩; refine ⟨_, rfl, ?_⟩; have i8_0 : By w8 [] v8 r8 := OwK.slk (Sc.stab _) _ (OwK.scal o8_0 (v8 :: [])) (fun k hk => (Old.nil _) k (n8_0 k hk)) (fun _ h => h.2); replace i1_0 := i1_0.lift (Lift.ext x8 _); replace i3 := i3.lift (Lift.ext x8 _); replace i5_0 := i5_0.lift (Lift.ext x8 _); have e9 := e6.trans x8; refine wlq rfl rfl (q_str rfl T30 rfl rfl rfl i8_0) ?_; refine wla rfl rfl (q_eqS rfl rfl rfl) ?_; refine wla rfl rfl (q_pick_t (v := (.bool ((decide (r8 = ([1, 2] : List UInt8)))))) rfl rfl rfl) ?_; refine wla rfl rfl (q_assign (v := (.bool ((decide (r8 = ([1, 2] : List UInt8)))))) rfl rfl) ?_; refine wl_nil ?_; refine W_th ?_; refine W_ret ?_; obtain rfl := osi H; refine rt1 (.bool ((decide (r8 = ([1, 2] : List UInt8))))) rfl rfl rfl rfl ?_; exact ⟨rfl, e9⟩
  replace H := (if_neg (of_decide_eq_false hb7)).symm.trans H; refine wlk rfl rfl ?_; refine wlk rfl rfl ?_; refine wlk rfl rfl ?_; refine wlk rfl rfl ?_; refine wla rfl rfl (q_pick_f (v := (.bool false)) rfl rfl rfl) ?_; refine wla rfl rfl (q_assign (v := (.bool false)) rfl rfl) ?_; refine wl_nil ?_; refine W_th ?_; refine W_ret ?_; obtain rfl := osi H; refine rt1 (.bool false) rfl rfl rfl rfl ?_; exact ⟨rfl, e6⟩
noncomputable def law04_rows (a0m : Option (List (List UInt8))) : Option (List (List UInt8)) :=
((matrix_Size a0m).bind fun r1 =>
((iterC (fun s3 : List (List UInt8) × Int =>
(if s3.2 < r1.1 then
((matrix_Row a0m s3.2).bind fun r6 =>
((appL s3.1 (([r6] : List (List UInt8)))).bind fun c10 => some (.inl (c10, (wI (s3.2 + 1))))))
else some (.inr s3.1))) (([] : List (List UInt8)), 0)).bind fun x3 => some x3))
set_option maxRecDepth 100000 in
set_option maxHeartbeats 8000000 in
theorem law04_rows_calls (a0m : Option (List (List UInt8))) (p0 : Value) (r : List (List UInt8)) (w0 : World) (L0 : List Value) (hL0 : Old w0 L0) (hp0 : Mx w0 [] p0 a0m) (H : law04_rows a0m = some r) :
    Calls Try.prog 15 [p0].toArray w0 (fun e w' => ∃ u0 : Value, e = .returned u0 ∧ Ext w0 w' ∧ Nw w0 u0 ∧ OwK By w' (u0 :: L0) 30 u0 r) := by
  have hE : Ext w0 w0 := Ext.refl w0; unfold law04_rows at H; refine calls_W (n := 24) Try.func15 rfl rfl rfl ?_; refine W_seq ?_; refine W_reg (by kernel_rfl) ?_; refine wla rfl rfl (q_assign (v := (.slice none 0 0)) rfl rfl) ?_; refine wl_nil ?_; refine W_th ?_; refine W_seq ?_; refine W_reg (by kernel_rfl) ?_; refine wla rfl rfl (q_assign (v := (.slice none 0 0)) rfl rfl) ?_; refine wl_nil ?_; refine W_th ?_; refine W_seq ?_; refine W_reg (by kernel_rfl) ?_; refine wla rfl rfl (q_move (v := p0) rfl rfl) ?_; obtain ⟨r1, hr1, H⟩ := bsi H; refine wls rfl rfl (stp_call (vs := [p0]) Try.func12 rfl rfl rfl (ar1 rfl) (matrix_Size_calls a0m p0 r1 _ (hp0.lift (Lift.ext hE _)) hr1) ?_); rintro _ w1 ⟨rfl, x1⟩; refine ⟨_, rfl, ?_⟩; have e2 := hE.trans x1; refine wla rfl rfl (q_move (v := (.tuple #[(i64 r1.1), (i64 r1.2)])) rfl rfl) ?_; refine wla rfl rfl (q_extract rfl rfl rfl) ?_; refine wla rfl rfl (q_extract rfl rfl rfl) ?_; refine wla rfl rfl (q_assign (v := (i64 r1.1)) rfl rfl) ?_; refine wla rfl rfl (q_assign (v := (i64 r1.2)) rfl rfl) ?_; refine wl_nil ?_; refine W_th ?_; refine W_seq ?_; refine W_seq ?_; refine W_reg (by kernel_rfl) ?_; refine wla rfl rfl (q_move (v := (i64 r1.1)) rfl rfl) ?_; refine wla rfl rfl (q_move (v := (i64 0)) rfl rfl) ?_; refine wl_nil ?_; refine W_th ?_; obtain ⟨x3, G3, H⟩ := bsi H; refine W_mid (fun f w => ∃ v3_15 : Value, f 3 = v3_15 ∧ f 24 = undef ∧ Ext w0 w ∧ OwK By w (v3_15 :: L0) 30 v3_15 x3 ∧ Nw w0 v3_15) ?_ ?_
  · refine W_block ?_; refine W_loop (fun s3 f w => ∃ v3_13 : Value, f 0 = p0 ∧ f 3 = v3_13 ∧ f 12 = (i64 r1.1) ∧ f 13 = (i64 s3.2) ∧ f 24 = undef ∧ Ext w0 w ∧ OwK By w (v3_13 :: L0) 30 v3_13 s3.1 ∧ Nw w0 v3_13) G3 ?_ ?_
    · exact ⟨(.slice none 0 0), rfl, rfl, rfl, rfl, rfl, e2, (OwK.nil _ _ _ _), (Nw.nil _)⟩
    rintro s3 _ _ w4 ⟨v3_4, s0_4, s3_4, s12_4, s13_4, s24_4, hE4, o0_4, n0_4⟩ H3 hr3; refine W_seq ?_; refine W_reg (by kernel_rfl) ?_; refine wla rfl rfl (q_ltI rfl s13_4 s12_4) ?_; refine wl_nil ?_; refine W_th ?_; refine W_seq ?_; refine W_cond _ rfl rfl (fun hb5 => ?_) (fun hb5 => ?_)
    · replace H3 := (if_pos (of_decide_eq_true hb5)).symm.trans H3; refine W_skip ?_; refine W_th ?_; refine W_seq ?_; refine W_block ?_; refine W_seq ?_; refine W_reg (by kernel_rfl) ?_; refine wla rfl rfl (q_move (v := (i64 s3.2)) rfl s13_4) ?_; refine wla rfl rfl (q_assign (v := (i64 s3.2)) rfl rfl) ?_; refine wl_nil ?_; refine W_th ?_; refine W_reg (by kernel_rfl) ?_; refine wla rfl rfl (q_move (v := v3_4) rfl s3_4) ?_; refine wla rfl rfl (q_move (v := p0) rfl s0_4) ?_; refine wla rfl rfl (q_move (v := (i64 s3.2)) rfl rfl) ?_; obtain ⟨r6, hr6, H3⟩ := bsi H3; refine wls rfl rfl (stp_call (vs := [p0, (i64 s3.2)]) Try.func16 rfl rfl rfl (ar2 rfl rfl) (matrix_Row_calls a0m s3.2 p0 r6 _ (hp0.lift (Lift.ext hE4 _)) hr6) ?_); rintro _ w6 ⟨v6, rfl, x6, n6_0, o6_0⟩; refine ⟨_, rfl, ?_⟩; have i6_0 : By w6 (v3_4 :: L0) v6 r6 := OwK.slk (Sc.stab _) _ (OwK.scal o6_0 (v6 :: (v3_4 :: L0))) (fun k hk => (Old.cons (hL0.ext hE4) o0_4.lt) k (n6_0 k hk)) (fun _ h => h.2); replace o0_4 := o0_4.extL (SlK.stab (Sc.stab _)) x6 (Lift.ext x6 _); have e7 := hE4.trans x6; refine wls rfl rfl (stp_lit (L := (v3_4 :: L0)) (R := By) [v6] ([r6] : List (List UInt8)) rfl T22 rfl (by exact ⟨rfl, rfl, trivial⟩) rfl (LitR.cells (R := By) (w := w6) (L := (v3_4 :: L0)) (l := ([r6] : List (List UInt8))) (LitR.cons i6_0 LitR.nil) (fun u x h => cells_sl u x h)) rfl (LitR.all (R := By) (w := w6) (L := (v3_4 :: L0)) (l := ([r6] : List (List UInt8))) (SlK.stab (Sc.stab _)) (LitR.cons i6_0 LitR.nil)) ?_); intro v8 w8 o8 n8 g8 l8; have x8 := grown_ext g8; have i8 : Rw w8 (v3_4 :: L0) v8 (([r6] : List (List UInt8))) := OwK.slk (SlK.stab (Sc.stab _)) _ o8 (fun k hk => (Old.cons (hL0.ext e7) o0_4.lt) k (n8 k hk)) (fun _ h => h.2); replace i6_0 := i6_0.lift (Lift.ext x8 _); replace o0_4 := o0_4.extL (SlK.stab (Sc.stab _)) x8 (Lift.ext x8 _); have e9 := e7.trans x8; obtain ⟨c10, hc10, H3⟩ := bsi H3; refine wls rfl rfl (stp_append (R := By) (v := v3_4) (u := v8) (SlK.stab (Sc.stab _)) [] (L0) rfl T22 rfl rfl o0_4 i8 (fun _ _ h => h) hc10 oc_sl ?_); intro v10 w10 o10 g10 nx10 l10; replace i6_0 := i6_0.lift l10; replace i8 := i8.lift l10; have e11 := e9.grown g10 n0_4; have n12 := Nw.nxt e9 n0_4 nx10; refine wla rfl rfl (q_assign (v := v10) rfl rfl) ?_; refine wl_nil ?_; refine bk_n ?_; refine W_th ?_; refine W_reg (by kernel_rfl) ?_; refine wla rfl rfl (q_addI rfl s13_4 rfl) ?_; refine wla rfl rfl (q_move (v := (i64 ((wI (s3.2 + 1))))) rfl rfl) ?_; refine wl_nil ?_; obtain rfl := osi H3; exact ⟨_, rfl, v10, s0_4, rfl, s12_4, rfl, s24_4, e11, o10, n12⟩
    replace H3 := (if_neg (of_decide_eq_false hb5)).symm.trans H3; refine W_exit ?_; refine th_x ?_; obtain rfl := osi H3; obtain rfl := hr3 _ rfl; refine th_x ?_; refine bk_x ?_; exact ⟨v3_4, s3_4, s24_4, hE4, o0_4, n0_4⟩
  rintro _ w14 ⟨v3_14, s3_14, s24_14, hE14, o0_14, n0_14⟩; refine W_th ?_; refine W_seq ?_; refine W_reg (by kernel_rfl) ?_; refine wla rfl rfl (q_move (v := v3_14) rfl s3_14) ?_; refine wla rfl rfl (q_assign (v := v3_14) rfl rfl) ?_; refine wl_nil ?_; refine W_th ?_; refine W_ret ?_; obtain rfl := osi H; refine rt1 v3_14 rfl rfl rfl s24_14 ?_; exact ⟨v3_14, rfl, hE14, n0_14, (o0_14.weak (SlK.stab (Sc.stab _)) (fun _ h => ⟨h.1, h.2⟩))⟩
end Gk

/- Arrays: as values, and in blocks behind pointers. No condition. -/
set_option linter.unusedVariables false
set_option linter.unusedSimpArgs false
namespace Gk
open Go Go.RowKit
section
variable {P : Program} {o : Oper} {f : Nat → Value} {w : World} {x y : Operand} {t e T : TypeId} {g m n : Nat} {cs : Array Value} {u v : Value} {α : Type} {enc : α → Value} {l l' : List α} {i : Int} {a b : α}
end
section
variable {P : Program} {o : Oper} {f : Nat → Value} {w : World} {x y : Operand} {t t' : TypeId} {k : IntKind}
end
section
variable {P : Program} {fn : Func} {n : Nat} {R : Ending → World → Prop} {f : Nat → Value} {w : World} {t e T : TypeId} {a g m : Nat} {α : Type} {enc : α → Value} {l : List α}
end
end Gk

/- Functions that turn what a pointer points to: what they keep. No condition. -/
set_option linter.unusedVariables false
set_option linter.unusedSimpArgs false
namespace Gk
open Go Go.RowKit
structure ExG (S : List Value) (w w' : World) : Prop where
  os : w'.os = w.os
  output : w'.output = w.output
  size : w.heap.size ≤ w'.heap.size
  blk : ∀ k, k < w.heap.size → Av S k → w'.heap[k]? = w.heap[k]?
def NS (S : List Value) (w : World) (v : Value) : Prop := ∀ k, Hs v k → w.heap.size ≤ k ∨ ¬ Av S k
section
variable {S : List Value} {w0 w w' : World} {v v' : Value}
theorem ExG.refl (S : List Value) (w : World) : ExG S w w := ⟨rfl, rfl, Nat.le_refl _, fun _ _ _ => rfl⟩
theorem ExG.trans (h : ExG S w0 w) (x : Ext w w') : ExG S w0 w' :=
  ⟨x.os.trans h.os, x.output.trans h.output, Nat.le_trans h.size x.size, fun k hk ha => (x.blk k (Nat.lt_of_lt_of_le hk h.size)).trans (h.blk k hk ha)⟩
theorem ExG.grown (h : ExG S w0 w) (hg : Gr w w' v) (hn : NS S w0 v) : ExG S w0 w' := by
  obtain ⟨row, hg, hr⟩ := hg
  refine ⟨hg.os.trans h.os, hg.output.trans h.output, Nat.le_trans h.size hg.size, fun k hk ha => ?_⟩
  refine (hg.block k (Nat.lt_of_lt_of_le hk h.size) (fun e => ?_)).trans (h.blk k hk ha)
  rcases hn k (hr k e.symm) with h1 | h1
  · omega
  · exact h1 ha
theorem NS.ext (h : ExG S w0 w) (hn : Nw w v) : NS S w0 v := fun k hk => .inl (Nat.le_trans h.size (hn k hk))
theorem NS.nxt (h : ExG S w0 w) (h0 : NS S w0 v) (hn : Nx w v v') : NS S w0 v' := fun k hk => (hn k hk).elim (h0 k) (fun h1 => .inl (Nat.le_trans h.size h1))
theorem NS.nil (S : List Value) (w : World) : NS S w (.slice none 0 0) := fun k hk => absurd hk nh_nil
theorem Lift.exg0 (h : ExG S w0 w) : Lift w0 w S [] := ⟨fun k o ho _ ha => (h.blk k (lt_of_get ho) ha).trans ho, fun _ _ _ => trivial⟩
variable {b u : Value} {e T : TypeId} {g : Nat} {cs : Array Value}
theorem av_one {k : Nat} (h : ¬ Hs b k) : Av [b] k := ⟨h, trivial⟩
theorem Lift.ownX (L1 L2 : List Value) (x : ExG [b] w w') : Lift w w' (L1 ++ b :: L2) (L1 ++ b :: L2) :=
  ⟨fun k o ho _ ha => by
    obtain ⟨_, h2, _⟩ := av_append.1 ha
    exact (x.blk k (lt_of_get ho) (av_one h2)).trans ho, fun _ _ h => h⟩
theorem Ext.grownX (h : Ext w0 w) (x : ExG [b] w w') (hn : Nw w0 b) : Ext w0 w' :=
  ⟨x.os.trans h.os, x.output.trans h.output, Nat.le_trans h.size x.size, fun k hk =>
    (x.blk k (Nat.lt_of_lt_of_le hk h.size) (av_one (fun e => by have := hn k e; omega))).trans (h.blk k hk)⟩
end
end Gk

/- Slices that a function turns for its caller; functions that are values. No condition beside those of the steps. -/
set_option linter.unusedVariables false
set_option linter.unusedSimpArgs false
namespace Gk
open Go Go.RowKit
theorem NS.me {S : List Value} {w : World} {v : Value} : NS (v :: S) w v := fun k hk => .inr fun h => h.1 hk
theorem NS.nw {w : World} {u v : Value} (h : NS [v] w u) (hq : Nq u v) : Nw w u := fun k hk => (h k hk).elim id fun hn => absurd (show Av [v] k from ⟨hq k hk, trivial⟩) hn
theorem Old.exg {S : List Value} {w w' : World} {L : List Value} (h : Old w L) (x : ExG S w w') : Old w' L := fun k hk => h k (Nat.le_trans x.size hk)
section
variable {P : Program} {o : Oper} {f : Nat → Value} {w : World}
theorem stp_callV {g : FuncId} {fn : Func} {x : Operand} {xs : Array Operand} {ats : Array TypeId} {vs : List Value} {R' : Ending → World → Prop} (hx0 : ev f x = .func (.func g) #[] #[]) (hf : P.funcs[g]? = some fn) (hn : (fn.name == "runtime.NumGoroutine") = false) (hb : fn.body.isNone = false)
    (ho : o.op = .call ⟨.value x, xs, ats⟩) (hx : xs.toList.map (ev f) = vs) (hc : Calls P g vs.toArray w R') {K : Value → World → Prop} (hk : ∀ e w', R' e w' → ∃ v, e = .returned v ∧ K v w') : Stp P o f w K := by
  have hxs : xs.map (ev f) = vs.toArray := by subst hx; apply Array.ext'; simp
  unfold Stp
  have : (execOp (ev f) o).run P w = .ok (.enter g vs.toArray) w := by
    have h1 := enters (P := P) hf hn hb vs.toArray w
    unfold execOp
    rw [ho]
    dsimp only
    simp only [resolve, hx0, Deferred.ofValue, hxs, Sem.run_bind, Sem.run_pure, Result.andThen_ok, invoke]
    simpa using h1
  rw [this]
  exact hc.mono hk
end
end Gk

/- slices.Clone over rows: the rows are shared. No condition but the length. -/
set_option linter.unusedVariables false
set_option linter.unusedSimpArgs false
namespace Gk
open Go Go.Proofs
end Gk

/- append of noughts (append(s, make(..)...)); slices.Grow on nothing; slices.Concat. No condition but the length. -/
set_option linter.unusedVariables false
set_option linter.unusedSimpArgs false
namespace Gk
open Go Go.Proofs
section
variable {P : Program} {o : Oper} {f : Nat → Value} {w : World} {L : List Value}
theorem q_cap {α : Type} {R : World → List Value → Value → α → Prop} {p : Option Addr} {n c : Nat} {x : Operand} {t e : TypeId}
    (ho : o.op = .call ⟨.builtin .cap, #[x], #[t]⟩) (ht : P.underlying t = some (.slice e)) (hx : ev f x = .slice p n c) : Qa P o f (i64 c) := by
  intro w'
  rw [exec_builtin _ ho]
  simp [builtin, Builtin.cap_, run_underlying ht, hx, goInt, i64]
theorem zeroCells_one {z : Value} (hz : z.cells = #[z]) (n : Nat) : (Builtin.zeroCells z.cells n).toList = List.replicate n z := by
  apply List.ext_getElem?
  intro i
  simp only [Builtin.zeroCells, hz]
  by_cases h : i < n
  · simp [h, Nat.mod_one]
  · simp [h]
theorem run_appz {t tn ty e : TypeId} {z v : Value} {bytes : Nat} {us : List Value} (T : TyS P t e z bytes) (htn : P.underlying tn = some (.int .i64)) (h1 : z.oneCell' = true) (h : Ow w e v us) (n : Nat) (hm : us.length + n ≤ most) :
    ∃ v' w', (Builtin.append_ #[t, tn] ty #[v, i64 n]).run P w = .ok v' w' ∧ Ow w' e v' (us ++ List.replicate n z) ∧ Gr w w' v ∧ Nx w v v' := by
  obtain ⟨i, hi, i1, i2, i3⟩ := info_parts T.info
  obtain ⟨b1, b2, b3⟩ := mem_most hm T.fit
  obtain ⟨c1, c2, c3⟩ := mem_most (show n ≤ most by omega) T.fit
  have h63 : ((us.length + n : Nat) : Int) ≤ 9223372036854775807 := by simp only [most] at hm; omega
  have hw : IntKind.i64.wrap (n : Int) = n := by rw [IntKind.wrap_i64]; simp only [most] at hm; omega
  have h48i : ¬ (281474976710656 < (n : Int) * (i.bytes : Int)) := by rw [← Int.natCast_mul, i3]; omega
  have hneg : ¬ ((n : Int) < 0) := by omega
  have made : ∀ (old : Nat), (w.drew.alloc (.cells (us.toArray ++ Builtin.zeroCells z.cells n ++ Builtin.zeroCells z.cells (grownCap w (us.length + n) old e - (us.length + n))) e)).ownsRow 0 e 1
        (.slice (some ⟨w.heap.size, 0, none⟩) (us.length + n) (grownCap w (us.length + n) old e)) (us.length + n) (us ++ List.replicate n z) := fun old => by
    have hge := grownCap_ge w (us.length + n) old e
    refine ⟨by simp, .inr ⟨w.heap.size, _, _, rfl, Nat.zero_le _, heap_alloc_new w.drew _, hge, grownCap_le_maxLen w _ old e b3, ?_, ?_⟩⟩
    · simp only [Array.size_append, List.size_toArray, size_zeroCells, T.cell]
      simp; omega
    · simp only [Array.toList_append, zeroCells_one T.cell]
      exact List.take_left' (by simp)
  have hlen : (us ++ List.replicate n z).length = us.length + n := by simp
  have hnxn : ∀ (v : Value) (n c : Nat), Nx w v (.slice (some ⟨w.heap.size, 0, none⟩) n c) := fun v n c => (Nw.mk w n c).nx v
  by_cases hn : n = 0
  · subst hn
    refine ⟨v, w, ?_, by simpa using h, Gr.refl w v, Nx.refl w v⟩
    have hw0 : IntKind.i64.wrap 0 = 0 := by rw [IntKind.wrap_i64]; rfl
    rcases h with ⟨pv, rfl, rfl⟩ | ⟨g, cap', rfl, hc0, h⟩
    · cases pv <;> simp [Builtin.append_, run_underlying T.sl, run_underlying htn, Go.sizeOf, typeInfo, hi, i64, asInt, asIntOf, storeCells, hw0]
    · obtain ⟨cur, hg, hc, _⟩ := row_spec h
      simp [Builtin.append_, run_underlying T.sl, run_underlying htn, Go.sizeOf, typeInfo, hi, i64, asInt, asIntOf, storeCells, hw0, hc]
  · rcases h with ⟨pv, rfl, rfl⟩ | ⟨g, cap', rfl, hc0, h⟩
    · have hold : (Builtin.firstCells i.size 0 (.slice pv 0 0)).run P w.drew = .ok ([] : List Value).toArray w.drew := by
        cases pv <;> simp [Builtin.firstCells, loadCells, loadCellsFrom]
      have hr := Lib.run_append_grow_zeros (P := P) w t tn ty e i z .i64 .i64 T.sl htn hi i1 pv 0 0 [] hold n (by omega) (by omega) (by omega) (by simpa using h63) (by rw [i3]; rw [Nat.mul_comm]; exact c2) (by rw [i3]; exact growslice_fits (by omega) (by simpa using b1))
      have hmk := made 0
      exact ⟨_, _, hr, Ow.mk (by simp) hmk, Gr.of ⟨rfl, rfl, rfl, by simp, fun k hk _ => alloc_old w.drew _ k hk⟩, hnxn _ _ _⟩
    · obtain ⟨cur, hg, hc, hcm, hcs, htake⟩ := row_spec h
      by_cases hroom : us.length + n ≤ cap'
      · have hst := run_storeCells_at P g us.length e (List.replicate n z) 0 cur w hg (by rw [hcs]; simp; omega) (fun v hv => by rw [(List.mem_replicate.1 hv).2]; exact h1)
        have hr : (Builtin.append_ #[t, tn] ty #[.slice (some ⟨g, 0, none⟩) us.length cap', i64 n]).run P w = .ok (.slice (some ⟨g, 0, none⟩) (us.length + n) cap') (w.setRow g (cur.toList.take us.length ++ List.replicate n z ++ cur.toList.drop (us.length + n)).toArray) := by
          simp only [Nat.add_zero, List.length_replicate] at hst
          have hz0 : ¬ (n * i.size = 0) := by rw [i2]; omega
          simp [Builtin.append_, run_underlying T.sl, run_underlying htn, Go.sizeOf, typeInfo, zeroValue, hi, i1, i64, asInt, asIntOf, hw, hneg, h48i, hroom, hz0, i2, zeroCells_one T.cell, add_off, hst, hn]
        refine ⟨_, _, hr, Ow.mk hlen.symm ⟨by simp, .inr ⟨g, cap', _, rfl, Nat.zero_le _, setRow_heap w g cur _ e _ hg, hroom, hcm, ?_, ?_⟩⟩,
          Gr.of ⟨rfl, rfl, rfl, by simp, fun k _ hk => setRow_other w g k _ (fun e => hk (by rw [oB_pos hc0, e]))⟩, fun k hk => .inl (.inl (by have := hs_sl hk; rw [oB_pos hc0] at *; exact this))⟩
        · simp only [List.size_toArray, List.length_append, List.length_take, List.length_drop, Array.length_toList, List.length_replicate]
          omega
        · rw [Nat.mul_one] at htake
          rw [htake]
          exact List.take_left' (by simp)
      · have holds : ∀ j u, us[j]? = some u → w.cell? ((⟨g, 0, none⟩ : Addr).add j) = some u := World.ownsRow.cells h (g := g) rfl
        have hold : (Builtin.firstCells i.size us.length (.slice (some ⟨g, 0, none⟩) us.length cap')).run P w.drew = .ok us.toArray w.drew := by
          have := run_firstCells_some (P := P) w.drew i.size us.length ⟨g, 0, none⟩ us.length cap' us (by rw [i2]; simp) (fun j u hj => holds j u hj)
          exact this
        have hr := Lib.run_append_grow_zeros (P := P) w t tn ty e i z .i64 .i64 T.sl htn hi i1 (some ⟨g, 0, none⟩) us.length cap' us hold n (by omega) (by omega) (by omega) h63 (by rw [i3]; rw [Nat.mul_comm]; exact c2) (by rw [i3]; exact growslice_fits (by omega) b1)
        exact ⟨_, _, hr, Ow.mk hlen.symm (made cap'), Gr.of ⟨rfl, rfl, rfl, by simp, fun k hk _ => alloc_old w.drew _ k hk⟩, hnxn _ _ _⟩
theorem stp_appz {α : Type} {R : World → List Value → Value → α → Prop} (hR : Stab R) {s x : Operand} {t tn e : TypeId} {z v : Value} {bytes : Nat} {l r : List α} {n : Int} {a : α} (L1 L2 : List Value)
    (ho : o.op = .call ⟨.builtin .append, #[s, x], #[t, tn]⟩) (T : TyS P t e z bytes) (htn : P.underlying tn = some (.int .i64)) (h1 : z.oneCell' = true) (hs : ev f s = v) (hx : ev f x = i64 n) (h : OwK R w (L1 ++ v :: L2) e v l) {m : List α} (hz : makeL n a = some m) (hza : ∀ w L, R w L z a) (hm : appL l m = some r)
    {K : Value → World → Prop} (hk : ∀ v' w', OwK R w' (L1 ++ v' :: L2) e v' r → Gr w w' v → Nx w v v' → Lift w w' (L1 ++ v :: L2) (L1 ++ v' :: L2) → K v' w') : Stp P o f w K := by
  obtain ⟨us, hown, hl, he⟩ := h
  obtain ⟨hmost, rfl⟩ := appL_some.1 hm
  unfold makeL at hz
  split at hz
  · rename_i hn
    obtain ⟨k, rfl⟩ := Int.eq_ofNat_of_zero_le hn.1
    obtain rfl := Option.some.inj hz
    simp only [Int.toNat_natCast, List.length_replicate] at hmost ⊢
    obtain ⟨v', w', hr, h2, h3, h4⟩ := run_appz (ty := o.type) T htn h1 hown k (by omega)
    have hlift := Lift.own L1 L2 h3 h4
    refine stp_of_run (v := v') (w' := w') ?_ (hk _ _ ⟨us ++ List.replicate k z, h2, by simp [hl], fun i a1 a2 => ?_⟩ h3 h4 hlift)
    · rw [exec_builtin _ ho]
      simp [builtin, hs, hx, hr]
    · by_cases hi : i < us.length
      · rw [List.getElem_append_left hi, List.getElem_append_left (by omega)]
        exact hR _ _ _ _ _ _ hlift (he i hi (by omega))
      · rw [List.getElem_append_right (by omega), List.getElem_append_right (by omega), List.getElem_replicate, List.getElem_replicate]
        exact hza _ _
  · cases hz
end
def slices_Grow (a0 : List UInt8) (n : Int) : Option (List UInt8) := if 0 ≤ n ∧ n ≤ most then some [] else none
set_option maxRecDepth 100000 in
set_option maxHeartbeats 8000000 in
theorem slices_Grow_calls (a0 : List UInt8) (n : Int) (p0 : Value) (r : List UInt8) (w0 : World) (hp0 : p0 = .slice none 0 0) (H : slices_Grow a0 n = some r) :
    Calls Try.prog 57 [p0, i64 n].toArray w0 (fun e w' => ∃ u0 : Value, e = .returned u0 ∧ Ext w0 w' ∧ Nw w0 u0 ∧ OwK (Sc u8) w' [] 5 u0 r) := by
  subst hp0
  unfold slices_Grow at H
  split at H
  case isFalse => cases H
  rename_i hn
  obtain rfl := osi H; have hE : Ext w0 w0 := Ext.refl w0; obtain ⟨k, rfl⟩ := Int.eq_ofNat_of_zero_le hn.1
  have hmo : k ≤ 5000000000000 := by have := hn.2; simp only [most] at this; omega
  have hk0 : wI ((k : Int) - wI (0 - 0)) = k := by rw [wI_of (x := 0 - 0) (by decide) (by decide), wI_of (by omega) (by omega)]; omega
  refine calls_W (n := 27) Try.func57 rfl rfl rfl ?_; refine W_seq ?_; refine W_reg (by kernel_rfl) ?_; refine wla rfl rfl (q_assign (v := (.slice none 0 0)) rfl rfl) ?_; refine wl_nil ?_; refine W_th ?_; refine W_seq ?_; refine W_seq ?_; refine W_reg (by kernel_rfl) ?_; refine wla rfl rfl (q_move (v := (i64 k)) rfl rfl) ?_; refine wla rfl rfl (q_ltI rfl rfl rfl) ?_; refine wl_nil ?_; refine W_th ?_; refine W_cond _ rfl rfl (fun hb => ?_) (fun hb => ?_)
  · have := of_decide_eq_true hb; omega
  refine W_skip ?_; refine W_th ?_; refine W_seq ?_; refine W_seq ?_; refine W_reg (by kernel_rfl) ?_; refine wla rfl rfl (q_move (v := (i64 k)) rfl rfl) ?_; refine wla rfl rfl (q_move (v := (.slice none 0 0)) rfl rfl) ?_; refine wla rfl rfl (q_cap (α := UInt8) (R := Sc u8) rfl T30.sl rfl) ?_; refine wla rfl rfl (q_move (v := (.slice none 0 0)) rfl rfl) ?_; refine wla rfl rfl (q_len_nil rfl T30.sl rfl) ?_; refine wla rfl rfl (q_subI rfl rfl rfl) ?_; refine wla rfl rfl (q_subI rfl rfl rfl) ?_; refine wla rfl rfl (q_assign (v := (i64 (wI ((k : Int) - wI (0 - 0))))) rfl rfl) ?_; refine wl_nil ?_; refine W_th ?_; refine W_seq ?_; refine W_reg (by kernel_rfl) ?_; refine wla rfl rfl (q_move (v := (i64 k)) rfl (by show i64 _ = i64 _; rw [hk0])) ?_
  refine wla rfl rfl (q_gtI rfl rfl rfl) ?_; refine wl_nil ?_; refine W_th ?_; refine W_cond _ rfl rfl (fun hb => ?_) (fun hb => ?_)
  · refine W_reg (by kernel_rfl) ?_; refine wla rfl rfl (q_move (v := (.slice none 0 0)) rfl rfl) ?_; refine wla rfl rfl (q_move (v := (.slice none 0 0)) rfl rfl) ?_; refine wla rfl rfl (q_cap (α := UInt8) (R := Sc u8) rfl T30.sl rfl) ?_; refine wla rfl rfl (q_slice (l := ([] : List UInt8)) (m := []) (R := Sc u8) (w := w0) (L := []) (a := 0) (b := 0) rfl T30 rfl (SlK.nil _ _ _) rfl rfl rfl) ?_; refine wla rfl rfl (q_move (v := (i64 k)) rfl (by show i64 _ = i64 _; rw [hk0])) ?_
    refine wls rfl rfl (stp_appz (R := (Sc u8)) (v := (.slice none 0 0)) (l := []) (r := List.replicate k 0) (m := List.replicate k 0) (n := (k : Int)) (a := 0) (Sc.stab _) [] [] rfl T30 Try.underlying3 rfl rfl rfl (OwK.nil _ _ _ _) (by unfold makeL; rw [if_pos hn]; simp) (fun _ _ => rfl) (by unfold appL; rw [if_pos (by simp; omega)]; rfl) ?_)
    intro v1 w1 o1 g1 nx1 l1; obtain ⟨us, hu, hl, he⟩ := o1
    rcases hu with ⟨p, rfl, rfl⟩ | ⟨g, cap, rfl, hc, hrow⟩
    · have : 0 < (k : Int) := of_decide_eq_true hb
      simp at hl; omega
    have e1 : Ext w0 w1 := hE.grown g1 (Nw.nil _); have n1 : Nw w0 (.slice (some ⟨g, 0, none⟩) us.length cap) := Nw.nxt hE (Nw.nil _) nx1; have h1 : SlK (Sc u8) w1 [] (.slice (some ⟨g, 0, none⟩) us.length cap) (List.replicate k (0 : UInt8)) := (OwK.rd (Sc.stab _) (L := []) ⟨us, .inr ⟨g, cap, rfl, hc, hrow⟩, hl, fun i a b => he i a b⟩)
    have hsub : subV (.slice (some ⟨g, 0, none⟩) us.length cap) (0 : Int).toNat (0 : Int).toNat = .slice (some ⟨g, 0, none⟩) 0 cap := by
      unfold subV
      by_cases h0 : cap = 0
      · omega
      simp [Addr.add]
    refine wla rfl rfl (q_move (v := (.slice none 0 0)) rfl rfl) ?_; refine wla rfl rfl (q_len_nil rfl T30.sl rfl) ?_; refine wla rfl rfl (q_slice (m := []) (a := 0) (b := 0) rfl T30 rfl h1 rfl rfl (by unfold subL; rw [if_pos (by simp)]; simp)) ?_
    refine wla rfl rfl (q_assign (v := .slice (some ⟨g, 0, none⟩) 0 cap) rfl hsub) ?_; refine wl_nil ?_; refine W_th ?_; refine W_seq ?_; refine W_reg (by kernel_rfl) ?_; refine wla rfl rfl (q_move (v := .slice (some ⟨g, 0, none⟩) 0 cap) rfl rfl) ?_; refine wla rfl rfl (q_assign (v := .slice (some ⟨g, 0, none⟩) 0 cap) rfl rfl) ?_; refine wl_nil ?_; refine W_th ?_; refine W_ret ?_; refine rt1 (.slice (some ⟨g, 0, none⟩) 0 cap) rfl rfl rfl rfl ?_; obtain ⟨cur, hg, a1, a2, a3, a4⟩ := row_spec hrow; refine ⟨_, rfl, e1, fun q hq => n1 q ?_, [], .inr ⟨g, cap, rfl, hc, rfl, .inr ⟨g, cap, cur, rfl, Nat.zero_le _, hg, Nat.zero_le _, a2, a3, by simp⟩⟩, rfl, fun i h => absurd h (by simp)⟩; have := hs_sl hq; rw [oB_pos hc] at this; exact .inl (by rw [oB_pos hc]; exact this)
  refine W_skip ?_; refine W_th ?_; refine W_seq ?_; refine W_reg (by kernel_rfl) ?_; refine wla rfl rfl (q_move (v := (.slice none 0 0)) rfl rfl) ?_; refine wla rfl rfl (q_assign (v := (.slice none 0 0)) rfl rfl) ?_; refine wl_nil ?_; refine W_th ?_; refine W_ret ?_; refine rt1 (.slice none 0 0) rfl rfl rfl rfl ?_; exact ⟨_, rfl, hE, Nw.nil _, OwK.nil _ _ _ _⟩
noncomputable def slices_Concat_sbytebyte (a0slices : List (List UInt8)) : Option (List UInt8) :=
((iterC (fun s1 : Int × Int =>
(if s1.2 < (a0slices.length : Int) then
((idx a0slices s1.2).bind fun c4 =>
(if (wI (s1.1 + (c4.length : Int))) < 0 then none
else some (.inl ((wI (s1.1 + (c4.length : Int))), (wI (s1.2 + 1))))))
else some (.inr s1.1))) (0, 0)).bind fun x1 =>
((slices_Grow ([] : List UInt8) x1).bind fun r9 =>
((iterC (fun s12 : List UInt8 × Int =>
(if s12.2 < (a0slices.length : Int) then
((idx a0slices s12.2).bind fun c15 =>
((appL s12.1 c15).bind fun c17 => some (.inl (c17, (wI (s12.2 + 1))))))
else some (.inr s12.1))) (r9, 0)).bind fun x12 => some x12)))
set_option maxRecDepth 100000 in
set_option maxHeartbeats 8000000 in
theorem slices_Concat_sbytebyte_calls (a0slices : List (List UInt8)) (p0 : Value) (r : List UInt8) (w0 : World) (hp0 : Rw w0 [] p0 a0slices) (H : slices_Concat_sbytebyte a0slices = some r) :
    Calls Try.prog 49 [p0].toArray w0 (fun e w' => ∃ u0 : Value, e = .returned u0 ∧ Ext w0 w' ∧ Nw w0 u0 ∧ OwK (Sc u8) w' [] 5 u0 r) := by
  have hE : Ext w0 w0 := Ext.refl w0; unfold slices_Concat_sbytebyte at H; refine calls_W (n := 36) Try.func49 rfl rfl rfl ?_; refine W_seq ?_; refine W_reg (by kernel_rfl) ?_; refine wla rfl rfl (q_assign (v := (.slice none 0 0)) rfl rfl) ?_; refine wl_nil ?_; refine W_th ?_; refine W_seq ?_; refine W_reg (by kernel_rfl) ?_; refine wla rfl rfl (q_assign (v := (i64 0)) rfl rfl) ?_; refine wl_nil ?_; refine W_th ?_; refine W_seq ?_; refine W_seq ?_; refine W_reg (by kernel_rfl) ?_; refine wla rfl rfl (q_move (v := p0) rfl rfl) ?_; refine wla rfl rfl (q_len rfl T22.sl rfl (hp0.lift (Lift.ext hE _))) ?_; refine wla rfl rfl (q_move (v := (i64 0)) rfl rfl) ?_; refine wl_nil ?_; refine W_th ?_; obtain ⟨x1, G1, H⟩ := bsi H; refine W_mid (fun f w => f 0 = p0 ∧ f 3 = (i64 x1) ∧ f 36 = undef ∧ Ext w0 w) ?_ ?_
  · refine W_block ?_; refine W_loop (fun s1 f w => f 0 = p0 ∧ f 3 = (i64 s1.1) ∧ f 9 = p0 ∧ f 10 = (i64 ((a0slices.length : Int))) ∧ f 11 = (i64 s1.2) ∧ f 36 = undef ∧ Ext w0 w) G1 ?_ ?_
    · exact ⟨rfl, rfl, rfl, rfl, rfl, rfl, hE⟩
    rintro s1 _ _ w2 ⟨s0_2, s3_2, s9_2, s10_2, s11_2, s36_2, hE2⟩ H1 hr1; refine W_seq ?_; refine W_reg (by kernel_rfl) ?_; refine wla rfl rfl (q_ltI rfl s11_2 s10_2) ?_; refine wl_nil ?_; refine W_th ?_; refine W_seq ?_; refine W_cond _ rfl rfl (fun hb3 => ?_) (fun hb3 => ?_)
    · replace H1 := (if_pos (of_decide_eq_true hb3)).symm.trans H1; refine W_skip ?_; refine W_th ?_; refine W_seq ?_; refine W_block ?_; refine W_seq ?_; refine W_reg (by kernel_rfl) ?_; obtain ⟨c4, hc4, H1⟩ := bsi H1; refine wla rfl rfl (q_adr rfl T22 s9_2 s11_2 (hp0.lift (Lift.ext hE2 _)) hc4) ?_; refine wlq_load rfl rfl rfl T22 rfl hp0 hc4 hE2 (fun v5 ha5 => ?_); refine wla rfl rfl (q_assign (v := v5) rfl rfl) ?_; refine wl_nil ?_; refine W_th ?_; refine W_seq ?_; refine W_reg (by kernel_rfl) ?_; refine wla rfl rfl (q_move (v := (i64 s1.1)) rfl s3_2) ?_; refine wla rfl rfl (q_move (v := v5) rfl rfl) ?_; refine wla rfl rfl (q_len rfl T30.sl rfl (ha5.lift (Lift.ext hE2 _))) ?_; refine wla rfl rfl (q_addI rfl rfl rfl) ?_; refine wla rfl rfl (q_assign (v := (i64 ((wI (s1.1 + (c4.length : Int)))))) rfl rfl) ?_; refine wl_nil ?_; refine W_th ?_; refine W_seq ?_; refine W_reg (by kernel_rfl) ?_; refine wla rfl rfl (q_move (v := (i64 ((wI (s1.1 + (c4.length : Int)))))) rfl rfl) ?_; refine wla rfl rfl (q_ltI rfl rfl rfl) ?_; refine wl_nil ?_; refine W_th ?_; refine W_cond _ rfl rfl (fun hb6 => ?_) (fun hb6 => ?_)
      · replace H1 := (if_pos (of_decide_eq_true hb6)).symm.trans H1; cases H1
      replace H1 := (if_neg (of_decide_eq_false hb6)).symm.trans H1; refine W_skip ?_; refine bk_n ?_; refine W_th ?_; refine W_reg (by kernel_rfl) ?_; refine wla rfl rfl (q_addI rfl s11_2 rfl) ?_; refine wla rfl rfl (q_move (v := (i64 ((wI (s1.2 + 1))))) rfl rfl) ?_; refine wl_nil ?_; obtain rfl := osi H1; exact ⟨_, rfl, s0_2, rfl, s9_2, s10_2, rfl, s36_2, hE2⟩
    replace H1 := (if_neg (of_decide_eq_false hb3)).symm.trans H1; refine W_exit ?_; refine th_x ?_; obtain rfl := osi H1; obtain rfl := hr1 _ rfl; refine th_x ?_; refine bk_x ?_; exact ⟨s0_2, s3_2, s36_2, hE2⟩
  rintro _ w8 ⟨s0_8, s3_8, s36_8, hE8⟩; refine W_th ?_; refine W_seq ?_; refine W_reg (by kernel_rfl) ?_; refine wla rfl rfl (q_move (v := (i64 x1)) rfl s3_8) ?_; obtain ⟨r9, hr9, H⟩ := bsi H; refine wls rfl rfl (stp_call (vs := [(.slice none 0 0), (i64 x1)]) Try.func57 rfl rfl rfl (ar2 rfl rfl) (slices_Grow_calls ([] : List UInt8) x1 (.slice none 0 0) r9 _ rfl hr9) ?_); rintro _ w9 ⟨v9, rfl, x9, n9_0, o9_0⟩; refine ⟨_, rfl, ?_⟩; have o9 : OwK (Sc u8) w9 (v9 :: []) 5 v9 r9 := OwK.scal o9_0 _; have n11 := Nw.ext hE8 n9_0; have e10 := hE8.trans x9; refine wla rfl rfl (q_assign (v := v9) rfl rfl) ?_; refine wl_nil ?_; refine W_th ?_; refine W_seq ?_; refine W_seq ?_; refine W_reg (by kernel_rfl) ?_; refine wla rfl rfl (q_move (v := p0) rfl s0_8) ?_; refine wla rfl rfl (q_len rfl T22.sl rfl (hp0.lift (Lift.ext e10 _))) ?_; refine wla rfl rfl (q_move (v := (i64 0)) rfl rfl) ?_; refine wl_nil ?_; refine W_th ?_; obtain ⟨x12, G12, H⟩ := bsi H; refine W_mid (fun f w => ∃ v6_22 : Value, f 6 = v6_22 ∧ f 36 = undef ∧ Ext w0 w ∧ OwK (Sc u8) w [v6_22] 5 v6_22 x12 ∧ Nw w0 v6_22) ?_ ?_
  · refine W_block ?_; refine W_loop (fun s12 f w => ∃ v6_20 : Value, f 6 = v6_20 ∧ f 25 = p0 ∧ f 26 = (i64 ((a0slices.length : Int))) ∧ f 27 = (i64 s12.2) ∧ f 36 = undef ∧ Ext w0 w ∧ OwK (Sc u8) w [v6_20] 5 v6_20 s12.1 ∧ Nw w0 v6_20) G12 ?_ ?_
    · exact ⟨v9, rfl, rfl, rfl, rfl, s36_8, e10, o9, n11⟩
    rintro s12 _ _ w13 ⟨v6_13, s6_13, s25_13, s26_13, s27_13, s36_13, hE13, o0_13, n0_13⟩ H12 hr12; refine W_seq ?_; refine W_reg (by kernel_rfl) ?_; refine wla rfl rfl (q_ltI rfl s27_13 s26_13) ?_; refine wl_nil ?_; refine W_th ?_; refine W_seq ?_; refine W_cond _ rfl rfl (fun hb14 => ?_) (fun hb14 => ?_)
    · replace H12 := (if_pos (of_decide_eq_true hb14)).symm.trans H12; refine W_skip ?_; refine W_th ?_; refine W_seq ?_; refine W_block ?_; refine W_seq ?_; refine W_reg (by kernel_rfl) ?_; obtain ⟨c15, hc15, H12⟩ := bsi H12; refine wla rfl rfl (q_adr rfl T22 s25_13 s27_13 (hp0.lift (Lift.ext hE13 _)) hc15) ?_; refine wlq_load rfl rfl rfl T22 rfl hp0 hc15 hE13 (fun v16 ha16 => ?_); refine wla rfl rfl (q_assign (v := v16) rfl rfl) ?_; refine wl_nil ?_; refine W_th ?_; refine W_reg (by kernel_rfl) ?_; refine wla rfl rfl (q_move (v := v6_13) rfl s6_13) ?_; refine wla rfl rfl (q_move (v := v16) rfl rfl) ?_; obtain ⟨c17, hc17, H12⟩ := bsi H12; refine wls rfl rfl (stp_append (R := (Sc u8)) (v := v6_13) (u := v16) (Sc.stab _) [] [] rfl T30 rfl rfl o0_13 (ha16.lift (Lift.ext hE13 _)) (fun _ _ h => h) hc17 oc_u8 ?_); intro v17 w17 o17 g17 nx17 l17; have e18 := hE13.grown g17 n0_13; have n19 := Nw.nxt hE13 n0_13 nx17; refine wla rfl rfl (q_assign (v := v17) rfl rfl) ?_; refine wl_nil ?_; refine bk_n ?_; refine W_th ?_; refine W_reg (by kernel_rfl) ?_; refine wla rfl rfl (q_addI rfl s27_13 rfl) ?_; refine wla rfl rfl (q_move (v := (i64 ((wI (s12.2 + 1))))) rfl rfl) ?_; refine wl_nil ?_; obtain rfl := osi H12; exact ⟨_, rfl, v17, rfl, s25_13, s26_13, rfl, s36_13, e18, o17, n19⟩
    replace H12 := (if_neg (of_decide_eq_false hb14)).symm.trans H12; refine W_exit ?_; refine th_x ?_; obtain rfl := osi H12; obtain rfl := hr12 _ rfl; refine th_x ?_; refine bk_x ?_; exact ⟨v6_13, s6_13, s36_13, hE13, o0_13, n0_13⟩
  rintro _ w21 ⟨v6_21, s6_21, s36_21, hE21, o0_21, n0_21⟩; refine W_th ?_; refine W_seq ?_; refine W_reg (by kernel_rfl) ?_; refine wla rfl rfl (q_move (v := v6_21) rfl s6_21) ?_; refine wla rfl rfl (q_assign (v := v6_21) rfl rfl) ?_; refine wl_nil ?_; refine W_th ?_; refine W_ret ?_; obtain rfl := osi H; refine rt1 v6_21 rfl rfl rfl s36_21 ?_; exact ⟨v6_21, rfl, hE21, n0_21, (o0_21.weak (Sc.stab _) (fun _ _ => trivial))⟩
end Gk

/- Printed by gen.py: for each Go function a pure function, and that the Go code comes to it. No condition beside the equation that says what the pure function gives. -/
set_option linter.unusedVariables false
set_option linter.unusedSimpArgs false
namespace Gk
open Go Go.Proofs
noncomputable def matrix_reduce_1 (a0r : List UInt8) (b0 : Int) : Option Bool :=
((idx a0r b0).bind fun c1 => some (!decide (c1 = (0 : UInt8))))
set_option maxRecDepth 100000 in
set_option maxHeartbeats 8000000 in
theorem matrix_reduce_1_calls (a0r : List UInt8) (b0 : Int) (p0 : Value) (gc0 : Nat) (r : Bool) (w0 : World) (hp0 : By w0 [] p0 a0r) (hcB0 : Blk w0 gc0 3 #[(i64 b0)]) (H : matrix_reduce_1 a0r b0 = some r) :
    Calls Try.prog 55 [p0, (bp gc0)].toArray w0 (fun e w' => e = .returned (.bool r) ∧ Ext w0 w') := by
  have hE : Ext w0 w0 := Ext.refl w0; unfold matrix_reduce_1 at H; refine calls_W (n := 9) Try.func55 rfl rfl rfl ?_; refine W_seq ?_; refine W_reg (by kernel_rfl) ?_; refine wla rfl rfl (q_assign (v := (.bool false)) rfl rfl) ?_; refine wl_nil ?_; refine W_th ?_; refine W_seq ?_; refine W_reg (by kernel_rfl) ?_; refine wla rfl rfl (q_move (v := p0) rfl rfl) ?_; refine wlq rfl rfl (q_loadB (u := (i64 b0)) rfl Try.isAgg3 rfl (hcB0.ext hE) rfl) ?_; obtain ⟨c1, hc1, H⟩ := bsi H; refine wla rfl rfl (q_adr rfl T30 rfl rfl (hp0.lift (Lift.ext hE _)) hc1) ?_; refine wlq rfl rfl (q_loadS rfl T30 rfl (hp0.lift (Lift.ext hE _)) hc1) ?_; refine wla rfl rfl (q_ne8 rfl rfl (cst8 (0 : UInt8) rfl)) ?_; refine wla rfl rfl (q_assign (v := (.bool ((!decide (c1 = (0 : UInt8)))))) rfl rfl) ?_; refine wl_nil ?_; refine W_th ?_; refine W_ret ?_; obtain rfl := osi H; refine rt1 (.bool ((!decide (c1 = (0 : UInt8))))) rfl rfl rfl rfl ?_; exact ⟨rfl, hE⟩
noncomputable def matrix_reduce (a0f : Bool) (a1l : List (List UInt8)) (a2columns : Int) : Option (List (List UInt8) × List Int) :=
((iterC (fun s7 : List (List UInt8) × List Int × Int =>
(if s7.2.2 < a2columns then
(if (s7.2.1.length : Int) < (s7.1.length : Int) then
((subL s7.1 ((s7.2.1.length : Int)) ((s7.1.length : Int))).bind fun c11 =>
((lim c11.length).bind fun lim12 =>
((findAt (fun y12 => matrix_reduce_1 y12 s7.2.2) 0 c11).bind fun r12 =>
(if r12 < 0 then some (.inl (s7.1, s7.2.1, (wI (s7.2.2 + 1))))
else
((idx s7.1 ((wI ((s7.2.1.length : Int) + r12)))).bind fun c27 =>
((idx s7.1 ((s7.2.1.length : Int))).bind fun c29 =>
((idx ((s7.1.set ((s7.2.1.length : Int) : Int).toNat c27)) ((wI ((s7.2.1.length : Int) + r12)))).bind fun c33 =>
((idx ((((s7.1.set ((s7.2.1.length : Int) : Int).toNat c27)).set ((wI ((s7.2.1.length : Int) + r12)) : Int).toNat c29)) ((s7.2.1.length : Int))).bind fun c38 =>
((idx c38 s7.2.2).bind fun c40 =>
((field_Inv a0f c40).bind fun r41 =>
((idx ((((s7.1.set ((s7.2.1.length : Int) : Int).toNat c27)).set ((wI ((s7.2.1.length : Int) + r12)) : Int).toNat c29)) ((s7.2.1.length : Int))).bind fun c43 =>
((field_Scale a0f r41.1 c43).bind fun r45 =>
((iterC (fun s49 : List (List UInt8) × Int =>
(if s49.2 < (((((((s7.1.set ((s7.2.1.length : Int) : Int).toNat c27)).set ((wI ((s7.2.1.length : Int) + r12)) : Int).toNat c29)).set ((s7.2.1.length : Int) : Int).toNat r45)).length : Int) then
(if s49.2 = (s7.2.1.length : Int) then some (.inl (s49.1, (wI (s49.2 + 1))))
else
((idx s49.1 s49.2).bind fun c55 =>
((idx c55 s7.2.2).bind fun c58 =>
((idx s49.1 ((s7.2.1.length : Int))).bind fun c59 =>
((field_Sum a0f c55 c58 c59).bind fun r61 => some (.inl ((s49.1.set (s49.2 : Int).toNat r61), (wI (s49.2 + 1)))))))))
else some (.inr s49.1))) ((((((s7.1.set ((s7.2.1.length : Int) : Int).toNat c27)).set ((wI ((s7.2.1.length : Int) + r12)) : Int).toNat c29)).set ((s7.2.1.length : Int) : Int).toNat r45), 0)).bind fun x49 =>
((appL s7.2.1 (([s7.2.2] : List Int))).bind fun c70 => some (.inl (x49, c70, (wI (s7.2.2 + 1))))))))))))))))))
else some (.inr (s7.1, s7.2.1)))
else some (.inr (s7.1, s7.2.1)))) (a1l, ([] : List Int), 0)).bind fun x7 => some (x7.1, x7.2))
set_option maxRecDepth 100000 in
set_option maxHeartbeats 8000000 in
theorem matrix_reduce_calls (a0f : Bool) (a1l : List (List UInt8)) (a2columns : Int) (p0 : Value) (p1 : Value) (r : List (List UInt8) × List Int) (w0 : World) (L0 : List Value) (hL0 : Old w0 L0) (hp0 : Fd w0 [p1] p0 a0f) (ho1 : OwK By w0 (p1 :: L0) 30 p1 a1l) (H : matrix_reduce a0f a1l a2columns = some r) :
    Calls Try.prog 43 [p0, p1, (i64 a2columns)].toArray w0 (fun e w' => ∃ u0 : Value, e = .returned u0 ∧ ExG [p1] w0 w' ∧ OwK By w' (p1 :: L0) 30 p1 r.1 ∧ Nw w0 u0 ∧ OwK (Sc i64) w' [] 3 u0 r.2) := by
  have hE : ExG [p1] w0 w0 := ExG.refl _ w0; unfold matrix_reduce at H; refine calls_W (n := 110) Try.func43 rfl rfl rfl ?_; refine W_seq ?_; refine W_reg (by kernel_rfl) ?_; refine wla rfl rfl (q_assign (v := (.slice none 0 0)) rfl rfl) ?_; refine wl_nil ?_; refine W_th ?_; refine W_seq ?_; refine W_reg (by kernel_rfl) ?_; refine wla rfl rfl (q_assign (v := (.slice none 0 0)) rfl rfl) ?_; refine wl_nil ?_; refine W_th ?_; refine W_seq ?_; refine W_seq ?_; refine W_reg (by kernel_rfl) ?_; refine wls rfl rfl (stp_allocL (z := (i64 0)) (cs := #[(i64 0)]) (p1 :: L0) rfl Try.zeroValue3 rfl ?_); intro g1 w1 o1 n1 g1r l1; have x1 := grown_ext g1r; have q2 : Nq p1 (bp g1) := ho1.nq n1; replace ho1 := ho1.extL (SlK.stab (Sc.stab _)) x1 (Lift.call _ x1 n1); have n4 := NS.ext hE n1; have e3 := hE.trans x1; refine wln rfl rfl (stp_storeL (u := (i64 0)) [] (p1 :: L0) rfl Try.sizeOf3 rfl rfl o1 rfl ?_); intro w5 o5 g5 l5; replace ho1 := ho1.other (SlK.stab (Sc.stab _)) g5 q2 l5; have e6 := e3.grown g5 n4; refine wl_nil ?_; refine W_th ?_; obtain ⟨x7, G7, H⟩ := bsi H; refine W_mid (fun f w => ∃ v7_88 : Value, f 1 = p1 ∧ f 7 = v7_88 ∧ f 110 = undef ∧ ExG [p1] w0 w ∧ OwK By w (p1 :: v7_88 :: L0) 30 p1 x7.1 ∧ NS [p1] w0 p1 ∧ OwK (Sc i64) w (p1 :: v7_88 :: L0) 3 v7_88 x7.2 ∧ NS [p1] w0 v7_88 ∧ Nq p1 v7_88) ?_ ?_
  · refine W_block ?_; refine W_loop (fun s7 f w => ∃ v7_86 : Value, ∃ g8_86 : Nat, f 0 = p0 ∧ f 1 = p1 ∧ f 2 = (i64 a2columns) ∧ f 7 = v7_86 ∧ f 8 = (bp g8_86) ∧ f 110 = undef ∧ ExG [p1] w0 w ∧ OwK By w (p1 :: v7_86 :: (bp g8_86) :: L0) 30 p1 s7.1 ∧ NS [p1] w0 p1 ∧ OwK (Sc i64) w (p1 :: v7_86 :: (bp g8_86) :: L0) 3 v7_86 s7.2.1 ∧ NS [p1] w0 v7_86 ∧ Blk w g8_86 3 #[(i64 s7.2.2)] ∧ NS [p1] w0 (bp g8_86) ∧ Nq p1 v7_86 ∧ Nq p1 (bp g8_86) ∧ Nq v7_86 (bp g8_86)) G7 ?_ ?_
    · exact ⟨(.slice none 0 0), g1, rfl, rfl, rfl, rfl, rfl, rfl, e6, (ho1.weak (SlK.stab (Sc.stab _)) (fun _ h => ⟨h.2.1, nh_nil, h.1, h.2.2⟩)), NS.me, (OwK.nil _ _ _ _), (NS.nil _ _), o5, n4, (Nq.nil _).symm, q2, (Nq.nil _)⟩
    rintro s7 _ _ w8 ⟨v7_8, g8_8, s0_8, s1_8, s2_8, s7_8, s8_8, s110_8, hE8, o0_8, n0_8, o1_8, n1_8, o2_8, n2_8, q0_1_8, q0_2_8, q1_2_8⟩ H7 hr7; refine W_seq ?_; refine W_seq ?_; refine W_reg (by kernel_rfl) ?_; refine wlq rfl rfl (q_loadB (u := (i64 s7.2.2)) rfl Try.isAgg3 (by exact s8_8) o2_8 rfl) ?_; refine wla rfl rfl (q_move (v := (i64 a2columns)) rfl s2_8) ?_; refine wla rfl rfl (q_ltI rfl rfl rfl) ?_; refine wlb rfl rfl (q_move (v := (.bool ((decide (s7.2.2 < a2columns))))) rfl rfl) (fun hb9 => ?_) (fun hb9 => ?_)
    · replace H7 := (if_pos (of_decide_eq_true hb9)).symm.trans H7; refine wla rfl rfl (q_move (v := v7_8) rfl s7_8) ?_; refine wla rfl rfl (q_len rfl T23.sl rfl (o1_8.rd (Sc.stab _))) ?_; refine wla rfl rfl (q_move (v := p1) rfl s1_8) ?_; refine wla rfl rfl (q_len rfl T22.sl rfl (o0_8.rd (SlK.stab (Sc.stab _)))) ?_; refine wla rfl rfl (q_ltI rfl rfl rfl) ?_; refine wla rfl rfl (q_pick_t (v := (.bool ((decide ((s7.2.1.length : Int) < (s7.1.length : Int)))))) rfl rfl rfl) ?_; refine wl_nil ?_; refine W_th ?_; refine W_cond _ rfl rfl (fun hb10 => ?_) (fun hb10 => ?_)
      · replace H7 := (if_pos (of_decide_eq_true hb10)).symm.trans H7; refine W_skip ?_; refine W_th ?_; refine W_seq ?_; refine W_block ?_; refine W_seq ?_; refine W_reg (by kernel_rfl) ?_; refine wla rfl rfl (q_move (v := v7_8) rfl s7_8) ?_; refine wla rfl rfl (q_len rfl T23.sl rfl (o1_8.rd (Sc.stab _))) ?_; refine wla rfl rfl (q_assign (v := (i64 ((s7.2.1.length : Int)))) rfl rfl) ?_; refine wl_nil ?_; refine W_th ?_; refine W_seq ?_; refine W_reg (by kernel_rfl) ?_; refine wla rfl rfl (q_move (v := p1) rfl s1_8) ?_; refine wla rfl rfl (q_move (v := (i64 ((s7.2.1.length : Int)))) rfl rfl) ?_; obtain ⟨c11, hc11, H7⟩ := bsi H7; refine wla rfl rfl (q_slice (a := (s7.2.1.length : Int)) (b := (s7.1.length : Int)) rfl T22 rfl (o0_8.rd (SlK.stab (Sc.stab _))) rfl rfl hc11) ?_; refine wla rfl rfl (q_mkfuncN (vs := [(bp g8_8)]) rfl (ar1 s8_8)) ?_; obtain ⟨lim12, hl12, H7⟩ := bsi H7; obtain ⟨r12, hr12, H7⟩ := bsi H7; refine wls rfl rfl (stp_call (vs := [(subV p1 ((s7.2.1.length : Int) : Int).toNat ((s7.1.length : Int) : Int).toNat), (.func (.func 55) #[] [(bp g8_8)].toArray)]) Try.func54 rfl rfl rfl (ar2 rfl rfl) (IndexFunc_rows_calls (subV p1 ((s7.2.1.length : Int) : Int).toNat ((s7.1.length : Int) : Int).toNat) c11 55 _ Try.func55 rfl rfl [(bp g8_8)] (fun y12 => matrix_reduce_1 y12 s7.2.2) r12 _ (SlK.cut (L := []) (o0_8.rd (SlK.stab (Sc.stab _))) hc11) (lim_lt hl12) hr12 (fun y12 _ b w' xE hb u hu => matrix_reduce_1_calls y12 s7.2.2 u g8_8 b w' hu (o2_8.ext xE) hb)) ?_); rintro _ w12 ⟨rfl, x12⟩; refine ⟨_, rfl, ?_⟩; replace o0_8 := o0_8.extL (SlK.stab (Sc.stab _)) x12 (Lift.ext x12 _); replace o1_8 := o1_8.extL (Sc.stab _) x12 (Lift.ext x12 _); replace o2_8 := o2_8.ext x12; have e13 := hE8.trans x12; refine wla rfl rfl (q_assign (v := (i64 r12)) rfl rfl) ?_; refine wl_nil ?_; refine W_th ?_; refine W_seq ?_; refine W_seq ?_; refine W_reg (by kernel_rfl) ?_; refine wla rfl rfl (q_move (v := (i64 r12)) rfl rfl) ?_; refine wla rfl rfl (q_ltI rfl rfl rfl) ?_; refine wl_nil ?_; refine W_th ?_; refine W_cond _ rfl rfl (fun hb14 => ?_) (fun hb14 => ?_)
        · replace H7 := (if_pos (of_decide_eq_true hb14)).symm.trans H7; refine W_exit ?_; refine th_x ?_; refine bk_x ?_; refine W_th ?_; refine W_seq ?_; refine W_seq ?_; refine W_reg (by kernel_rfl) ?_; refine wlq rfl rfl (q_loadB (u := (i64 s7.2.2)) rfl Try.isAgg3 (by exact s8_8) o2_8 rfl) ?_; refine wl_nil ?_; refine W_th ?_; refine W_reg (by kernel_rfl) ?_; refine wls rfl rfl (stp_allocL (z := (i64 0)) (cs := #[(i64 0)]) (p1 :: v7_8 :: (bp g8_8) :: L0) rfl Try.zeroValue3 rfl ?_); intro g15 w15 o15 n15 g15r l15; have x15 := grown_ext g15r; have q16 : Nq p1 (bp g15) := o0_8.nq n15; have q17 : Nq v7_8 (bp g15) := o1_8.nq n15; have q18 : Nq (bp g8_8) (bp g15) := o2_8.nq n15; replace o0_8 := o0_8.extL (SlK.stab (Sc.stab _)) x15 (Lift.call _ x15 n15); replace o1_8 := o1_8.extL (Sc.stab _) x15 (Lift.call _ x15 n15); replace o2_8 := o2_8.ext x15; have n20 := NS.ext e13 n15; have e19 := e13.trans x15; refine wln rfl rfl (stp_storeL (u := (i64 s7.2.2)) [] (p1 :: v7_8 :: (bp g8_8) :: L0) rfl Try.sizeOf3 rfl rfl o15 rfl ?_); intro w21 o21 g21 l21; replace o0_8 := o0_8.other (SlK.stab (Sc.stab _)) g21 q16 l21; replace o1_8 := o1_8.other (Sc.stab _) g21 q17 l21; replace o2_8 := o2_8.other g21 q18; have e22 := e19.grown g21 n20; refine wl_nil ?_; refine W_th ?_; refine W_reg (by kernel_rfl) ?_; refine wlq rfl rfl (q_loadB (u := (i64 s7.2.2)) rfl Try.isAgg3 rfl o21 rfl) ?_; refine wla rfl rfl (q_addI rfl rfl rfl) ?_; refine wln rfl rfl (stp_storeL (u := (i64 ((wI (s7.2.2 + 1))))) [] (p1 :: v7_8 :: (bp g8_8) :: L0) rfl Try.sizeOf3 rfl rfl o21 rfl ?_); intro w23 o23 g23 l23; replace o0_8 := o0_8.other (SlK.stab (Sc.stab _)) g23 q16 l23; replace o1_8 := o1_8.other (Sc.stab _) g23 q17 l23; replace o2_8 := o2_8.other g23 q18; have e24 := e22.grown g23 n20; refine wl_nil ?_; obtain rfl := osi H7; exact ⟨_, rfl, v7_8, g15, s0_8, s1_8, s2_8, s7_8, rfl, s110_8, e24, (o0_8.weak (SlK.stab (Sc.stab _)) (fun _ h => ⟨h.2.1, h.2.2.1, h.1, h.2.2.2.2⟩)), n0_8, (o1_8.weak (Sc.stab _) (fun _ h => ⟨h.2.1, h.2.2.1, h.1, h.2.2.2.2⟩)), n1_8, o23, n20, q0_1_8, q16, q17⟩
        replace H7 := (if_neg (of_decide_eq_false hb14)).symm.trans H7; refine W_skip ?_; refine W_th ?_; refine W_seq ?_; refine W_draw [11, 15] [(0, 0), (1, 0), (2, 0), (3, 0), (4, 0), (5, 0), (6, 0), (7, 0), (8, 0), (9, 0), (10, 0), (11, 1), (12, 0), (13, 0), (14, 0), (15, 1), (16, 0), (17, 2), (18, 0), (19, 2)] mixed (by kernel_rfl) (by kernel_rfl) (by kernel_rfl) (by kernel_rfl) ?_; have x25 := Ext.drew w12; replace o0_8 := o0_8.extL (SlK.stab (Sc.stab _)) x25 (Lift.ext x25 _); replace o1_8 := o1_8.extL (Sc.stab _) x25 (Lift.ext x25 _); replace o2_8 := o2_8.ext x25; have e26 := e13.trans x25; refine wsa rfl rfl rfl (q_move (v := p1) rfl s1_8) ?_; refine wsa rfl rfl rfl (q_move (v := (i64 ((s7.2.1.length : Int)))) rfl rfl) ?_; refine wsa rfl rfl rfl (q_move (v := p1) rfl s1_8) ?_; refine wsa rfl rfl rfl (q_move (v := (i64 ((s7.2.1.length : Int)))) rfl rfl) ?_; refine wsa rfl rfl rfl (q_move (v := (i64 r12)) rfl rfl) ?_; refine wsa rfl rfl rfl (q_addI rfl rfl rfl) ?_; refine wsa rfl rfl rfl (q_move (v := p1) rfl s1_8) ?_; refine wsa rfl rfl rfl (q_move (v := (i64 ((s7.2.1.length : Int)))) rfl rfl) ?_; refine wsa rfl rfl rfl (q_move (v := (i64 r12)) rfl rfl) ?_; refine wsa rfl rfl rfl (q_addI rfl rfl rfl) ?_; obtain ⟨c27, hc27, H7⟩ := bsi H7; refine wsa rfl rfl rfl (q_adr rfl T22 rfl rfl (o0_8.rd (SlK.stab (Sc.stab _))) hc27) ?_; refine wsq_loadO (SlK.stab (Sc.stab _)) rfl rfl rfl rfl T22 rfl o0_8 hc27 (fun v28 i28 => ?_); replace i28 : By (World.drew w12) (p1 :: v7_8 :: (bp g8_8) :: L0) v28 c27 := i28; refine wsa rfl rfl rfl (q_move (v := p1) rfl s1_8) ?_; refine wsa rfl rfl rfl (q_move (v := (i64 ((s7.2.1.length : Int)))) rfl rfl) ?_; obtain ⟨c29, hc29, H7⟩ := bsi H7; refine wsa rfl rfl rfl (q_adr rfl T22 rfl rfl (o0_8.rd (SlK.stab (Sc.stab _))) hc29) ?_; refine wsq_loadO (SlK.stab (Sc.stab _)) rfl rfl rfl rfl T22 rfl o0_8 hc29 (fun v30 i30 => ?_); replace i30 : By (World.drew w12) (p1 :: v7_8 :: (bp g8_8) :: L0) v30 c29 := i30; refine wsa rfl rfl rfl (q_adr rfl T22 rfl rfl (o0_8.rd (SlK.stab (Sc.stab _))) hc29) ?_; refine wsn rfl (by kernel_rfl) rfl rfl (stp_store (R := By) (u := v28) (SlK.stab (Sc.stab _)) [] (v7_8 :: (bp g8_8) :: L0) rfl T22 rfl rfl o0_8 (put_of c27 hc29) i28 (oc_sl _ _ _ _ i28) ?_); intro w31 o31 g31 l31; replace i28 := i28.lift l31; replace i30 := i30.lift l31; replace o1_8 := o1_8.other (Sc.stab _) g31 q0_1_8.symm l31; replace o2_8 := o2_8.other g31 q0_2_8.symm; have e32 := e26.grown g31 n0_8; obtain ⟨c33, hc33, H7⟩ := bsi H7; refine wsa rfl rfl rfl (q_adr rfl T22 rfl rfl (o31.rd (SlK.stab (Sc.stab _))) hc33) ?_; refine wsn rfl (by kernel_rfl) rfl rfl (stp_store (R := By) (u := v30) (SlK.stab (Sc.stab _)) [] (v7_8 :: (bp g8_8) :: L0) rfl T22 rfl rfl o31 (put_of c29 hc33) i30 (oc_sl _ _ _ _ i30) ?_); intro w34 o34 g34 l34; replace i28 := i28.lift l34; replace i30 := i30.lift l34; replace o1_8 := o1_8.other (Sc.stab _) g34 q0_1_8.symm l34; replace o2_8 := o2_8.other g34 q0_2_8.symm
        have e35 := e32.grown g34 n0_8; refine ws_nil ?_; refine W_th ?_; refine W_seq ?_; refine W_draw [4, 5, 7] [(0, 0), (1, 0), (2, 0), (3, 0), (4, 1), (5, 1), (6, 0), (7, 1), (8, 2), (9, 0), (10, 0), (11, 0), (12, 0), (13, 0)] mixed (by kernel_rfl) (by kernel_rfl) (by kernel_rfl) (by kernel_rfl) ?_; have x36 := Ext.drew w34; replace i28 := i28.lift (Lift.ext x36 _); replace i30 := i30.lift (Lift.ext x36 _); replace o34 := o34.extL (SlK.stab (Sc.stab _)) x36 (Lift.ext x36 _); replace o1_8 := o1_8.extL (Sc.stab _) x36 (Lift.ext x36 _); replace o2_8 := o2_8.ext x36; have e37 := e35.trans x36; refine wsa rfl rfl rfl (q_move (v := p0) rfl s0_8) ?_; refine wsa rfl rfl rfl (q_move (v := p1) rfl s1_8) ?_; refine wsa rfl rfl rfl (q_move (v := (i64 ((s7.2.1.length : Int)))) rfl rfl) ?_; obtain ⟨c38, hc38, H7⟩ := bsi H7; refine wsa rfl rfl rfl (q_adr rfl T22 rfl rfl (o34.rd (SlK.stab (Sc.stab _))) hc38) ?_; refine wsq_loadO (SlK.stab (Sc.stab _)) rfl rfl rfl rfl T22 rfl o34 hc38 (fun v39 i39 => ?_); replace i39 : By (World.drew w34) (p1 :: v7_8 :: (bp g8_8) :: L0) v39 c38 := i39; refine wsq rfl rfl rfl (q_loadB (u := (i64 s7.2.2)) rfl Try.isAgg3 (by exact s8_8) o2_8 rfl) ?_; obtain ⟨c40, hc40, H7⟩ := bsi H7; refine wsa rfl rfl rfl (q_adr rfl T30 rfl rfl i39 hc40) ?_; refine wsq rfl rfl rfl (q_loadS rfl T30 rfl i39 hc40) ?_; obtain ⟨r41, hr41, H7⟩ := bsi H7; refine wsc rfl (by kernel_rfl) rfl rfl (stp_call (vs := [p0, (u8 c40)]) Try.func50 rfl rfl rfl (ar2 rfl rfl) (field_Inv_calls a0f c40 p0 r41 _ (hp0.lift (Lift.exg0 e37)) hr41) ?_); rintro _ w41 ⟨rfl, x41⟩; refine ⟨_, rfl, ?_⟩; replace i28 := i28.lift (Lift.ext x41 _); replace i30 := i30.lift (Lift.ext x41 _); replace i39 := i39.lift (Lift.ext x41 _); replace o34 := o34.extL (SlK.stab (Sc.stab _)) x41 (Lift.ext x41 _); replace o1_8 := o1_8.extL (Sc.stab _) x41 (Lift.ext x41 _); replace o2_8 := o2_8.ext x41; have e42 := e37.trans x41; refine wsa rfl rfl rfl (q_move (v := (.tuple #[(u8 r41.1), (i64 r41.2)])) rfl rfl) ?_; refine wsa rfl rfl rfl (q_extract rfl rfl rfl) ?_; refine wsa rfl rfl rfl (q_extract rfl rfl rfl) ?_; refine wsa rfl rfl rfl (q_assign (v := (u8 r41.1)) rfl rfl) ?_; refine wsa rfl rfl rfl (q_assign (v := (i64 r41.2)) rfl rfl) ?_; refine ws_nil ?_; refine W_th ?_; refine W_seq ?_; refine W_reg (by kernel_rfl) ?_; refine wla rfl rfl (q_move (v := p1) rfl s1_8) ?_; refine wla rfl rfl (q_move (v := (i64 ((s7.2.1.length : Int)))) rfl rfl) ?_; refine wla rfl rfl (q_move (v := p0) rfl s0_8) ?_; refine wla rfl rfl (q_move (v := (u8 r41.1)) rfl rfl) ?_; refine wla rfl rfl (q_move (v := p1) rfl s1_8) ?_; refine wla rfl rfl (q_move (v := (i64 ((s7.2.1.length : Int)))) rfl rfl) ?_; obtain ⟨c43, hc43, H7⟩ := bsi H7; refine wla rfl rfl (q_adr rfl T22 rfl rfl (o34.rd (SlK.stab (Sc.stab _))) hc43) ?_; refine wlq_loadO (SlK.stab (Sc.stab _)) rfl rfl rfl T22 rfl o34 hc43 (fun v44 i44 => ?_); replace i44 : By w41 (p1 :: v7_8 :: (bp g8_8) :: L0) v44 c43 := i44
        obtain ⟨r45, hr45, H7⟩ := bsi H7; refine wls rfl rfl (stp_call (vs := [p0, (u8 r41.1), v44]) Try.func56 rfl rfl rfl (ar3 rfl rfl rfl) (field_Scale_calls a0f r41.1 c43 p0 v44 r45 _ (hp0.lift (Lift.exg0 e42)) (i44.lift (Lift.sub (L' := []) (fun _ _ => trivial))) hr45) ?_); rintro _ w45 ⟨v45, rfl, x45, n45_0, o45_0⟩; refine ⟨_, rfl, ?_⟩; have i45_0 : By w45 (p1 :: v7_8 :: (bp g8_8) :: L0) v45 r45 := OwK.slk (Sc.stab _) _ (OwK.scal o45_0 (v45 :: (p1 :: v7_8 :: (bp g8_8) :: L0))) (fun k hk => (Old.cons (Old.cons (Old.cons (hL0.exg e42) o2_8.ltB) o1_8.lt) o34.lt) k (n45_0 k hk)) (fun _ h => h.2); replace i28 := i28.lift (Lift.ext x45 _); replace i30 := i30.lift (Lift.ext x45 _); replace i39 := i39.lift (Lift.ext x45 _); replace i44 := i44.lift (Lift.ext x45 _); replace o34 := o34.extL (SlK.stab (Sc.stab _)) x45 (Lift.ext x45 _); replace o1_8 := o1_8.extL (Sc.stab _) x45 (Lift.ext x45 _); replace o2_8 := o2_8.ext x45; have e46 := e42.trans x45; refine wla rfl rfl (q_adr rfl T22 rfl rfl (o34.rd (SlK.stab (Sc.stab _))) hc43) ?_; refine wln rfl rfl (stp_store (R := By) (u := v45) (SlK.stab (Sc.stab _)) [] (v7_8 :: (bp g8_8) :: L0) rfl T22 rfl rfl o34 (put_of r45 hc43) i45_0 (oc_sl _ _ _ _ i45_0) ?_); intro w47 o47 g47 l47; replace i28 := i28.lift l47; replace i30 := i30.lift l47; replace i39 := i39.lift l47; replace i44 := i44.lift l47; replace i45_0 := i45_0.lift l47; replace o1_8 := o1_8.other (Sc.stab _) g47 q0_1_8.symm l47; replace o2_8 := o2_8.other g47 q0_2_8.symm; have e48 := e46.grown g47 n0_8; refine wl_nil ?_; refine W_th ?_; refine W_seq ?_; refine W_seq ?_; refine W_reg (by kernel_rfl) ?_; refine wla rfl rfl (q_move (v := p1) rfl s1_8) ?_; refine wla rfl rfl (q_len rfl T22.sl rfl (o47.rd (SlK.stab (Sc.stab _)))) ?_; refine wla rfl rfl (q_move (v := (i64 0)) rfl rfl) ?_; refine wl_nil ?_; refine W_th ?_; obtain ⟨x49, G49, H7⟩ := bsi H7; refine W_mid (fun f w => f 0 = p0 ∧ f 1 = p1 ∧ f 2 = (i64 a2columns) ∧ f 7 = v7_8 ∧ f 8 = (bp g8_8) ∧ f 110 = undef ∧ ExG [p1] w0 w ∧ OwK By w (p1 :: v7_8 :: (bp g8_8) :: L0) 30 p1 x49 ∧ NS [p1] w0 p1 ∧ OwK (Sc i64) w (p1 :: v7_8 :: (bp g8_8) :: L0) 3 v7_8 s7.2.1 ∧ NS [p1] w0 v7_8 ∧ Blk w g8_8 3 #[(i64 s7.2.2)] ∧ NS [p1] w0 (bp g8_8) ∧ Nq p1 v7_8 ∧ Nq p1 (bp g8_8) ∧ Nq v7_8 (bp g8_8)) ?_ ?_
        · refine W_block ?_; refine W_loop (fun s49 f w => f 0 = p0 ∧ f 1 = p1 ∧ f 2 = (i64 a2columns) ∧ f 7 = v7_8 ∧ f 8 = (bp g8_8) ∧ f 9 = (i64 ((s7.2.1.length : Int))) ∧ f 76 = (i64 ((((((((s7.1.set ((s7.2.1.length : Int) : Int).toNat c27)).set ((wI ((s7.2.1.length : Int) + r12)) : Int).toNat c29)).set ((s7.2.1.length : Int) : Int).toNat r45)).length : Int))) ∧ f 77 = (i64 s49.2) ∧ f 110 = undef ∧ ExG [p1] w0 w ∧ OwK By w (p1 :: v7_8 :: (bp g8_8) :: L0) 30 p1 s49.1 ∧ NS [p1] w0 p1 ∧ OwK (Sc i64) w (p1 :: v7_8 :: (bp g8_8) :: L0) 3 v7_8 s7.2.1 ∧ NS [p1] w0 v7_8 ∧ Blk w g8_8 3 #[(i64 s7.2.2)] ∧ NS [p1] w0 (bp g8_8) ∧ Nq p1 v7_8 ∧ Nq p1 (bp g8_8) ∧ Nq v7_8 (bp g8_8)) G49 ?_ ?_
          · exact ⟨s0_8, s1_8, s2_8, s7_8, s8_8, rfl, rfl, rfl, s110_8, e48, o47, n0_8, o1_8, n1_8, o2_8, n2_8, q0_1_8, q0_2_8, q1_2_8⟩
          rintro s49 _ _ w50 ⟨s0_50, s1_50, s2_50, s7_50, s8_50, s9_50, s76_50, s77_50, s110_50, hE50, o0_50, n0_50, o1_50, n1_50, o2_50, n2_50, q0_1_50, q0_2_50, q1_2_50⟩ H49 hr49; refine W_seq ?_; refine W_reg (by kernel_rfl) ?_; refine wla rfl rfl (q_ltI rfl s77_50 s76_50) ?_; refine wl_nil ?_; refine W_th ?_; refine W_seq ?_; refine W_cond _ rfl rfl (fun hb51 => ?_) (fun hb51 => ?_)
          · replace H49 := (if_pos (of_decide_eq_true hb51)).symm.trans H49; refine W_skip ?_; refine W_th ?_; refine W_seq ?_; refine W_block ?_; refine W_seq ?_; refine W_reg (by kernel_rfl) ?_; refine wla rfl rfl (q_move (v := (i64 s49.2)) rfl s77_50) ?_; refine wla rfl rfl (q_assign (v := (i64 s49.2)) rfl rfl) ?_; refine wl_nil ?_; refine W_th ?_; refine W_seq ?_; refine W_reg (by kernel_rfl) ?_; refine wla rfl rfl (q_move (v := (i64 s49.2)) rfl rfl) ?_; refine wla rfl rfl (q_move (v := (i64 ((s7.2.1.length : Int)))) rfl s9_50) ?_; refine wla rfl rfl (q_neI rfl rfl rfl) ?_; refine wl_nil ?_; refine W_th ?_; refine W_cond _ rfl rfl (fun hb52 => ?_) (fun hb52 => ?_)
            · replace H49 := (if_neg (ndec_t hb52)).symm.trans H49; refine W_draw [6, 10, 11, 13, 17] [(0, 0), (1, 0), (2, 0), (3, 0), (4, 0), (5, 0), (6, 1), (7, 0), (8, 0), (9, 0), (10, 1), (11, 1), (12, 0), (13, 1), (14, 0), (15, 0), (16, 0), (17, 1), (18, 2), (19, 0), (20, 2)] mixed (by kernel_rfl) (by kernel_rfl) (by kernel_rfl) (by kernel_rfl) ?_; have x53 := Ext.drew w50; replace o0_50 := o0_50.extL (SlK.stab (Sc.stab _)) x53 (Lift.ext x53 _); replace o1_50 := o1_50.extL (Sc.stab _) x53 (Lift.ext x53 _); replace o2_50 := o2_50.ext x53; have e54 := hE50.trans x53; refine wsa rfl rfl rfl (q_move (v := p1) rfl s1_50) ?_; refine wsa rfl rfl rfl (q_move (v := (i64 s49.2)) rfl rfl) ?_; refine wsa rfl rfl rfl (q_move (v := p0) rfl s0_50) ?_; refine wsa rfl rfl rfl (q_move (v := p1) rfl s1_50) ?_; refine wsa rfl rfl rfl (q_move (v := (i64 s49.2)) rfl rfl) ?_; obtain ⟨c55, hc55, H49⟩ := bsi H49; refine wsa rfl rfl rfl (q_adr rfl T22 rfl rfl (o0_50.rd (SlK.stab (Sc.stab _))) hc55) ?_; refine wsq_loadO (SlK.stab (Sc.stab _)) rfl rfl rfl rfl T22 rfl o0_50 hc55 (fun v56 i56 => ?_); replace i56 : By (World.drew w50) (p1 :: v7_8 :: (bp g8_8) :: L0) v56 c55 := i56; refine wsa rfl rfl rfl (q_move (v := p1) rfl s1_50) ?_; refine wsa rfl rfl rfl (q_move (v := (i64 s49.2)) rfl rfl) ?_; refine wsa rfl rfl rfl (q_adr rfl T22 rfl rfl (o0_50.rd (SlK.stab (Sc.stab _))) hc55) ?_; refine wsq_loadO (SlK.stab (Sc.stab _)) rfl rfl rfl rfl T22 rfl o0_50 hc55 (fun v57 i57 => ?_); replace i57 : By (World.drew w50) (p1 :: v7_8 :: (bp g8_8) :: L0) v57 c55 := i57; refine wsq rfl rfl rfl (q_loadB (u := (i64 s7.2.2)) rfl Try.isAgg3 (by exact s8_50) o2_50 rfl) ?_; obtain ⟨c58, hc58, H49⟩ := bsi H49; refine wsa rfl rfl rfl (q_adr rfl T30 rfl rfl i57 hc58) ?_; refine wsq rfl rfl rfl (q_loadS rfl T30 rfl i57 hc58) ?_; refine wsa rfl rfl rfl (q_move (v := p1) rfl s1_50) ?_; refine wsa rfl rfl rfl (q_move (v := (i64 ((s7.2.1.length : Int)))) rfl s9_50) ?_; obtain ⟨c59, hc59, H49⟩ := bsi H49; refine wsa rfl rfl rfl (q_adr rfl T22 rfl rfl (o0_50.rd (SlK.stab (Sc.stab _))) hc59) ?_; refine wsq_loadO (SlK.stab (Sc.stab _)) rfl rfl rfl rfl T22 rfl o0_50 hc59 (fun v60 i60 => ?_); replace i60 : By (World.drew w50) (p1 :: v7_8 :: (bp g8_8) :: L0) v60 c59 := i60; obtain ⟨r61, hr61, H49⟩ := bsi H49; refine wsc rfl (by kernel_rfl) rfl rfl (stp_call (vs := [p0, v56, (u8 c58), v60]) Try.func40 rfl rfl rfl (ar4 rfl rfl rfl rfl) (field_Sum_calls a0f c55 c58 c59 p0 v56 v60 r61 _ (hp0.lift (Lift.exg0 e54)) (i56.lift (Lift.sub (L' := []) (fun _ _ => trivial))) (i60.lift (Lift.sub (L' := []) (fun _ _ => trivial))) hr61) ?_); rintro _ w61 ⟨v61, rfl, x61, n61_0, o61_0⟩; refine ⟨_, rfl, ?_⟩; have i61_0 : By w61 (p1 :: v7_8 :: (bp g8_8) :: L0) v61 r61 := OwK.slk (Sc.stab _) _ (OwK.scal o61_0 (v61 :: (p1 :: v7_8 :: (bp g8_8) :: L0))) (fun k hk => (Old.cons (Old.cons (Old.cons (hL0.exg e54) o2_50.ltB) o1_50.lt) o0_50.lt) k (n61_0 k hk)) (fun _ h => h.2)
              replace i56 := i56.lift (Lift.ext x61 _); replace i57 := i57.lift (Lift.ext x61 _); replace i60 := i60.lift (Lift.ext x61 _); replace o0_50 := o0_50.extL (SlK.stab (Sc.stab _)) x61 (Lift.ext x61 _); replace o1_50 := o1_50.extL (Sc.stab _) x61 (Lift.ext x61 _); replace o2_50 := o2_50.ext x61; have e62 := e54.trans x61; refine wsa rfl rfl rfl (q_adr rfl T22 rfl rfl (o0_50.rd (SlK.stab (Sc.stab _))) hc55) ?_; refine wsn rfl (by kernel_rfl) rfl rfl (stp_store (R := By) (u := v61) (SlK.stab (Sc.stab _)) [] (v7_8 :: (bp g8_8) :: L0) rfl T22 rfl rfl o0_50 (put_of r61 hc55) i61_0 (oc_sl _ _ _ _ i61_0) ?_); intro w63 o63 g63 l63; replace i56 := i56.lift l63; replace i57 := i57.lift l63; replace i60 := i60.lift l63; replace i61_0 := i61_0.lift l63; replace o1_50 := o1_50.other (Sc.stab _) g63 q0_1_50.symm l63; replace o2_50 := o2_50.other g63 q0_2_50.symm; have e65 := e62.grown g63 n0_50; refine ws_nil ?_; refine bk_n ?_; refine W_th ?_; refine W_reg (by kernel_rfl) ?_; refine wla rfl rfl (q_addI rfl s77_50 rfl) ?_; refine wla rfl rfl (q_move (v := (i64 ((wI (s49.2 + 1))))) rfl rfl) ?_; refine wl_nil ?_; obtain rfl := osi H49; exact ⟨_, rfl, s0_50, s1_50, s2_50, s7_50, s8_50, s9_50, s76_50, rfl, s110_50, e65, o63, n0_50, o1_50, n1_50, o2_50, n2_50, q0_1_50, q0_2_50, q1_2_50⟩
            replace H49 := (if_pos (ndec_f hb52)).symm.trans H49; refine W_skip ?_; refine bk_n ?_; refine W_th ?_; refine W_reg (by kernel_rfl) ?_; refine wla rfl rfl (q_addI rfl s77_50 rfl) ?_; refine wla rfl rfl (q_move (v := (i64 ((wI (s49.2 + 1))))) rfl rfl) ?_; refine wl_nil ?_; obtain rfl := osi H49; exact ⟨_, rfl, s0_50, s1_50, s2_50, s7_50, s8_50, s9_50, s76_50, rfl, s110_50, hE50, o0_50, n0_50, o1_50, n1_50, o2_50, n2_50, q0_1_50, q0_2_50, q1_2_50⟩
          replace H49 := (if_neg (of_decide_eq_false hb51)).symm.trans H49; refine W_exit ?_; refine th_x ?_; obtain rfl := osi H49; obtain rfl := hr49 _ rfl; refine th_x ?_; refine bk_x ?_; exact ⟨s0_50, s1_50, s2_50, s7_50, s8_50, s110_50, hE50, o0_50, n0_50, o1_50, n1_50, o2_50, n2_50, q0_1_50, q0_2_50, q1_2_50⟩
        rintro _ w67 ⟨s0_67, s1_67, s2_67, s7_67, s8_67, s110_67, hE67, o0_67, n0_67, o1_67, n1_67, o2_67, n2_67, q0_1_67, q0_2_67, q1_2_67⟩; refine W_th ?_; refine W_reg (by kernel_rfl) ?_; refine wla rfl rfl (q_move (v := v7_8) rfl s7_67) ?_; refine wlq rfl rfl (q_loadB (u := (i64 s7.2.2)) rfl Try.isAgg3 (by exact s8_67) o2_67 rfl) ?_; refine wls rfl rfl (stp_lit (L := (p1 :: v7_8 :: (bp g8_8) :: L0)) (R := (Sc i64)) [(i64 s7.2.2)] ([s7.2.2] : List Int) rfl T23 rfl (by exact ⟨rfl, rfl, trivial⟩) rfl (litC i64 (oneC_i64) (us := [(i64 s7.2.2)]) (l := ([s7.2.2] : List Int)) rfl) rfl (litS i64 (us := [(i64 s7.2.2)]) (l := ([s7.2.2] : List Int)) rfl) ?_); intro v68 w68 o68 n68 g68 l68; have x68 := grown_ext g68; have i68 : In w68 (p1 :: v7_8 :: (bp g8_8) :: L0) v68 (([s7.2.2] : List Int)) := OwK.slk (Sc.stab _) _ o68 (fun k hk => (Old.cons (Old.cons (Old.cons (hL0.exg hE67) o2_67.ltB) o1_67.lt) o0_67.lt) k (n68 k hk)) (fun _ h => h.2); replace o0_67 := o0_67.extL (SlK.stab (Sc.stab _)) x68 (Lift.ext x68 _); replace o1_67 := o1_67.extL (Sc.stab _) x68 (Lift.ext x68 _); replace o2_67 := o2_67.ext x68; have e69 := hE67.trans x68; obtain ⟨c70, hc70, H7⟩ := bsi H7; refine wls rfl rfl (stp_append (R := (Sc i64)) (v := v7_8) (u := v68) (Sc.stab _) [p1] ((bp g8_8) :: L0) rfl T23 rfl rfl o1_67 i68 (fun _ _ h => h) hc70 oc_i64 ?_); intro v70 w70 o70 g70 nx70 l70; replace i68 := i68.lift l70; have q71 : Nq p1 v70 := o0_67.nxt q0_1_67 nx70; have q72 : Nq (bp g8_8) v70 := o2_67.nxt q1_2_67.symm nx70; replace o0_67 := o0_67.other (SlK.stab (Sc.stab _)) g70 q0_1_67 l70; replace o2_67 := o2_67.other g70 q1_2_67.symm; have e73 := e69.grown g70 n1_67; have n74 := NS.nxt e69 n1_67 nx70; refine wla rfl rfl (q_assign (v := v70) rfl rfl) ?_; refine wl_nil ?_; refine bk_n ?_; refine W_th ?_; refine W_seq ?_; refine W_seq ?_; refine W_reg (by kernel_rfl) ?_; refine wlq rfl rfl (q_loadB (u := (i64 s7.2.2)) rfl Try.isAgg3 (by exact s8_67) o2_67 rfl) ?_; refine wl_nil ?_; refine W_th ?_; refine W_reg (by kernel_rfl) ?_; refine wls rfl rfl (stp_allocL (z := (i64 0)) (cs := #[(i64 0)]) (p1 :: v70 :: (bp g8_8) :: L0) rfl Try.zeroValue3 rfl ?_); intro g75 w75 o75 n75 g75r l75; have x75 := grown_ext g75r; have q76 : Nq p1 (bp g75) := o0_67.nq n75; have q77 : Nq v70 (bp g75) := o70.nq n75; have q78 : Nq (bp g8_8) (bp g75) := o2_67.nq n75; replace i68 := i68.lift (Lift.call _ x75 n75); replace o0_67 := o0_67.extL (SlK.stab (Sc.stab _)) x75 (Lift.call _ x75 n75); replace o70 := o70.extL (Sc.stab _) x75 (Lift.call _ x75 n75); replace o2_67 := o2_67.ext x75; have n80 := NS.ext e73 n75; have e79 := e73.trans x75; refine wln rfl rfl (stp_storeL (u := (i64 s7.2.2)) [] (p1 :: v70 :: (bp g8_8) :: L0) rfl Try.sizeOf3 rfl rfl o75 rfl ?_); intro w81 o81 g81 l81; replace i68 := i68.lift l81; replace o0_67 := o0_67.other (SlK.stab (Sc.stab _)) g81 q76 l81; replace o70 := o70.other (Sc.stab _) g81 q77 l81; replace o2_67 := o2_67.other g81 q78; have e82 := e79.grown g81 n80; refine wl_nil ?_
        refine W_th ?_; refine W_reg (by kernel_rfl) ?_; refine wlq rfl rfl (q_loadB (u := (i64 s7.2.2)) rfl Try.isAgg3 rfl o81 rfl) ?_; refine wla rfl rfl (q_addI rfl rfl rfl) ?_; refine wln rfl rfl (stp_storeL (u := (i64 ((wI (s7.2.2 + 1))))) [] (p1 :: v70 :: (bp g8_8) :: L0) rfl Try.sizeOf3 rfl rfl o81 rfl ?_); intro w83 o83 g83 l83; replace i68 := i68.lift l83; replace o0_67 := o0_67.other (SlK.stab (Sc.stab _)) g83 q76 l83; replace o70 := o70.other (Sc.stab _) g83 q77 l83; replace o2_67 := o2_67.other g83 q78; have e84 := e82.grown g83 n80; refine wl_nil ?_; obtain rfl := osi H7; exact ⟨_, rfl, v70, g75, s0_67, s1_67, s2_67, rfl, rfl, s110_67, e84, (o0_67.weak (SlK.stab (Sc.stab _)) (fun _ h => ⟨h.2.1, h.2.2.1, h.1, h.2.2.2.2⟩)), n0_67, (o70.weak (Sc.stab _) (fun _ h => ⟨h.2.1, h.2.2.1, h.1, h.2.2.2.2⟩)), n74, o83, n80, q71, q76, q77⟩
      replace H7 := (if_neg (of_decide_eq_false hb10)).symm.trans H7; refine W_exit ?_; refine th_x ?_; obtain rfl := osi H7; obtain rfl := hr7 _ rfl; refine th_x ?_; refine bk_x ?_; exact ⟨v7_8, s1_8, s7_8, s110_8, hE8, (o0_8.weak (SlK.stab (Sc.stab _)) (fun _ h => ⟨h.1, h.2.1, h.2.2.2⟩)), n0_8, (o1_8.weak (Sc.stab _) (fun _ h => ⟨h.1, h.2.1, h.2.2.2⟩)), n1_8, q0_1_8⟩
    replace H7 := (if_neg (of_decide_eq_false hb9)).symm.trans H7; refine wlk rfl rfl ?_; refine wlk rfl rfl ?_; refine wlk rfl rfl ?_; refine wlk rfl rfl ?_; refine wlk rfl rfl ?_; refine wla rfl rfl (q_pick_f (v := (.bool false)) rfl rfl rfl) ?_; refine wl_nil ?_; refine W_th ?_; refine W_cond false rfl rfl (fun hb => by cases hb) (fun _ => ?_); refine W_exit ?_; refine th_x ?_; obtain rfl := osi H7; obtain rfl := hr7 _ rfl; refine th_x ?_; refine bk_x ?_; exact ⟨v7_8, s1_8, s7_8, s110_8, hE8, (o0_8.weak (SlK.stab (Sc.stab _)) (fun _ h => ⟨h.1, h.2.1, h.2.2.2⟩)), n0_8, (o1_8.weak (Sc.stab _) (fun _ h => ⟨h.1, h.2.1, h.2.2.2⟩)), n1_8, q0_1_8⟩
  rintro _ w87 ⟨v7_87, s1_87, s7_87, s110_87, hE87, o0_87, n0_87, o1_87, n1_87, q0_1_87⟩; refine W_th ?_; refine W_seq ?_; refine W_reg (by kernel_rfl) ?_; refine wla rfl rfl (q_move (v := v7_87) rfl s7_87) ?_; refine wla rfl rfl (q_assign (v := v7_87) rfl rfl) ?_; refine wl_nil ?_; refine W_th ?_; refine W_ret ?_; obtain rfl := osi H; refine rt1 v7_87 rfl rfl rfl s110_87 ?_; exact ⟨v7_87, rfl, hE87, (o0_87.weak (SlK.stab (Sc.stab _)) (show ∀ k, Av (p1 :: v7_87 :: L0) k → Av (p1 :: L0) k from fun _ h => ⟨h.1, h.2.2⟩)), (NS.nw n1_87 q0_1_87.symm), (o1_87.weak (Sc.stab _) (fun _ _ => trivial))⟩
noncomputable def matrix_with (a0a : List (List UInt8)) (a1b : List (List UInt8)) : Option (List (List UInt8)) :=
((iterC (fun s1 : List (List UInt8) × Int =>
(if s1.2 < (a0a.length : Int) then
((idx a0a s1.2).bind fun c6 =>
((idx a1b s1.2).bind fun c8 =>
((slices_Concat_sbytebyte ([c6, c8] : List (List UInt8))).bind fun r12 =>
((appL s1.1 (([r12] : List (List UInt8)))).bind fun c16 => some (.inl (c16, (wI (s1.2 + 1))))))))
else some (.inr s1.1))) (([] : List (List UInt8)), 0)).bind fun x1 => some x1)
set_option maxRecDepth 100000 in
set_option maxHeartbeats 8000000 in
theorem matrix_with_calls (a0a : List (List UInt8)) (a1b : List (List UInt8)) (p0 : Value) (p1 : Value) (r : List (List UInt8)) (w0 : World) (L0 : List Value) (hL0 : Old w0 L0) (hp0 : Rw w0 [] p0 a0a) (hp1 : Rw w0 [] p1 a1b) (H : matrix_with a0a a1b = some r) :
    Calls Try.prog 45 [p0, p1].toArray w0 (fun e w' => ∃ u0 : Value, e = .returned u0 ∧ Ext w0 w' ∧ Nw w0 u0 ∧ OwK By w' (u0 :: L0) 30 u0 r) := by
  have hE : Ext w0 w0 := Ext.refl w0; unfold matrix_with at H; refine calls_W (n := 27) Try.func45 rfl rfl rfl ?_; refine W_seq ?_; refine W_reg (by kernel_rfl) ?_; refine wla rfl rfl (q_assign (v := (.slice none 0 0)) rfl rfl) ?_; refine wl_nil ?_; refine W_th ?_; refine W_seq ?_; refine W_reg (by kernel_rfl) ?_; refine wla rfl rfl (q_assign (v := (.slice none 0 0)) rfl rfl) ?_; refine wl_nil ?_; refine W_th ?_; refine W_seq ?_; refine W_seq ?_; refine W_reg (by kernel_rfl) ?_; refine wla rfl rfl (q_move (v := p0) rfl rfl) ?_; refine wla rfl rfl (q_len rfl T22.sl rfl (hp0.lift (Lift.ext hE _))) ?_; refine wla rfl rfl (q_move (v := (i64 0)) rfl rfl) ?_; refine wl_nil ?_; refine W_th ?_; obtain ⟨x1, G1, H⟩ := bsi H; refine W_mid (fun f w => ∃ v5_21 : Value, f 5 = v5_21 ∧ f 27 = undef ∧ Ext w0 w ∧ OwK By w (v5_21 :: L0) 30 v5_21 x1 ∧ Nw w0 v5_21) ?_ ?_
  · refine W_block ?_; refine W_loop (fun s1 f w => ∃ v5_19 : Value, f 0 = p0 ∧ f 1 = p1 ∧ f 5 = v5_19 ∧ f 8 = (i64 ((a0a.length : Int))) ∧ f 9 = (i64 s1.2) ∧ f 27 = undef ∧ Ext w0 w ∧ OwK By w (v5_19 :: L0) 30 v5_19 s1.1 ∧ Nw w0 v5_19) G1 ?_ ?_
    · exact ⟨(.slice none 0 0), rfl, rfl, rfl, rfl, rfl, rfl, hE, (OwK.nil _ _ _ _), (Nw.nil _)⟩
    rintro s1 _ _ w2 ⟨v5_2, s0_2, s1_2, s5_2, s8_2, s9_2, s27_2, hE2, o0_2, n0_2⟩ H1 hr1; refine W_seq ?_; refine W_reg (by kernel_rfl) ?_; refine wla rfl rfl (q_ltI rfl s9_2 s8_2) ?_; refine wl_nil ?_; refine W_th ?_; refine W_seq ?_; refine W_cond _ rfl rfl (fun hb3 => ?_) (fun hb3 => ?_)
    · replace H1 := (if_pos (of_decide_eq_true hb3)).symm.trans H1; refine W_skip ?_; refine W_th ?_; refine W_seq ?_; refine W_block ?_; refine W_seq ?_; refine W_reg (by kernel_rfl) ?_; refine wla rfl rfl (q_move (v := (i64 s1.2)) rfl s9_2) ?_; refine wla rfl rfl (q_assign (v := (i64 s1.2)) rfl rfl) ?_; refine wl_nil ?_; refine W_th ?_; refine W_draw [4, 8] [(0, 0), (1, 0), (2, 0), (3, 0), (4, 1), (5, 0), (6, 0), (7, 0), (8, 1), (9, 2), (10, 2), (11, 2), (12, 2), (13, 0)] mixed (by kernel_rfl) (by kernel_rfl) (by kernel_rfl) (by kernel_rfl) ?_; have x4 := Ext.drew w2; replace o0_2 := o0_2.extL (SlK.stab (Sc.stab _)) x4 (Lift.ext x4 _); have e5 := hE2.trans x4; refine wsa rfl rfl rfl (q_move (v := v5_2) rfl s5_2) ?_; refine wsa rfl rfl rfl (q_move (v := p0) rfl s0_2) ?_; refine wsa rfl rfl rfl (q_move (v := (i64 s1.2)) rfl rfl) ?_; obtain ⟨c6, hc6, H1⟩ := bsi H1; refine wsa rfl rfl rfl (q_adr rfl T22 rfl rfl (hp0.lift (Lift.ext e5 _)) hc6) ?_; refine wsq_load rfl rfl rfl rfl T22 rfl hp0 hc6 e5 (fun v7 ha7 => ?_); refine wsa rfl rfl rfl (q_move (v := p1) rfl s1_2) ?_; refine wsa rfl rfl rfl (q_move (v := (i64 s1.2)) rfl rfl) ?_; obtain ⟨c8, hc8, H1⟩ := bsi H1; refine wsa rfl rfl rfl (q_adr rfl T22 rfl rfl (hp1.lift (Lift.ext e5 _)) hc8) ?_; refine wsq_load rfl rfl rfl rfl T22 rfl hp1 hc8 e5 (fun v9 ha9 => ?_); refine wsc rfl (by kernel_rfl) rfl rfl (stp_lit (L := []) (R := By) [v7, v9] ([c6, c8] : List (List UInt8)) rfl T22 rfl (by exact ⟨rfl, rfl, rfl, rfl, trivial⟩) rfl (LitR.cells (R := By) (w := (World.drew w2)) (L := []) (l := ([c6, c8] : List (List UInt8))) (LitR.cons (ha7.lift (Lift.ext e5 _)) (LitR.cons (ha9.lift (Lift.ext e5 _)) LitR.nil)) (fun u x h => cells_sl u x h)) rfl (LitR.all (R := By) (w := (World.drew w2)) (L := []) (l := ([c6, c8] : List (List UInt8))) (SlK.stab (Sc.stab _)) (LitR.cons (ha7.lift (Lift.ext e5 _)) (LitR.cons (ha9.lift (Lift.ext e5 _)) LitR.nil))) ?_); intro v10 w10 o10 n10 g10 l10; have x10 := grown_ext g10; have i10 := OwK.rd (SlK.stab (Sc.stab _)) o10; replace o0_2 := o0_2.extL (SlK.stab (Sc.stab _)) x10 (Lift.ext x10 _); have e11 := e5.trans x10; obtain ⟨r12, hr12, H1⟩ := bsi H1; refine wsc rfl (by kernel_rfl) rfl rfl (stp_call (vs := [v10]) Try.func49 rfl rfl rfl (ar1 rfl) (slices_Concat_sbytebyte_calls ([c6, c8] : List (List UInt8)) v10 r12 _ i10 hr12) ?_); rintro _ w12 ⟨v12, rfl, x12, n12_0, o12_0⟩; refine ⟨_, rfl, ?_⟩; have i12_0 : By w12 (v5_2 :: L0) v12 r12 := OwK.slk (Sc.stab _) _ (OwK.scal o12_0 (v12 :: (v5_2 :: L0))) (fun k hk => (Old.cons (hL0.ext e11) o0_2.lt) k (n12_0 k hk)) (fun _ h => h.2); replace o0_2 := o0_2.extL (SlK.stab (Sc.stab _)) x12 (Lift.ext x12 _); have e13 := e11.trans x12; refine wsc rfl (by kernel_rfl) rfl rfl (stp_lit (L := (v5_2 :: L0)) (R := By) [v12] ([r12] : List (List UInt8)) rfl T22 rfl (by exact ⟨rfl, rfl, trivial⟩) rfl (LitR.cells (R := By) (w := w12) (L := (v5_2 :: L0)) (l := ([r12] : List (List UInt8))) (LitR.cons i12_0 LitR.nil) (fun u x h => cells_sl u x h)) rfl (LitR.all (R := By) (w := w12) (L := (v5_2 :: L0)) (l := ([r12] : List (List UInt8))) (SlK.stab (Sc.stab _)) (LitR.cons i12_0 LitR.nil)) ?_)
      intro v14 w14 o14 n14 g14 l14; have x14 := grown_ext g14; have i14 : Rw w14 (v5_2 :: L0) v14 (([r12] : List (List UInt8))) := OwK.slk (SlK.stab (Sc.stab _)) _ o14 (fun k hk => (Old.cons (hL0.ext e13) o0_2.lt) k (n14 k hk)) (fun _ h => h.2); replace i12_0 := i12_0.lift (Lift.ext x14 _); replace o0_2 := o0_2.extL (SlK.stab (Sc.stab _)) x14 (Lift.ext x14 _); have e15 := e13.trans x14; obtain ⟨c16, hc16, H1⟩ := bsi H1; refine wsc rfl (by kernel_rfl) rfl rfl (stp_append (R := By) (v := v5_2) (u := v14) (SlK.stab (Sc.stab _)) [] (L0) rfl T22 rfl rfl o0_2 i14 (fun _ _ h => h) hc16 oc_sl ?_); intro v16 w16 o16 g16 nx16 l16; replace i12_0 := i12_0.lift l16; replace i14 := i14.lift l16; have e17 := e15.grown g16 n0_2; have n18 := Nw.nxt e15 n0_2 nx16; refine wsa rfl rfl rfl (q_assign (v := v16) rfl rfl) ?_; refine ws_nil ?_; refine bk_n ?_; refine W_th ?_; refine W_reg (by kernel_rfl) ?_; refine wla rfl rfl (q_addI rfl s9_2 rfl) ?_; refine wla rfl rfl (q_move (v := (i64 ((wI (s1.2 + 1))))) rfl rfl) ?_; refine wl_nil ?_; obtain rfl := osi H1; exact ⟨_, rfl, v16, s0_2, s1_2, rfl, s8_2, rfl, s27_2, e17, o16, n18⟩
    replace H1 := (if_neg (of_decide_eq_false hb3)).symm.trans H1; refine W_exit ?_; refine th_x ?_; obtain rfl := osi H1; obtain rfl := hr1 _ rfl; refine th_x ?_; refine bk_x ?_; exact ⟨v5_2, s5_2, s27_2, hE2, o0_2, n0_2⟩
  rintro _ w20 ⟨v5_20, s5_20, s27_20, hE20, o0_20, n0_20⟩; refine W_th ?_; refine W_seq ?_; refine W_reg (by kernel_rfl) ?_; refine wla rfl rfl (q_move (v := v5_20) rfl s5_20) ?_; refine wla rfl rfl (q_assign (v := v5_20) rfl rfl) ?_; refine wl_nil ?_; refine W_th ?_; refine W_ret ?_; obtain rfl := osi H; refine rt1 v5_20 rfl rfl rfl s27_20 ?_; exact ⟨v5_20, rfl, hE20, n0_20, (o0_20.weak (SlK.stab (Sc.stab _)) (fun _ h => ⟨h.1, h.2⟩))⟩
noncomputable def matrix_Inverse (a0m : Option (List (List UInt8))) (a1f : Bool) : Option (Option (List (List UInt8)) × Int) :=
((matrix_Size a0m).bind fun r1 =>
(if a0m.isNone = true then some ((none : Option (List (List UInt8))), 1)
else
(if (!a1f) = true then some ((none : Option (List (List UInt8))), 1)
else
(if r1.1 = r1.2 then
((matrix_Identity r1.1).bind fun r6 =>
((a0m).bind fun c10 =>
((r6.1).bind fun c11 =>
((matrix_with c10 c11).bind fun r12 =>
((matrix_reduce a1f r12 r1.1).bind fun r15 =>
(if (r15.2.length : Int) < r1.1 then some ((none : Option (List (List UInt8))), 7)
else
((iterC (fun s18 : List (List UInt8) × Int =>
(if s18.2 < (r15.1.length : Int) then
((idx s18.1 s18.2).bind fun c21 =>
((subL c21 r1.1 ((c21.length : Int))).bind fun c23 => some (.inl ((s18.1.set (s18.2 : Int).toNat c23), (wI (s18.2 + 1))))))
else some (.inr s18.1))) (r15.1, 0)).bind fun x18 =>
((matrix_New x18).bind fun r28 => some (r28.1, r28.2)))))))))
else some ((none : Option (List (List UInt8))), 1)))))
set_option maxRecDepth 100000 in
set_option maxHeartbeats 8000000 in
theorem matrix_Inverse_calls (a0m : Option (List (List UInt8))) (a1f : Bool) (p0 : Value) (p1 : Value) (r : Option (List (List UInt8)) × Int) (w0 : World) (L0 : List Value) (hL0 : Old w0 L0) (hp0 : Mx w0 [] p0 a0m) (hp1 : Fd w0 [] p1 a1f) (H : matrix_Inverse a0m a1f = some r) :
    Calls Try.prog 26 [p0, p1].toArray w0 (fun e w' => ∃ u0 : Value, e = .returned (.tuple #[u0, (i64 r.2)]) ∧ Ext w0 w' ∧ Mx w' L0 u0 r.1) := by
  have hE : Ext w0 w0 := Ext.refl w0; unfold matrix_Inverse at H; refine calls_W (n := 68) Try.func26 rfl rfl rfl ?_; refine W_seq ?_; refine W_reg (by kernel_rfl) ?_; refine wla rfl rfl (q_assign (v := (.pointer none)) rfl rfl) ?_; refine wla rfl rfl (q_assign (v := (i64 0)) rfl rfl) ?_; refine wl_nil ?_; refine W_th ?_; refine W_seq ?_; refine W_reg (by kernel_rfl) ?_; refine wla rfl rfl (q_move (v := p0) rfl rfl) ?_; obtain ⟨r1, hr1, H⟩ := bsi H; refine wls rfl rfl (stp_call (vs := [p0]) Try.func12 rfl rfl rfl (ar1 rfl) (matrix_Size_calls a0m p0 r1 _ (hp0.lift (Lift.ext hE _)) hr1) ?_); rintro _ w1 ⟨rfl, x1⟩; refine ⟨_, rfl, ?_⟩; have e2 := hE.trans x1; refine wla rfl rfl (q_move (v := (.tuple #[(i64 r1.1), (i64 r1.2)])) rfl rfl) ?_; refine wla rfl rfl (q_extract rfl rfl rfl) ?_; refine wla rfl rfl (q_extract rfl rfl rfl) ?_; refine wla rfl rfl (q_assign (v := (i64 r1.1)) rfl rfl) ?_; refine wla rfl rfl (q_assign (v := (i64 r1.2)) rfl rfl) ?_; refine wl_nil ?_; refine W_th ?_; refine W_seq ?_; refine W_seq ?_; refine W_reg (by kernel_rfl) ?_; refine wla rfl rfl (q_move (v := p0) rfl rfl) ?_; refine wla rfl rfl (q_eqM rfl rfl rfl rfl (hp0.lift (Lift.ext e2 _))) ?_; refine wlb rfl rfl (q_move (v := (.bool a0m.isNone)) rfl rfl) (fun hb3 => ?_) (fun hb3 => ?_)
  · replace H := (if_pos hb3).symm.trans H; refine wlk rfl rfl ?_; refine wlk rfl rfl ?_; refine wla rfl rfl (q_pick_t (v := (.bool true)) rfl rfl rfl) ?_; refine wla rfl rfl (q_move (v := (.bool true)) rfl rfl) ?_; refine wlk rfl rfl ?_; refine wlk rfl rfl ?_; refine wlk rfl rfl ?_; refine wla rfl rfl (q_pick_t (v := (.bool true)) rfl rfl rfl) ?_; refine wl_nil ?_; refine W_th ?_; refine W_cond true rfl rfl (fun _ => ?_) (fun hb => by cases hb); refine W_seq ?_; refine W_reg (by kernel_rfl) ?_; refine wla rfl rfl (q_assign (v := (.pointer none)) rfl rfl) ?_; refine wla rfl rfl (q_assign (v := (i64 1)) rfl rfl) ?_; refine wl_nil ?_; refine W_th ?_; refine W_ret ?_; refine th_r ?_; obtain rfl := osi H; refine rt2 (.pointer none) (i64 1) rfl rfl rfl rfl rfl rfl ?_; exact ⟨(.pointer none), rfl, e2, (Mx.nil _ _)⟩
  replace H := (if_neg (ne_true_of_eq_false hb3)).symm.trans H; refine wla rfl rfl (q_move (v := p1) rfl rfl) ?_; refine wla rfl rfl (q_eqF rfl rfl rfl rfl (hp1.lift (Lift.ext e2 _))) ?_; refine wla rfl rfl (q_pick_f (v := (.bool ((!a1f)))) rfl rfl rfl) ?_; refine wlb rfl rfl (q_move (v := (.bool ((!a1f)))) rfl rfl) (fun hb4 => ?_) (fun hb4 => ?_)
  · replace H := (if_pos hb4).symm.trans H; refine wlk rfl rfl ?_; refine wlk rfl rfl ?_; refine wlk rfl rfl ?_; refine wla rfl rfl (q_pick_t (v := (.bool true)) rfl rfl rfl) ?_; refine wl_nil ?_; refine W_th ?_; refine W_cond true rfl rfl (fun _ => ?_) (fun hb => by cases hb); refine W_seq ?_; refine W_reg (by kernel_rfl) ?_; refine wla rfl rfl (q_assign (v := (.pointer none)) rfl rfl) ?_; refine wla rfl rfl (q_assign (v := (i64 1)) rfl rfl) ?_; refine wl_nil ?_; refine W_th ?_; refine W_ret ?_; refine th_r ?_; obtain rfl := osi H; refine rt2 (.pointer none) (i64 1) rfl rfl rfl rfl rfl rfl ?_; exact ⟨(.pointer none), rfl, e2, (Mx.nil _ _)⟩
  replace H := (if_neg (ne_true_of_eq_false hb4)).symm.trans H; refine wla rfl rfl (q_move (v := (i64 r1.1)) rfl rfl) ?_; refine wla rfl rfl (q_move (v := (i64 r1.2)) rfl rfl) ?_; refine wla rfl rfl (q_neI rfl rfl rfl) ?_; refine wla rfl rfl (q_pick_f (v := (.bool ((!decide (r1.1 = r1.2))))) rfl rfl rfl) ?_; refine wl_nil ?_; refine W_th ?_; refine W_cond _ rfl rfl (fun hb5 => ?_) (fun hb5 => ?_)
  · replace H := (if_neg (ndec_t hb5)).symm.trans H; refine W_seq ?_; refine W_reg (by kernel_rfl) ?_; refine wla rfl rfl (q_assign (v := (.pointer none)) rfl rfl) ?_; refine wla rfl rfl (q_assign (v := (i64 1)) rfl rfl) ?_; refine wl_nil ?_; refine W_th ?_; refine W_ret ?_; refine th_r ?_; obtain rfl := osi H; refine rt2 (.pointer none) (i64 1) rfl rfl rfl rfl rfl rfl ?_; exact ⟨(.pointer none), rfl, e2, (Mx.nil _ _)⟩
  replace H := (if_pos (ndec_f hb5)).symm.trans H; refine W_skip ?_; refine W_th ?_; refine W_seq ?_; refine W_reg (by kernel_rfl) ?_; refine wla rfl rfl (q_move (v := (i64 r1.1)) rfl rfl) ?_; obtain ⟨r6, hr6, H⟩ := bsi H; refine wls rfl rfl (stp_call (vs := [(i64 r1.1)]) Try.func28 rfl rfl rfl (ar1 rfl) (matrix_Identity_calls r1.1  r6 _ (L0) (hL0.ext e2)  hr6) ?_); rintro _ w6 ⟨v6_0, rfl, x6, i6_0⟩; refine ⟨_, rfl, ?_⟩; have e7 := e2.trans x6; refine wla rfl rfl (q_move (v := (.tuple #[v6_0, (i64 r6.2)])) rfl rfl) ?_; refine wla rfl rfl (q_extract rfl rfl rfl) ?_; refine wla rfl rfl (q_extract rfl rfl rfl) ?_; refine wla rfl rfl (q_assign (v := v6_0) rfl rfl) ?_; refine wla rfl rfl (q_assign (v := (i64 r6.2)) rfl rfl) ?_; refine wl_nil ?_; refine W_th ?_; refine W_seq ?_; refine W_draw [3, 7] [(0, 0), (1, 0), (2, 0), (3, 1), (4, 0), (5, 0), (6, 0), (7, 1), (8, 2), (9, 0)] mixed (by kernel_rfl) (by kernel_rfl) (by kernel_rfl) (by kernel_rfl) ?_; have x8 := Ext.drew w6; replace i6_0 := i6_0.lift (Lift.ext x8 _); have e9 := e7.trans x8; refine wsa rfl rfl rfl (q_move (v := p0) rfl rfl) ?_; obtain ⟨c10, hc10, H⟩ := bsi H; obtain ⟨g10, uv10, hv10, hB10, hR10⟩ := MxT.some hp0 hc10; refine wsa rfl rfl rfl (q_nilP (g := g10) (m := 0) rfl (Eq.trans rfl hv10)) ?_; refine wsa rfl rfl rfl (q_fldP rfl fieldAtM rfl) ?_; refine wsq rfl rfl rfl (q_loadB (u := uv10) rfl Try.isAgg22 rfl (hB10.ext e9) rfl) ?_; refine wsa rfl rfl rfl (q_move (v := v6_0) rfl rfl) ?_; obtain ⟨c11, hc11, H⟩ := bsi H; obtain ⟨g11, uv11, hv11, hB11, hR11⟩ := MxT.some i6_0 hc11; refine wsa rfl rfl rfl (q_nilP (g := g11) (m := 0) rfl (Eq.trans rfl hv11)) ?_; refine wsa rfl rfl rfl (q_fldP rfl fieldAtM rfl) ?_; refine wsq rfl rfl rfl (q_loadB (u := uv11) rfl Try.isAgg22 rfl hB11 rfl) ?_; obtain ⟨r12, hr12, H⟩ := bsi H; refine wsc rfl (by kernel_rfl) rfl rfl (stp_call (vs := [uv10, uv11]) Try.func45 rfl rfl rfl (ar2 rfl rfl) (matrix_with_calls c10 c11 uv10 uv11 r12 _ (L0) (hL0.ext e9) (hR10.lift (Lift.ext e9 _)) (hR11.lift (Lift.sub (L' := []) (fun _ _ => trivial))) hr12) ?_); rintro _ w12 ⟨v12, rfl, x12, n12_0, o12_0⟩; refine ⟨_, rfl, ?_⟩; have o12 : OwK By w12 (v12 :: (L0)) 30 v12 r12 := o12_0; replace i6_0 := i6_0.lift (Lift.call _ x12 n12_0); replace hR11 := hR11.lift (Lift.call _ x12 n12_0); have n14 := Nw.ext e9 n12_0; have e13 := e9.trans x12; refine wsa rfl rfl rfl (q_assign (v := v12) rfl rfl) ?_; refine ws_nil ?_; refine W_th ?_; refine W_seq ?_; refine W_seq ?_; refine W_reg (by kernel_rfl) ?_; refine wla rfl rfl (q_move (v := p1) rfl rfl) ?_; refine wla rfl rfl (q_move (v := v12) rfl rfl) ?_; refine wla rfl rfl (q_move (v := (i64 r1.1)) rfl rfl) ?_; obtain ⟨r15, hr15, H⟩ := bsi H; refine wls rfl rfl (stp_call (vs := [p1, v12, (i64 r1.1)]) Try.func43 rfl rfl rfl (ar3 rfl rfl rfl) (matrix_reduce_calls a1f r12 r1.1 p1 v12 r15 _ (L0) (hL0.ext e13) (hp1.lift (Lift.arg e13 (nv_cons n14 nv_nil))) (o12.weak (SlK.stab (Sc.stab _)) (show ∀ k, Av (v12 :: L0) k → Av (v12 :: L0) k from fun _ h => ⟨h.1, h.2⟩)) hr15) ?_)
  rintro _ w15 ⟨v15, rfl, x15, hb15_0, n15_0, o15_0⟩; refine ⟨_, rfl, ?_⟩; have i15_0 : In w15 (v12 :: L0) v15 r15.2 := OwK.slk (Sc.stab _) _ (OwK.scal o15_0 (v15 :: (v12 :: L0))) (fun k hk => (Old.cons (hL0.ext e13) o12.lt) k (n15_0 k hk)) (fun _ h => h.2); have lx15 := Lift.ownX [] (L0) x15; have ob15 := hb15_0.weak (SlK.stab (Sc.stab _)) (show ∀ k, Av (v12 :: L0) k → Av (v12 :: L0) k from fun _ h => ⟨h.1, h.2⟩); replace i6_0 := i6_0.lift lx15; replace hR11 := hR11.lift lx15; have e16 := e13.grownX x15 n14; refine wla rfl rfl (q_len rfl T23.sl rfl i15_0) ?_; refine wla rfl rfl (q_move (v := (i64 r1.1)) rfl rfl) ?_; refine wla rfl rfl (q_ltI rfl rfl rfl) ?_; refine wl_nil ?_; refine W_th ?_; refine W_cond _ rfl rfl (fun hb17 => ?_) (fun hb17 => ?_)
  · replace H := (if_pos (of_decide_eq_true hb17)).symm.trans H; refine W_seq ?_; refine W_reg (by kernel_rfl) ?_; refine wla rfl rfl (q_assign (v := (.pointer none)) rfl rfl) ?_; refine wla rfl rfl (q_assign (v := (i64 7)) rfl rfl) ?_; refine wl_nil ?_; refine W_th ?_; refine W_ret ?_; refine th_r ?_; obtain rfl := osi H; refine rt2 (.pointer none) (i64 7) rfl rfl rfl rfl rfl rfl ?_; exact ⟨(.pointer none), rfl, e16, (Mx.nil _ _)⟩
  replace H := (if_neg (of_decide_eq_false hb17)).symm.trans H; refine W_skip ?_; refine W_th ?_; refine W_seq ?_; refine W_seq ?_; refine W_reg (by kernel_rfl) ?_; refine wla rfl rfl (q_move (v := v12) rfl rfl) ?_; refine wla rfl rfl (q_len rfl T22.sl rfl (ob15.rd (SlK.stab (Sc.stab _)))) ?_; refine wla rfl rfl (q_move (v := (i64 0)) rfl rfl) ?_; refine wl_nil ?_; refine W_th ?_; obtain ⟨x18, G18, H⟩ := bsi H; refine W_mid (fun f w => f 10 = v12 ∧ f 68 = undef ∧ Ext w0 w ∧ OwK By w (v12 :: L0) 30 v12 x18 ∧ Nw w0 v12) ?_ ?_
  · refine W_block ?_; refine W_loop (fun s18 f w => f 6 = (i64 r1.1) ∧ f 10 = v12 ∧ f 50 = (i64 ((r15.1.length : Int))) ∧ f 51 = (i64 s18.2) ∧ f 68 = undef ∧ Ext w0 w ∧ OwK By w (v12 :: L0) 30 v12 s18.1 ∧ Nw w0 v12) G18 ?_ ?_
    · exact ⟨rfl, rfl, rfl, rfl, rfl, e16, ob15, n14⟩
    rintro s18 _ _ w19 ⟨s6_19, s10_19, s50_19, s51_19, s68_19, hE19, o0_19, n0_19⟩ H18 hr18; refine W_seq ?_; refine W_reg (by kernel_rfl) ?_; refine wla rfl rfl (q_ltI rfl s51_19 s50_19) ?_; refine wl_nil ?_; refine W_th ?_; refine W_seq ?_; refine W_cond _ rfl rfl (fun hb20 => ?_) (fun hb20 => ?_)
    · replace H18 := (if_pos (of_decide_eq_true hb20)).symm.trans H18; refine W_skip ?_; refine W_th ?_; refine W_seq ?_; refine W_block ?_; refine W_seq ?_; refine W_reg (by kernel_rfl) ?_; refine wla rfl rfl (q_move (v := (i64 s18.2)) rfl s51_19) ?_; refine wla rfl rfl (q_assign (v := (i64 s18.2)) rfl rfl) ?_; refine wl_nil ?_; refine W_th ?_; refine W_reg (by kernel_rfl) ?_; refine wla rfl rfl (q_move (v := v12) rfl s10_19) ?_; refine wla rfl rfl (q_move (v := (i64 s18.2)) rfl rfl) ?_; refine wla rfl rfl (q_move (v := v12) rfl s10_19) ?_; refine wla rfl rfl (q_move (v := (i64 s18.2)) rfl rfl) ?_; obtain ⟨c21, hc21, H18⟩ := bsi H18; refine wla rfl rfl (q_adr rfl T22 rfl rfl (o0_19.rd (SlK.stab (Sc.stab _))) hc21) ?_; refine wlq_loadO (SlK.stab (Sc.stab _)) rfl rfl rfl T22 rfl o0_19 hc21 (fun v22 i22 => ?_); replace i22 : By w19 (v12 :: L0) v22 c21 := i22; refine wla rfl rfl (q_move (v := (i64 r1.1)) rfl s6_19) ?_; obtain ⟨c23, hc23, H18⟩ := bsi H18; refine wla rfl rfl (q_slice (a := r1.1) (b := (c21.length : Int)) rfl T30 rfl i22 rfl rfl hc23) ?_; refine wla rfl rfl (q_adr rfl T22 rfl rfl (o0_19.rd (SlK.stab (Sc.stab _))) hc21) ?_; refine wln rfl rfl (stp_store (R := By) (u := (subV v22 (r1.1 : Int).toNat ((c21.length : Int) : Int).toNat)) (SlK.stab (Sc.stab _)) [] (L0) rfl T22 rfl rfl o0_19 (put_of c23 hc21) (SlK.cut i22 hc23) (oc_sl _ _ _ _ (SlK.cut i22 hc23)) ?_); intro w24 o24 g24 l24; replace i22 := i22.lift l24; have e25 := hE19.grown g24 n0_19; refine wl_nil ?_; refine bk_n ?_; refine W_th ?_; refine W_reg (by kernel_rfl) ?_; refine wla rfl rfl (q_addI rfl s51_19 rfl) ?_; refine wla rfl rfl (q_move (v := (i64 ((wI (s18.2 + 1))))) rfl rfl) ?_; refine wl_nil ?_; obtain rfl := osi H18; exact ⟨_, rfl, s6_19, s10_19, s50_19, rfl, s68_19, e25, o24, n0_19⟩
    replace H18 := (if_neg (of_decide_eq_false hb20)).symm.trans H18; refine W_exit ?_; refine th_x ?_; obtain rfl := osi H18; obtain rfl := hr18 _ rfl; refine th_x ?_; refine bk_x ?_; exact ⟨s10_19, s68_19, hE19, o0_19, n0_19⟩
  rintro _ w27 ⟨s10_27, s68_27, hE27, o0_27, n0_27⟩; refine W_th ?_; refine W_seq ?_; refine W_reg (by kernel_rfl) ?_; refine wla rfl rfl (q_move (v := v12) rfl s10_27) ?_; obtain ⟨r28, hr28, H⟩ := bsi H; refine wls rfl rfl (stp_call (vs := [v12]) Try.func11 rfl rfl rfl (ar1 rfl) (matrix_New_calls x18 v12 r28 _ (v12 :: L0) (Old.cons (hL0.ext hE27) o0_27.lt) (o0_27.rd (SlK.stab (Sc.stab _))) hr28) ?_); rintro _ w28 ⟨v28_0, rfl, x28, i28_0⟩; refine ⟨_, rfl, ?_⟩; replace o0_27 := o0_27.extL (SlK.stab (Sc.stab _)) x28 (Lift.ext x28 _); have e29 := hE27.trans x28; refine wla rfl rfl (q_extract rfl rfl rfl) ?_; refine wla rfl rfl (q_extract rfl rfl rfl) ?_; refine wla rfl rfl (q_assign (v := v28_0) rfl rfl) ?_; refine wla rfl rfl (q_assign (v := (i64 r28.2)) rfl rfl) ?_; refine wl_nil ?_; refine W_th ?_; refine W_ret ?_; obtain rfl := osi H; refine rt2 v28_0 (i64 r28.2) rfl rfl rfl rfl rfl s68_27 ?_; exact ⟨v28_0, rfl, e29, (i28_0.lift (Lift.sub (fun _ h => h.2)))⟩
noncomputable def matrix_Cauchy (a0f : Bool) (a1xs : List UInt8) (a2ys : List UInt8) : Option (Option (List (List UInt8)) × Int) :=
(if (!a0f) = true then some ((none : Option (List (List UInt8))), 1)
else
((matrix_size (a1xs.length : Int)).bind fun r2 =>
(if (!r2) = true then some ((none : Option (List (List UInt8))), 2)
else
((matrix_size (a2ys.length : Int)).bind fun r5 =>
(if (!r5) = true then some ((none : Option (List (List UInt8))), 2)
else
((slices_Concat_sbytebyte ([a1xs, a2ys] : List (List UInt8))).bind fun r13 =>
((iterC (fun s15 : (List (UInt8 × Bool)) × Int =>
(if s15.2 < (r13.length : Int) then
((idx r13 s15.2).bind fun c18 =>
(if (mget s15.1 c18) = true then some (.inr (.inr ((none : Option (List (List UInt8))), 6)))
else some (.inl ((mput s15.1 c18 true), (wI (s15.2 + 1))))))
else some (.inr (.inl ())))) (([] : List (UInt8 × Bool)), 0)).bind (Sum.elim (fun y15 =>
((matrix_blank (a1xs.length : Int) (a2ys.length : Int)).bind fun r24 =>
((iterC (fun s28 : List (List UInt8) × Int =>
(if s28.2 < (a1xs.length : Int) then
((idx a1xs s28.2).bind fun c31 =>
((iterC (fun s32 : List (List UInt8) × Int =>
(if s32.2 < (a2ys.length : Int) then
((idx a2ys s32.2).bind fun c35 =>
((idx s32.1 s28.2).bind fun c38 =>
((field_Add c31 c35).bind fun r40 =>
((field_Inv a0f r40).bind fun r42 =>
((idx c38 s32.2).bind fun c44 => some (.inl ((s32.1.set (s28.2 : Int).toNat (c38.set (s32.2 : Int).toNat r42.1)), (wI (s32.2 + 1)))))))))
else some (.inr s32.1))) (s28.1, 0)).bind fun x32 => some (.inl (x32, (wI (s28.2 + 1))))))
else some (.inr s28.1))) (r24, 0)).bind fun x28 => some ((some x28), 0)))) (fun q15 => some q15)))))))))
set_option maxRecDepth 100000 in
set_option maxHeartbeats 8000000 in
theorem matrix_Cauchy_calls (a0f : Bool) (a1xs : List UInt8) (a2ys : List UInt8) (p0 : Value) (p1 : Value) (p2 : Value) (r : Option (List (List UInt8)) × Int) (w0 : World) (L0 : List Value) (hL0 : Old w0 L0) (hp0 : Fd w0 [] p0 a0f) (hp1 : By w0 [] p1 a1xs) (hp2 : By w0 [] p2 a2ys) (H : matrix_Cauchy a0f a1xs a2ys = some r) :
    Calls Try.prog 32 [p0, p1, p2].toArray w0 (fun e w' => ∃ u0 : Value, e = .returned (.tuple #[u0, (i64 r.2)]) ∧ Ext w0 w' ∧ Mx w' L0 u0 r.1) := by
  have hE : Ext w0 w0 := Ext.refl w0; unfold matrix_Cauchy at H; refine calls_W (n := 85) Try.func32 rfl rfl rfl ?_; refine W_seq ?_; refine W_reg (by kernel_rfl) ?_; refine wla rfl rfl (q_assign (v := (.pointer none)) rfl rfl) ?_; refine wla rfl rfl (q_assign (v := (i64 0)) rfl rfl) ?_; refine wl_nil ?_; refine W_th ?_; refine W_seq ?_; refine W_block ?_; refine W_seq ?_; refine W_reg (by kernel_rfl) ?_; refine wla rfl rfl (q_move (v := p0) rfl rfl) ?_; refine wla rfl rfl (q_eqF rfl rfl rfl rfl (hp0.lift (Lift.ext hE _))) ?_; refine wla rfl rfl (q_assign (v := (.bool ((!a0f)))) rfl rfl) ?_; refine wl_nil ?_; refine W_th ?_; refine W_cond _ rfl rfl (fun hb1 => ?_) (fun hb1 => ?_)
  · replace H := (if_pos hb1).symm.trans H; refine W_seq ?_; refine W_reg (by kernel_rfl) ?_; refine wla rfl rfl (q_assign (v := (.pointer none)) rfl rfl) ?_; refine wla rfl rfl (q_assign (v := (i64 1)) rfl rfl) ?_; refine wl_nil ?_; refine W_th ?_; refine W_ret ?_; refine bk_r ?_; refine th_r ?_; obtain rfl := osi H; refine rt2 (.pointer none) (i64 1) rfl rfl rfl rfl rfl rfl ?_; exact ⟨(.pointer none), rfl, hE, (Mx.nil _ _)⟩
  replace H := (if_neg (ne_true_of_eq_false hb1)).symm.trans H; refine W_seq ?_; refine W_reg (by kernel_rfl) ?_; refine wla rfl rfl (q_move (v := p1) rfl rfl) ?_; refine wla rfl rfl (q_len rfl T30.sl rfl (hp1.lift (Lift.ext hE _))) ?_; obtain ⟨r2, hr2, H⟩ := bsi H; refine wls rfl rfl (stp_call (vs := [(i64 ((a1xs.length : Int)))]) Try.func34 rfl rfl rfl (ar1 rfl) (matrix_size_calls (a1xs.length : Int)  r2 _  hr2) ?_); rintro _ w2 ⟨rfl, x2⟩; refine ⟨_, rfl, ?_⟩; have e3 := hE.trans x2; refine wla rfl rfl (q_not rfl rfl) ?_; refine wlb rfl rfl (q_move (v := (.bool ((!r2)))) rfl rfl) (fun hb4 => ?_) (fun hb4 => ?_)
  · replace H := (if_pos hb4).symm.trans H; refine wlk rfl rfl ?_; refine wlk rfl rfl ?_; refine wlk rfl rfl ?_; refine wlk rfl rfl ?_; refine wla rfl rfl (q_pick_t (v := (.bool true)) rfl rfl rfl) ?_; refine wla rfl rfl (q_assign (v := (.bool true)) rfl rfl) ?_; refine wl_nil ?_; refine W_th ?_; refine W_cond true rfl rfl (fun _ => ?_) (fun hb => by cases hb); refine W_seq ?_; refine W_reg (by kernel_rfl) ?_; refine wla rfl rfl (q_assign (v := (.pointer none)) rfl rfl) ?_; refine wla rfl rfl (q_assign (v := (i64 2)) rfl rfl) ?_; refine wl_nil ?_; refine W_th ?_; refine W_ret ?_; refine bk_r ?_; refine th_r ?_; obtain rfl := osi H; refine rt2 (.pointer none) (i64 2) rfl rfl rfl rfl rfl rfl ?_; exact ⟨(.pointer none), rfl, e3, (Mx.nil _ _)⟩
  replace H := (if_neg (ne_true_of_eq_false hb4)).symm.trans H; refine wla rfl rfl (q_move (v := p2) rfl rfl) ?_; refine wla rfl rfl (q_len rfl T30.sl rfl (hp2.lift (Lift.ext e3 _))) ?_; obtain ⟨r5, hr5, H⟩ := bsi H; refine wls rfl rfl (stp_call (vs := [(i64 ((a2ys.length : Int)))]) Try.func34 rfl rfl rfl (ar1 rfl) (matrix_size_calls (a2ys.length : Int)  r5 _  hr5) ?_); rintro _ w5 ⟨rfl, x5⟩; refine ⟨_, rfl, ?_⟩; have e6 := e3.trans x5; refine wla rfl rfl (q_not rfl rfl) ?_; refine wla rfl rfl (q_pick_f (v := (.bool ((!r5)))) rfl rfl rfl) ?_; refine wla rfl rfl (q_assign (v := (.bool ((!r5)))) rfl rfl) ?_; refine wl_nil ?_; refine W_th ?_; refine W_cond _ rfl rfl (fun hb7 => ?_) (fun hb7 => ?_)
  · replace H := (if_pos hb7).symm.trans H; refine W_seq ?_; refine W_reg (by kernel_rfl) ?_; refine wla rfl rfl (q_assign (v := (.pointer none)) rfl rfl) ?_; refine wla rfl rfl (q_assign (v := (i64 2)) rfl rfl) ?_; refine wl_nil ?_; refine W_th ?_; refine W_ret ?_; refine bk_r ?_; refine th_r ?_; obtain rfl := osi H; refine rt2 (.pointer none) (i64 2) rfl rfl rfl rfl rfl rfl ?_; exact ⟨(.pointer none), rfl, e6, (Mx.nil _ _)⟩
  replace H := (if_neg (ne_true_of_eq_false hb7)).symm.trans H; refine W_skip ?_; refine bk_n ?_; refine W_th ?_; refine W_seq ?_; refine W_reg (by kernel_rfl) ?_; refine wls rfl rfl (stp_makeMap (L0) rfl ?_); intro g8 w8 o8 n8 g8r l8; have x8 := grown_ext g8r; have n10 := Nw.ext e6 n8; have e9 := e6.trans x8; refine wla rfl rfl (q_assign (v := (mp g8)) rfl rfl) ?_; refine wl_nil ?_; refine W_th ?_; refine W_seq ?_; refine W_seq ?_; refine W_reg (by kernel_rfl) ?_; refine wla rfl rfl (q_move (v := p1) rfl rfl) ?_; refine wla rfl rfl (q_move (v := p2) rfl rfl) ?_; refine wls rfl rfl (stp_lit (L := []) (R := By) [p1, p2] ([a1xs, a2ys] : List (List UInt8)) rfl T22 rfl (by exact ⟨rfl, rfl, rfl, rfl, trivial⟩) rfl (LitR.cells (R := By) (w := w8) (L := []) (l := ([a1xs, a2ys] : List (List UInt8))) (LitR.cons (hp1.lift (Lift.ext e9 _)) (LitR.cons (hp2.lift (Lift.ext e9 _)) LitR.nil)) (fun u x h => cells_sl u x h)) rfl (LitR.all (R := By) (w := w8) (L := []) (l := ([a1xs, a2ys] : List (List UInt8))) (SlK.stab (Sc.stab _)) (LitR.cons (hp1.lift (Lift.ext e9 _)) (LitR.cons (hp2.lift (Lift.ext e9 _)) LitR.nil))) ?_); intro v11 w11 o11 n11 g11 l11; have x11 := grown_ext g11; have i11 := OwK.rd (SlK.stab (Sc.stab _)) o11; replace o8 := o8.ext x11; have e12 := e9.trans x11; obtain ⟨r13, hr13, H⟩ := bsi H; refine wls rfl rfl (stp_call (vs := [v11]) Try.func49 rfl rfl rfl (ar1 rfl) (slices_Concat_sbytebyte_calls ([a1xs, a2ys] : List (List UInt8)) v11 r13 _ i11 hr13) ?_); rintro _ w13 ⟨v13, rfl, x13, n13_0, o13_0⟩; refine ⟨_, rfl, ?_⟩; have i13_0 : By w13 ((mp g8) :: L0) v13 r13 := OwK.slk (Sc.stab _) _ (OwK.scal o13_0 (v13 :: ((mp g8) :: L0))) (fun k hk => (Old.cons (hL0.ext e12) o8.ltB) k (n13_0 k hk)) (fun _ h => h.2); replace o8 := o8.ext x13; have e14 := e12.trans x13; refine wla rfl rfl (q_len rfl T30.sl rfl i13_0) ?_; refine wla rfl rfl (q_move (v := (i64 0)) rfl rfl) ?_; refine wl_nil ?_; refine W_th ?_; obtain ⟨x15, G15, H⟩ := bsi H; refine W_mid (fun f w => ∃ y15, x15 = .inl y15 ∧ f 0 = p0 ∧ f 1 = p1 ∧ f 2 = p2 ∧ f 85 = undef ∧ Ext w0 w) ?_ ?_
  · refine W_block ?_; refine W_loop (fun s15 f w => f 0 = p0 ∧ f 1 = p1 ∧ f 2 = p2 ∧ f 8 = (mp g8) ∧ f 34 = v13 ∧ f 35 = (i64 ((r13.length : Int))) ∧ f 36 = (i64 s15.2) ∧ f 85 = undef ∧ Ext w0 w ∧ Mp w g8 s15.1 ∧ Nw w0 (mp g8) ∧ By w ((mp g8) :: L0) v13 r13) G15 ?_ ?_
    · exact ⟨rfl, rfl, rfl, rfl, rfl, rfl, rfl, rfl, e14, o8, n10, i13_0⟩
    rintro s15 _ _ w16 ⟨s0_16, s1_16, s2_16, s8_16, s34_16, s35_16, s36_16, s85_16, hE16, o0_16, n0_16, i0_16⟩ H15 hr15; refine W_seq ?_; refine W_reg (by kernel_rfl) ?_; refine wla rfl rfl (q_ltI rfl s36_16 s35_16) ?_; refine wl_nil ?_; refine W_th ?_; refine W_seq ?_; refine W_cond _ rfl rfl (fun hb17 => ?_) (fun hb17 => ?_)
    · replace H15 := (if_pos (of_decide_eq_true hb17)).symm.trans H15; refine W_skip ?_; refine W_th ?_; refine W_seq ?_; refine W_block ?_; refine W_seq ?_; refine W_reg (by kernel_rfl) ?_; obtain ⟨c18, hc18, H15⟩ := bsi H15; refine wla rfl rfl (q_adr rfl T30 s34_16 s36_16 i0_16 hc18) ?_; refine wlq rfl rfl (q_loadS rfl T30 rfl i0_16 hc18) ?_; refine wla rfl rfl (q_assign (v := (u8 c18)) rfl rfl) ?_; refine wl_nil ?_; refine W_th ?_; refine W_seq ?_; refine W_seq ?_; refine W_reg (by kernel_rfl) ?_; refine wla rfl rfl (q_move (v := (mp g8)) rfl s8_16) ?_; refine wla rfl rfl (q_move (v := (u8 c18)) rfl rfl) ?_; refine wlq rfl rfl (q_lookup rfl Try.underlying57 Try.underlying5 Try.zeroValue4 rfl rfl o0_16) ?_; refine wl_nil ?_; refine W_th ?_; refine W_cond _ rfl rfl (fun hb19 => ?_) (fun hb19 => ?_)
      · replace H15 := (if_pos hb19).symm.trans H15; refine W_seq ?_; refine W_reg (by kernel_rfl) ?_; refine wla rfl rfl (q_assign (v := (.pointer none)) rfl rfl) ?_; refine wla rfl rfl (q_assign (v := (i64 6)) rfl rfl) ?_; refine wl_nil ?_; refine W_th ?_; refine W_ret ?_; refine th_r ?_; refine bk_r ?_; refine th_r ?_; obtain rfl := osi H15; obtain rfl := hr15 _ rfl; simp only [Sum.elim_inr] at H; refine th_r ?_; refine bk_r ?_; refine th_r ?_; refine th_r ?_; obtain rfl := osi H; refine rt2 (.pointer none) (i64 6) rfl rfl rfl rfl rfl s85_16 ?_; exact ⟨(.pointer none), rfl, hE16, (Mx.nil _ _)⟩
      replace H15 := (if_neg (ne_true_of_eq_false hb19)).symm.trans H15; refine W_skip ?_; refine W_th ?_; refine W_reg (by kernel_rfl) ?_; refine wla rfl rfl (q_move (v := (mp g8)) rfl s8_16) ?_; refine wla rfl rfl (q_move (v := (u8 c18)) rfl rfl) ?_; refine wln rfl rfl (stp_mapUpdate [] (L0) (.inl rfl) Try.underlying57 Try.underlying5 rfl rfl rfl o0_16 ?_); intro w20 o20 g20 l20; replace i0_16 := i0_16.lift l20; have e21 := hE16.grown g20 n0_16; refine wl_nil ?_; refine bk_n ?_; refine W_th ?_; refine W_reg (by kernel_rfl) ?_; refine wla rfl rfl (q_addI rfl s36_16 rfl) ?_; refine wla rfl rfl (q_move (v := (i64 ((wI (s15.2 + 1))))) rfl rfl) ?_; refine wl_nil ?_; obtain rfl := osi H15; exact ⟨_, rfl, s0_16, s1_16, s2_16, s8_16, s34_16, s35_16, rfl, s85_16, e21, o20, n0_16, i0_16⟩
    replace H15 := (if_neg (of_decide_eq_false hb17)).symm.trans H15; refine W_exit ?_; refine th_x ?_; obtain rfl := osi H15; obtain rfl := hr15 _ rfl; refine th_x ?_; refine bk_x ?_; exact ⟨_, rfl, s0_16, s1_16, s2_16, s85_16, hE16⟩
  rintro _ w23 ⟨y15, rfl, s0_23, s1_23, s2_23, s85_23, hE23⟩; simp only [Sum.elim_inl] at H; refine W_th ?_; refine W_seq ?_; refine W_reg (by kernel_rfl) ?_; refine wla rfl rfl (q_move (v := p1) rfl s1_23) ?_; refine wla rfl rfl (q_len rfl T30.sl rfl (hp1.lift (Lift.ext hE23 _))) ?_; refine wla rfl rfl (q_move (v := p2) rfl s2_23) ?_; refine wla rfl rfl (q_len rfl T30.sl rfl (hp2.lift (Lift.ext hE23 _))) ?_; obtain ⟨r24, hr24, H⟩ := bsi H; refine wls rfl rfl (stp_call (vs := [(i64 ((a1xs.length : Int))), (i64 ((a2ys.length : Int)))]) Try.func35 rfl rfl rfl (ar2 rfl rfl) (matrix_blank_calls (a1xs.length : Int) (a2ys.length : Int)  r24 _  hr24) ?_); rintro _ w24 ⟨v24, rfl, x24, i24_0⟩; refine ⟨_, rfl, ?_⟩; obtain ⟨g24, uv24, G24, rfl, nB24, hB24, nG24, hD24, hq24⟩ := i24_0; have n25 := Nw.ext hE23 nB24; have n26 := Nw.ext hE23 nG24; have e27 := hE23.trans x24; refine wla rfl rfl (q_assign (v := (bp g24)) rfl rfl) ?_; refine wl_nil ?_; refine W_th ?_; refine W_seq ?_; refine W_seq ?_; refine W_reg (by kernel_rfl) ?_; refine wla rfl rfl (q_move (v := p1) rfl s1_23) ?_; refine wla rfl rfl (q_len rfl T30.sl rfl (hp1.lift (Lift.ext e27 _))) ?_; refine wla rfl rfl (q_move (v := (i64 0)) rfl rfl) ?_; refine wl_nil ?_; refine W_th ?_; obtain ⟨x28, G28, H⟩ := bsi H; refine W_mid (fun f w => ∃ Gbbpg24_52 : Value, f 11 = (bp g24) ∧ f 85 = undef ∧ Ext w0 w ∧ OwD w 30 5 Gbbpg24_52 uv24 x28 ∧ Nw w0 Gbbpg24_52 ∧ Blk w g24 65 #[uv24] ∧ Nw w0 (bp g24) ∧ Nq Gbbpg24_52 (bp g24)) ?_ ?_
  · refine W_block ?_; refine W_loop (fun s28 f w => ∃ Gbbpg24_50 : Value, f 0 = p0 ∧ f 2 = p2 ∧ f 11 = (bp g24) ∧ f 51 = p1 ∧ f 52 = (i64 ((a1xs.length : Int))) ∧ f 53 = (i64 s28.2) ∧ f 85 = undef ∧ Ext w0 w ∧ OwD w 30 5 Gbbpg24_50 uv24 s28.1 ∧ Nw w0 Gbbpg24_50 ∧ Blk w g24 65 #[uv24] ∧ Nw w0 (bp g24) ∧ Nq Gbbpg24_50 (bp g24)) G28 ?_ ?_
    · exact ⟨G24, s0_23, s2_23, rfl, rfl, rfl, rfl, s85_23, e27, hD24, n26, hB24, n25, hq24.symm⟩
    rintro s28 _ _ w29 ⟨Gbbpg24_29, s0_29, s2_29, s11_29, s51_29, s52_29, s53_29, s85_29, hE29, o0_29, n0_29, o1_29, n1_29, q0_1_29⟩ H28 hr28; refine W_seq ?_; refine W_reg (by kernel_rfl) ?_; refine wla rfl rfl (q_ltI rfl s53_29 s52_29) ?_; refine wl_nil ?_; refine W_th ?_; refine W_seq ?_; refine W_cond _ rfl rfl (fun hb30 => ?_) (fun hb30 => ?_)
    · replace H28 := (if_pos (of_decide_eq_true hb30)).symm.trans H28; refine W_skip ?_; refine W_th ?_; refine W_seq ?_; refine W_block ?_; refine W_seq ?_; refine W_reg (by kernel_rfl) ?_; refine wla rfl rfl (q_move (v := (i64 s28.2)) rfl s53_29) ?_; obtain ⟨c31, hc31, H28⟩ := bsi H28; refine wla rfl rfl (q_adr rfl T30 s51_29 s53_29 (hp1.lift (Lift.ext hE29 _)) hc31) ?_; refine wlq rfl rfl (q_loadS rfl T30 rfl (hp1.lift (Lift.ext hE29 _)) hc31) ?_; refine wla rfl rfl (q_assign (v := (i64 s28.2)) rfl rfl) ?_; refine wla rfl rfl (q_assign (v := (u8 c31)) rfl rfl) ?_; refine wl_nil ?_; refine W_th ?_; refine W_seq ?_; refine W_reg (by kernel_rfl) ?_; refine wla rfl rfl (q_move (v := p2) rfl s2_29) ?_; refine wla rfl rfl (q_len rfl T30.sl rfl (hp2.lift (Lift.ext hE29 _))) ?_; refine wla rfl rfl (q_move (v := (i64 0)) rfl rfl) ?_; refine wl_nil ?_; refine W_th ?_; obtain ⟨x32, G32, H28⟩ := bsi H28; refine W_mid (fun f w => ∃ Gbbpg24_49 : Value, f 0 = p0 ∧ f 2 = p2 ∧ f 11 = (bp g24) ∧ f 51 = p1 ∧ f 52 = (i64 ((a1xs.length : Int))) ∧ f 53 = (i64 s28.2) ∧ f 85 = undef ∧ Ext w0 w ∧ OwD w 30 5 Gbbpg24_49 uv24 x32 ∧ Nw w0 Gbbpg24_49 ∧ Blk w g24 65 #[uv24] ∧ Nw w0 (bp g24) ∧ Nq Gbbpg24_49 (bp g24)) ?_ ?_
      · refine W_block ?_; refine W_loop (fun s32 f w => ∃ Gbbpg24_47 : Value, f 0 = p0 ∧ f 2 = p2 ∧ f 11 = (bp g24) ∧ f 12 = (i64 s28.2) ∧ f 13 = (u8 c31) ∧ f 51 = p1 ∧ f 52 = (i64 ((a1xs.length : Int))) ∧ f 53 = (i64 s28.2) ∧ f 58 = p2 ∧ f 59 = (i64 ((a2ys.length : Int))) ∧ f 60 = (i64 s32.2) ∧ f 85 = undef ∧ Ext w0 w ∧ OwD w 30 5 Gbbpg24_47 uv24 s32.1 ∧ Nw w0 Gbbpg24_47 ∧ Blk w g24 65 #[uv24] ∧ Nw w0 (bp g24) ∧ Nq Gbbpg24_47 (bp g24)) G32 ?_ ?_
        · exact ⟨Gbbpg24_29, s0_29, s2_29, s11_29, rfl, rfl, s51_29, s52_29, s53_29, rfl, rfl, rfl, s85_29, hE29, o0_29, n0_29, o1_29, n1_29, q0_1_29⟩
        rintro s32 _ _ w33 ⟨Gbbpg24_33, s0_33, s2_33, s11_33, s12_33, s13_33, s51_33, s52_33, s53_33, s58_33, s59_33, s60_33, s85_33, hE33, o0_33, n0_33, o1_33, n1_33, q0_1_33⟩ H32 hr32; refine W_seq ?_; refine W_reg (by kernel_rfl) ?_; refine wla rfl rfl (q_ltI rfl s60_33 s59_33) ?_; refine wl_nil ?_; refine W_th ?_; refine W_seq ?_; refine W_cond _ rfl rfl (fun hb34 => ?_) (fun hb34 => ?_)
        · replace H32 := (if_pos (of_decide_eq_true hb34)).symm.trans H32; refine W_skip ?_; refine W_th ?_; refine W_seq ?_; refine W_block ?_; refine W_seq ?_; refine W_reg (by kernel_rfl) ?_; refine wla rfl rfl (q_move (v := (i64 s32.2)) rfl s60_33) ?_; obtain ⟨c35, hc35, H32⟩ := bsi H32; refine wla rfl rfl (q_adr rfl T30 s58_33 s60_33 (hp2.lift (Lift.ext hE33 _)) hc35) ?_; refine wlq rfl rfl (q_loadS rfl T30 rfl (hp2.lift (Lift.ext hE33 _)) hc35) ?_; refine wla rfl rfl (q_assign (v := (i64 s32.2)) rfl rfl) ?_; refine wla rfl rfl (q_assign (v := (u8 c35)) rfl rfl) ?_; refine wl_nil ?_; refine W_th ?_; refine W_draw [3, 6] [(0, 0), (1, 0), (2, 0), (3, 1), (4, 0), (5, 0), (6, 1), (7, 0), (8, 0), (9, 0), (10, 0), (11, 2), (12, 2), (13, 0), (14, 0), (15, 0), (16, 0), (17, 2)] mixed (by kernel_rfl) (by kernel_rfl) (by kernel_rfl) (by kernel_rfl) ?_; have x36 := Ext.drew w33; replace o0_33 := o0_33.ext x36; replace o1_33 := o1_33.ext x36; have e37 := hE33.trans x36; refine wsa rfl rfl rfl (q_move (v := (bp g24)) rfl s11_33) ?_; refine wsa rfl rfl rfl (q_nilP rfl rfl) ?_; refine wsa rfl rfl rfl (q_fldP rfl fieldAtM rfl) ?_; refine wsq rfl rfl rfl (q_loadB (u := uv24) rfl Try.isAgg22 rfl o1_33 rfl) ?_; refine wsa rfl rfl rfl (q_move (v := (i64 s28.2)) rfl s12_33) ?_; obtain ⟨c38, hc38, H32⟩ := bsi H32; refine wsa rfl rfl rfl (q_adr rfl T22 rfl rfl o0_33.rd hc38) ?_; refine wsq_loadD rfl rfl rfl rfl T22 rfl o0_33 hc38 (fun v39 hD39 => ?_); refine wsa rfl rfl rfl (q_move (v := (i64 s32.2)) rfl rfl) ?_; refine wsa rfl rfl rfl (q_move (v := p0) rfl s0_33) ?_; refine wsa rfl rfl rfl (q_move (v := (u8 c31)) rfl s13_33) ?_; refine wsa rfl rfl rfl (q_move (v := (u8 c35)) rfl rfl) ?_; obtain ⟨r40, hr40, H32⟩ := bsi H32; refine wss rfl rfl rfl (stp_call (vs := [(u8 c31), (u8 c35)]) Try.func51 rfl rfl rfl (ar2 rfl rfl) (field_Add_calls c31 c35  r40 _  hr40) ?_); rintro _ w40 ⟨rfl, x40⟩; refine ⟨_, rfl, x40, ?_⟩; replace o0_33 := o0_33.ext x40; replace o1_33 := o1_33.ext x40; have e41 := e37.trans x40; obtain ⟨r42, hr42, H32⟩ := bsi H32; refine wss rfl rfl rfl (stp_call (vs := [p0, (u8 r40)]) Try.func50 rfl rfl rfl (ar2 rfl rfl) (field_Inv_calls a0f r40 p0 r42 _ (hp0.lift (Lift.ext e41 _)) hr42) ?_); rintro _ w42 ⟨rfl, x42⟩; refine ⟨_, rfl, x42, ?_⟩; replace o0_33 := o0_33.ext x42; replace o1_33 := o1_33.ext x42; have e43 := e41.trans x42; refine wsa rfl rfl rfl (q_move (v := (.tuple #[(u8 r42.1), (i64 r42.2)])) rfl rfl) ?_; refine wsa rfl rfl rfl (q_extract rfl rfl rfl) ?_; refine wsa rfl rfl rfl (q_extract rfl rfl rfl) ?_; obtain ⟨c44, hc44, H32⟩ := bsi H32; refine wsa rfl rfl rfl (q_adr rfl T30 rfl rfl (OwD.rowrd o0_33 hD39 hc38) hc44) ?_; refine wsn rfl (by kernel_rfl) rfl rfl (stp_storeD [] ((bp g24) :: L0) rfl T30 rfl rfl o0_33 hD39 hc38 hc44 ?_); intro w45 o45 g45 l45; replace o1_33 := o1_33.other g45 q0_1_33.symm; have e46 := e43.grown g45 n0_33; refine ws_nil ?_
          refine bk_n ?_; refine W_th ?_; refine W_reg (by kernel_rfl) ?_; refine wla rfl rfl (q_addI rfl s60_33 rfl) ?_; refine wla rfl rfl (q_move (v := (i64 ((wI (s32.2 + 1))))) rfl rfl) ?_; refine wl_nil ?_; obtain rfl := osi H32; exact ⟨_, rfl, Gbbpg24_33, s0_33, s2_33, s11_33, s12_33, s13_33, s51_33, s52_33, s53_33, s58_33, s59_33, rfl, s85_33, e46, o45, n0_33, o1_33, n1_33, q0_1_33⟩
        replace H32 := (if_neg (of_decide_eq_false hb34)).symm.trans H32; refine W_exit ?_; refine th_x ?_; obtain rfl := osi H32; obtain rfl := hr32 _ rfl; refine th_x ?_; refine bk_x ?_; exact ⟨Gbbpg24_33, s0_33, s2_33, s11_33, s51_33, s52_33, s53_33, s85_33, hE33, o0_33, n0_33, o1_33, n1_33, q0_1_33⟩
      rintro _ w48 ⟨Gbbpg24_48, s0_48, s2_48, s11_48, s51_48, s52_48, s53_48, s85_48, hE48, o0_48, n0_48, o1_48, n1_48, q0_1_48⟩; refine bk_n ?_; refine W_th ?_; refine W_reg (by kernel_rfl) ?_; refine wla rfl rfl (q_addI rfl s53_48 rfl) ?_; refine wla rfl rfl (q_move (v := (i64 ((wI (s28.2 + 1))))) rfl rfl) ?_; refine wl_nil ?_; obtain rfl := osi H28; exact ⟨_, rfl, Gbbpg24_48, s0_48, s2_48, s11_48, s51_48, s52_48, rfl, s85_48, hE48, o0_48, n0_48, o1_48, n1_48, q0_1_48⟩
    replace H28 := (if_neg (of_decide_eq_false hb30)).symm.trans H28; refine W_exit ?_; refine th_x ?_; obtain rfl := osi H28; obtain rfl := hr28 _ rfl; refine th_x ?_; refine bk_x ?_; exact ⟨Gbbpg24_29, s11_29, s85_29, hE29, o0_29, n0_29, o1_29, n1_29, q0_1_29⟩
  rintro _ w51 ⟨Gbbpg24_51, s11_51, s85_51, hE51, o0_51, n0_51, o1_51, n1_51, q0_1_51⟩; refine W_th ?_; refine W_seq ?_; refine W_reg (by kernel_rfl) ?_; refine wla rfl rfl (q_move (v := (bp g24)) rfl s11_51) ?_; refine wla rfl rfl (q_assign (v := (bp g24)) rfl rfl) ?_; refine wla rfl rfl (q_assign (v := (i64 0)) rfl rfl) ?_; refine wl_nil ?_; refine W_th ?_; refine W_ret ?_; obtain rfl := osi H; refine rt2 (bp g24) (i64 0) rfl rfl rfl rfl rfl s85_51 ?_; exact ⟨(bp g24), rfl, hE51, (Mx.mk o1_51 (hL0 _ (n1_51 _ (hs_bp' _))) (o0_51.rw L0 (fun k hk => hL0 k (n0_51 k hk))))⟩
end Gk

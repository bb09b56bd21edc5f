/- Rows that are owned with all that lies in them; matrices behind pointers. No condition. -/
import Derived.Test.YtabcmfkmddlaaaaGm
set_option linter.unusedVariables false
set_option linter.unusedSimpArgs false
namespace Gk
open Go Go.RowKit

/-- a and b have no block in common. -/
def Apt (a b : Value) : Prop := ∀ k, oB a = some k → oB b ≠ some k
theorem Apt.symm {a b : Value} (h : Apt a b) : Apt b a := fun k h1 h2 => h k h2 h1
/-- Slice u and all its rows are owned, by the group G. -/
def OwD (w : World) (e1 e2 : TypeId) (G u : Value) (ls : List (List UInt8)) : Prop :=
  ∃ us : List Value, G = .tuple (u :: us).toArray ∧ Ow w e1 u us ∧ us.length = ls.length ∧ (∀ (i : Nat) (h : i < us.length) (h' : i < ls.length), OwK (Sc u8) w [] e2 us[i] ls[i]) ∧ (u :: us).Pairwise Apt
theorem hs_grp {u : Value} {us : List Value} {k : Nat} : Hs (.tuple (u :: us).toArray) k ↔ oB u = some k ∨ ∃ x ∈ us, oB x = some k := by
  constructor
  · intro h
    obtain ⟨x, hx, e⟩ := hs_tup h
    simp only [List.mem_cons] at hx
    rcases hx with rfl | hx
    · exact .inl e
    · exact .inr ⟨x, hx, e⟩
  · rintro (h | ⟨x, hx, h⟩)
    · exact .inr ⟨_, rfl, u, by simp, h⟩
    · exact .inr ⟨_, rfl, x, by simp [hx], h⟩
theorem OwK.ltO {α : Type} {R : World → List Value → Value → α → Prop} {w : World} {L : List Value} {e : TypeId} {v : Value} {l : List α} (h : OwK R w L e v l) {k : Nat} (hk : oB v = some k) : k < w.heap.size := h.lt k (.inl hk)
theorem OwD.lt {w : World} {e1 e2 : TypeId} {G u : Value} {ls : List (List UInt8)} (h : OwD w e1 e2 G u ls) : ∀ k, Hs G k → k < w.heap.size := by
  obtain ⟨us, rfl, h1, hl, h2, _⟩ := h
  intro k hk
  rcases hs_grp.1 hk with hk | ⟨x, hx, hk⟩
  · exact h1.lt k (.inl hk)
  · obtain ⟨i, hi, rfl⟩ := List.getElem_of_mem hx
    exact (h2 i hi (by omega)).ltO hk
theorem OwD.ltB {w : World} {e1 e2 : TypeId} {G u : Value} {ls : List (List UInt8)} (h : OwD w e1 e2 G u ls) : ∀ k, Hs G k → k < w.heap.size := h.lt
theorem OwD.ext {w w' : World} {e1 e2 : TypeId} {G u : Value} {ls : List (List UInt8)} (h : OwD w e1 e2 G u ls) (x : Ext w w') : OwD w' e1 e2 G u ls := by
  obtain ⟨us, hG, h1, hl, h2, h3⟩ := h
  exact ⟨us, hG, h1.ext x, hl, fun i a b => (h2 i a b).ext (Sc.stab _) x, h3⟩
theorem OwD.tn {B : Nat} {w w' : World} {e1 e2 : TypeId} {G u : Value} {ls : List (List UInt8)} (h : OwD w e1 e2 G u ls) (t : Tn B w w') : OwD w' e1 e2 G u ls := by
  obtain ⟨us, hG, h1, hl, h2, h3⟩ := h
  exact ⟨us, hG, h1.tn t, hl, fun i a b => (h2 i a b).tn (Sc.stab _) t, h3⟩
theorem OwK.keptR {w w' : World} {row : Option Nat} {e : TypeId} {v : Value} {l : List UInt8} (h : OwK (Sc u8) w [] e v l) (hg : w.grownBy w' row) (hne : ∀ k, oB v = some k → row ≠ some k) : OwK (Sc u8) w' [] e v l := by
  obtain ⟨us, h1, h2, h3⟩ := h
  exact ⟨us, h1.kept hg hne, h2, h3⟩
theorem OwD.other {w w' : World} {e1 e2 : TypeId} {G u v : Value} {ls : List (List UInt8)} (h : OwD w e1 e2 G u ls) (hg : Gr w w' v) (hq : Nq G v) : OwD w' e1 e2 G u ls := by
  obtain ⟨us, rfl, h1, hl, h2, h3⟩ := h
  obtain ⟨row, hg, hr⟩ := hg
  refine ⟨us, rfl, h1.kept hg (fun k hk e => hq k (hs_grp.2 (.inl hk)) (hr k e)), hl, fun i a b => (h2 i a b).keptR hg (fun k hk e => hq k (hs_grp.2 (.inr ⟨_, List.getElem_mem a, hk⟩)) (hr k e)), h3⟩
theorem OwD.nq {w : World} {e1 e2 : TypeId} {G u v : Value} {ls : List (List UInt8)} (h : OwD w e1 e2 G u ls) (hn : Nw w v) : Nq G v := fun k hu hv => by
  have := h.lt k hu; have := hn k hv; omega
theorem OwD.nxt {w : World} {e1 e2 : TypeId} {G u v v' : Value} {ls : List (List UInt8)} (h : OwD w e1 e2 G u ls) (hq : Nq G v) (hn : Nx w v v') : Nq G v' := fun k hu hv => by
  rcases hn k hv with h1 | h1
  · exact hq k hu h1
  · have := h.lt k hu; omega
theorem OwD.cl {w : World} {e1 e2 : TypeId} {G u : Value} {ls : List (List UInt8)} (h : OwD w e1 e2 G u ls) : Cl w G := by
  obtain ⟨us, rfl, h1, hl, h2, _⟩ := h
  intro k hk
  rcases hs_grp.1 hk with hk | ⟨x, hx, hk⟩
  · exact (OwK.cl (R := Sc (fun v : Value => v)) (L := []) ⟨us, h1, rfl, fun _ _ _ => rfl⟩) k (.inl hk)
  · obtain ⟨i, hi, rfl⟩ := List.getElem_of_mem hx
    exact (h2 i hi (by omega)).cl k (.inl hk)
/-- It reads as rows. -/
theorem OwD.rw {w : World} {e1 e2 : TypeId} {G u : Value} {ls : List (List UInt8)} (h : OwD w e1 e2 G u ls) (L : List Value) (ha : ∀ k, Hs G k → Av L k) : Rw w L u ls := by
  obtain ⟨us, rfl, h1, hl, h2, _⟩ := h
  refine ⟨us, h1.sl L (fun k hk => ?_), hl, fun i a b => ((h2 i a b).scal L).slk (Sc.stab _) L (fun k hk => ?_) (fun _ h => h)⟩
  · rcases h1 with ⟨p, rfl, _⟩ | ⟨g, cap, rfl, _⟩ <;> exact ha k (hs_grp.2 (.inl (hs_sl hk)))
  · obtain ⟨us', h4, _⟩ := h2 i a b
    refine ha k (hs_grp.2 (.inr ⟨_, List.getElem_mem a, ?_⟩))
    rcases h4 with ⟨p, e, _⟩ | ⟨g, cap, e, _⟩ <;> rw [e] at hk ⊢ <;> exact hs_sl hk
theorem OwD.rd {w : World} {e1 e2 : TypeId} {G u : Value} {ls : List (List UInt8)} (h : OwD w e1 e2 G u ls) : Rw w [] u ls := h.rw [] (fun _ _ => trivial)

/-- Row i of the group. -/
def DAt (G : Value) (i : Nat) (x : Value) : Prop := ∃ u us, G = .tuple (u :: us).toArray ∧ us[i]? = some x
theorem tup_inj {a b : List Value} (h : (Value.tuple a.toArray) = .tuple b.toArray) : a = b := by
  have := Value.tuple.inj h
  exact congrArg Array.toList this
theorem OwD.row {w : World} {e1 e2 : TypeId} {G u x : Value} {ls : List (List UInt8)} {i : Nat} (h : OwD w e1 e2 G u ls) (hx : DAt G i x) : ∃ (h : i < ls.length), OwK (Sc u8) w [] e2 x ls[i] ∧ (∀ k, Hs x k → Hs G k) := by
  obtain ⟨us, rfl, h1, hl, h2, h3⟩ := h
  obtain ⟨u', us', e, hi⟩ := hx
  obtain ⟨rfl, rfl⟩ := List.cons.inj (tup_inj e)
  obtain ⟨hlt, rfl⟩ := List.getElem?_eq_some_iff.1 hi
  refine ⟨by omega, h2 i hlt (by omega), fun k hk => hs_grp.2 (.inr ⟨_, List.getElem_mem hlt, ?_⟩)⟩
  obtain ⟨us', h4, _⟩ := h2 i hlt (by omega)
  rcases h4 with ⟨p, e, _⟩ | ⟨g, cap, e, _⟩ <;> rw [e] at hk ⊢ <;> exact hs_sl hk
theorem OwD.rowrd {w : World} {e1 e2 : TypeId} {G u x : Value} {ls : List (List UInt8)} {i : Int} {r : List UInt8} (h : OwD w e1 e2 G u ls) (hx : DAt G i.toNat x) (hi : idx ls i = some r) : By w [] x r := by
  obtain ⟨hlt, ho, _⟩ := h.row hx
  obtain ⟨_, h2, rfl⟩ := idx_some.1 hi
  exact ho.rd (Sc.stab _)
theorem OwD.shape {w : World} {e1 e2 : TypeId} {G u : Value} {ls : List (List UInt8)} (h : OwD w e1 e2 G u ls) : ∃ p n c, u = .slice p n c := by
  obtain ⟨us, _, h1, _⟩ := h
  rcases h1 with ⟨p, rfl, _⟩ | ⟨g, cap, rfl, _⟩
  · exact ⟨_, _, _, rfl⟩
  · exact ⟨_, _, _, rfl⟩
/-- A row turned in its place. -/
theorem OwD.upd {w w' : World} {e1 e2 : TypeId} {G u x : Value} {ls : List (List UInt8)} {i : Nat} {r : List UInt8} {L : List Value} (h : OwD w e1 e2 G u ls) (hx : DAt G i x) (ho : OwK (Sc u8) w' L e2 x r) (hg : Gr w w' x) : OwD w' e1 e2 G u (ls.set i r) ∧ Gr w w' G := by
  have hrow := h.row hx
  obtain ⟨us, rfl, h1, hl, h2, h3⟩ := h
  obtain ⟨u', us', e, hi⟩ := hx
  obtain ⟨rfl, rfl⟩ := List.cons.inj (tup_inj e)
  obtain ⟨hlt, rfl⟩ := List.getElem?_eq_some_iff.1 hi
  obtain ⟨_, hor, hsub⟩ := hrow
  obtain ⟨row, hgr, hr⟩ := hg
  have hro : ∀ k, row = some k → oB us[i] = some k := fun k hk => by
    have h4 := hr k hk
    obtain ⟨us', h5, _⟩ := hor
    rcases h5 with ⟨p, e, _⟩ | ⟨g, cap, e, _⟩ <;> rw [e] at h4 ⊢ <;> exact hs_sl h4
  refine ⟨⟨us, rfl, h1.kept hgr (fun k hk e => ?_), by simpa using hl, fun j a b => ?_, h3⟩, ⟨row, hgr, fun k hk => hsub k (hr k hk)⟩⟩
  · exact (List.rel_of_pairwise_cons h3 (List.getElem_mem hlt)) k hk (hro k e)
  · have hj : j < ls.length := by simpa using b
    rw [List.getElem_set]
    by_cases hij : i = j
    · subst hij; rw [if_pos rfl]; exact ho
    · rw [if_neg hij]
      refine (h2 j a hj).keptR hgr (fun k hk e => ?_)
      have h4 := (List.pairwise_cons.1 h3).2
      rcases Nat.lt_or_gt_of_ne hij with h5 | h5
      · exact (List.pairwise_iff_getElem.1 h4 i j hlt a h5) k (hro k e) hk
      · exact (List.pairwise_iff_getElem.1 h4 j i a hlt h5) k hk (hro k e)
/-- The group may be turned to another one, by what it had and what x had. -/
theorem OwD.relist {G G' x : Value} (hG : ∀ k, Hs G' k → Hs G k ∨ Hs x k) {v : Value} (h1 : Nq v G) (h2 : Nq v x) : Nq v G' := fun k hk h' => (hG k h').elim (h1 k hk) (h2 k hk)
/-- It is a slice of rows that is owned. -/
theorem OwD.owk {w : World} {e1 e2 : TypeId} {G u : Value} {ls : List (List UInt8)} (h : OwD w e1 e2 G u ls) (L : List Value) (ha : ∀ k, Hs G k → Av L k) : OwK By w (u :: L) e1 u ls := by
  obtain ⟨us, rfl, h1, hl, h2, h3⟩ := h
  refine ⟨us, h1, hl, fun i a b => ((h2 i a b).scal (u :: L)).slk (Sc.stab _) (u :: L) (fun k hk => ?_) (fun _ h => h)⟩
  have hb : oB us[i] = some k := by
    obtain ⟨us', h4, _⟩ := h2 i a b
    rcases h4 with ⟨p, e, _⟩ | ⟨g, cap, e, _⟩ <;> rw [e] at hk ⊢ <;> exact hs_sl hk
  refine ⟨fun hu => ?_, ha k (hs_grp.2 (.inr ⟨_, List.getElem_mem a, hb⟩))⟩
  have hu' : oB u = some k := by rcases h1 with ⟨p, rfl, _⟩ | ⟨g, cap, rfl, _⟩ <;> exact hs_sl hu
  exact (List.rel_of_pairwise_cons h3 (List.getElem_mem a)) k hu' hb
theorem OwD.nwu {w w0 : World} {e1 e2 : TypeId} {G u : Value} {ls : List (List UInt8)} (h : OwD w e1 e2 G u ls) (hn : Nw w0 G) : Nw w0 u := by
  obtain ⟨us, rfl, h1, _⟩ := h
  intro k hk
  refine hn k (hs_grp.2 (.inl ?_))
  rcases h1 with ⟨p, rfl, _⟩ | ⟨g, cap, rfl, _⟩ <;> exact hs_sl hk

theorem Lift.call2 {w w' : World} {a b : Value} (L : List Value) (hg : Ext w w') (ha : Nw w a) (hb : Nw w b) : Lift w w' L (a :: b :: L) :=
  ⟨fun k o ho _ _ => (hg.blk k (lt_of_get ho)).trans ho, fun k hk h => ⟨fun e => by have := ha k e; omega, fun e => by have := hb k e; omega, h⟩⟩
theorem idv_eq {w : World} {L : List Value} {e : TypeId} {v : Value} {us : List Value} : OwK (Sc (fun x : Value => x)) w L e v us ↔ Ow w e v us := by
  constructor
  · rintro ⟨us', h, hl, he⟩
    have : us' = us := List.ext_getElem hl (fun i a b => he i a b)
    rw [← this]; exact h
  · intro h; exact ⟨us, h, rfl, fun _ _ _ => rfl⟩
theorem idv_stab : Stab (Sc (fun x : Value => x)) := Sc.stab _
section
variable {P : Program} {f : Nat → Value} {w : World} {o : Oper}
/-- make([][]byte, n): owned with all rows. -/
theorem stp_makeD (L : List Value) {x y : Operand} {t e1 e2 : TypeId} {bytes : Nat} {n : Int} {ls : List (List UInt8)} (ho : o.op = .makeSlice t x y) (T : TyS P t e1 (.slice none 0 0) bytes) (hx : ev f x = i64 n) (hy : ev f y = i64 n) (hl : makeL n ([] : List UInt8) = some ls)
    {K : Value → World → Prop} (hk : ∀ G v w', OwD w' e1 e2 G v ls → Nw w G → w.grownBy w' none → Lift w w' L (G :: L) → K v w') : Stp P o f w K := by
  have hl2 : makeL n (Value.slice none 0 0) = some (List.replicate ls.length (.slice none 0 0)) := by
    unfold makeL at hl ⊢
    split at hl
    · rename_i h; rw [if_pos h]; obtain rfl := Option.some.inj hl; simp
    · cases hl
  have hls : ls = List.replicate ls.length [] := by
    unfold makeL at hl
    split at hl
    · obtain rfl := Option.some.inj hl; simp
    · cases hl
  refine stp_make (L := L) (R := Sc (fun x : Value => x)) ho T hx hy hl2 (fun _ _ => rfl) ?_
  intro v w' h hn hg _
  have h := idv_eq.1 h
  have hd : OwD w' e1 e2 (.tuple (v :: List.replicate ls.length (.slice none 0 0)).toArray) v ls := by
    refine ⟨_, rfl, h, by simp, fun i a b => ?_, ?_⟩
    · have h1 : (List.replicate ls.length (Value.slice none 0 0))[i] = .slice none 0 0 := by simp
      have h2 : ls[i] = [] := by
        have := congrArg (·[i]?) hls
        simp only [List.getElem?_eq_getElem b, List.getElem?_replicate, if_pos b] at this
        exact Option.some.inj this
      rw [h1, h2]; exact OwK.nil _ _ _ _
    · rw [List.pairwise_cons]
      refine ⟨fun a ha k _ hk2 => ?_, ?_⟩
      · rw [List.mem_replicate.1 ha |>.2] at hk2; cases hk2
      · refine List.pairwise_replicate.2 (.inr fun k hk => by cases hk)
  have hnG : Nw w (.tuple (v :: List.replicate ls.length (.slice none 0 0)).toArray) := fun k hk => by
    rcases hs_grp.1 hk with hk | ⟨x, hx, hk⟩
    · exact hn k (.inl hk)
    · rw [List.mem_replicate.1 hx |>.2] at hk; cases hk
  exact hk _ v w' hd hnG hg (Lift.new L hg hnG)
/-- A row is told. -/
theorem loadD {x : Operand} {t e1 e2 : TypeId} {z : Value} {bytes : Nat} {i : Int} {G u : Value} {ls : List (List UInt8)} {r : List UInt8} (ho : o.op = .load e1 x) (T : TyS P t e1 z bytes) (hx : ev f x = adr u i.toNat) (h : OwD w e1 e2 G u ls) (hi : idx ls i = some r) :
    ∃ v, Qt P o f w v ∧ DAt G i.toNat v := by
  obtain ⟨us, rfl, h1, hl, h2, h3⟩ := h
  obtain ⟨h0, hlt, _⟩ := idx_some.1 hi
  have hid : idx us i = some (us[i.toNat]'(by omega)) := by unfold idx; rw [if_pos h0]; simp
  exact ⟨us[i.toNat]'(by omega), q_loadS (enc := fun x : Value => x) ho T hx ((idv_eq (L := []).2 h1).rd idv_stab) hid, u, us, rfl, by simp⟩
section
variable {ops : Array Oper} {K : (Nat → Value) → World → Prop} {rr : List Oper} {d : Nat}
theorem wlq_loadD {x : Operand} {t e1 e2 : TypeId} {z : Value} {bytes : Nat} {i : Int} {G u : Value} {ls : List (List UInt8)} {r : List UInt8} (hw : wantF ops f o = true) (hd : o.dst = some d) (ho : o.op = .load e1 x) (T : TyS P t e1 z bytes) (hx : ev f x = adr u i.toNat) (h : OwD w e1 e2 G u ls) (hi : idx ls i = some r)
    (hk : ∀ v, DAt G i.toNat v → wl P ops K rr (upd f d v) w) : wl P ops K (o :: rr) f w := by
  obtain ⟨v, h1, h2⟩ := loadD ho T hx h hi
  exact wlq hw hd h1 (hk v h2)
end
section
variable {ops : Array Oper} {qs : List Nat} {K : (Nat → Value) → World → Prop} {rr : List (Nat × Nat)} {d j : Nat}
theorem wsq_loadD {x : Operand} {t e1 e2 : TypeId} {z : Value} {bytes : Nat} {i : Int} {G u : Value} {ls : List (List UInt8)} {r : List UInt8} (hj : ops[j]? = some o) (hw : wantF ops f o = true) (hd : o.dst = some d) (ho : o.op = .load e1 x) (T : TyS P t e1 z bytes) (hx : ev f x = adr u i.toNat) (h : OwD w e1 e2 G u ls) (hi : idx ls i = some r)
    (hk : ∀ v, DAt G i.toNat v → ws P ops qs K rr (upd f d v) w) : ws P ops qs K ((j, 1) :: rr) f w := by
  obtain ⟨v, h1, h2⟩ := loadD ho T hx h hi
  exact wsq hj hw hd h1 (hk v h2)
end
/-- u[i][k] = x -/
theorem stp_storeD (L1 L2 : List Value) {x y : Operand} {t e1 e2 : TypeId} {z v : Value} {bytes : Nat} {i k : Int} {G u : Value} {ls : List (List UInt8)} {r : List UInt8} {a c : UInt8} (ho : o.op = .store e2 x y) (T : TyS P t e2 z bytes) (hx : ev f x = adr v k.toNat) (hy : ev f y = u8 a)
    (h : OwD w e1 e2 G u ls) (hd : DAt G i.toNat v) (hi : idx ls i = some r) (hc : idx r k = some c)
    {K : Value → World → Prop} (hk : ∀ w', OwD w' e1 e2 G u (ls.set i.toNat (r.set k.toNat a)) → Gr w w' G → Lift w w' (L1 ++ G :: L2) (L1 ++ G :: L2) → K undef w') : Stp P o f w K := by
  obtain ⟨hlt, hor, _⟩ := h.row hd
  obtain ⟨_, _, rfl⟩ := idx_some.1 hi
  refine stp_store (R := Sc u8) (u := u8 a) (Sc.stab _) [] [] ho T hx hy (hor.scal _) (put_of a hc) rfl rfl ?_
  intro w' h' hg _
  obtain ⟨q1, q2⟩ := h.upd hd h' hg
  exact hk w' q1 q2 (Lift.own L1 L2 q2 (Nx.refl _ _))
theorem drow_whole {e1 e2 : TypeId} {i : Int} {G u v : Value} {ls : List (List UInt8)} {r : List UInt8} (h : OwD w e1 e2 G u ls) (hd : DAt G i.toNat v) (hi : idx ls i = some r) : v = subV v (0 : Int).toNat r.length := by
  obtain ⟨hlt, hor, _⟩ := h.row hd
  obtain ⟨_, _, rfl⟩ := idx_some.1 hi
  exact copy_whole hor
/-- copy(u[i][off:], x) -/
theorem stp_copyD (L1 L2 : List Value) {d x : Operand} {t e1 e2 : TypeId} {z v dv s : Value} {bytes : Nat} {i off : Int} {G u : Value} {ls : List (List UInt8)} {r m : List UInt8} (ho : o.op = .call ⟨.builtin .copy, #[d, x], #[t, t]⟩) (T : TyS P t e2 z bytes) (hdd : ev f d = dv) (hx : ev f x = s)
    (h : OwD w e1 e2 G u ls) (hd : DAt G i.toNat v) (hi : idx ls i = some r) (hdv : dv = subV v off.toNat r.length) (h0 : 0 ≤ off) (hoff : off ≤ r.length) {Lu : List Value} (hu : By w Lu s m)
    {K : Value → World → Prop} (hk : ∀ w', OwD w' e1 e2 G u (ls.set i.toNat (copyL r off m)) → Gr w w' G → Lift w w' (L1 ++ G :: L2) (L1 ++ G :: L2) → K (i64 (min m.length (r.length - off.toNat) : Nat)) w') : Stp P o f w K := by
  obtain ⟨hlt, hor, _⟩ := h.row hd
  obtain ⟨_, _, rfl⟩ := idx_some.1 hi
  refine stp_copy (R := Sc u8) (Sc.stab _) [] [] ho T hdd hx (hor.scal _) hdv h0 hoff hu (fun _ _ h => h) oc_u8 ?_
  intro w' h' hg _
  obtain ⟨q1, q2⟩ := h.upd hd h' hg
  exact hk w' q1 q2 (Lift.own L1 L2 q2 (Nx.refl _ _))
/-- u[i] = x, x a row that is owned: it goes into the group. -/
theorem stp_storeRow (L1 L2 : List Value) {Lx : List Value} {a y : Operand} {t e1 e2 : TypeId} {z x : Value} {bytes : Nat} {i : Int} {G u : Value} {ls : List (List UInt8)} {r xs : List UInt8} (ho : o.op = .store e1 a y) (T : TyS P t e1 z bytes) (hx : ev f a = adr u i.toNat) (hy : ev f y = x)
    (h : OwD w e1 e2 G u ls) (hi : idx ls i = some r) (hxo : OwK (Sc u8) w Lx e2 x xs) (hq : Nq x G)
    {K : Value → World → Prop} (hk : ∀ G' w', OwD w' e1 e2 G' u (ls.set i.toNat xs) → Gr w w' G → (∀ k, Hs G' k → Hs G k ∨ Hs x k) → Lift w w' (L1 ++ G :: L2) (L1 ++ G :: L2) → K undef w') : Stp P o f w K := by
  obtain ⟨us, rfl, h1, hl, h2, h3⟩ := h
  obtain ⟨h0, hlt, rfl⟩ := idx_some.1 hi
  have hid : idx us i = some (us[i.toNat]'(by omega)) := by unfold idx; rw [if_pos h0]; simp
  refine stp_store (R := Sc (fun x : Value => x)) (u := x) idv_stab [] [] ho T hx hy (idv_eq.2 h1) (put_of x hid) rfl (oc_own hxo) ?_
  intro w' h' hg _
  have h' := idv_eq.1 h'
  have hxs : ∀ k, Hs x k → oB x = some k := fun k hk => by
    obtain ⟨us', h5, _⟩ := hxo
    rcases h5 with ⟨p, rfl, _⟩ | ⟨g, cap, rfl, _⟩ <;> exact hs_sl hk
  have hus : ∀ k, Hs u k → oB u = some k := fun k hk => by
    rcases h1 with ⟨p, rfl, _⟩ | ⟨g, cap, rfl, _⟩ <;> exact hs_sl hk
  have hgG : Gr w w' (.tuple (u :: us).toArray) := by
    obtain ⟨row, hgr, hr⟩ := hg
    exact ⟨row, hgr, fun k hk => hs_grp.2 (.inl (hus k (hr k hk)))⟩
  have hux : Apt u x := fun k hk1 hk2 => hq k (.inl hk2) (hs_grp.2 (.inl hk1))
  have hrx : ∀ v ∈ us, Apt v x := fun v hv k hk1 hk2 => hq k (.inl hk2) (hs_grp.2 (.inr ⟨v, hv, hk1⟩))
  obtain ⟨row, hgr, hr⟩ := hg
  have hro : ∀ k, row = some k → oB u = some k := fun k hk => hus k (hr k hk)
  refine hk (.tuple (u :: us.set i.toNat x).toArray) w' ⟨us.set i.toNat x, rfl, h', by simpa using hl, fun j a b => ?_, ?_⟩ hgG (fun k hk' => ?_) (Lift.own L1 L2 hgG (Nx.refl _ _))
  · have hj : j < us.length := by simpa using a
    have hj' : j < ls.length := by simpa using b
    simp only [List.getElem_set]
    by_cases hij : i.toNat = j
    · subst hij
      rw [if_pos rfl, if_pos rfl]
      exact (hxo.scal []).keptR hgr (fun k hk1 e => hux k (hro k e) hk1)
    · rw [if_neg hij, if_neg hij]
      exact (h2 j hj hj').keptR hgr (fun k hk1 e => (List.rel_of_pairwise_cons h3 (List.getElem_mem hj)) k (hro k e) hk1)
  · rw [List.pairwise_cons] at h3 ⊢
    refine ⟨fun v hv => ?_, ?_⟩
    · rcases List.mem_or_eq_of_mem_set hv with hv | rfl
      · exact h3.1 v hv
      · exact hux
    · refine List.pairwise_iff_getElem.2 fun p q hp hq' hpq => ?_
      have hp' : p < us.length := by simpa using hp
      have hq'' : q < us.length := by simpa using hq'
      simp only [List.getElem_set]
      have h4 := List.pairwise_iff_getElem.1 h3.2 p q hp' hq'' hpq
      by_cases h5 : i.toNat = p
      · rw [if_pos h5, if_neg (by omega)]
        exact (hrx _ (List.getElem_mem hq'')).symm
      · rw [if_neg h5]
        by_cases h6 : i.toNat = q
        · rw [if_pos h6]; exact hrx _ (List.getElem_mem hp')
        · rw [if_neg h6]; exact h4
  · rcases hs_grp.1 hk' with hk2 | ⟨v, hv, hk2⟩
    · exact .inl (hs_grp.2 (.inl hk2))
    · rcases List.mem_or_eq_of_mem_set hv with hv | rfl
      · exact .inl (hs_grp.2 (.inr ⟨v, hv, hk2⟩))
      · exact .inr (.inl hk2)
end

/-! ### Matrices behind pointers -/
/-- v points to a block whose one cell is a slice that reads as rows; or it is nil. -/
def MxT (T : TypeId) (w : World) (L : List Value) (v : Value) (m : Option (List (List UInt8))) : Prop :=
  (m = none ∧ v = .pointer none) ∨ ∃ l g u, m = some l ∧ v = bp g ∧ Av L g ∧ Blk w g T #[u] ∧ Rw w L u l
theorem MxT.lift {T : TypeId} {w w' : World} {L L' : List Value} {v : Value} {m : Option (List (List UInt8))} (h : MxT T w L v m) (g : Lift w w' L L') : MxT T w' L' v m := by
  rcases h with h | ⟨l, k, u, h1, h2, ha, hB, hR⟩
  · exact .inl h
  · exact .inr ⟨l, k, u, h1, h2, g.av k hB.lt ha, g.blk k _ hB rfl ha, hR.lift g⟩
theorem MxT.some {T : TypeId} {w : World} {L : List Value} {v : Value} {l : List (List UInt8)} {m : Option (List (List UInt8))} (h : MxT T w L v m) (hm : m = some l) : ∃ g u, v = bp g ∧ Blk w g T #[u] ∧ Rw w L u l := by
  rcases h with ⟨h1, _⟩ | ⟨l', k, u, h1, h2, ha, hB, hR⟩
  · rw [h1] at hm; cases hm
  · rw [h1] at hm; obtain rfl := Option.some.inj hm
    exact ⟨k, u, h2, hB, hR⟩
theorem MxT.cells {T : TypeId} {w : World} {L : List Value} {v : Value} {m : Option (List (List UInt8))} (h : MxT T w L v m) : v.cells = #[v] := by
  rcases h with ⟨_, rfl⟩ | ⟨_, _, _, _, rfl, _⟩ <;> rfl
theorem MxT.nil (T : TypeId) (w : World) (L : List Value) : MxT T w L (.pointer none) none := .inl ⟨rfl, rfl⟩
theorem q_eqM {P : Program} {o : Oper} {f : Nat → Value} {T : TypeId} {w : World} {L : List Value} {v : Value} {m : Option (List (List UInt8))} {x y : Operand} {t t' e : TypeId} (ho : o.op = .binOp .eql t x y t') (ht : P.underlying t = some (.pointer e)) (hx : ev f x = v) (hy : ev f y = .pointer none) (h : MxT T w L v m) : Qa P o f (.bool m.isNone) := by
  rcases h with ⟨rfl, rfl⟩ | ⟨l, g, u, rfl, rfl, _⟩
  · exact q_eqP ho ht hx hy
  · exact q_eqP ho ht hx hy
end Gk

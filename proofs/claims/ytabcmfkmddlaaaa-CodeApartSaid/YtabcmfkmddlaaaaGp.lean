/- Cuts with three numbers; results that are read and not owned; rows that are put behind rows; rows that grow in their place. No condition. -/
import Derived.Test.YtabcmfkmddlaaaaGn
set_option linter.unusedVariables false
set_option linter.unusedSimpArgs false
namespace Gk
open Go Go.RowKit
def subL3 {α : Type} (l : List α) (lo hi mx : Int) : Option (List α) := if 0 ≤ lo ∧ lo ≤ hi ∧ hi ≤ mx ∧ mx ≤ l.length then some ((l.take hi.toNat).drop lo.toNat) else none
theorem subL3_some {α : Type} {l m : List α} {lo hi mx : Int} : subL3 l lo hi mx = some m ↔ (0 ≤ lo ∧ lo ≤ hi ∧ hi ≤ mx ∧ mx ≤ l.length) ∧ (l.take hi.toNat).drop lo.toNat = m := by
  unfold subL3
  by_cases h : 0 ≤ lo ∧ lo ≤ hi ∧ hi ≤ mx ∧ mx ≤ l.length
  · rw [if_pos h]; simp [h]
  · rw [if_neg h]; simp [h]
section
variable {P : Program} {o : Oper} {f : Nat → Value} {w : World} {L : List Value}
theorem q_slice3 {α : Type} {R : World → List Value → Value → α → Prop} {v z : Value} {l m : List α} {x y y' : Operand} {t e : TypeId} {bytes : Nat} {lo : Option Operand} {a b c : Int}
    (ho : o.op = .slice t x lo (some y) (some y')) (T : TyS P t e z bytes) (hx : ev f x = v) (h : SlK R w L v l)
    (hlo : match lo with | none => a = 0 | some q => ev f q = i64 a) (hy : ev f y = i64 b) (hy' : ev f y' = i64 c) (hs : subL3 l a b c = some m) : Qa P o f (subW v a.toNat b.toNat c.toNat) := by
  intro w'
  obtain ⟨p, cap, rfl, hc⟩ := h.shape
  obtain ⟨⟨h0, h1, h2, h3⟩, _⟩ := subL3_some.1 hs
  have hm : ∀ k w, (Instr.sliceBound (i64 c) cap k).run P w = .ok c.toNat w := fun k w => run_bound rfl (by omega) (by omega) w
  have hb : ∀ k w, (Instr.sliceBound (i64 b) c.toNat k).run P w = .ok b.toNat w := fun k w => run_bound rfl (by omega) (by omega) w
  have ha : ∀ k w, (Instr.sliceBound (i64 a) b.toNat k).run P w = .ok a.toNat w := fun k w => run_bound rfl (by omega) (by omega) w
  cases lo with
  | none =>
    dsimp only at hlo; subst hlo
    simp [execOp, ho, hx, hy, hy', Instr.sliceAt, run_underlying T.sl, Instr.slice, Instr.sliceBounds, ty_size T, hb, hm, subW]
  | some q =>
    dsimp only at hlo
    simp [execOp, ho, hx, hlo, hy, hy', Instr.sliceAt, run_underlying T.sl, Instr.slice, Instr.sliceBounds, ty_size T, ha, hb, hm, subW]
theorem Sl.cut3 {v : Value} {us : List Value} (h : Sl w L v us) (lo hi mx : Nat) (h1 : lo ≤ hi) (h2 : hi ≤ mx) (h3 : mx ≤ us.length) : Sl w L (subW v lo hi mx) ((us.take hi).drop lo) := by
  obtain ⟨p, cap, rfl, hc, hne⟩ := h
  have hlen : ((us.take hi).drop lo).length = hi - lo := by simp; omega
  refine ⟨_, mx - lo, by unfold subW; rw [hlen], by rw [hlen]; omega, fun hn => ?_⟩
  have h0 : 0 < hi - lo := by rw [← hlen]; exact List.length_pos_iff.2 hn
  obtain ⟨b, off, rfl, ha, hr⟩ := hne (fun e => by subst e; simp at h3; omega)
  refine ⟨b, off + lo, ?_, ha, fun i hi' => ?_⟩
  · rw [if_neg (by omega)]; simp [add_off]
  · rw [hlen] at hi'
    have := hr (lo + i) (by omega)
    rw [Nat.add_assoc, this]
    simp
theorem SlK.cut3 {α : Type} {R : World → List Value → Value → α → Prop} {v : Value} {l m : List α} (h : SlK R w L v l) {lo hi mx : Int} (hs : subL3 l lo hi mx = some m) : SlK R w L (subW v lo.toNat hi.toNat mx.toNat) m := by
  obtain ⟨us, hu, hl, he⟩ := h
  obtain ⟨⟨h0, h1, h2, h3⟩, rfl⟩ := subL3_some.1 hs
  refine ⟨_, hu.cut3 lo.toNat hi.toNat mx.toNat (by omega) (by omega) (by omega), by simp [hl], fun i a b => ?_⟩
  simp only [List.getElem_drop, List.getElem_take]
  exact he _ _ _
theorem oB_add {p : Option Addr} {n n' c c' d : Nat} {q : Prop} [Decidable q] {k : Nat} (hc : 0 < c) (h : oB (.slice (if q then p else p.map (·.add d)) n' c') = some k) : oB (.slice p n c) = some k := by
  cases c with
  | zero => omega
  | succ c =>
    cases p with
    | none => split at h <;> cases h
    | some a =>
      cases c' with
      | zero => split at h <;> simp [oB] at h
      | succ c' =>
        split at h
        · exact h
        · simp only [Option.map_some, oB] at h ⊢
          rw [← h]
          unfold Addr.add
          split <;> rfl
theorem hs_cut3 {α : Type} {R : World → List Value → Value → α → Prop} {v : Value} {l m : List α} (h : SlK R w L v l) {lo hi mx : Int} (hs : subL3 l lo hi mx = some m) : ∀ k, Hs (subW v lo.toNat hi.toNat mx.toNat) k → Hs v k := by
  intro k hk
  obtain ⟨p, cap, rfl, hc⟩ := h.shape
  obtain ⟨⟨h0, h1, h2, h3⟩, _⟩ := subL3_some.1 hs
  have hk := hs_sl hk
  by_cases h4 : 0 < cap
  · exact .inl (oB_add h4 hk)
  · rw [show mx.toNat - lo.toNat = 0 by omega] at hk
    cases hp : (if mx.toNat = lo.toNat then p else p.map (·.add lo.toNat)) <;> rw [hp] at hk <;> cases hk
theorem hs_cut {α : Type} {R : World → List Value → Value → α → Prop} {v : Value} {l m : List α} (h : SlK R w L v l) {lo hi : Int} (hs : subL l lo hi = some m) : ∀ k, Hs (subV v lo.toNat hi.toNat) k → Hs v k := by
  intro k hk
  obtain ⟨p, cap, rfl, hc⟩ := h.shape
  have hk := hs_sl hk
  by_cases h4 : 0 < cap
  · exact .inl (oB_add h4 hk)
  · rw [show cap - lo.toNat = 0 by omega] at hk
    cases hp : (if cap = lo.toNat then p else p.map (·.add lo.toNat)) <;> rw [hp] at hk <;> cases hk
theorem SlK.avail {α : Type} {enc : α → Value} {v : Value} {l : List α} (h : SlK (Sc enc) w [] v l) (L : List Value) (ha : ∀ k, Hs v k → Av L k) : SlK (Sc enc) w L v l := by
  obtain ⟨us, ⟨p, cap, rfl, hc, hne⟩, hl, he⟩ := h
  refine ⟨us, ⟨p, cap, rfl, hc, fun hn => ?_⟩, hl, he⟩
  obtain ⟨b, off, rfl, _, hr⟩ := hne hn
  refine ⟨b, off, rfl, ha b (.inl ?_), hr⟩
  have h1 : 0 < us.length := List.length_pos_iff.2 hn
  cases cap with
  | zero => omega
  | succ c => rfl
end

/-- The value itself, of one cell. -/
def Id1 (_ : World) (_ : List Value) (u x : Value) : Prop := u = x ∧ x.oneCell' = true
theorem id1_stab : Stab Id1 := fun _ _ _ _ _ _ _ h => h
theorem id1_own {w : World} {L : List Value} {e : TypeId} {v : Value} {us : List Value} (h : Ow w e v us) (h1 : ∀ x ∈ us, x.oneCell' = true) : OwK Id1 w L e v us := ⟨us, h, rfl, fun i a _ => ⟨rfl, h1 _ (List.getElem_mem a)⟩⟩
theorem id1_back {w : World} {L : List Value} {e : TypeId} {v : Value} {us : List Value} (h : OwK Id1 w L e v us) : Ow w e v us := by
  obtain ⟨us', h1, h2, h3⟩ := h
  have : us' = us := List.ext_getElem h2 (fun i a b => (h3 i a b).1)
  rw [← this]; exact h1
theorem id1_sl {w : World} {L : List Value} {v : Value} {us : List Value} (h : SlK (Sc (fun x : Value => x)) w L v us) (h1 : ∀ x ∈ us, x.oneCell' = true) : SlK Id1 w L v us := by
  obtain ⟨us', h2, h3, h4⟩ := h
  exact ⟨us', h2, h3, fun i a b => ⟨h4 i a b, h1 _ (List.getElem_mem b)⟩⟩
theorem ob_own {α : Type} {R : World → List Value → Value → α → Prop} {w : World} {L : List Value} {e : TypeId} {x : Value} {l : List α} (h : OwK R w L e x l) : ∀ k, Hs x k → oB x = some k := fun k hk => by
  obtain ⟨us', h5, _⟩ := h
  rcases h5 with ⟨p, rfl, _⟩ | ⟨g, cap, rfl, _⟩ <;> exact hs_sl hk
theorem ob_ow {w : World} {e : TypeId} {x : Value} {us : List Value} (h5 : Ow w e x us) : ∀ k, Hs x k → oB x = some k := fun k hk => by
  rcases h5 with ⟨p, rfl, _⟩ | ⟨g, cap, rfl, _⟩ <;> exact hs_sl hk
theorem hs_nilG {k : Nat} : ¬ Hs (.tuple #[.slice none 0 0]) k := fun h => by
  obtain ⟨x, hx, e⟩ := hs_tup h
  have hx : x ∈ [Value.slice none 0 0] := hx
  rw [List.mem_singleton.1 hx] at e; cases e
theorem nh_nilG {k : Nat} : ¬ Hs (.tuple #[.slice none 0 0]) k := hs_nilG
theorem nq_nilG (u : Value) : Nq u (.tuple #[.slice none 0 0]) := fun _ _ h => hs_nilG h
theorem nw_nilG (w : World) : Nw w (.tuple #[.slice none 0 0]) := fun _ h => absurd h hs_nilG
theorem OwD.nil (w : World) (e1 e2 : TypeId) : OwD w e1 e2 (.tuple #[.slice none 0 0]) (.slice none 0 0) [] := ⟨[], rfl, Ow.nil w e1, rfl, fun i h => absurd h (by simp), by simp⟩
theorem litV {w : World} {L : List Value} {e : TypeId} {x : Value} {xs : List UInt8} (h : OwK (Sc u8) w L e x xs) : ∀ u ∈ [x], u.cells = #[u] := fun u hu => by
  rw [List.mem_singleton.1 hu]
  obtain ⟨us, h1, _⟩ := h
  rcases h1 with ⟨p, rfl, _⟩ | ⟨g, cap, rfl, _⟩ <;> rfl
section
variable {P : Program} {f : Nat → Value} {w : World} {o : Oper}
/-- append(u, x), u owned with all rows, x a row that is owned: it goes into the group. -/
theorem stp_appendD (L1 L2 : List Value) {Lx Lu : List Value} {s y : Operand} {t e1 e2 : TypeId} {z x q : Value} {bytes : Nat} {G u : Value} {ls r : List (List UInt8)} {xs : List UInt8} (ho : o.op = .call ⟨.builtin .append, #[s, y], #[t, t]⟩) (T : TyS P t e1 z bytes) (hs : ev f s = u) (hy : ev f y = q)
    (h : OwD w e1 e2 G u ls) (hq : SlK (Sc (fun x : Value => x)) w Lu q [x]) (hxo : OwK (Sc u8) w Lx e2 x xs) (hn : Nq x G) (hm : appL ls [xs] = some r)
    {K : Value → World → Prop} (hk : ∀ Gm G' u' w', OwD w' e1 e2 G' u' r → Gr w w' G → Nx w G Gm → (∀ k, Hs G' k → Hs Gm k ∨ Hs x k) → Lift w w' (L1 ++ G :: L2) (L1 ++ Gm :: L2) → K u' w') : Stp P o f w K := by
  have hlt := h.lt
  obtain ⟨us, rfl, h1, hl, h2, h3⟩ := h
  have hm2 : appL us [x] = some (us ++ [x]) := by
    obtain ⟨a1, _⟩ := appL_some.1 hm
    exact appL_some.2 ⟨by simp at a1 ⊢; omega, rfl⟩
  obtain ⟨hmm, rfl⟩ := appL_some.1 hm
  have hc : ∀ v ∈ us, v.oneCell' = true := fun v hv => by
    obtain ⟨i, hi, rfl⟩ := List.getElem_of_mem hv
    exact oc_own (h2 i hi (by omega))
  have hcx : x.oneCell' = true := oc_own hxo
  refine stp_append (R := Id1) id1_stab [] [] ho T hs hy (id1_own h1 hc) (id1_sl hq (fun v hv => by rw [List.mem_singleton.1 hv]; exact hcx)) (fun _ _ h => h) hm2 (fun w L u x h => by rw [h.1]; exact h.2) ?_
  intro u' w' hu' hg hnx _
  have hu' := id1_back hu'
  have hus := ob_ow h1
  have hxs := ob_own hxo
  have hgG : Gr w w' (.tuple (u :: us).toArray) := by
    obtain ⟨row, hgr, hr⟩ := hg
    exact ⟨row, hgr, fun k hk => hs_grp.2 (.inl (hus k (hr k hk)))⟩
  have hux : Apt u x := fun k hk1 hk2 => hn k (.inl hk2) (hs_grp.2 (.inl hk1))
  have hrx : ∀ v ∈ us, Apt v x := fun v hv k hk1 hk2 => hn k (.inl hk2) (hs_grp.2 (.inr ⟨v, hv, hk1⟩))
  have hNx : Nx w (.tuple (u :: us).toArray) (.tuple (u' :: us).toArray) := fun k hk => by
    rcases hs_grp.1 hk with hk | ⟨v, hv, hk⟩
    · rcases hnx k (.inl hk) with h4 | h4
      · exact .inl (hs_grp.2 (.inl (hus k h4)))
      · exact .inr h4
    · exact .inl (hs_grp.2 (.inr ⟨v, hv, hk⟩))
  obtain ⟨row, hgr, hr⟩ := hg
  have hro : ∀ k, row = some k → oB u = some k := fun k hk => hus k (hr k hk)
  refine hk (.tuple (u' :: us).toArray) (.tuple (u' :: (us ++ [x])).toArray) u' w' ⟨us ++ [x], rfl, hu', by simp [hl], fun j a b => ?_, ?_⟩ hgG hNx (fun k hk' => ?_) (Lift.own L1 L2 hgG hNx)
  · by_cases hj : j < us.length
    · rw [List.getElem_append_left hj, List.getElem_append_left (by omega)]
      exact (h2 j hj (by omega)).keptR hgr (fun k hk1 e => (List.rel_of_pairwise_cons h3 (List.getElem_mem hj)) k (hro k e) hk1)
    · have hj2 : j = us.length := by simp at a; omega
      subst hj2
      simp only [List.getElem_append_right (Nat.le_refl _), hl, Nat.sub_self, List.getElem_cons_zero]
      rw [List.getElem_append_right (by omega)]
      simp only [hl, Nat.sub_self, List.getElem_cons_zero]
      exact (hxo.scal []).keptR hgr (fun k hk1 e => hux k (hro k e) hk1)
  · rw [List.pairwise_cons] at h3 ⊢
    refine ⟨fun v hv k hk1 hk2 => ?_, ?_⟩
    · rcases hnx k (.inl hk1) with h4 | h4
      · have h5 := hus k h4
        rcases List.mem_append.1 hv with hv | hv
        · exact h3.1 v hv k h5 hk2
        · rw [List.mem_singleton.1 hv] at hk2; exact hux k h5 hk2
      · rcases List.mem_append.1 hv with hv | hv
        · have := hlt k (hs_grp.2 (.inr ⟨v, hv, hk2⟩)); omega
        · rw [List.mem_singleton.1 hv] at hk2
          have := hxo.lt k (.inl hk2); omega
    · rw [List.pairwise_append]
      refine ⟨h3.2, by simp, fun a ha b hb => ?_⟩
      rw [List.mem_singleton.1 hb]; exact hrx a ha
  · rcases hs_grp.1 hk' with hk2 | ⟨v, hv, hk2⟩
    · exact .inl (hs_grp.2 (.inl hk2))
    · rcases List.mem_append.1 hv with hv | hv
      · exact .inl (hs_grp.2 (.inr ⟨v, hv, hk2⟩))
      · rw [List.mem_singleton.1 hv] at hk2; exact .inr (.inl hk2)
/-- The row at i, grown: not yet put back. -/
def Pnd (w : World) (e2 : TypeId) (G : Value) (i : Nat) (x' : Value) (r' : List UInt8) : Prop :=
  OwK (Sc u8) w [] e2 x' r' ∧ ∀ k, Hs x' k → (∃ x, DAt G i x ∧ oB x = some k) ∨ ¬ Hs G k
/-- append(u[i], m...), the row of the group. -/
theorem stp_appendRow (L1 L2 : List Value) {s y : Operand} {t e1 e2 : TypeId} {z v q : Value} {bytes : Nat} {i : Int} {G u : Value} {ls : List (List UInt8)} {r m r' : List UInt8} (ho : o.op = .call ⟨.builtin .append, #[s, y], #[t, t]⟩) (T : TyS P t e2 z bytes) (hs : ev f s = v) (hy : ev f y = q)
    (h : OwD w e1 e2 G u ls) (hd : DAt G i.toNat v) (hi : idx ls i = some r) {Lu : List Value} (hq : SlK (Sc u8) w Lu q m) (hm : appL r m = some r')
    {K : Value → World → Prop} (hk : ∀ x' w', Pnd w' e2 G i.toNat x' r' → OwD w' e1 e2 G u ls → Gr w w' G → Nx w G x' → Lift w w' (L1 ++ G :: L2) (x' :: (L1 ++ G :: L2)) → K x' w') : Stp P o f w K := by
  obtain ⟨hlt, hor, hsub⟩ := h.row hd
  have hG := h.lt
  obtain ⟨_, _, rfl⟩ := idx_some.1 hi
  refine stp_append2 (R := Sc u8) (Sc.stab _) [] [] ho T hs hy (hor.scal _) hq (fun _ _ h => h) hm oc_u8 ?_
  intro x' w' hx' hg hnx _ hold
  have hb := ob_own hor
  have hNx : Nx w G x' := fun k hk => (hnx k hk).imp (hsub k) id
  have hgG : Gr w w' G := by
    obtain ⟨row, hgr, hr⟩ := hg
    exact ⟨row, hgr, fun k hk => hsub k (hr k hk)⟩
  refine hk x' w' ⟨hx'.scal [], fun k hk1 => ?_⟩ ?_ hgG hNx ⟨fun k o ho hc ha => ?_, fun k hk1 ha => ⟨fun e => ?_, ha⟩⟩
  · rcases hnx k hk1 with h4 | h4
    · exact .inl ⟨v, hd, hb k h4⟩
    · exact .inr fun h5 => by have := hG k h5; omega
  · have := (h.upd (r := ls[i.toNat]) hd (hold.scal []) hg).1
    rwa [List.set_getElem_self] at this
  · exact (Lift.own L1 L2 hgG (Nx.refl _ _)).blk k o ho hc ha
  · rcases hNx k e with h4 | h4
    · exact (av_append.1 ha).2.1 h4
    · omega
/-- u[i] = the row that was grown. -/
theorem stp_storePnd (L1 L2 : List Value) {a y : Operand} {t e1 e2 : TypeId} {z x : Value} {bytes : Nat} {i : Int} {G u : Value} {ls : List (List UInt8)} {r xs : List UInt8} (ho : o.op = .store e1 a y) (T : TyS P t e1 z bytes) (hx : ev f a = adr u i.toNat) (hy : ev f y = x)
    (h : OwD w e1 e2 G u ls) (hi : idx ls i = some r) (hp : Pnd w e2 G i.toNat x xs)
    {K : Value → World → Prop} (hk : ∀ G' w', OwD w' e1 e2 G' u (ls.set i.toNat xs) → Gr w w' G → (∀ k, Hs G' k → Hs G k ∨ Hs x k) → Lift w w' (L1 ++ G :: L2) (L1 ++ G :: L2) → K undef w') : Stp P o f w K := by
  obtain ⟨us, rfl, h1, hl, h2, h3⟩ := h
  obtain ⟨hxo, hxG⟩ := hp
  obtain ⟨h0, hlt, rfl⟩ := idx_some.1 hi
  have hid : idx us i = some (us[i.toNat]'(by omega)) := by unfold idx; rw [if_pos h0]; simp
  refine stp_store (R := Sc (fun x : Value => x)) (u := x) idv_stab [] [] ho T hx hy (idv_eq.2 h1) (put_of x hid) rfl (oc_own hxo) ?_
  intro w' h' hg _
  have h' := idv_eq.1 h'
  have hxs := ob_own hxo
  have hus := ob_ow h1
  have hgG : Gr w w' (.tuple (u :: us).toArray) := by
    obtain ⟨row, hgr, hr⟩ := hg
    exact ⟨row, hgr, fun k hk => hs_grp.2 (.inl (hus k (hr k hk)))⟩
  have hi' : i.toNat < us.length := by omega
  have hold : ∀ k, oB x = some k → oB us[i.toNat] = some k ∨ ¬ Hs (.tuple (u :: us).toArray) k := fun k hk => by
    rcases hxG k (.inl hk) with ⟨y, ⟨u', us', e, hy⟩, hyk⟩ | h4
    · obtain ⟨rfl, rfl⟩ := List.cons.inj (tup_inj e)
      obtain ⟨_, rfl⟩ := List.getElem?_eq_some_iff.1 hy
      exact .inl hyk
    · exact .inr h4
  have hux : Apt u x := fun k hk1 hk2 => by
    rcases hold k hk2 with h4 | h4
    · exact (List.rel_of_pairwise_cons h3 (List.getElem_mem hi')) k hk1 h4
    · exact h4 (hs_grp.2 (.inl hk1))
  have hrx : ∀ (j : Nat) (hj : j < us.length), j ≠ i.toNat → Apt us[j] x := fun j hj hne k hk1 hk2 => by
    rcases hold k hk2 with h4 | h4
    · have h5 := List.pairwise_iff_getElem.1 (List.pairwise_cons.1 h3).2
      rcases Nat.lt_or_gt_of_ne hne with h6 | h6
      · exact h5 j i.toNat hj hi' h6 k hk1 h4
      · exact h5 i.toNat j hi' hj h6 k h4 hk1
    · exact h4 (hs_grp.2 (.inr ⟨_, List.getElem_mem hj, hk1⟩))
  obtain ⟨row, hgr, hr⟩ := hg
  have hro : ∀ k, row = some k → oB u = some k := fun k hk => hus k (hr k hk)
  refine hk (.tuple (u :: us.set i.toNat x).toArray) w' ⟨us.set i.toNat x, rfl, h', by simpa using hl, fun j a b => ?_, ?_⟩ hgG (fun k hk' => ?_) (Lift.own L1 L2 hgG (Nx.refl _ _))
  · have hj : j < us.length := by simpa using a
    have hj' : j < ls.length := by simpa using b
    simp only [List.getElem_set]
    by_cases hij : i.toNat = j
    · subst hij
      rw [if_pos rfl, if_pos rfl]
      exact hxo.keptR hgr (fun k hk1 e => hux k (hro k e) hk1)
    · rw [if_neg hij, if_neg hij]
      exact (h2 j hj hj').keptR hgr (fun k hk1 e => (List.rel_of_pairwise_cons h3 (List.getElem_mem hj)) k (hro k e) hk1)
  · rw [List.pairwise_cons] at h3 ⊢
    refine ⟨fun v hv => ?_, ?_⟩
    · rcases List.mem_or_eq_of_mem_set hv with hv | rfl
      · exact h3.1 v hv
      · exact hux
    · refine List.pairwise_iff_getElem.2 fun p q hp hq' hpq => ?_
      have hp' : p < us.length := by simpa using hp
      have hq'' : q < us.length := by simpa using hq'
      simp only [List.getElem_set]
      have h4 := List.pairwise_iff_getElem.1 h3.2 p q hp' hq'' hpq
      by_cases h5 : i.toNat = p
      · rw [if_pos h5, if_neg (by omega)]
        exact (hrx q hq'' (by omega)).symm
      · rw [if_neg h5]
        by_cases h6 : i.toNat = q
        · rw [if_pos h6]; exact hrx p hp' (by omega)
        · rw [if_neg h6]; exact h4
  · rcases hs_grp.1 hk' with hk2 | ⟨v, hv, hk2⟩
    · exact .inl (hs_grp.2 (.inl hk2))
    · rcases List.mem_or_eq_of_mem_set hv with hv | rfl
      · exact .inl (hs_grp.2 (.inr ⟨v, hv, hk2⟩))
      · exact .inr (.inl hk2)
end
end Gk

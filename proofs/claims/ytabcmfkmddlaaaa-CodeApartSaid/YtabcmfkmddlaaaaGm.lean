/- Maps from bytes to bools: made, written, read, counted. No condition. -/
import Derived.Test.YtabcmfkmddlaaaaGl
import Derived.MapKept
set_option linter.unusedVariables false
set_option linter.unusedSimpArgs false
namespace Gk
open Go Go.RowKit

def mput (m : List (UInt8 × Bool)) (k : UInt8) (v : Bool) : List (UInt8 × Bool) := if k ∈ m.map (·.1) then m.map (fun p => if p.1 = k then (p.1, v) else p) else m ++ [(k, v)]
def mget (m : List (UInt8 × Bool)) (k : UInt8) : Bool := ((m.find? (fun p => p.1 == k)).map (·.2)).getD false
abbrev mp (g : Nat) : Value := .map (some g)
/-- In w, block g is a map with these entries. -/
def Mp (w : World) (g : Nat) (m : List (UInt8 × Bool)) : Prop :=
  ∃ es clock, w.heap[g]? = some (.map es clock) ∧ es.toList.map (fun e => (e.key, e.val)) = m.map (fun p => (u8 p.1, Value.bool p.2)) ∧ (m.map (·.1)).Nodup
theorem Mp.lt {w : World} {g : Nat} {m : List (UInt8 × Bool)} (h : Mp w g m) : g < w.heap.size := by
  obtain ⟨es, c, h, _⟩ := h; exact lt_of_get h
theorem Mp.ltB {w : World} {g : Nat} {m : List (UInt8 × Bool)} (h : Mp w g m) : ∀ k, Hs (mp g) k → k < w.heap.size := fun k e => by
  have e' : g = k := Option.some.inj (hs_map e)
  subst e'; exact h.lt
theorem Mp.ext {w w' : World} {g : Nat} {m : List (UInt8 × Bool)} (h : Mp w g m) (x : Ext w w') : Mp w' g m := by
  have hl := h.lt
  obtain ⟨es, c, h1, h2⟩ := h
  exact ⟨es, c, (x.blk g hl).trans h1, h2⟩
theorem Mp.nq {w : World} {g : Nat} {m : List (UInt8 × Bool)} {v : Value} (h : Mp w g m) (hn : Nw w v) : Nq (mp g) v := fun k hu hv => by
  have := h.ltB k hu; have := hn k hv; omega
theorem Mp.nxt {w : World} {g : Nat} {m : List (UInt8 × Bool)} {v v' : Value} (h : Mp w g m) (hq : Nq (mp g) v) (hn : Nx w v v') : Nq (mp g) v' := fun k hu hv => by
  rcases hn k hv with h1 | h1
  · exact hq k hu h1
  · have := h.ltB k hu; omega
theorem Mp.other {w w' : World} {g : Nat} {m : List (UInt8 × Bool)} {v : Value} (h : Mp w g m) (hg : Gr w w' v) (hq : Nq (mp g) v) : Mp w' g m := by
  have hl := h.lt
  obtain ⟨es, c, h1, h2⟩ := h
  exact ⟨es, c, (hg.block hl (hq g (.inl rfl))).trans h1, h2⟩
theorem Nw.mp (w : World) : Nw w (mp w.heap.size) := fun k e => by
  have e' : w.heap.size = k := Option.some.inj (hs_map e)
  omega
theorem Mp.keys {w : World} {g : Nat} {m : List (UInt8 × Bool)} {es : Array MapEntry} (h : es.toList.map (fun e => (e.key, e.val)) = m.map (fun p => (u8 p.1, Value.bool p.2))) : ∀ x ∈ es.toList, ∃ p ∈ m, x.key = u8 p.1 ∧ x.val = .bool p.2 := by
  intro x hx
  have h1 : (x.key, x.val) ∈ es.toList.map (fun e => (e.key, e.val)) := List.mem_map.2 ⟨x, hx, rfl⟩
  rw [h] at h1
  obtain ⟨p, hp, e⟩ := List.mem_map.1 h1
  simp only [Prod.mk.injEq] at e
  exact ⟨p, hp, e.1.symm, e.2.symm⟩
theorem u8_inj {a b : UInt8} (h : u8 a = u8 b) : a = b := by
  simp only [u8, Value.int.injEq, true_and] at h
  exact UInt8.toNat_inj.1 (by omega)
theorem isKey_u8 (a : UInt8) : MapKept.IsKey (.int .u8) (u8 a) := rfl
/-- The entry at a key. -/
theorem Mp.find {m : List (UInt8 × Bool)} {es : Array MapEntry} (h : es.toList.map (fun e => (e.key, e.val)) = m.map (fun p => (u8 p.1, Value.bool p.2))) (k : UInt8) :
    (Instr.findNow (.int .u8) (u8 k) es.toList 0 = some none ∧ k ∉ m.map (·.1)) ∨ ∃ j e p, Instr.findNow (.int .u8) (u8 k) es.toList 0 = some (some (j, .bool p.2)) ∧ es[j]? = some e ∧ e.key = u8 k ∧ m[j]? = some p ∧ p.1 = k := by
  have hks : ∀ x ∈ es.toList, MapKept.IsKey (.int .u8) x.key := fun x hx => by
    obtain ⟨p, _, e, _⟩ := Mp.keys (w := default) (g := 0) h x hx
    rw [e]; rfl
  rcases MapKept.findNow_spec (isKey_u8 k) es.toList 0 hks with ⟨h1, h2⟩ | ⟨j, e, h1, h2, h3⟩
  · refine .inl ⟨h1, fun hk => ?_⟩
    obtain ⟨p, hp, rfl⟩ := List.mem_map.1 hk
    have h4 : (u8 p.1, Value.bool p.2) ∈ es.toList.map (fun e => (e.key, e.val)) := by rw [h]; exact List.mem_map.2 ⟨p, hp, rfl⟩
    obtain ⟨x, hx, e⟩ := List.mem_map.1 h4
    simp only [Prod.mk.injEq] at e
    exact h2 x hx e.1
  · have h4 := congrArg (·[j]?) h
    simp only [List.getElem?_map, h2, Option.map_some] at h4
    cases hm : m[j]? with
    | none => rw [hm] at h4; cases h4
    | some p =>
      rw [hm] at h4
      simp only [Option.map_some, Option.some.injEq, Prod.mk.injEq] at h4
      refine .inr ⟨j, e, p, ?_, by simpa using h2, h3, hm, ?_⟩
      · rw [h1, h4.2, Nat.zero_add]
      · exact u8_inj (h4.1.symm.trans h3)
theorem nd_inj {m : List (UInt8 × Bool)} (hn : (m.map (·.1)).Nodup) {i j : Nat} {p q : UInt8 × Bool} (hi : m[i]? = some p) (hj : m[j]? = some q) (e : p.1 = q.1) : i = j := by
  obtain ⟨hil, hip⟩ := List.getElem?_eq_some_iff.1 hi
  obtain ⟨hjl, hjq⟩ := List.getElem?_eq_some_iff.1 hj
  have h := List.pairwise_iff_getElem.1 hn
  rcases Nat.lt_trichotomy i j with h1 | h1 | h1
  · exact (h i j (by simpa using hil) (by simpa using hjl) h1 (by simp [hip, hjq, e])).elim
  · exact h1
  · exact (h j i (by simpa using hjl) (by simpa using hil) h1 (by simp [hip, hjq, e])).elim
theorem mput_at {m : List (UInt8 × Bool)} (hn : (m.map (·.1)).Nodup) {j : Nat} {p : UInt8 × Bool} (hj : m[j]? = some p) (v : Bool) : m.map (fun q => if q.1 = p.1 then (q.1, v) else q) = m.set j (p.1, v) := by
  apply List.ext_getElem?
  intro i
  obtain ⟨hjl, hjp⟩ := List.getElem?_eq_some_iff.1 hj
  rw [List.getElem?_map, List.getElem?_set]
  by_cases hij : j = i
  · subst hij
    rw [hj, if_pos rfl, if_pos hjl]; simp
  · rw [if_neg hij]
    cases hi : m[i]? with
    | none => rfl
    | some q =>
      obtain ⟨hil, hiq⟩ := List.getElem?_eq_some_iff.1 hi
      have : q.1 ≠ p.1 := fun e => hij (nd_inj hn hj hi e.symm)
      simp [this]
theorem mput_nodup {m : List (UInt8 × Bool)} (hn : (m.map (·.1)).Nodup) (k : UInt8) (v : Bool) : ((mput m k v).map (·.1)).Nodup := by
  unfold mput
  split
  · rw [List.map_map]
    have : ((fun x : UInt8 × Bool => x.1) ∘ fun p => if p.1 = k then (p.1, v) else p) = (fun x => x.1) := by
      funext p; simp only [Function.comp]; split <;> rfl
    rw [this]; exact hn
  · rename_i hk
    rw [List.map_append, List.nodup_append]
    refine ⟨hn, by simp, ?_⟩
    intro a ha b hb e
    simp only [List.map_cons, List.map_nil, List.mem_singleton] at hb
    subst hb; subst e; exact hk ha

section
variable {P : Program} {f : Nat → Value} {w : World} {o : Oper} {x y z : Operand} {t kt et : TypeId} {g : Nat} {m : List (UInt8 × Bool)} {k : UInt8} {b : Bool}
theorem stp_makeMap (L : List Value) (ho : o.op = .makeMap t none) {K : Value → World → Prop}
    (hk : ∀ g w', Mp w' g [] → Nw w (mp g) → w.grownBy w' none → Lift w w' L (mp g :: L) → K (mp g) w') : Stp P o f w K := by
  have hg := World.grownBy_alloc w (.map #[] 0) none
  refine stp_of_run (w' := w.alloc (.map #[] 0)) (v := mp w.heap.size) ?_ (hk _ _ ⟨#[], 0, alloc_new w _, by simp, by simp⟩ (Nw.mp w) hg (Lift.new L hg (Nw.mp w)))
  simp [execOp, ho, Instr.makeMap, newObj, Sem.run]
theorem putObj_eq {w : World} {r : Nat} {o o' : Obj} (hb : w.heap[r]? = some o) : ({ w with heap := w.heap.setIfInBounds r o' } : World) = w.putObj r o' := rfl
theorem stp_mapUpdate (L1 L2 : List Value) (ho : o.op = .mapUpdate t x y z ∨ o.op = .insert t x y z) (ht : P.underlying t = some (.map kt et)) (hkt : P.underlying kt = some (.int .u8)) (hx : ev f x = mp g) (hy : ev f y = u8 k) (hz : ev f z = .bool b) (h : Mp w g m)
    {K : Value → World → Prop} (hk : ∀ w', Mp w' g (mput m k b) → Gr w w' (mp g) → Lift w w' (L1 ++ mp g :: L2) (L1 ++ mp g :: L2) → K undef w') : Stp P o f w K := by
  obtain ⟨es, c, hb, he, hn⟩ := h
  have key : ∀ es' c', es'.toList.map (fun e => (e.key, e.val)) = (mput m k b).map (fun p => (u8 p.1, Value.bool p.2)) → (Instr.mapUpdate t (mp g) (u8 k) (.bool b)).run P w = .ok () (w.putObj g (.map es' c')) → Stp P o f w K := by
    intro es' c' he' hr
    have hg := grownBy_putObj' w g (.map es' c')
    refine stp_of_skip (w' := w.putObj g (.map es' c')) ?_ (hk _ ⟨es', c', World.putObj_heap_same (lt_of_get hb), he', mput_nodup hn k b⟩ (Gr.of hg) (Lift.own L1 L2 (Gr.of hg) (Nx.refl _ _)))
    rcases ho with ho | ho
    · simp only [execOp, ho, hx, hy, hz, Sem.run_bind, hr, Result.andThen_ok]
      rfl
    · simp only [execOp, ho, hx, hy, hz, Sem.run_bind, hr, Result.andThen_ok]
      rfl
  rcases Mp.find he k with ⟨h1, h2⟩ | ⟨j, e, p, h1, h2, h3, h4, h5⟩
  · refine key (es.push { key := u8 k, val := .bool b, born := c }) (c + 1) ?_ ?_
    · unfold mput
      rw [if_neg h2]
      simp only [Array.toList_push, List.map_append, he, List.map_cons, List.map_nil]
    · simp [Instr.mapUpdate, run_underlying ht, MapKept.run_getObj_map hb, MapKept.run_checkKey hkt (isKey_u8 k), MapKept.run_findKey hkt h1, MapKept.run_setObj_map _ hb, Result.andThen, World.putObj]
  · subst h5
    refine key (es.modify j fun e => { e with key := u8 p.1, val := .bool b }) c ?_ ?_
    · unfold mput
      rw [if_pos (List.mem_map.2 ⟨p, List.mem_of_getElem? h4, rfl⟩), mput_at hn h4]
      apply List.ext_getElem?
      intro i
      have hi := congrArg (·[i]?) he
      simp only [List.getElem?_map, Array.getElem?_toList] at hi
      simp only [List.getElem?_map, Array.getElem?_toList, Array.getElem?_modify, List.getElem?_set]
      by_cases hij : j = i
      · subst hij
        obtain ⟨hl, _⟩ := List.getElem?_eq_some_iff.1 h4
        simp [h2, hl]
      · simp only [if_neg hij]; exact hi
    · simp [Instr.mapUpdate, run_underlying ht, MapKept.run_getObj_map hb, MapKept.run_checkKey hkt (isKey_u8 p.1), MapKept.run_findKey hkt h1, h2, h3, MapKept.run_keyThatStays (isKey_u8 p.1), MapKept.run_setObj_map _ hb, Result.andThen, World.putObj]
theorem q_lenMap (ho : o.op = .call ⟨.builtin .len, #[x], #[t]⟩) (ht : P.underlying t = some (.map kt et)) (hx : ev f x = mp g) (h : Mp w g m) : Qt P o f w (i64 (m.length : Int)) := by
  intro w' hE
  obtain ⟨es, c, hb, he, _⟩ := h.ext hE
  have hl : es.size = m.length := by have := congrArg List.length he; simpa using this
  rw [exec_builtin _ ho]
  simp [builtin, Builtin.len_, run_underlying ht, hx, MapKept.run_getObj_map hb, Result.andThen, goInt, hl, i64]
theorem q_lookup (ho : o.op = .lookup t x y false) (ht : P.underlying t = some (.map kt et)) (hkt : P.underlying kt = some (.int .u8)) (hz : ∀ w, (zeroValue et).run P w = .ok (.bool false) w) (hx : ev f x = mp g) (hy : ev f y = u8 k) (h : Mp w g m) : Qt P o f w (.bool (mget m k)) := by
  intro w' hE
  obtain ⟨es, c, hb, he, hn⟩ := h.ext hE
  rcases Mp.find he k with ⟨h1, h2⟩ | ⟨j, e, p, h1, h2, h3, h4, h5⟩
  · have : mget m k = false := by
      unfold mget
      rw [List.find?_eq_none.2 (fun q hq e => h2 (List.mem_map.2 ⟨q, hq, by simpa using e⟩))]; rfl
    rw [this]
    simp [execOp, ho, hx, hy, Instr.lookup, run_underlying ht, MapKept.run_getObj_map hb, MapKept.run_checkKey hkt (isKey_u8 k), MapKept.run_findKey hkt h1, hz, Result.andThen]
  · subst h5
    have : mget m p.1 = p.2 := by
      unfold mget
      have hex : ∃ q ∈ m, (q.1 == p.1) = true := ⟨p, List.mem_of_getElem? h4, by simp⟩
      cases hf : m.find? (fun q => q.1 == p.1) with
      | none => exact absurd hf (by rw [List.find?_eq_none]; intro hh; exact hh p (List.mem_of_getElem? h4) (by simp))
      | some q =>
        have hq1 : q.1 = p.1 := by simpa using List.find?_some hf
        have hqm := List.mem_of_find?_eq_some hf
        obtain ⟨i, hi⟩ := List.getElem?_of_mem hqm
        have : q = p := by
          by_cases hij : i = j
          · subst hij; rw [h4] at hi; exact (Option.some.inj hi).symm
          · exact absurd (nd_inj hn hi h4 hq1) hij
        rw [this]; rfl
    rw [this]
    simp [execOp, ho, hx, hy, Instr.lookup, run_underlying ht, MapKept.run_getObj_map hb, MapKept.run_checkKey hkt (isKey_u8 p.1), MapKept.run_findKey hkt h1, Result.andThen]
end
end Gk

/- Parts Gl, Gm, Ff, Gn, Go, Mz, Fc, Fd, Fe, F3, F5, F8, Gq, Gp, Gw, S2, Gt, Gu, F7, Gx, Gy, Ha, one behind the other. What is proved: said at the head of each part. No condition beside those said there. -/
import Derived.Test.YtmbnjinlfeopaaaRows
import Derived.Orders
import Derived.Deep.Draws
import Derived.Laws.World
import Derived.KernelRfl
import Derived.OrdersIn
import Derived.TacticsIn
import Derived.RangeFuncCalls
import Derived.Deep.LoopGhost
import Derived.Tactics
import Derived.Sort.LoopGhostIn
import Derived.RangeFuncLeaves
import Derived.RangeFuncNested
import Derived.RangeFuncRecord
import Derived.Laws.Sem
import Derived.OwnWalk
import Derived.RangeFuncWrites
import Derived.Laws.IdiomCopy
import Derived.WalkKit
import Derived.ProofKit
import Derived.OpenShut
import Derived.ChangeOld
import Derived.Below
import Derived.Test.YtmbnjinlfeopaaaProg
import Derived.MapKept
import Derived.Lib.AppendZerosOnto
import Derived.Laws.CopyRow
import Derived.Laws.Cells
import Derived.Lib.SlBytesConst
import Derived.Test.YtmbnjinlfeopaaaZPStripeSpreads1
set_option maxRecDepth 100000
set_option maxHeartbeats 8000000
set_option linter.unusedVariables false
set_option linter.unusedSimpArgs false
/- Ranges over functions whose pure form is a fold; boxes beside what is owned; results behind a mark. No condition. -/
namespace Gk
open Go Go.RowKit
noncomputable def rangeL {σ α : Type} (f : σ → α → Option σ) (xs : List α) (s0 : σ) : Option σ :=
  open Classical in if (∀ ys : List α, ys.length ≤ xs.length → (∀ y ∈ ys, y ∈ xs) → ∃ r, ys.foldlM f s0 = some r) then xs.foldlM f s0 else none
theorem rangeL_some {σ α : Type} {f : σ → α → Option σ} {xs : List α} {s0 r : σ} (h : rangeL f xs s0 = some r) :
    (∀ ys : List α, ys.length ≤ xs.length → (∀ y ∈ ys, y ∈ xs) → ∃ r, ys.foldlM f s0 = some r) ∧ xs.foldlM f s0 = some r := by
  unfold rangeL at h
  split at h
  · rename_i h'; exact ⟨h', h⟩
  · cases h
theorem foldlM_app {σ α : Type} (f : σ → α → Option σ) (a b : List α) (s : σ) : (a ++ b).foldlM f s = (a.foldlM f s).bind fun s' => b.foldlM f s' := by
  rw [List.foldlM_append]; rfl
theorem fold_inv {σ α : Type} {f : σ → α → Option σ} {g : σ → α → σ} (I : Nat → σ → Prop) (N : Nat) (P : α → Prop) (hs : ∀ k s x, k < N → P x → I k s → f s x = some (g s x) ∧ I (k + 1) (g s x)) :
    ∀ (ys : List α) (k : Nat) (s0 : σ), k + ys.length ≤ N → (∀ y ∈ ys, P y) → I k s0 → ys.foldlM f s0 = some (ys.foldl g s0) ∧ I (k + ys.length) (ys.foldl g s0)
  | [], k, s0, _, _, h0 => ⟨rfl, h0⟩
  | y :: ys, k, s0, hl, hy, h0 => by
    obtain ⟨h1, h2⟩ := hs k s0 y (by simp at hl; omega) (hy y (by simp)) h0
    obtain ⟨h3, h4⟩ := fold_inv I N P hs ys (k + 1) (g s0 y) (by simp at hl; omega) (fun z hz => hy z (by simp [hz])) h2
    refine ⟨?_, ?_⟩
    · rw [List.foldlM_cons, h1]; exact h3
    · rw [List.foldl_cons, List.length_cons, show k + (ys.length + 1) = k + 1 + ys.length by omega]; exact h4
theorem rangeL_inv {σ α : Type} {f : σ → α → Option σ} (g : σ → α → σ) {xs : List α} {s0 : σ} (I : Nat → σ → Prop) (h0 : I 0 s0) (hs : ∀ k s x, k < xs.length → x ∈ xs → I k s → f s x = some (g s x) ∧ I (k + 1) (g s x)) :
    rangeL f xs s0 = some (xs.foldl g s0) ∧ I xs.length (xs.foldl g s0) := by
  have hall := fold_inv I xs.length (· ∈ xs) hs
  have h1 := hall xs 0 s0 (by omega) (fun y hy => hy) h0
  refine ⟨?_, by simpa using h1.2⟩
  unfold rangeL
  rw [if_pos (fun ys hl hm => ⟨_, (hall ys 0 s0 (by omega) hm h0).1⟩)]
  exact h1.1
def lim (n : Nat) : Option Unit := if n < 9223372036854775808 then some () else none
theorem lim_lt {n : Nat} {u : Unit} (h : lim n = some u) : n < 9223372036854775808 := by
  unfold lim at h
  split at h
  · assumption
  · cases h
theorem lim_of {n : Nat} (h : n < 9223372036854775808) : lim n = some () := if_pos h
def Keep (Rd : World → Prop) (W W' : World) : Prop := W.heap.size ≤ W'.heap.size ∧ (Rd W → Rd W')
theorem Keep.trans {Rd : World → Prop} {A B C : World} (h : Keep Rd A B) (k : Keep Rd B C) : Keep Rd A C := ⟨Nat.le_trans h.1 k.1, fun x => k.2 (h.2 x)⟩
def RoundK (B : Nat) (Rd : World → Prop) (I : World → Prop) (W : World) : Exit → (Nat → Value) → World → Prop
  | .normal, _, W' => KeepsFrom B W W' ∧ Rd W' ∧ I W'
  | _, _, _ => False
section
variable {P : Program} {n : Nat} {Q : Exit → (Nat → Value) → World → Prop} {f : Nat → Value} {w : World}
end
section
variable {P : Program} {f : Nat → Value} {w : World} {o : Oper} {t e T : TypeId} {g : Nat} {u z v u0 : Value} {x y : Operand} {cs : Array Value}
theorem Nw.bp (w : World) : Nw w (bp w.heap.size) := fun k e => by
  have e' := hs_bp e
  omega
theorem stp_allocL (L : List Value) (ho : o.op = .alloc t) (hz : ∀ w, (zeroValue t).run P w = .ok z w) (hc : z.cells = cs) {K : Value → World → Prop}
    (hk : ∀ g w', Blk w' g t cs → Nw w (bp g) → w.grownBy w' none → Lift w w' L (bp g :: L) → K (bp g) w') : Stp P o f w K := by
  subst hc
  exact stp_alloc ho hz fun w' hB hg => hk _ w' hB (Nw.bp w) hg (Lift.new L hg (Nw.bp w))
theorem stp_boxL (L : List Value) (ho : o.op = .box t x) (hx : ev f x = v) (hc : v.cells = cs) {K : Value → World → Prop}
    (hk : ∀ g w', Blk w' g t cs → Nw w (bp g) → w.grownBy w' none → Lift w w' L (bp g :: L) → K (bp g) w') : Stp P o f w K := by
  subst hc
  exact stp_box ho hx fun w' hB hg => hk _ w' hB (Nw.bp w) hg (Lift.new L hg (Nw.bp w))
theorem stp_storeL (L1 L2 : List Value) (ho : o.op = .store e x y) (hs : ∀ w, (Go.sizeOf e).run P w = .ok 1 w) (hx : ev f x = bp g) (hy : ev f y = u) (h : Blk w g T #[u0]) (hc : u.oneCell' = true)
    {K : Value → World → Prop} (hk : ∀ w', Blk w' g T #[u] → Gr w w' (bp g) → Lift w w' (L1 ++ bp g :: L2) (L1 ++ bp g :: L2) → K undef w') : Stp P o f w K :=
  stp_storeB ho hs hx hy h (Nat.zero_lt_one) hc fun w' hB hg => hk w' hB (Gr.of hg) (Lift.own L1 L2 (Gr.of hg) (Nx.refl _ _))
theorem cells_fd {pw : List UInt8} {lg : List Int} {T : TypeId} {w : World} {L : List Value} {v : Value} {b : Bool} (h : FdT pw lg T w L v b) : v.cells = #[v] := by
  rcases h with ⟨_, rfl⟩ | ⟨_, k, rfl, _⟩ <;> rfl
theorem cells_own {α : Type} {R : World → List Value → Value → α → Prop} {w : World} {L : List Value} {e : TypeId} {v : Value} {l : List α} (h : OwK R w L e v l) : v.cells = #[v] := by
  obtain ⟨us, h, _⟩ := h
  rcases h with ⟨p, rfl, _⟩ | ⟨g, cap, rfl, _⟩ <;> rfl
theorem oc_own {α : Type} {R : World → List Value → Value → α → Prop} {w : World} {L : List Value} {e : TypeId} {v : Value} {l : List α} (h : OwK R w L e v l) : v.oneCell' = true := by
  obtain ⟨us, h, _⟩ := h
  rcases h with ⟨p, rfl, _⟩ | ⟨g, cap, rfl, _⟩ <;> rfl
theorem FdT.tn {pw : List UInt8} {lg : List Int} {T : TypeId} {B : Nat} {w w' : World} {L : List Value} {v : Value} {b : Bool} (h : FdT pw lg T w L v b) (t : Tn B w w') : FdT pw lg T w' L v b := h.lift (t.lift L)
end
theorem q_mkfuncN {P : Program} {o : Oper} {f : Nat → Value} {g : FuncId} {xs : Array Operand} {vs : List Value} (ho : o.op = .makeFunc (.func g) #[] xs) (hx : xs.toList.map (ev f) = vs) : Qa P o f (.func (.func g) #[] vs.toArray) := by
  intro w
  have hxs : xs.map (ev f) = vs.toArray := by subst hx; apply Array.ext'; simp
  simp [execOp, ho, hxs, Instr.makeFunc]
section
variable {P : Program} {fn : Func} {n : Nat} {R : Ending → World → Prop} {f : Nat → Value} {w : World} {D t u s : Nat}
theorem Tn.put {B : Nat} (hK : w.heap[D]? = some (.deferred (some []))) (hB : B ≤ D) (o : Obj) : Tn B w (w.putObj D o) :=
  ⟨some D, grownBy_putObj' w D o, fun r e => by cases e; exact ⟨hB, _, hK, rfl⟩⟩
theorem rtm1 (v : Value) (hr : fn.results = #[.tmp t]) (ht : Nat.blt t n = true) (hv : f t = v) (hD : f n = bp D) (hK : w.heap[D]? = some (.deferred (some []))) (h : R (.returned v) (w.putObj D (.deferred none))) : Rt P fn n R .ret f w :=
  .inr (.inl ⟨D, hD, hK, v, by rw [results_tmp hr, fr_getD n f t ht, hv], h⟩)
theorem rtmm2 {D' : Nat} (v1 v2 : Value) (hr : fn.results = #[.tmp t, .tmp u]) (ht : Nat.blt t n = true) (hu : Nat.blt u n = true) (hv1 : f t = v1) (hv2 : f u = v2) (hD : f n = mk2 D D') (hne : D ≠ D') (hK : w.heap[D]? = some (.deferred (some []))) (hK' : w.heap[D']? = some (.deferred (some []))) (h : R (.returned (.tuple #[v1, v2])) ((w.putObj D (.deferred none)).putObj D' (.deferred none))) : Rt P fn n R .ret f w :=
  .inr (.inr ⟨D, D', hD, hne, hK, hK', _, by rw [results_tmp2 hr, fr_getD n f t ht, fr_getD n f u hu, hv1, hv2], h⟩)
theorem Tn.put2 {B D' : Nat} (hK : w.heap[D]? = some (.deferred (some []))) (hK' : w.heap[D']? = some (.deferred (some []))) (hne : D ≠ D') (hB : B ≤ D') (o o' : Obj) : Tn B (w.putObj D o) ((w.putObj D o).putObj D' o') :=
  Tn.put (by rw [World.putObj_heap_other (Ne.symm hne)]; exact hK') hB o'
end
end Gk

/- Maps from bytes to bools: made, written, read, counted. No condition. -/
namespace Gk
open Go Go.RowKit
def mput (m : List (UInt8 × Bool)) (k : UInt8) (v : Bool) : List (UInt8 × Bool) := if k ∈ m.map (·.1) then m.map (fun p => if p.1 = k then (p.1, v) else p) else m ++ [(k, v)]
abbrev mp (g : Nat) : Value := .map (some g)
def Mp (w : World) (g : Nat) (m : List (UInt8 × Bool)) : Prop :=
  ∃ es clock, w.heap[g]? = some (.map es clock) ∧ es.toList.map (fun e => (e.key, e.val)) = m.map (fun p => (u8 p.1, Value.bool p.2)) ∧ (m.map (·.1)).Nodup
theorem Mp.lt {w : World} {g : Nat} {m : List (UInt8 × Bool)} (h : Mp w g m) : g < w.heap.size := by
  obtain ⟨es, c, h, _⟩ := h; exact lt_of_get h
theorem Mp.ext {w w' : World} {g : Nat} {m : List (UInt8 × Bool)} (h : Mp w g m) (x : Ext w w') : Mp w' g m := by
  have hl := h.lt
  obtain ⟨es, c, h1, h2⟩ := h
  exact ⟨es, c, (x.blk g hl).trans h1, h2⟩
theorem Nw.mp (w : World) : Nw w (mp w.heap.size) := fun k e => by
  have e' : w.heap.size = k := Option.some.inj (hs_map e)
  omega
theorem Mp.keys {w : World} {g : Nat} {m : List (UInt8 × Bool)} {es : Array MapEntry} (h : es.toList.map (fun e => (e.key, e.val)) = m.map (fun p => (u8 p.1, Value.bool p.2))) : ∀ x ∈ es.toList, ∃ p ∈ m, x.key = u8 p.1 ∧ x.val = .bool p.2 := by
  intro x hx
  have h1 : (x.key, x.val) ∈ es.toList.map (fun e => (e.key, e.val)) := List.mem_map.2 ⟨x, hx, rfl⟩
  rw [h] at h1
  obtain ⟨p, hp, e⟩ := List.mem_map.1 h1
  simp only [Prod.mk.injEq] at e
  exact ⟨p, hp, e.1.symm, e.2.symm⟩
theorem u8_inj {a b : UInt8} (h : u8 a = u8 b) : a = b := by
  simp only [u8, Value.int.injEq, true_and] at h
  exact UInt8.toNat_inj.1 (by omega)
theorem isKey_u8 (a : UInt8) : MapKept.IsKey (.int .u8) (u8 a) := rfl
theorem Mp.find {m : List (UInt8 × Bool)} {es : Array MapEntry} (h : es.toList.map (fun e => (e.key, e.val)) = m.map (fun p => (u8 p.1, Value.bool p.2))) (k : UInt8) :
    (Instr.findNow (.int .u8) (u8 k) es.toList 0 = some none ∧ k ∉ m.map (·.1)) ∨ ∃ j e p, Instr.findNow (.int .u8) (u8 k) es.toList 0 = some (some (j, .bool p.2)) ∧ es[j]? = some e ∧ e.key = u8 k ∧ m[j]? = some p ∧ p.1 = k := by
  have hks : ∀ x ∈ es.toList, MapKept.IsKey (.int .u8) x.key := fun x hx => by
    obtain ⟨p, _, e, _⟩ := Mp.keys (w := default) (g := 0) h x hx
    rw [e]; rfl
  rcases MapKept.findNow_spec (isKey_u8 k) es.toList 0 hks with ⟨h1, h2⟩ | ⟨j, e, h1, h2, h3⟩
  · refine .inl ⟨h1, fun hk => ?_⟩
    obtain ⟨p, hp, rfl⟩ := List.mem_map.1 hk
    have h4 : (u8 p.1, Value.bool p.2) ∈ es.toList.map (fun e => (e.key, e.val)) := by rw [h]; exact List.mem_map.2 ⟨p, hp, rfl⟩
    obtain ⟨x, hx, e⟩ := List.mem_map.1 h4
    simp only [Prod.mk.injEq] at e
    exact h2 x hx e.1
  · have h4 := congrArg (·[j]?) h
    simp only [List.getElem?_map, h2, Option.map_some] at h4
    cases hm : m[j]? with
    | none => rw [hm] at h4; cases h4
    | some p =>
      rw [hm] at h4
      simp only [Option.map_some, Option.some.injEq, Prod.mk.injEq] at h4
      refine .inr ⟨j, e, p, ?_, by simpa using h2, h3, hm, ?_⟩
      · rw [h1, h4.2, Nat.zero_add]
      · exact u8_inj (h4.1.symm.trans h3)
theorem nd_inj {m : List (UInt8 × Bool)} (hn : (m.map (·.1)).Nodup) {i j : Nat} {p q : UInt8 × Bool} (hi : m[i]? = some p) (hj : m[j]? = some q) (e : p.1 = q.1) : i = j := by
  obtain ⟨hil, hip⟩ := List.getElem?_eq_some_iff.1 hi
  obtain ⟨hjl, hjq⟩ := List.getElem?_eq_some_iff.1 hj
  have h := List.pairwise_iff_getElem.1 hn
  rcases Nat.lt_trichotomy i j with h1 | h1 | h1
  · exact (h i j (by simpa using hil) (by simpa using hjl) h1 (by simp [hip, hjq, e])).elim
  · exact h1
  · exact (h j i (by simpa using hjl) (by simpa using hil) h1 (by simp [hip, hjq, e])).elim
theorem mput_at {m : List (UInt8 × Bool)} (hn : (m.map (·.1)).Nodup) {j : Nat} {p : UInt8 × Bool} (hj : m[j]? = some p) (v : Bool) : m.map (fun q => if q.1 = p.1 then (q.1, v) else q) = m.set j (p.1, v) := by
  apply List.ext_getElem?
  intro i
  obtain ⟨hjl, hjp⟩ := List.getElem?_eq_some_iff.1 hj
  rw [List.getElem?_map, List.getElem?_set]
  by_cases hij : j = i
  · subst hij
    rw [hj, if_pos rfl, if_pos hjl]; simp
  · rw [if_neg hij]
    cases hi : m[i]? with
    | none => rfl
    | some q =>
      obtain ⟨hil, hiq⟩ := List.getElem?_eq_some_iff.1 hi
      have : q.1 ≠ p.1 := fun e => hij (nd_inj hn hj hi e.symm)
      simp [this]
theorem mput_nodup {m : List (UInt8 × Bool)} (hn : (m.map (·.1)).Nodup) (k : UInt8) (v : Bool) : ((mput m k v).map (·.1)).Nodup := by
  unfold mput
  split
  · rw [List.map_map]
    have : ((fun x : UInt8 × Bool => x.1) ∘ fun p => if p.1 = k then (p.1, v) else p) = (fun x => x.1) := by
      funext p; simp only [Function.comp]; split <;> rfl
    rw [this]; exact hn
  · rename_i hk
    rw [List.map_append, List.nodup_append]
    refine ⟨hn, by simp, ?_⟩
    intro a ha b hb e
    simp only [List.map_cons, List.map_nil, List.mem_singleton] at hb
    subst hb; subst e; exact hk ha
section
variable {P : Program} {f : Nat → Value} {w : World} {o : Oper} {x y z : Operand} {t kt et : TypeId} {g : Nat} {m : List (UInt8 × Bool)} {k : UInt8} {b : Bool}
theorem stp_makeMap (L : List Value) (ho : o.op = .makeMap t none) {K : Value → World → Prop}
    (hk : ∀ g w', Mp w' g [] → Nw w (mp g) → w.grownBy w' none → Lift w w' L (mp g :: L) → K (mp g) w') : Stp P o f w K := by
  have hg := World.grownBy_alloc w (.map #[] 0) none
  refine stp_of_run (w' := w.alloc (.map #[] 0)) (v := mp w.heap.size) ?_ (hk _ _ ⟨#[], 0, alloc_new w _, by simp, by simp⟩ (Nw.mp w) hg (Lift.new L hg (Nw.mp w)))
  simp [execOp, ho, Instr.makeMap, newObj, Sem.run]
theorem stp_mapUpdate (L1 L2 : List Value) (ho : o.op = .mapUpdate t x y z ∨ o.op = .insert t x y z) (ht : P.underlying t = some (.map kt et)) (hkt : P.underlying kt = some (.int .u8)) (hx : ev f x = mp g) (hy : ev f y = u8 k) (hz : ev f z = .bool b) (h : Mp w g m)
    {K : Value → World → Prop} (hk : ∀ w', Mp w' g (mput m k b) → Gr w w' (mp g) → Lift w w' (L1 ++ mp g :: L2) (L1 ++ mp g :: L2) → K undef w') : Stp P o f w K := by
  obtain ⟨es, c, hb, he, hn⟩ := h
  have key : ∀ es' c', es'.toList.map (fun e => (e.key, e.val)) = (mput m k b).map (fun p => (u8 p.1, Value.bool p.2)) → (Instr.mapUpdate t (mp g) (u8 k) (.bool b)).run P w = .ok () (w.putObj g (.map es' c')) → Stp P o f w K := by
    intro es' c' he' hr
    have hg := grownBy_putObj' w g (.map es' c')
    refine stp_of_skip (w' := w.putObj g (.map es' c')) ?_ (hk _ ⟨es', c', World.putObj_heap_same (lt_of_get hb), he', mput_nodup hn k b⟩ (Gr.of hg) (Lift.own L1 L2 (Gr.of hg) (Nx.refl _ _)))
    rcases ho with ho | ho
    · simp only [execOp, ho, hx, hy, hz, Sem.run_bind, hr, Result.andThen_ok]
      rfl
    · simp only [execOp, ho, hx, hy, hz, Sem.run_bind, hr, Result.andThen_ok]
      rfl
  rcases Mp.find he k with ⟨h1, h2⟩ | ⟨j, e, p, h1, h2, h3, h4, h5⟩
  · refine key (es.push { key := u8 k, val := .bool b, born := c }) (c + 1) ?_ ?_
    · unfold mput
      rw [if_neg h2]
      simp only [Array.toList_push, List.map_append, he, List.map_cons, List.map_nil]
    · simp [Instr.mapUpdate, run_underlying ht, MapKept.run_getObj_map hb, MapKept.run_checkKey hkt (isKey_u8 k), MapKept.run_findKey hkt h1, MapKept.run_setObj_map _ hb, Result.andThen, World.putObj]
  · subst h5
    refine key (es.modify j fun e => { e with key := u8 p.1, val := .bool b }) c ?_ ?_
    · unfold mput
      rw [if_pos (List.mem_map.2 ⟨p, List.mem_of_getElem? h4, rfl⟩), mput_at hn h4]
      apply List.ext_getElem?
      intro i
      have hi := congrArg (·[i]?) he
      simp only [List.getElem?_map, Array.getElem?_toList] at hi
      simp only [List.getElem?_map, Array.getElem?_toList, Array.getElem?_modify, List.getElem?_set]
      by_cases hij : j = i
      · subst hij
        obtain ⟨hl, _⟩ := List.getElem?_eq_some_iff.1 h4
        simp [h2, hl]
      · simp only [if_neg hij]; exact hi
    · simp [Instr.mapUpdate, run_underlying ht, MapKept.run_getObj_map hb, MapKept.run_checkKey hkt (isKey_u8 p.1), MapKept.run_findKey hkt h1, h2, h3, MapKept.run_keyThatStays (isKey_u8 p.1), MapKept.run_setObj_map _ hb, Result.andThen, World.putObj]
theorem q_lenMap (ho : o.op = .call ⟨.builtin .len, #[x], #[t]⟩) (ht : P.underlying t = some (.map kt et)) (hx : ev f x = mp g) (h : Mp w g m) : Qt P o f w (i64 (m.length : Int)) := by
  intro w' hE
  obtain ⟨es, c, hb, he, _⟩ := h.ext hE
  have hl : es.size = m.length := by have := congrArg List.length he; simpa using this
  rw [exec_builtin _ ho]
  simp [builtin, Builtin.len_, run_underlying ht, hx, MapKept.run_getObj_map hb, Result.andThen, goInt, hl, i64]
end
end Gk

/- slices.IndexFunc and slices.ContainsFunc, with a function that has captured what it looks at. No condition but the length. -/
namespace Gk
open Go Go.Proofs
def findAt {α : Type} (t : α → Option Bool) : Int → List α → Option Int
  | _, [] => some (-1)
  | i, x :: xs => (t x).bind fun b => if b = true then some i else findAt t (i + 1) xs
def anyO {α : Type} (t : α → Option Bool) : List α → Option Bool
  | [] => some false
  | x :: xs => (t x).bind fun b => if b = true then some true else anyO t xs
theorem anyO_find {α : Type} (t : α → Option Bool) : ∀ (l : List α) {i : Int} (hi : 0 ≤ i) {r : Bool}, anyO t l = some r → ∃ j, findAt t i l = some j ∧ decide (0 ≤ j) = r
  | [], i, _, r, h => ⟨-1, rfl, by simpa [anyO] using h⟩
  | x :: xs, i, hi, r, h => by
    unfold anyO at h
    obtain ⟨b, hb, h⟩ := Option.bind_eq_some_iff.1 h
    cases b with
    | true => exact ⟨i, by unfold findAt; rw [hb]; rfl, by simpa [hi] using h⟩
    | false =>
      obtain ⟨j, h1, h2⟩ := anyO_find t xs (i := i + 1) (by omega) (by simpa using h)
      exact ⟨j, by unfold findAt; rw [hb]; simpa using h1, h2⟩
section
variable {P : Program} {o : Oper} {f : Nat → Value} {w : World}
theorem stp_callF {g : FuncId} {fn : Func} {y : Operand} {xs : Array Operand} {ats : Array TypeId} {vs lb : List Value} {R' : Ending → World → Prop} (hf : P.funcs[g]? = some fn) (hn : (fn.name == "runtime.NumGoroutine") = false) (hb : fn.body.isNone = false)
    (ho : o.op = .call ⟨.value y, xs, ats⟩) (hy : ev f y = .func (.func g) #[] lb.toArray) (hx : xs.toList.map (ev f) = vs) (hc : Calls P g (vs ++ lb).toArray w R') {K : Value → World → Prop} (hk : ∀ e w', R' e w' → ∃ v, e = .returned v ∧ K v w') : Stp P o f w K := by
  have hxs : xs.map (ev f) = vs.toArray := by subst hx; apply Array.ext'; simp
  unfold Stp
  have : (execOp (ev f) o).run P w = .ok (.enter g (vs ++ lb).toArray) w := by
    have h1 := enters (P := P) hf hn hb (vs ++ lb).toArray w
    unfold execOp
    rw [ho]
    dsimp only
    simp only [resolve, hy, Deferred.ofValue, hxs, Sem.run_bind, Sem.run_pure, Result.andThen_ok, invoke]
    simpa using h1
  rw [this]
  exact hc.mono hk
end
/-- slices.IndexFunc over [][]byte. -/
theorem IndexFunc_rows_calls (v : Value) (l : List (List UInt8)) (gf : Nat) (fn : Func) (hf : Try.prog.funcs[gf]? = some fn) (hn : (fn.name == "runtime.NumGoroutine") = false) (hb : fn.body.isNone = false) (lb : List Value) (t : List UInt8 → Option Bool) (r : Int) (w0 : World) (hl : Rw w0 [] v l) (hlen : l.length < 9223372036854775808) (H : findAt t 0 l = some r)
    (hcl : ∀ x ∈ l, ∀ (b : Bool) (w' : World), Ext w0 w' → t x = some b → ∀ u, By w' [] u x → Calls Try.prog gf ([u] ++ lb).toArray w' (fun e w'' => e = .returned (.bool b) ∧ Ext w' w'')) :
    Calls Try.prog 79 [v, .func (.func gf) #[] lb.toArray].toArray w0 (fun e w' => e = .returned (i64 r) ∧ Ext w0 w') := by
  have hE : Ext w0 w0 := Ext.refl w0; refine calls_W (n := 19) Try.func79 rfl rfl rfl ?_; refine W_seq <| W_rg <| av (i64 0) rfl rfl <| wnt <| W_seq <| ?_; refine W_mid (fun f w => f 19 = undef ∧ r = -1 ∧ Ext w0 w) ?_ ?_
  · refine W_seq <| W_rg <| mv v rfl rfl <| wa rfl (q_len rfl T28.sl rfl hl) <| mv (i64 0) rfl rfl <| wnt <| W_block <| ?_; refine W_loopG (fun k f w => f 19 = undef ∧ f 0 = v ∧ f 1 = .func (.func gf) #[] lb.toArray ∧ f 6 = v ∧ f 7 = i64 (l.length : Int) ∧ f 8 = i64 ((l.length - k : Nat) : Int) ∧ k ≤ l.length ∧ findAt t ((l.length - k : Nat) : Int) (l.drop (l.length - k)) = some r ∧ Ext w0 w) l.length ?_ ?_
    · exact ⟨rfl, rfl, rfl, rfl, rfl, by rw [Nat.sub_self]; rfl, Nat.le_refl _, by rw [Nat.sub_self]; exact H, hE⟩
    rintro k f w ⟨hm, s0, s1, s6, s7, s8, hk, hfa, e1⟩; refine W_seq <| W_rg <| wa rfl (q_ltI rfl s8 s7) <| wnt <| W_seq <| ?_; refine W_cond _ rfl rfl (fun hbb => ?_) (fun hbb => ?_)
    · have hk1 : l.length - k < l.length := by have := of_decide_eq_true hbb; omega
      have hget : l[l.length - k]? = some l[l.length - k] := by simp [hk1]
      have hidx : idx l ((l.length - k : Nat) : Int) = some l[l.length - k] := by simp [idx, hk1]
      have hdrop : l.drop (l.length - k) = l[l.length - k] :: l.drop (l.length - k + 1) := List.drop_eq_getElem_cons hk1; rw [hdrop] at hfa; unfold findAt at hfa; obtain ⟨b, hb1, hfa⟩ := bsi hfa; refine W_skip <| W_th <| W_seq <| W_block <| W_seq <| W_rg <| mv (i64 ((l.length - k : Nat) : Int)) rfl s8 <| av (i64 ((l.length - k : Nat) : Int)) rfl rfl <| ?_; refine wnt <| W_seq <| W_rg <| mv (.func (.func gf) #[] lb.toArray) rfl s1 <| mv v rfl s0 <| mv (i64 ((l.length - k : Nat) : Int)) rfl rfl <| wa rfl (q_adr rfl T28 rfl rfl hl hidx) <| ?_; refine wlq_load rfl rfl rfl T28 rfl hl hidx e1 (fun u hu => ?_); refine wls rfl rfl (stp_callF (vs := [u]) hf hn hb rfl rfl (ar1 rfl) (hcl _ (List.getElem_mem hk1) b _ e1 hb1 u (hu.lift (Lift.ext e1 _))) ?_); rintro _ w2 ⟨rfl, x2⟩; refine ⟨_, rfl, ?_⟩; have e2 := e1.trans x2; refine wnt ?_; refine W_cond b rfl rfl (fun hbt => ?_) (fun hbf => ?_)
      · rw [hbt, if_pos rfl] at hfa; obtain rfl := osi hfa; refine W_seq ?_; refine W_reg (by kernel_rfl) ?_; refine wla rfl rfl (q_move (v := i64 ((l.length - k : Nat) : Int)) rfl rfl) ?_; refine wla rfl rfl (q_assign (v := i64 ((l.length - k : Nat) : Int)) rfl rfl) ?_; refine wl_nil ?_; refine W_th ?_; refine W_ret ?_; refine bk_r ?_; refine th_r ?_; refine th_r ?_; refine bk_r ?_; refine th_r ?_; refine rt1 _ rfl rfl rfl hm ?_; exact ⟨rfl, e2⟩
      rw [hbf, if_neg (by decide)] at hfa; refine W_skip ?_; refine bk_n ?_; refine W_th ?_; refine W_reg (by kernel_rfl) ?_; refine wla rfl rfl (q_addI rfl s8 rfl) ?_
      have en : wI (((l.length - k : Nat) : Int) + 1) = ((l.length - (k - 1) : Nat) : Int) := by rw [wI_of (by omega) (by omega)]; omega
      rw [en]; refine wla rfl rfl (q_move (v := i64 ((l.length - (k - 1) : Nat) : Int)) rfl rfl) ?_; refine wl_nil ?_; refine ⟨k - 1, by omega, hm, s0, s1, s6, s7, rfl, by omega, ?_, e2⟩; rw [show l.length - (k - 1) = l.length - k + 1 by omega]; rw [show ((l.length - k : Nat) : Int) + 1 = ((l.length - k + 1 : Nat) : Int) by omega] at hfa; exact hfa
    have hk0 : k = 0 := by have := of_decide_eq_false hbb; omega
    subst hk0
    rw [Nat.sub_zero, List.drop_length] at hfa; have hr : (-1 : Int) = r := osi hfa; refine W_exit ?_; refine th_x ?_; refine th_x ?_; refine bk_x ?_; exact ⟨hm, hr.symm, e1⟩
  rintro f w ⟨hm, hr, e1⟩
  subst hr
  refine W_th <| W_seq <| W_rg <| av (i64 (-1)) rfl rfl <| wnt <| W_ret <| ?_; refine rt1 (i64 (-1)) rfl rfl rfl hm ?_; exact ⟨rfl, e1⟩
/-- slices.ContainsFunc over [][]byte. -/
theorem ContainsFunc_rows_calls (v : Value) (l : List (List UInt8)) (gf : Nat) (fn : Func) (hf : Try.prog.funcs[gf]? = some fn) (hn : (fn.name == "runtime.NumGoroutine") = false) (hb : fn.body.isNone = false) (lb : List Value) (t : List UInt8 → Option Bool) (r : Bool) (w0 : World) (hl : Rw w0 [] v l) (hlen : l.length < 9223372036854775808) (H : anyO t l = some r)
    (hcl : ∀ x ∈ l, ∀ (b : Bool) (w' : World), Ext w0 w' → t x = some b → ∀ u, By w' [] u x → Calls Try.prog gf ([u] ++ lb).toArray w' (fun e w'' => e = .returned (.bool b) ∧ Ext w' w'')) :
    Calls Try.prog 56 [v, .func (.func gf) #[] lb.toArray].toArray w0 (fun e w' => e = .returned (.bool r) ∧ Ext w0 w') := by
  obtain ⟨j, h1, h2⟩ := anyO_find (i := 0) t l (by decide) H; refine calls_W (n := 9) Try.func56 rfl rfl rfl ?_; refine W_seq <| W_rg <| av (.bool false) rfl rfl <| wnt <| W_seq <| W_rg <| mv v rfl rfl <| mv (.func (.func gf) #[] lb.toArray) rfl rfl <| ?_; refine wls rfl rfl (stp_call (vs := [v, .func (.func gf) #[] lb.toArray]) Try.func79 rfl rfl rfl (ar2 rfl rfl) (IndexFunc_rows_calls v l gf fn hf hn hb lb t j _ hl hlen h1 hcl) ?_); rintro _ w2 ⟨rfl, x2⟩; refine ⟨_, rfl, ?_⟩; refine wa rfl (q_geI rfl rfl rfl) <| av (.bool (decide (0 ≤ j))) rfl rfl <| wnt <| W_ret <| ?_; refine rt1 _ rfl rfl rfl rfl ?_; rw [h2]; exact ⟨rfl, x2⟩
end Gk

/- Rows that are owned with all that lies in them; matrices behind pointers. No condition. -/
namespace Gk
open Go Go.RowKit
def Apt (a b : Value) : Prop := ∀ k, oB a = some k → oB b ≠ some k
theorem Apt.symm {a b : Value} (h : Apt a b) : Apt b a := fun k h1 h2 => h k h2 h1
def OwD (w : World) (e1 e2 : TypeId) (G u : Value) (ls : List (List UInt8)) : Prop :=
  ∃ us : List Value, G = .tuple (u :: us).toArray ∧ Ow w e1 u us ∧ us.length = ls.length ∧ (∀ (i : Nat) (h : i < us.length) (h' : i < ls.length), OwK (Sc u8) w [] e2 us[i] ls[i]) ∧ (u :: us).Pairwise Apt
theorem hs_grp {u : Value} {us : List Value} {k : Nat} : Hs (.tuple (u :: us).toArray) k ↔ oB u = some k ∨ ∃ x ∈ us, oB x = some k := by
  constructor
  · intro h
    obtain ⟨x, hx, e⟩ := hs_tup h
    simp only [List.mem_cons] at hx
    rcases hx with rfl | hx
    · exact .inl e
    · exact .inr ⟨x, hx, e⟩
  · rintro (h | ⟨x, hx, h⟩)
    · exact .inr ⟨_, rfl, u, by simp, h⟩
    · exact .inr ⟨_, rfl, x, by simp [hx], h⟩
theorem OwK.ltO {α : Type} {R : World → List Value → Value → α → Prop} {w : World} {L : List Value} {e : TypeId} {v : Value} {l : List α} (h : OwK R w L e v l) {k : Nat} (hk : oB v = some k) : k < w.heap.size := h.lt k (.inl hk)
theorem OwD.lt {w : World} {e1 e2 : TypeId} {G u : Value} {ls : List (List UInt8)} (h : OwD w e1 e2 G u ls) : ∀ k, Hs G k → k < w.heap.size := by
  obtain ⟨us, rfl, h1, hl, h2, _⟩ := h
  intro k hk
  rcases hs_grp.1 hk with hk | ⟨x, hx, hk⟩
  · exact h1.lt k (.inl hk)
  · obtain ⟨i, hi, rfl⟩ := List.getElem_of_mem hx
    exact (h2 i hi (by omega)).ltO hk
theorem OwD.ltB {w : World} {e1 e2 : TypeId} {G u : Value} {ls : List (List UInt8)} (h : OwD w e1 e2 G u ls) : ∀ k, Hs G k → k < w.heap.size := h.lt
theorem OwD.ext {w w' : World} {e1 e2 : TypeId} {G u : Value} {ls : List (List UInt8)} (h : OwD w e1 e2 G u ls) (x : Ext w w') : OwD w' e1 e2 G u ls := by
  obtain ⟨us, hG, h1, hl, h2, h3⟩ := h
  exact ⟨us, hG, h1.ext x, hl, fun i a b => (h2 i a b).ext (Sc.stab _) x, h3⟩
theorem OwK.keptR {w w' : World} {row : Option Nat} {e : TypeId} {v : Value} {l : List UInt8} (h : OwK (Sc u8) w [] e v l) (hg : w.grownBy w' row) (hne : ∀ k, oB v = some k → row ≠ some k) : OwK (Sc u8) w' [] e v l := by
  obtain ⟨us, h1, h2, h3⟩ := h
  exact ⟨us, h1.kept hg hne, h2, h3⟩
theorem OwD.rw {w : World} {e1 e2 : TypeId} {G u : Value} {ls : List (List UInt8)} (h : OwD w e1 e2 G u ls) (L : List Value) (ha : ∀ k, Hs G k → Av L k) : Rw w L u ls := by
  obtain ⟨us, rfl, h1, hl, h2, _⟩ := h
  refine ⟨us, h1.sl L (fun k hk => ?_), hl, fun i a b => ((h2 i a b).scal L).slk (Sc.stab _) L (fun k hk => ?_) (fun _ h => h)⟩
  · rcases h1 with ⟨p, rfl, _⟩ | ⟨g, cap, rfl, _⟩ <;> exact ha k (hs_grp.2 (.inl (hs_sl hk)))
  · obtain ⟨us', h4, _⟩ := h2 i a b
    refine ha k (hs_grp.2 (.inr ⟨_, List.getElem_mem a, ?_⟩))
    rcases h4 with ⟨p, e, _⟩ | ⟨g, cap, e, _⟩ <;> rw [e] at hk ⊢ <;> exact hs_sl hk
theorem OwD.rd {w : World} {e1 e2 : TypeId} {G u : Value} {ls : List (List UInt8)} (h : OwD w e1 e2 G u ls) : Rw w [] u ls := h.rw [] (fun _ _ => trivial)
def DAt (G : Value) (i : Nat) (x : Value) : Prop := ∃ u us, G = .tuple (u :: us).toArray ∧ us[i]? = some x
theorem tup_inj {a b : List Value} (h : (Value.tuple a.toArray) = .tuple b.toArray) : a = b := by
  have := Value.tuple.inj h
  exact congrArg Array.toList this
theorem OwD.row {w : World} {e1 e2 : TypeId} {G u x : Value} {ls : List (List UInt8)} {i : Nat} (h : OwD w e1 e2 G u ls) (hx : DAt G i x) : ∃ (h : i < ls.length), OwK (Sc u8) w [] e2 x ls[i] ∧ (∀ k, Hs x k → Hs G k) := by
  obtain ⟨us, rfl, h1, hl, h2, h3⟩ := h
  obtain ⟨u', us', e, hi⟩ := hx
  obtain ⟨rfl, rfl⟩ := List.cons.inj (tup_inj e)
  obtain ⟨hlt, rfl⟩ := List.getElem?_eq_some_iff.1 hi
  refine ⟨by omega, h2 i hlt (by omega), fun k hk => hs_grp.2 (.inr ⟨_, List.getElem_mem hlt, ?_⟩)⟩
  obtain ⟨us', h4, _⟩ := h2 i hlt (by omega)
  rcases h4 with ⟨p, e, _⟩ | ⟨g, cap, e, _⟩ <;> rw [e] at hk ⊢ <;> exact hs_sl hk
theorem OwD.upd {w w' : World} {e1 e2 : TypeId} {G u x : Value} {ls : List (List UInt8)} {i : Nat} {r : List UInt8} {L : List Value} (h : OwD w e1 e2 G u ls) (hx : DAt G i x) (ho : OwK (Sc u8) w' L e2 x r) (hg : Gr w w' x) : OwD w' e1 e2 G u (ls.set i r) ∧ Gr w w' G := by
  have hrow := h.row hx
  obtain ⟨us, rfl, h1, hl, h2, h3⟩ := h
  obtain ⟨u', us', e, hi⟩ := hx
  obtain ⟨rfl, rfl⟩ := List.cons.inj (tup_inj e)
  obtain ⟨hlt, rfl⟩ := List.getElem?_eq_some_iff.1 hi
  obtain ⟨_, hor, hsub⟩ := hrow
  obtain ⟨row, hgr, hr⟩ := hg
  have hro : ∀ k, row = some k → oB us[i] = some k := fun k hk => by
    have h4 := hr k hk
    obtain ⟨us', h5, _⟩ := hor
    rcases h5 with ⟨p, e, _⟩ | ⟨g, cap, e, _⟩ <;> rw [e] at h4 ⊢ <;> exact hs_sl h4
  refine ⟨⟨us, rfl, h1.kept hgr (fun k hk e => ?_), by simpa using hl, fun j a b => ?_, h3⟩, ⟨row, hgr, fun k hk => hsub k (hr k hk)⟩⟩
  · exact (List.rel_of_pairwise_cons h3 (List.getElem_mem hlt)) k hk (hro k e)
  · have hj : j < ls.length := by simpa using b
    rw [List.getElem_set]
    by_cases hij : i = j
    · subst hij; rw [if_pos rfl]; exact ho
    · rw [if_neg hij]
      refine (h2 j a hj).keptR hgr (fun k hk e => ?_)
      have h4 := (List.pairwise_cons.1 h3).2
      rcases Nat.lt_or_gt_of_ne hij with h5 | h5
      · exact (List.pairwise_iff_getElem.1 h4 i j hlt a h5) k (hro k e) hk
      · exact (List.pairwise_iff_getElem.1 h4 j i a hlt h5) k hk (hro k e)
theorem OwD.owk {w : World} {e1 e2 : TypeId} {G u : Value} {ls : List (List UInt8)} (h : OwD w e1 e2 G u ls) (L : List Value) (ha : ∀ k, Hs G k → Av L k) : OwK By w (u :: L) e1 u ls := by
  obtain ⟨us, rfl, h1, hl, h2, h3⟩ := h
  refine ⟨us, h1, hl, fun i a b => ((h2 i a b).scal (u :: L)).slk (Sc.stab _) (u :: L) (fun k hk => ?_) (fun _ h => h)⟩
  have hb : oB us[i] = some k := by
    obtain ⟨us', h4, _⟩ := h2 i a b
    rcases h4 with ⟨p, e, _⟩ | ⟨g, cap, e, _⟩ <;> rw [e] at hk ⊢ <;> exact hs_sl hk
  refine ⟨fun hu => ?_, ha k (hs_grp.2 (.inr ⟨_, List.getElem_mem a, hb⟩))⟩
  have hu' : oB u = some k := by rcases h1 with ⟨p, rfl, _⟩ | ⟨g, cap, rfl, _⟩ <;> exact hs_sl hu
  exact (List.rel_of_pairwise_cons h3 (List.getElem_mem a)) k hu' hb
theorem OwD.nwu {w w0 : World} {e1 e2 : TypeId} {G u : Value} {ls : List (List UInt8)} (h : OwD w e1 e2 G u ls) (hn : Nw w0 G) : Nw w0 u := by
  obtain ⟨us, rfl, h1, _⟩ := h
  intro k hk
  refine hn k (hs_grp.2 (.inl ?_))
  rcases h1 with ⟨p, rfl, _⟩ | ⟨g, cap, rfl, _⟩ <;> exact hs_sl hk
theorem Lift.call2 {w w' : World} {a b : Value} (L : List Value) (hg : Ext w w') (ha : Nw w a) (hb : Nw w b) : Lift w w' L (a :: b :: L) :=
  ⟨fun k o ho _ _ => (hg.blk k (lt_of_get ho)).trans ho, fun k hk h => ⟨fun e => by have := ha k e; omega, fun e => by have := hb k e; omega, h⟩⟩
theorem idv_eq {w : World} {L : List Value} {e : TypeId} {v : Value} {us : List Value} : OwK (Sc (fun x : Value => x)) w L e v us ↔ Ow w e v us := by
  constructor
  · rintro ⟨us', h, hl, he⟩
    have : us' = us := List.ext_getElem hl (fun i a b => he i a b)
    rw [← this]; exact h
  · intro h; exact ⟨us, h, rfl, fun _ _ _ => rfl⟩
theorem idv_stab : Stab (Sc (fun x : Value => x)) := Sc.stab _
section
variable {P : Program} {f : Nat → Value} {w : World} {o : Oper}
theorem stp_makeD (L : List Value) {x y : Operand} {t e1 e2 : TypeId} {bytes : Nat} {n : Int} {ls : List (List UInt8)} (ho : o.op = .makeSlice t x y) (T : TyS P t e1 (.slice none 0 0) bytes) (hx : ev f x = i64 n) (hy : ev f y = i64 n) (hl : makeL n ([] : List UInt8) = some ls)
    {K : Value → World → Prop} (hk : ∀ G v w', OwD w' e1 e2 G v ls → Nw w G → w.grownBy w' none → Lift w w' L (G :: L) → K v w') : Stp P o f w K := by
  have hl2 : makeL n (Value.slice none 0 0) = some (List.replicate ls.length (.slice none 0 0)) := by
    unfold makeL at hl ⊢
    split at hl
    · rename_i h; rw [if_pos h]; obtain rfl := Option.some.inj hl; simp
    · cases hl
  have hls : ls = List.replicate ls.length [] := by
    unfold makeL at hl
    split at hl
    · obtain rfl := Option.some.inj hl; simp
    · cases hl
  refine stp_make (L := L) (R := Sc (fun x : Value => x)) ho T hx hy hl2 (fun _ _ => rfl) ?_
  intro v w' h hn hg _
  have h := idv_eq.1 h
  have hd : OwD w' e1 e2 (.tuple (v :: List.replicate ls.length (.slice none 0 0)).toArray) v ls := by
    refine ⟨_, rfl, h, by simp, fun i a b => ?_, ?_⟩
    · have h1 : (List.replicate ls.length (Value.slice none 0 0))[i] = .slice none 0 0 := by simp
      have h2 : ls[i] = [] := by
        have := congrArg (·[i]?) hls
        simp only [List.getElem?_eq_getElem b, List.getElem?_replicate, if_pos b] at this
        exact Option.some.inj this
      rw [h1, h2]; exact OwK.nil _ _ _ _
    · rw [List.pairwise_cons]
      refine ⟨fun a ha k _ hk2 => ?_, ?_⟩
      · rw [List.mem_replicate.1 ha |>.2] at hk2; cases hk2
      · refine List.pairwise_replicate.2 (.inr fun k hk => by cases hk)
  have hnG : Nw w (.tuple (v :: List.replicate ls.length (.slice none 0 0)).toArray) := fun k hk => by
    rcases hs_grp.1 hk with hk | ⟨x, hx, hk⟩
    · exact hn k (.inl hk)
    · rw [List.mem_replicate.1 hx |>.2] at hk; cases hk
  exact hk _ v w' hd hnG hg (Lift.new L hg hnG)
theorem loadD {x : Operand} {t e1 e2 : TypeId} {z : Value} {bytes : Nat} {i : Int} {G u : Value} {ls : List (List UInt8)} {r : List UInt8} (ho : o.op = .load e1 x) (T : TyS P t e1 z bytes) (hx : ev f x = adr u i.toNat) (h : OwD w e1 e2 G u ls) (hi : idx ls i = some r) :
    ∃ v, Qt P o f w v ∧ DAt G i.toNat v := by
  obtain ⟨us, rfl, h1, hl, h2, h3⟩ := h
  obtain ⟨h0, hlt, _⟩ := idx_some.1 hi
  have hid : idx us i = some (us[i.toNat]'(by omega)) := by unfold idx; rw [if_pos h0]; simp
  exact ⟨us[i.toNat]'(by omega), q_loadS (enc := fun x : Value => x) ho T hx ((idv_eq (L := []).2 h1).rd idv_stab) hid, u, us, rfl, by simp⟩
section
variable {ops : Array Oper} {K : (Nat → Value) → World → Prop} {rr : List Oper} {d : Nat}
theorem wlq_loadD {x : Operand} {t e1 e2 : TypeId} {z : Value} {bytes : Nat} {i : Int} {G u : Value} {ls : List (List UInt8)} {r : List UInt8} (hw : wantF ops f o = true) (hd : o.dst = some d) (ho : o.op = .load e1 x) (T : TyS P t e1 z bytes) (hx : ev f x = adr u i.toNat) (h : OwD w e1 e2 G u ls) (hi : idx ls i = some r)
    (hk : ∀ v, DAt G i.toNat v → wl P ops K rr (upd f d v) w) : wl P ops K (o :: rr) f w := by
  obtain ⟨v, h1, h2⟩ := loadD ho T hx h hi
  exact wlq hw hd h1 (hk v h2)
end
section
variable {ops : Array Oper} {qs : List Nat} {K : (Nat → Value) → World → Prop} {rr : List (Nat × Nat)} {d j : Nat}
end
end
end Gk

/- append of noughts (append(s, make(..)...)); slices.Grow on nothing; slices.Concat. No condition but the length. -/
namespace Gk
open Go Go.Proofs
section
variable {P : Program} {o : Oper} {f : Nat → Value} {w : World} {L : List Value}
theorem q_cap {α : Type} {R : World → List Value → Value → α → Prop} {p : Option Addr} {n c : Nat} {x : Operand} {t e : TypeId}
    (ho : o.op = .call ⟨.builtin .cap, #[x], #[t]⟩) (ht : P.underlying t = some (.slice e)) (hx : ev f x = .slice p n c) : Qa P o f (i64 c) := by
  intro w'
  rw [exec_builtin _ ho]
  simp [builtin, Builtin.cap_, run_underlying ht, hx, goInt, i64]
theorem zeroCells_one {z : Value} (hz : z.cells = #[z]) (n : Nat) : (Builtin.zeroCells z.cells n).toList = List.replicate n z := by
  apply List.ext_getElem?
  intro i
  simp only [Builtin.zeroCells, hz]
  by_cases h : i < n
  · simp [h, Nat.mod_one]
  · simp [h]
theorem run_appz {t tn ty e : TypeId} {z v : Value} {bytes : Nat} {us : List Value} (T : TyS P t e z bytes) (htn : P.underlying tn = some (.int .i64)) (h1 : z.oneCell' = true) (h : Ow w e v us) (n : Nat) (hm : us.length + n ≤ most) :
    ∃ v' w', (Builtin.append_ #[t, tn] ty #[v, i64 n]).run P w = .ok v' w' ∧ Ow w' e v' (us ++ List.replicate n z) ∧ Gr w w' v ∧ Nx w v v' := by
  obtain ⟨i, hi, i1, i2, i3⟩ := info_parts T.info
  obtain ⟨b1, b2, b3⟩ := mem_most hm T.fit
  obtain ⟨c1, c2, c3⟩ := mem_most (show n ≤ most by omega) T.fit
  have h63 : ((us.length + n : Nat) : Int) ≤ 9223372036854775807 := by simp only [most] at hm; omega
  have hw : IntKind.i64.wrap (n : Int) = n := by rw [IntKind.wrap_i64]; simp only [most] at hm; omega
  have h48i : ¬ (281474976710656 < (n : Int) * (i.bytes : Int)) := by rw [← Int.natCast_mul, i3]; omega
  have hneg : ¬ ((n : Int) < 0) := by omega
  have made : ∀ (old : Nat), (w.drew.alloc (.cells (us.toArray ++ Builtin.zeroCells z.cells n ++ Builtin.zeroCells z.cells (grownCap w (us.length + n) old e - (us.length + n))) e)).ownsRow 0 e 1
        (.slice (some ⟨w.heap.size, 0, none⟩) (us.length + n) (grownCap w (us.length + n) old e)) (us.length + n) (us ++ List.replicate n z) := fun old => by
    have hge := grownCap_ge w (us.length + n) old e
    refine ⟨by simp, .inr ⟨w.heap.size, _, _, rfl, Nat.zero_le _, heap_alloc_new w.drew _, hge, grownCap_le_maxLen w _ old e b3, ?_, ?_⟩⟩
    · simp only [Array.size_append, List.size_toArray, size_zeroCells, T.cell]
      simp; omega
    · simp only [Array.toList_append, zeroCells_one T.cell]
      exact List.take_left' (by simp)
  have hlen : (us ++ List.replicate n z).length = us.length + n := by simp
  have hnxn : ∀ (v : Value) (n c : Nat), Nx w v (.slice (some ⟨w.heap.size, 0, none⟩) n c) := fun v n c => (Nw.mk w n c).nx v
  by_cases hn : n = 0
  · subst hn
    refine ⟨v, w, ?_, by simpa using h, Gr.refl w v, Nx.refl w v⟩
    have hw0 : IntKind.i64.wrap 0 = 0 := by rw [IntKind.wrap_i64]; rfl
    rcases h with ⟨pv, rfl, rfl⟩ | ⟨g, cap', rfl, hc0, h⟩
    · cases pv <;> simp [Builtin.append_, run_underlying T.sl, run_underlying htn, Go.sizeOf, typeInfo, hi, i64, asInt, asIntOf, storeCells, hw0]
    · obtain ⟨cur, hg, hc, _⟩ := row_spec h
      simp [Builtin.append_, run_underlying T.sl, run_underlying htn, Go.sizeOf, typeInfo, hi, i64, asInt, asIntOf, storeCells, hw0, hc]
  · rcases h with ⟨pv, rfl, rfl⟩ | ⟨g, cap', rfl, hc0, h⟩
    · have hold : (Builtin.firstCells i.size 0 (.slice pv 0 0)).run P w.drew = .ok ([] : List Value).toArray w.drew := by
        cases pv <;> simp [Builtin.firstCells, loadCells, loadCellsFrom]
      have hr := Lib.run_append_grow_zeros (P := P) w t tn ty e i z .i64 .i64 T.sl htn hi i1 pv 0 0 [] hold n (by omega) (by omega) (by omega) (by simpa using h63) (by rw [i3]; rw [Nat.mul_comm]; exact c2) (by rw [i3]; exact growslice_fits (by omega) (by simpa using b1))
      have hmk := made 0
      exact ⟨_, _, hr, Ow.mk (by simp) hmk, Gr.of ⟨rfl, rfl, rfl, by simp, fun k hk _ => alloc_old w.drew _ k hk⟩, hnxn _ _ _⟩
    · obtain ⟨cur, hg, hc, hcm, hcs, htake⟩ := row_spec h
      by_cases hroom : us.length + n ≤ cap'
      · have hst := run_storeCells_at P g us.length e (List.replicate n z) 0 cur w hg (by rw [hcs]; simp; omega) (fun v hv => by rw [(List.mem_replicate.1 hv).2]; exact h1)
        have hr : (Builtin.append_ #[t, tn] ty #[.slice (some ⟨g, 0, none⟩) us.length cap', i64 n]).run P w = .ok (.slice (some ⟨g, 0, none⟩) (us.length + n) cap') (w.setRow g (cur.toList.take us.length ++ List.replicate n z ++ cur.toList.drop (us.length + n)).toArray) := by
          simp only [Nat.add_zero, List.length_replicate] at hst
          have hz0 : ¬ (n * i.size = 0) := by rw [i2]; omega
          simp [Builtin.append_, run_underlying T.sl, run_underlying htn, Go.sizeOf, typeInfo, zeroValue, hi, i1, i64, asInt, asIntOf, hw, hneg, h48i, hroom, hz0, i2, zeroCells_one T.cell, add_off, hst, hn]
        refine ⟨_, _, hr, Ow.mk hlen.symm ⟨by simp, .inr ⟨g, cap', _, rfl, Nat.zero_le _, setRow_heap w g cur _ e _ hg, hroom, hcm, ?_, ?_⟩⟩,
          Gr.of ⟨rfl, rfl, rfl, by simp, fun k _ hk => setRow_other w g k _ (fun e => hk (by rw [oB_pos hc0, e]))⟩, fun k hk => .inl (.inl (by have := hs_sl hk; rw [oB_pos hc0] at *; exact this))⟩
        · simp only [List.size_toArray, List.length_append, List.length_take, List.length_drop, Array.length_toList, List.length_replicate]
          omega
        · rw [Nat.mul_one] at htake
          rw [htake]
          exact List.take_left' (by simp)
      · have holds : ∀ j u, us[j]? = some u → w.cell? ((⟨g, 0, none⟩ : Addr).add j) = some u := World.ownsRow.cells h (g := g) rfl
        have hold : (Builtin.firstCells i.size us.length (.slice (some ⟨g, 0, none⟩) us.length cap')).run P w.drew = .ok us.toArray w.drew := by
          have := run_firstCells_some (P := P) w.drew i.size us.length ⟨g, 0, none⟩ us.length cap' us (by rw [i2]; simp) (fun j u hj => holds j u hj)
          exact this
        have hr := Lib.run_append_grow_zeros (P := P) w t tn ty e i z .i64 .i64 T.sl htn hi i1 (some ⟨g, 0, none⟩) us.length cap' us hold n (by omega) (by omega) (by omega) h63 (by rw [i3]; rw [Nat.mul_comm]; exact c2) (by rw [i3]; exact growslice_fits (by omega) b1)
        exact ⟨_, _, hr, Ow.mk hlen.symm (made cap'), Gr.of ⟨rfl, rfl, rfl, by simp, fun k hk _ => alloc_old w.drew _ k hk⟩, hnxn _ _ _⟩
theorem stp_appz {α : Type} {R : World → List Value → Value → α → Prop} (hR : Stab R) {s x : Operand} {t tn e : TypeId} {z v : Value} {bytes : Nat} {l r : List α} {n : Int} {a : α} (L1 L2 : List Value)
    (ho : o.op = .call ⟨.builtin .append, #[s, x], #[t, tn]⟩) (T : TyS P t e z bytes) (htn : P.underlying tn = some (.int .i64)) (h1 : z.oneCell' = true) (hs : ev f s = v) (hx : ev f x = i64 n) (h : OwK R w (L1 ++ v :: L2) e v l) {m : List α} (hz : makeL n a = some m) (hza : ∀ w L, R w L z a) (hm : appL l m = some r)
    {K : Value → World → Prop} (hk : ∀ v' w', OwK R w' (L1 ++ v' :: L2) e v' r → Gr w w' v → Nx w v v' → Lift w w' (L1 ++ v :: L2) (L1 ++ v' :: L2) → K v' w') : Stp P o f w K := by
  obtain ⟨us, hown, hl, he⟩ := h
  obtain ⟨hmost, rfl⟩ := appL_some.1 hm
  unfold makeL at hz
  split at hz
  · rename_i hn
    obtain ⟨k, rfl⟩ := Int.eq_ofNat_of_zero_le hn.1
    obtain rfl := Option.some.inj hz
    simp only [Int.toNat_natCast, List.length_replicate] at hmost ⊢
    obtain ⟨v', w', hr, h2, h3, h4⟩ := run_appz (ty := o.type) T htn h1 hown k (by omega)
    have hlift := Lift.own L1 L2 h3 h4
    refine stp_of_run (v := v') (w' := w') ?_ (hk _ _ ⟨us ++ List.replicate k z, h2, by simp [hl], fun i a1 a2 => ?_⟩ h3 h4 hlift)
    · rw [exec_builtin _ ho]
      simp [builtin, hs, hx, hr]
    · by_cases hi : i < us.length
      · rw [List.getElem_append_left hi, List.getElem_append_left (by omega)]
        exact hR _ _ _ _ _ _ hlift (he i hi (by omega))
      · rw [List.getElem_append_right (by omega), List.getElem_append_right (by omega), List.getElem_replicate, List.getElem_replicate]
        exact hza _ _
  · cases hz
end
def slices_Grow (a0 : List UInt8) (n : Int) : Option (List UInt8) := if 0 ≤ n ∧ n ≤ most then some [] else none
theorem slices_Grow_calls (a0 : List UInt8) (n : Int) (p0 : Value) (r : List UInt8) (w0 : World) (hp0 : p0 = .slice none 0 0) (H : slices_Grow a0 n = some r) :
    Calls Try.prog 36 [p0, i64 n].toArray w0 (fun e w' => ∃ u0 : Value, e = .returned u0 ∧ Ext w0 w' ∧ Nw w0 u0 ∧ OwK (Sc u8) w' [] 5 u0 r) := by
  subst hp0
  unfold slices_Grow at H
  split at H
  case isFalse => cases H
  rename_i hn
  obtain rfl := osi H; have hE : Ext w0 w0 := Ext.refl w0; obtain ⟨k, rfl⟩ := Int.eq_ofNat_of_zero_le hn.1
  have hmo : k ≤ 5000000000000 := by have := hn.2; simp only [most] at this; omega
  have hk0 : wI ((k : Int) - wI (0 - 0)) = k := by rw [wI_of (x := 0 - 0) (by decide) (by decide), wI_of (by omega) (by omega)]; omega
  refine calls_W (n := 27) Try.func36 rfl rfl rfl ?_; refine W_seq <| W_rg <| av (.slice none 0 0) rfl rfl <| wnt <| W_seq <| W_seq <| W_rg <| mv (i64 k) rfl rfl <| ?_; refine wa rfl (q_ltI rfl rfl rfl) <| wnt <| ?_; refine W_cond _ rfl rfl (fun hb => ?_) (fun hb => ?_)
  · have := of_decide_eq_true hb; omega
  refine W_skip <| W_th <| W_seq <| W_seq <| W_rg <| mv (i64 k) rfl rfl <| mv (.slice none 0 0) rfl rfl <| wa rfl (q_cap (α := UInt8) (R := Sc u8) rfl T22.sl rfl) <| ?_; refine mv (.slice none 0 0) rfl rfl <| wa rfl (q_len_nil rfl T22.sl rfl) <| wa rfl (q_subI rfl rfl rfl) <| wa rfl (q_subI rfl rfl rfl) <| av (i64 (wI ((k : Int) - wI (0 - 0)))) rfl rfl <| wnt <| W_seq <| W_rg <| ?_; refine mv (i64 k) rfl (by show i64 _ = i64 _; rw [hk0]) ?_
  refine wa rfl (q_gtI rfl rfl rfl) <| wnt <| ?_; refine W_cond _ rfl rfl (fun hb => ?_) (fun hb => ?_)
  · refine W_rg <| mv (.slice none 0 0) rfl rfl <| mv (.slice none 0 0) rfl rfl <| wa rfl (q_cap (α := UInt8) (R := Sc u8) rfl T22.sl rfl) <| wa rfl (q_slice (l := ([] : List UInt8)) (m := []) (R := Sc u8) (w := w0) (L := []) (a := 0) (b := 0) rfl T22 rfl (SlK.nil _ _ _) rfl rfl rfl) <| mv (i64 k) rfl (by show i64 _ = i64 _; rw [hk0]) <| ?_
    refine wls rfl rfl (stp_appz (R := (Sc u8)) (v := (.slice none 0 0)) (l := []) (r := List.replicate k 0) (m := List.replicate k 0) (n := (k : Int)) (a := 0) (Sc.stab _) [] [] rfl T22 Try.underlying3 rfl rfl rfl (OwK.nil _ _ _ _) (by unfold makeL; rw [if_pos hn]; simp) (fun _ _ => rfl) (by unfold appL; rw [if_pos (by simp; omega)]; rfl) ?_)
    intro v1 w1 o1 g1 nx1 l1; obtain ⟨us, hu, hl, he⟩ := o1
    rcases hu with ⟨p, rfl, rfl⟩ | ⟨g, cap, rfl, hc, hrow⟩
    · have : 0 < (k : Int) := of_decide_eq_true hb
      simp at hl; omega
    have e1 : Ext w0 w1 := hE.grown g1 (Nw.nil _); have n1 : Nw w0 (.slice (some ⟨g, 0, none⟩) us.length cap) := Nw.nxt hE (Nw.nil _) nx1; have h1 : SlK (Sc u8) w1 [] (.slice (some ⟨g, 0, none⟩) us.length cap) (List.replicate k (0 : UInt8)) := (OwK.rd (Sc.stab _) (L := []) ⟨us, .inr ⟨g, cap, rfl, hc, hrow⟩, hl, fun i a b => he i a b⟩)
    have hsub : subV (.slice (some ⟨g, 0, none⟩) us.length cap) (0 : Int).toNat (0 : Int).toNat = .slice (some ⟨g, 0, none⟩) 0 cap := by
      unfold subV
      by_cases h0 : cap = 0
      · omega
      simp [Addr.add]
    refine mv (.slice none 0 0) rfl rfl <| wa rfl (q_len_nil rfl T22.sl rfl) <| wa rfl (q_slice (m := []) (a := 0) (b := 0) rfl T22 rfl h1 rfl rfl (by unfold subL; rw [if_pos (by simp)]; simp)) <| ?_
    refine av (.slice (some ⟨g, 0, none⟩) 0 cap) rfl hsub <| wnt <| W_seq <| W_rg <| mv (.slice (some ⟨g, 0, none⟩) 0 cap) rfl rfl <| av (.slice (some ⟨g, 0, none⟩) 0 cap) rfl rfl <| wnt <| W_ret <| ?_; refine rt1 (.slice (some ⟨g, 0, none⟩) 0 cap) rfl rfl rfl rfl ?_; obtain ⟨cur, hg, a1, a2, a3, a4⟩ := row_spec hrow; refine ⟨_, rfl, e1, fun q hq => n1 q ?_, [], .inr ⟨g, cap, rfl, hc, rfl, .inr ⟨g, cap, cur, rfl, Nat.zero_le _, hg, Nat.zero_le _, a2, a3, by simp⟩⟩, rfl, fun i h => absurd h (by simp)⟩; have := hs_sl hq; rw [oB_pos hc] at this; exact .inl (by rw [oB_pos hc]; exact this)
  refine W_skip <| W_th <| W_seq <| W_rg <| mv (.slice none 0 0) rfl rfl <| av (.slice none 0 0) rfl rfl <| wnt <| W_ret <| ?_; refine rt1 (.slice none 0 0) rfl rfl rfl rfl ?_; exact ⟨_, rfl, hE, Nw.nil _, OwK.nil _ _ _ _⟩
noncomputable def slices_Concat_sbytebyte (a0slices : List (List UInt8)) : Option (List UInt8) :=
((iterC (fun s1 : Int × Int =>
(if s1.2 < (a0slices.length : Int) then
((idx a0slices s1.2).bind fun c4 =>
(if (wI (s1.1 + (c4.length : Int))) < 0 then none
else some (.inl ((wI (s1.1 + (c4.length : Int))), (wI (s1.2 + 1))))))
else some (.inr s1.1))) (0, 0)).bind fun x1 =>
((slices_Grow ([] : List UInt8) x1).bind fun r9 =>
((iterC (fun s12 : List UInt8 × Int =>
(if s12.2 < (a0slices.length : Int) then
((idx a0slices s12.2).bind fun c15 =>
((appL s12.1 c15).bind fun c17 => some (.inl (c17, (wI (s12.2 + 1))))))
else some (.inr s12.1))) (r9, 0)).bind fun x12 => some x12)))
theorem slices_Concat_sbytebyte_calls (a0slices : List (List UInt8)) (p0 : Value) (r : List UInt8) (w0 : World) (hp0 : Rw w0 [] p0 a0slices) (H : slices_Concat_sbytebyte a0slices = some r) :
    Calls Try.prog 19 [p0].toArray w0 (fun e w' => ∃ u0 : Value, e = .returned u0 ∧ Ext w0 w' ∧ Nw w0 u0 ∧ OwK (Sc u8) w' [] 5 u0 r) := by
  have hE : Ext w0 w0 := Ext.refl w0; unfold slices_Concat_sbytebyte at H; refine calls_W (n := 36) Try.func19 rfl rfl rfl ?_; refine W_seq <| W_rg <| av (.slice none 0 0) rfl rfl <| wnt <| W_seq <| W_rg <| av (i64 0) rfl rfl <| wnt <| ?_; refine W_seq <| W_seq <| W_rg <| mv p0 rfl rfl <| wa rfl (q_len rfl T28.sl rfl (hp0.lift (Lift.ext hE _))) <| mv (i64 0) rfl rfl <| wnt <| ?_; obtain ⟨x1, G1, H⟩ := bsi H; refine W_mid (fun f w => f 0 = p0 ∧ f 3 = (i64 x1) ∧ f 36 = undef ∧ Ext w0 w) ?_ ?_
  · refine W_block ?_; refine W_loop (fun s1 f w => f 0 = p0 ∧ f 3 = (i64 s1.1) ∧ f 9 = p0 ∧ f 10 = (i64 ((a0slices.length : Int))) ∧ f 11 = (i64 s1.2) ∧ f 36 = undef ∧ Ext w0 w) G1 ?_ ?_
    · exact ⟨rfl, rfl, rfl, rfl, rfl, rfl, hE⟩
    rintro s1 _ _ w2 ⟨s0_2, s3_2, s9_2, s10_2, s11_2, s36_2, hE2⟩ H1 hr1; refine W_seq <| W_rg <| wa rfl (q_ltI rfl s11_2 s10_2) <| wnt <| W_seq <| ?_; refine W_cond _ rfl rfl (fun hb3 => ?_) (fun hb3 => ?_)
    · replace H1 := ifp hb3 H1; refine W_skip <| W_th <| W_seq <| W_block <| W_seq <| W_rg <| ?_; obtain ⟨c4, hc4, H1⟩ := bsi H1; refine wa rfl (q_adr rfl T28 s9_2 s11_2 (hp0.lift (Lift.ext hE2 _)) hc4) ?_; refine wlq_load rfl rfl rfl T28 rfl hp0 hc4 hE2 (fun v5 ha5 => ?_); refine av v5 rfl rfl <| wnt <| W_seq <| W_rg <| mv (i64 s1.1) rfl s3_2 <| mv v5 rfl rfl <| wa rfl (q_len rfl T22.sl rfl (ha5.lift (Lift.ext hE2 _))) <| wa rfl (q_addI rfl rfl rfl) <| ?_; refine av (i64 ((wI (s1.1 + (c4.length : Int))))) rfl rfl <| wnt <| W_seq <| W_rg <| mv (i64 ((wI (s1.1 + (c4.length : Int))))) rfl rfl <| wa rfl (q_ltI rfl rfl rfl) <| wnt <| ?_; refine W_cond _ rfl rfl (fun hb6 => ?_) (fun hb6 => ?_)
      · replace H1 := ifp hb6 H1; cases H1
      replace H1 := ifn hb6 H1; refine W_skip <| bk_n <| W_th <| W_rg <| wa rfl (q_addI rfl s11_2 rfl) <| mv (i64 ((wI (s1.2 + 1)))) rfl rfl <| wl_nil <| ?_; obtain rfl := osi H1; exact ⟨_, rfl, s0_2, rfl, s9_2, s10_2, rfl, s36_2, hE2⟩
    replace H1 := ifn hb3 H1; refine W_exit <| th_x <| ?_; obtain rfl := osi H1; obtain rfl := hr1 _ rfl; refine th_x <| bk_x <| ?_; exact ⟨s0_2, s3_2, s36_2, hE2⟩
  rintro _ w8 ⟨s0_8, s3_8, s36_8, hE8⟩; refine W_th <| W_seq <| W_rg <| mv (i64 x1) rfl s3_8 <| ?_; obtain ⟨r9, hr9, H⟩ := bsi H; refine wls rfl rfl (stp_call (vs := [(.slice none 0 0), (i64 x1)]) Try.func36 rfl rfl rfl (ar2 rfl rfl) (slices_Grow_calls ([] : List UInt8) x1 (.slice none 0 0) r9 _ rfl hr9) ?_); rintro _ w9 ⟨v9, rfl, x9, n9_0, o9_0⟩; refine ⟨_, rfl, ?_⟩; have o9 : OwK (Sc u8) w9 (v9 :: []) 5 v9 r9 := OwK.scal o9_0 _; have n11 := Nw.ext hE8 n9_0; have e10 := hE8.trans x9; refine av v9 rfl rfl <| wnt <| W_seq <| W_seq <| W_rg <| mv p0 rfl s0_8 <| wa rfl (q_len rfl T28.sl rfl (hp0.lift (Lift.ext e10 _))) <| mv (i64 0) rfl rfl <| ?_; refine wnt ?_; obtain ⟨x12, G12, H⟩ := bsi H; refine W_mid (fun f w => ∃ v6_22 : Value, f 6 = v6_22 ∧ f 36 = undef ∧ Ext w0 w ∧ OwK (Sc u8) w [v6_22] 5 v6_22 x12 ∧ Nw w0 v6_22) ?_ ?_
  · refine W_block ?_; refine W_loop (fun s12 f w => ∃ v6_20 : Value, f 6 = v6_20 ∧ f 25 = p0 ∧ f 26 = (i64 ((a0slices.length : Int))) ∧ f 27 = (i64 s12.2) ∧ f 36 = undef ∧ Ext w0 w ∧ OwK (Sc u8) w [v6_20] 5 v6_20 s12.1 ∧ Nw w0 v6_20) G12 ?_ ?_
    · exact ⟨v9, rfl, rfl, rfl, rfl, s36_8, e10, o9, n11⟩
    rintro s12 _ _ w13 ⟨v6_13, s6_13, s25_13, s26_13, s27_13, s36_13, hE13, o0_13, n0_13⟩ H12 hr12; refine W_seq <| W_rg <| wa rfl (q_ltI rfl s27_13 s26_13) <| wnt <| W_seq <| ?_; refine W_cond _ rfl rfl (fun hb14 => ?_) (fun hb14 => ?_)
    · replace H12 := ifp hb14 H12; refine W_skip <| W_th <| W_seq <| W_block <| W_seq <| W_rg <| ?_; obtain ⟨c15, hc15, H12⟩ := bsi H12; refine wa rfl (q_adr rfl T28 s25_13 s27_13 (hp0.lift (Lift.ext hE13 _)) hc15) ?_; refine wlq_load rfl rfl rfl T28 rfl hp0 hc15 hE13 (fun v16 ha16 => ?_); refine av v16 rfl rfl <| wnt <| W_rg <| mv v6_13 rfl s6_13 <| mv v16 rfl rfl <| ?_; obtain ⟨c17, hc17, H12⟩ := bsi H12; refine wls rfl rfl (stp_append (R := (Sc u8)) (v := v6_13) (u := v16) (Sc.stab _) [] [] rfl T22 rfl rfl o0_13 (ha16.lift (Lift.ext hE13 _)) (fun _ _ h => h) hc17 oc_u8 ?_); intro v17 w17 o17 g17 nx17 l17; have e18 := hE13.grown g17 n0_13; have n19 := Nw.nxt hE13 n0_13 nx17; refine av v17 rfl rfl <| wl_nil <| bk_n <| W_th <| W_rg <| wa rfl (q_addI rfl s27_13 rfl) <| mv (i64 ((wI (s12.2 + 1)))) rfl rfl <| wl_nil <| ?_; obtain rfl := osi H12; exact ⟨_, rfl, v17, rfl, s25_13, s26_13, rfl, s36_13, e18, o17, n19⟩
    replace H12 := ifn hb14 H12; refine W_exit <| th_x <| ?_; obtain rfl := osi H12; obtain rfl := hr12 _ rfl; refine th_x <| bk_x <| ?_; exact ⟨v6_13, s6_13, s36_13, hE13, o0_13, n0_13⟩
  rintro _ w21 ⟨v6_21, s6_21, s36_21, hE21, o0_21, n0_21⟩; refine W_th <| W_seq <| W_rg <| mv v6_21 rfl s6_21 <| av v6_21 rfl rfl <| wnt <| W_ret <| ?_; obtain rfl := osi H; refine rt1 v6_21 rfl rfl rfl s36_21 ?_; exact ⟨v6_21, rfl, hE21, n0_21, (o0_21.weak (Sc.stab _) (fun _ _ => trivial))⟩
end Gk

/- Small laws of lists, rows and numbers. No condition but lengths. -/
namespace Gk
open Gf
theorem idx_co {p : List UInt8} {i : Nat} (h : i < p.length) : idx p (i : Int) = some (co p i) := by rw [idx_nat, co_get h]
theorem subL_nat {α : Type} (l : List α) (a b : Nat) (h1 : a ≤ b) (h2 : b ≤ l.length) : subL l (a : Int) (b : Int) = some ((l.take b).drop a) := by
  unfold subL; rw [if_pos ⟨by omega, by omega, by omega⟩]; simp
theorem wI_add (a b : Nat) (h : a + b < 9223372036854775808) : wI ((a : Int) + (b : Int)) = ((a + b : Nat) : Int) := by rw [wI_of (by omega) (by omega)]; omega
theorem wI_sub (a b : Nat) (h : b ≤ a) (h2 : a < 9223372036854775808) : wI ((a : Int) - (b : Int)) = ((a - b : Nat) : Int) := by rw [wI_of (by omega) (by omega)]; omega
theorem wI_pred (a : Nat) (h : 1 ≤ a) (h2 : a < 9223372036854775808) : wI ((a : Int) - 1) = ((a - 1 : Nat) : Int) := by rw [wI_of (by omega) (by omega)]; omega
theorem h257 : (257 : Nat) ≤ most := by decide
theorem most_lt' : most < 9223372036854775000 := by decide
theorem eq_of_co {p q : List UInt8} (hl : p.length = q.length) (h : ∀ i, co p i = co q i) : p = q := by
  apply List.ext_getElem hl
  intro i h1 h2
  have := h i
  rwa [co_lt h1, co_lt h2] at this
theorem co_sumL (a : List UInt8) (c : UInt8) (b : List UInt8) (i : Nat) : co (sumL a c b) i = if i < a.length then co a i ^^^ mul c (co b i) else 0 := by
  simp only [co, sumL, List.getD_eq_getElem?_getD, List.getElem?_mapIdx]
  by_cases h : i < a.length
  · simp [h]
  · simp [h, List.getElem?_eq_none (show a.length ≤ i by omega)]
theorem copyL_len {α : Type} (l : List α) (off : Nat) (m : List α) (h : off ≤ l.length) : (copyL l (off : Int) m).length = l.length := by
  simp only [copyL, Int.toNat_natCast, List.length_append, List.length_take, List.length_drop]; omega
theorem co_copyL (l : List UInt8) (off : Nat) (m : List UInt8) (h : off + m.length ≤ l.length) (j : Nat) : co (copyL l (off : Int) m) j = if off ≤ j ∧ j < off + m.length then co m (j - off) else co l j := by
  have e1 : m.take (l.length - off) = m := List.take_of_length_le (by omega)
  have e2 : min m.length (l.length - off) = m.length := by omega
  simp only [copyL, Int.toNat_natCast, e1, e2, co, List.getD_eq_getElem?_getD, List.getElem?_append, List.length_take, List.getElem?_take, List.getElem?_drop]
  by_cases h1 : j < off
  · rw [if_pos (by omega), if_pos (by omega), if_neg (by omega)]
  · rw [if_neg (by omega), show j - min off l.length = j - off by omega]
    by_cases h2 : j < off + m.length
    · rw [if_pos (by omega), if_pos ⟨by omega, h2⟩]
    · rw [if_neg (by omega), if_neg (by omega)]
      congr 2; omega
theorem co_take (p : List UInt8) (n i : Nat) : co (p.take n) i = if i < n then co p i else 0 := by
  simp only [co, List.getD_eq_getElem?_getD, List.getElem?_take]; split <;> simp
theorem co_drop (p : List UInt8) (n i : Nat) : co (p.drop n) i = co p (n + i) := by
  simp only [co, List.getD_eq_getElem?_getD, List.getElem?_drop]
theorem take_snoc {p : List UInt8} {i : Nat} (h : i < p.length) : p.take (i + 1) = p.take i ++ [co p i] := by
  rw [List.take_add_one, co_get h]; rfl
theorem co_tab (n : Nat) (f : Nat → UInt8) (i : Nat) : co ((List.range n).map f) i = if i < n then f i else 0 := by
  simp only [co, List.getD_eq_getElem?_getD, List.getElem?_map]
  by_cases h : i < n
  · simp [h]
  · rw [List.getElem?_eq_none (by simpa using h), if_neg h]; rfl
theorem anyO_all {α : Type} (t : α → Option Bool) (b : α → Bool) : ∀ l : List α, (∀ x ∈ l, t x = some (b x)) → anyO t l = some (l.any b)
  | [], _ => rfl
  | x :: l, h => by
    unfold anyO
    rw [h x (by simp), obs, anyO_all t b l (fun y hy => h y (by simp [hy])), List.any_cons]
    cases b x <;> rfl
theorem getD_get {l : List (List UInt8)} {k : Nat} (h : k < l.length) : l[k]? = some (l.getD k []) := by simp [List.getD_eq_getElem?_getD, h]
theorem getD_mem {l : List (List UInt8)} {k : Nat} (h : k < l.length) : l.getD k [] ∈ l := List.mem_of_getElem? (getD_get h)
theorem idx_getD {l : List (List UInt8)} {k : Nat} (h : k < l.length) : idx l (k : Int) = some (l.getD k []) := by rw [idx_nat, getD_get h]
theorem getD_set {l : List (List UInt8)} {j : Nat} (h : j < l.length) (r : List UInt8) (i : Nat) : (l.set j r).getD i [] = if i = j then r else l.getD i [] := by
  simp only [List.getD_eq_getElem?_getD, List.getElem?_set]
  by_cases hij : j = i
  · subst hij; simp [h]
  · simp [hij, Ne.symm hij]
theorem getD_rep {n i : Nat} (r : List UInt8) (h : i < n) : (List.replicate n r).getD i [] = r := by simp [List.getD_eq_getElem?_getD, h]
theorem getD_tab (n : Nat) (f : Nat → List UInt8) (i : Nat) (h : i < n) : ((List.range n).map f).getD i [] = f i := by simp [List.getD_eq_getElem?_getD, h]
theorem rows_ext {a b : List (List UInt8)} (hl : a.length = b.length) (h : ∀ i, i < a.length → a.getD i [] = b.getD i []) : a = b := by
  apply List.ext_getElem hl
  intro i h1 h2
  have := h i h1
  simpa [List.getD_eq_getElem?_getD, h1, h2] using this
theorem rows_snoc {l : List (List UInt8)} {i : Nat} (h : i < l.length) : l.take (i + 1) = l.take i ++ [l.getD i []] := by
  rw [List.take_add_one, getD_get h]; rfl
theorem appL_ok {α : Type} (a b : List α) (h : a.length + b.length ≤ most) (hb : b.length = 1) : appL a b = some (a ++ b) := by
  unfold appL; rw [if_pos (by omega)]
theorem mem_getD {l : List (List UInt8)} {r : List UInt8} (h : r ∈ l) : ∃ i, i < l.length ∧ l.getD i [] = r := by
  obtain ⟨i, hi, rfl⟩ := List.getElem_of_mem h
  exact ⟨i, hi, by simp [List.getD_eq_getElem?_getD, hi]⟩
def updB (row : List UInt8) (f : Nat → UInt8) (k : Nat) : List UInt8 := (List.range row.length).map fun j => if j < k then f j else co row j
theorem updB_len (row : List UInt8) (f : Nat → UInt8) (k : Nat) : (updB row f k).length = row.length := by simp [updB]
theorem co_updB (row : List UInt8) (f : Nat → UInt8) (k i : Nat) (h : i < row.length) : co (updB row f k) i = if i < k then f i else co row i := by
  unfold updB; rw [co_tab, if_pos h]
theorem updB_zero (row : List UInt8) (f : Nat → UInt8) : updB row f 0 = row := eq_of_co (updB_len _ _ _) fun i => by
  by_cases h : i < row.length
  · rw [co_updB _ _ _ _ h, if_neg (by omega)]
  · rw [co_ge (by rw [updB_len]; omega), co_ge (by omega)]
theorem updB_succ (row : List UInt8) (f : Nat → UInt8) (k : Nat) (h : k < row.length) : (updB row f k).set k (f k) = updB row f (k + 1) := eq_of_co (by simp [updB_len]) fun i => by
  rw [co_set (by rw [updB_len]; omega)]
  by_cases hi : i < row.length
  · rw [co_updB _ _ _ _ hi, co_updB _ _ _ _ hi]
    by_cases hik : i = k
    · rw [if_pos hik, if_pos (by omega), hik]
    · rw [if_neg hik]
      by_cases h2 : i < k
      · rw [if_pos h2, if_pos (by omega)]
      · rw [if_neg h2, if_neg (by omega)]
  · rw [if_neg (by omega), co_ge (by rw [updB_len]; omega), co_ge (by rw [updB_len]; omega)]
theorem updB_end (row : List UInt8) (f : Nat → UInt8) : updB row f row.length = (List.range row.length).map f := by
  unfold updB; exact List.map_congr_left fun j hj => by rw [if_pos (List.mem_range.1 hj)]
theorem idx_updB (row : List UInt8) (f : Nat → UInt8) (k i : Nat) (h : i < row.length) : idx (updB row f k) (i : Int) = some (if i < k then f i else co row i) := by
  rw [idx_co (by rw [updB_len]; exact h), co_updB _ _ _ _ h]
def updR (l : List (List UInt8)) (F : Nat → List UInt8) (i : Nat) : List (List UInt8) := (List.range l.length).map fun j => if j < i then F j else l.getD j []
theorem updR_len (l : List (List UInt8)) (F : Nat → List UInt8) (i : Nat) : (updR l F i).length = l.length := by simp [updR]
theorem getD_updR (l : List (List UInt8)) (F : Nat → List UInt8) (i j : Nat) (h : j < l.length) : (updR l F i).getD j [] = if j < i then F j else l.getD j [] := by
  unfold updR; rw [getD_tab _ _ _ h]
theorem updR_zero (l : List (List UInt8)) (F : Nat → List UInt8) : updR l F 0 = l := rows_ext (updR_len _ _ _) fun i h => by
  rw [updR_len] at h
  rw [getD_updR _ _ _ _ h, if_neg (by omega)]
theorem updR_succ (l : List (List UInt8)) (F : Nat → List UInt8) (k : Nat) (h : k < l.length) : (updR l F k).set k (F k) = updR l F (k + 1) := rows_ext (by simp [updR_len]) fun i hi => by
  rw [List.length_set, updR_len] at hi
  rw [getD_set (by rw [updR_len]; omega), getD_updR _ _ _ _ hi, getD_updR _ _ _ _ hi]
  by_cases hik : i = k
  · rw [if_pos hik, if_pos (by omega), hik]
  · rw [if_neg hik]
    by_cases h2 : i < k
    · rw [if_pos h2, if_pos (by omega)]
    · rw [if_neg h2, if_neg (by omega)]
theorem updR_end (l : List (List UInt8)) (F : Nat → List UInt8) : updR l F l.length = (List.range l.length).map F := by
  unfold updR; exact List.map_congr_left fun j hj => by rw [if_pos (List.mem_range.1 hj)]
theorem set_getD (l : List (List UInt8)) (i : Nat) : l.set i (l.getD i []) = l := by
  by_cases h : i < l.length
  · refine rows_ext (by simp) fun j hj => ?_
    rw [getD_set h]
    by_cases e : j = i
    · rw [if_pos e, e]
    · rw [if_neg e]
  · exact List.set_eq_of_length_le (by omega)
theorem idx_set {l : List (List UInt8)} {i : Nat} (h : i < l.length) (r : List UInt8) : idx (l.set i r) (i : Int) = some r := by
  rw [idx_getD (by simpa using h), getD_set h, if_pos rfl]
theorem rows_loop {body : List (List UInt8) × Int → Option ((List (List UInt8) × Int) ⊕ List (List UInt8))} (l : List (List UInt8)) (n : Nat) (hn : l.length = n) (F : Nat → List UInt8)
    (hs : ∀ i, i < n → body (updR l F i, (i : Int)) = some (.inl ((updR l F i).set i (F i), ((i + 1 : Nat) : Int))))
    (he : ∀ s, body (s, (n : Int)) = some (.inr s)) : iterC body (l, 0) = some ((List.range n).map F) := by
  refine iterC_count (fun i => (updR l F i, (i : Int))) n _ ?_ ?_ ?_
  · rw [updR_zero]; rfl
  · intro k hk
    rw [hs k hk, updR_succ _ _ _ (by omega)]
  · rw [he, ← hn, updR_end]
theorem flat_take_le (l : List (List UInt8)) (i : Nat) : (l.take i).flatten.length ≤ l.flatten.length := by
  have h := congrArg List.length (congrArg List.flatten (List.take_append_drop i l))
  rw [List.flatten_append, List.length_append] at h
  omega
theorem Concat_eq (l : List (List UInt8)) (h : l.flatten.length ≤ most) (hl : l.length ≤ most) : slices_Concat_sbytebyte l = some l.flatten := by
  unfold slices_Concat_sbytebyte
  have hmo := most_lt'
  refine bind_of (iterC_count (fun i => (((l.take i).flatten.length : Int), (i : Int))) l.length (l.flatten.length : Int) (by simp) ?_ (by simp)) ?_
  · intro i hi
    have h1 := flat_take_le l (i + 1)
    have e : (l.take (i + 1)).flatten.length = (l.take i).flatten.length + (l.getD i []).length := by rw [rows_snoc hi, List.flatten_append, List.length_append]; simp
    simp only
    rw [if_pos (by omega), idx_getD hi, obs, wI_add _ _ (by omega), if_neg (by omega), wI_succ i (by omega), e]
  · unfold slices_Grow
    rw [if_pos (by omega), obs]
    refine bind_of (iterC_count (fun i => ((l.take i).flatten, (i : Int))) l.length l.flatten (by simp) ?_ (by simp)) rfl
    intro i hi
    have h1 := flat_take_le l (i + 1)
    have e : (l.take (i + 1)).flatten = (l.take i).flatten ++ l.getD i [] := by rw [rows_snoc hi, List.flatten_append]; simp
    have e2 := congrArg List.length e
    rw [List.length_append] at e2
    simp only
    rw [if_pos (by omega), idx_getD hi, obs]
    unfold appL
    rw [if_pos (by omega), obs, wI_succ i (by omega), e]
end Gk

/- slices.Backward over bytes: what it hands back, and its iterator's contract. No condition. -/
namespace Gk
open Go Go.Proofs Go.RowKit
end Gk

/- poly.Degree walks: the place of the last number that is not 0. No condition but the length. -/
namespace Gk
open Go Go.Proofs Go.RowKit
end Gk

/- slices.Clone walks, over bytes and over numbers. No condition but the length. -/
namespace Gk
open Go Go.Proofs
def slices_Clone_sbytebyte (a0 : List UInt8) : Option (List UInt8) := appL [] a0
theorem slices_Clone_sbytebyte_calls (a0 : List UInt8) (p0 : Value) (r : List UInt8) (w0 : World) (hp0 : By w0 [] p0 a0) (H : slices_Clone_sbytebyte a0 = some r) :
    Calls Try.prog 35 [p0].toArray w0 (fun e w' => ∃ u0 : Value, e = .returned u0 ∧ Ext w0 w' ∧ Nw w0 u0 ∧ OwK (Sc u8) w' [] 5 u0 r) := by
  unfold slices_Clone_sbytebyte at H; have hE : Ext w0 w0 := Ext.refl w0; obtain ⟨pp, cap, rfl, hcap⟩ := SlK.shape hp0; refine calls_W (n := 8) Try.func35 rfl rfl rfl ?_; refine W_seq <| W_rg <| av (.slice none 0 0) rfl rfl <| wnt <| W_seq <| W_seq <| W_rg <| mv (.slice pp a0.length cap) rfl rfl <| ?_; refine wa rfl (q_eqSl rfl T22.sl rfl rfl) <| wnt <| ?_; refine W_cond _ rfl rfl (fun hb => ?_) (fun hb => ?_)
  · have h0 : a0 = [] := by
      obtain ⟨us, ⟨p, cap', hv, _, hne⟩, hl, _⟩ := hp0; cases us with
      | nil => exact List.eq_nil_of_length_eq_zero hl.symm
      | cons u us =>
        obtain ⟨b, off, rfl, _⟩ := hne (by simp); simp only [Value.slice.injEq] at hv; rw [hv.1] at hb; cases hb
    subst h0
    obtain rfl : r = [] := by simpa [appL] using H.symm
    refine W_seq <| W_rg <| av (.slice none 0 0) rfl rfl <| wnt <| W_ret <| ?_; refine rt1 (.slice none 0 0) rfl rfl rfl rfl ?_; exact ⟨_, rfl, hE, Nw.nil _, OwK.nil _ _ _ _⟩
  refine W_skip <| W_th <| W_seq <| W_rg <| ?_; refine wls rfl rfl (stp_lit (L := []) (R := (Sc u8)) [] ([] : List UInt8) rfl T22 rfl (by exact trivial) rfl (litC u8 oneC_u8 (us := []) (l := ([] : List UInt8)) rfl) rfl (litS u8 (us := []) (l := ([] : List UInt8)) rfl) ?_); intro v1 w1 o1 n1 g1 l1; have e1 := hE.trans (grown_ext g1); refine mv (.slice pp a0.length cap) rfl rfl ?_; refine wls rfl rfl (stp_append (R := (Sc u8)) (v := v1) (u := .slice pp a0.length cap) (Sc.stab _) [] [] rfl T22 rfl rfl o1 (hp0.lift (Lift.ext e1 _)) (fun _ _ h => h) H oc_u8 ?_); intro v2 w2 o2 g2 nx2 l2; refine av v2 rfl rfl <| wnt <| W_ret <| ?_; refine rt1 v2 rfl rfl rfl rfl ?_; exact ⟨v2, rfl, e1.grown g2 n1, Nw.nxt e1 n1 nx2, o2.weak (Sc.stab _) (fun _ _ => trivial)⟩
end Gk

/- Printed by gen.py: for each Go function a pure function, and that the Go code comes to it. No condition beside the equation that says what the pure function gives. -/
namespace Gk
open Go Go.Proofs
end Gk

/- Printed by gen.py: for each Go function a pure function, and that the Go code comes to it. No condition beside the equation that says what the pure function gives. -/
namespace Gk
open Go Go.Proofs
noncomputable def poly_check (a0f : Bool) (a1xs : List UInt8) : Option Int :=
((iterC (fun s4 : (List (UInt8 × Bool)) × Int =>
(if s4.2 < (a1xs.length : Int) then
((idx a1xs s4.2).bind fun c7 => some (.inl ((mput s4.1 c7 true), (wI (s4.2 + 1)))))
else some (.inr s4.1))) (([] : List (UInt8 × Bool)), 0)).bind fun x4 =>
(if (!a0f) = true then some 1
else
(if (a1xs.length : Int) = 0 then some 5
else
(if 255 < (a1xs.length : Int) then some 4
else
(if (x4.length : Int) = (a1xs.length : Int) then some 0
else some 6)))))
theorem poly_check_calls (a0f : Bool) (a1xs : List UInt8) (p0 : Value) (p1 : Value) (r : Int) (w0 : World) (hp0 : Fd w0 [] p0 a0f) (hp1 : By w0 [] p1 a1xs) (H : poly_check a0f a1xs = some r) :
    Calls Try.prog 91 [p0, p1].toArray w0 (fun e w' => e = .returned (i64 r) ∧ Ext w0 w') := by
  have hE : Ext w0 w0 := Ext.refl w0; unfold poly_check at H; refine calls_W (n := 35) Try.func91 rfl rfl rfl ?_; refine W_seq <| W_rg <| av (i64 0) rfl rfl <| wnt <| W_seq <| W_rg <| ?_; refine wls rfl rfl (stp_makeMap [] rfl ?_); intro g1 w1 o1 n1 g1r l1; have x1 := grown_ext g1r; have n3 := Nw.ext hE n1; have e2 := hE.trans x1; refine av (mp g1) rfl rfl <| wnt <| W_seq <| W_seq <| W_rg <| mv p1 rfl rfl <| wa rfl (q_len rfl T22.sl rfl (hp1.lift (Lift.ext e2 _))) <| mv (i64 0) rfl rfl <| ?_; refine wnt ?_; obtain ⟨x4, G4, H⟩ := bsi H; refine W_mid (fun f w => f 0 = p0 ∧ f 1 = p1 ∧ f 5 = (mp g1) ∧ f 35 = undef ∧ Ext w0 w ∧ Mp w g1 x4 ∧ Nw w0 (mp g1)) ?_ ?_
  · refine W_block ?_; refine W_loop (fun s4 f w => f 0 = p0 ∧ f 1 = p1 ∧ f 5 = (mp g1) ∧ f 9 = p1 ∧ f 10 = (i64 ((a1xs.length : Int))) ∧ f 11 = (i64 s4.2) ∧ f 35 = undef ∧ Ext w0 w ∧ Mp w g1 s4.1 ∧ Nw w0 (mp g1)) G4 ?_ ?_
    · exact ⟨rfl, rfl, rfl, rfl, rfl, rfl, rfl, e2, o1, n3⟩
    rintro s4 _ _ w5 ⟨s0_5, s1_5, s5_5, s9_5, s10_5, s11_5, s35_5, hE5, o0_5, n0_5⟩ H4 hr4; refine W_seq <| W_rg <| wa rfl (q_ltI rfl s11_5 s10_5) <| wnt <| W_seq <| ?_; refine W_cond _ rfl rfl (fun hb6 => ?_) (fun hb6 => ?_)
    · replace H4 := ifp hb6 H4; refine W_skip <| W_th <| W_seq <| W_block <| W_seq <| W_rg <| ?_; obtain ⟨c7, hc7, H4⟩ := bsi H4; refine wa rfl (q_adr rfl T22 s9_5 s11_5 (hp1.lift (Lift.ext hE5 _)) hc7) <| wq rfl (q_loadS rfl T22 rfl (hp1.lift (Lift.ext hE5 _)) hc7) <| av (u8 c7) rfl rfl <| wnt <| W_rg <| mv (mp g1) rfl s5_5 <| mv (u8 c7) rfl rfl <| ?_; refine wln rfl rfl (stp_mapUpdate [] [] (.inl rfl) Try.underlying128 Try.underlying5 rfl rfl rfl o0_5 ?_); intro w8 o8 g8 l8; have e9 := hE5.grown g8 n0_5; refine wl_nil <| bk_n <| W_th <| W_rg <| wa rfl (q_addI rfl s11_5 rfl) <| mv (i64 ((wI (s4.2 + 1)))) rfl rfl <| wl_nil <| ?_; obtain rfl := osi H4; exact ⟨_, rfl, s0_5, s1_5, s5_5, s9_5, s10_5, rfl, s35_5, e9, o8, n0_5⟩
    replace H4 := ifn hb6 H4; refine W_exit <| th_x <| ?_; obtain rfl := osi H4; obtain rfl := hr4 _ rfl; refine th_x <| bk_x <| ?_; exact ⟨s0_5, s1_5, s5_5, s35_5, hE5, o0_5, n0_5⟩
  rintro _ w11 ⟨s0_11, s1_11, s5_11, s35_11, hE11, o0_11, n0_11⟩; refine W_th <| W_seq <| W_block <| W_seq <| W_rg <| mv p0 rfl s0_11 <| wa rfl (q_eqF rfl rfl rfl rfl (hp0.lift (Lift.ext hE11 _))) <| av (.bool ((!a0f))) rfl rfl <| ?_; refine wnt ?_; refine W_cond _ rfl rfl (fun hb12 => ?_) (fun hb12 => ?_)
  · replace H := (if_pos hb12).symm.trans H; refine W_seq <| W_rg <| av (i64 1) rfl rfl <| wnt <| W_ret <| bk_r <| th_r <| ?_; obtain rfl := osi H; refine rt1 (i64 1) rfl rfl rfl s35_11 ?_; exact ⟨rfl, hE11⟩
  replace H := (if_neg (ne_true_of_eq_false hb12)).symm.trans H; refine W_seq <| W_rg <| mv p1 rfl s1_11 <| wa rfl (q_len rfl T22.sl rfl (hp1.lift (Lift.ext hE11 _))) <| wa rfl (q_eqI rfl rfl rfl) <| av (.bool ((decide ((a1xs.length : Int) = 0)))) rfl rfl <| wnt <| ?_; refine W_cond _ rfl rfl (fun hb13 => ?_) (fun hb13 => ?_)
  · replace H := ifp hb13 H; refine W_seq <| W_rg <| av (i64 5) rfl rfl <| wnt <| W_ret <| bk_r <| th_r <| ?_; obtain rfl := osi H; refine rt1 (i64 5) rfl rfl rfl s35_11 ?_; exact ⟨rfl, hE11⟩
  replace H := ifn hb13 H; refine W_seq <| W_rg <| mv p1 rfl s1_11 <| wa rfl (q_len rfl T22.sl rfl (hp1.lift (Lift.ext hE11 _))) <| wa rfl (q_gtI rfl rfl rfl) <| av (.bool ((decide (255 < (a1xs.length : Int))))) rfl rfl <| wnt <| ?_; refine W_cond _ rfl rfl (fun hb14 => ?_) (fun hb14 => ?_)
  · replace H := ifp hb14 H; refine W_seq <| W_rg <| av (i64 4) rfl rfl <| wnt <| W_ret <| bk_r <| th_r <| ?_; obtain rfl := osi H; refine rt1 (i64 4) rfl rfl rfl s35_11 ?_; exact ⟨rfl, hE11⟩
  replace H := ifn hb14 H; refine W_seq <| W_rg <| mv (mp g1) rfl s5_11 <| wq rfl (q_lenMap rfl Try.underlying128 rfl o0_11) <| mv p1 rfl s1_11 <| wa rfl (q_len rfl T22.sl rfl (hp1.lift (Lift.ext hE11 _))) <| wa rfl (q_neI rfl rfl rfl) <| av (.bool ((!decide ((x4.length : Int) = (a1xs.length : Int))))) rfl rfl <| ?_; refine wnt ?_; refine W_cond _ rfl rfl (fun hb15 => ?_) (fun hb15 => ?_)
  · replace H := (if_neg (ndec_t hb15)).symm.trans H; refine W_seq <| W_rg <| av (i64 6) rfl rfl <| wnt <| W_ret <| bk_r <| th_r <| ?_; obtain rfl := osi H; refine rt1 (i64 6) rfl rfl rfl s35_11 ?_; exact ⟨rfl, hE11⟩
  replace H := (if_pos (ndec_f hb15)).symm.trans H; refine W_skip <| bk_n <| W_th <| W_seq <| W_rg <| av (i64 0) rfl rfl <| wnt <| W_ret <| ?_; obtain rfl := osi H; refine rt1 (i64 0) rfl rfl rfl s35_11 ?_; exact ⟨rfl, hE11⟩
noncomputable def poly_Weights (a0f : Bool) (a1xs : List UInt8) (a2x : UInt8) : Option (List UInt8 × Int) :=
((poly_check a0f a1xs).bind fun r1 =>
(if r1 = 0 then
((makeL ((a1xs.length : Int)) (0 : UInt8)).bind fun c4 =>
((iterC (fun s7 : List UInt8 × Int =>
(if s7.2 < (a1xs.length : Int) then
((idx a1xs s7.2).bind fun c10 =>
((iterC (fun s11 : UInt8 × UInt8 × Int =>
(if s11.2.2 < (a1xs.length : Int) then
((idx a1xs s11.2.2).bind fun c14 =>
(if s11.2.2 = s7.2 then some (.inl (s11.1, s11.2.1, (wI (s11.2.2 + 1))))
else
((field_Add a2x c14).bind fun r16 =>
((field_Mul a0f s11.1 r16).bind fun r18 =>
((field_Add c10 c14).bind fun r20 =>
((field_Mul a0f s11.2.1 r20).bind fun r22 => some (.inl (r18, r22, (wI (s11.2.2 + 1))))))))))
else some (.inr (s11.1, s11.2.1)))) ((1 : UInt8), (1 : UInt8), 0)).bind fun x11 =>
((field_Div a0f x11.1 x11.2).bind fun r26 =>
((idx s7.1 s7.2).bind fun c28 => some (.inl ((s7.1.set (s7.2 : Int).toNat r26.1), (wI (s7.2 + 1))))))))
else some (.inr s7.1))) (c4, 0)).bind fun x7 => some (x7, 0)))
else some (([] : List UInt8), r1)))
theorem poly_Weights_calls (a0f : Bool) (a1xs : List UInt8) (a2x : UInt8) (p0 : Value) (p1 : Value) (r : List UInt8 × Int) (w0 : World) (hp0 : Fd w0 [] p0 a0f) (hp1 : By w0 [] p1 a1xs) (H : poly_Weights a0f a1xs a2x = some r) :
    Calls Try.prog 81 [p0, p1, (u8 a2x)].toArray w0 (fun e w' => ∃ u0 : Value, e = .returned (.tuple #[u0, (i64 r.2)]) ∧ Ext w0 w' ∧ Nw w0 u0 ∧ OwK (Sc u8) w' [] 5 u0 r.1) := by
  have hE : Ext w0 w0 := Ext.refl w0; unfold poly_Weights at H; refine calls_W (n := 67) Try.func81 rfl rfl rfl ?_; refine W_seq <| W_rg <| av (.slice none 0 0) rfl rfl <| av (i64 0) rfl rfl <| wnt <| W_seq <| W_seq <| W_rg <| ?_; refine mv p0 rfl rfl <| mv p1 rfl rfl <| ?_; obtain ⟨r1, hr1, H⟩ := bsi H; refine wls rfl rfl (stp_call (vs := [p0, p1]) Try.func91 rfl rfl rfl (ar2 rfl rfl) (poly_check_calls a0f a1xs p0 p1 r1 _ (hp0.lift (Lift.ext hE _)) (hp1.lift (Lift.ext hE _)) hr1) ?_); rintro _ w1 ⟨rfl, x1⟩; refine ⟨_, rfl, ?_⟩; have e2 := hE.trans x1; refine av (i64 r1) rfl rfl <| wnt <| W_seq <| W_rg <| mv (i64 r1) rfl rfl <| wa rfl (q_neI rfl rfl rfl) <| wnt <| ?_; refine W_cond _ rfl rfl (fun hb3 => ?_) (fun hb3 => ?_)
  · replace H := (if_neg (ndec_t hb3)).symm.trans H; refine W_seq <| W_rg <| mv (i64 r1) rfl rfl <| av (.slice none 0 0) rfl rfl <| av (i64 r1) rfl rfl <| wnt <| W_ret <| th_r <| ?_; obtain rfl := osi H; refine rt2 (.slice none 0 0) (i64 r1) rfl rfl rfl rfl rfl rfl ?_; exact ⟨(.slice none 0 0), rfl, e2, Nw.nil _, (OwK.nil _ _ _ _)⟩
  replace H := (if_pos (ndec_f hb3)).symm.trans H; refine W_skip <| W_th <| W_seq <| W_rg <| mv p1 rfl rfl <| wa rfl (q_len rfl T22.sl rfl (hp1.lift (Lift.ext e2 _))) <| ?_; obtain ⟨c4, hc4, H⟩ := bsi H; refine wls rfl rfl (stp_make (L := []) (R := (Sc u8)) rfl T22 rfl rfl hc4 (fun _ _ => rfl) ?_); intro v4 w4 o4 n4 g4 l4; have x4 := grown_ext g4; have n6 := Nw.ext e2 n4; have e5 := e2.trans x4; refine av v4 rfl rfl <| wnt <| W_seq <| W_seq <| W_rg <| mv p1 rfl rfl <| wa rfl (q_len rfl T22.sl rfl (hp1.lift (Lift.ext e5 _))) <| mv (i64 0) rfl rfl <| ?_; refine wnt ?_; obtain ⟨x7, G7, H⟩ := bsi H; refine W_mid (fun f w => f 9 = v4 ∧ f 67 = undef ∧ Ext w0 w ∧ OwK (Sc u8) w [v4] 5 v4 x7 ∧ Nw w0 v4) ?_ ?_
  · refine W_block ?_; refine W_loop (fun s7 f w => f 0 = p0 ∧ f 1 = p1 ∧ f 2 = (u8 a2x) ∧ f 9 = v4 ∧ f 25 = p1 ∧ f 26 = (i64 ((a1xs.length : Int))) ∧ f 27 = (i64 s7.2) ∧ f 67 = undef ∧ Ext w0 w ∧ OwK (Sc u8) w [v4] 5 v4 s7.1 ∧ Nw w0 v4) G7 ?_ ?_
    · exact ⟨rfl, rfl, rfl, rfl, rfl, rfl, rfl, rfl, e5, o4, n6⟩
    rintro s7 _ _ w8 ⟨s0_8, s1_8, s2_8, s9_8, s25_8, s26_8, s27_8, s67_8, hE8, o0_8, n0_8⟩ H7 hr7; refine W_seq <| W_rg <| wa rfl (q_ltI rfl s27_8 s26_8) <| wnt <| W_seq <| ?_; refine W_cond _ rfl rfl (fun hb9 => ?_) (fun hb9 => ?_)
    · replace H7 := ifp hb9 H7; refine W_skip <| W_th <| W_seq <| W_block <| W_seq <| W_rg <| mv (i64 s7.2) rfl s27_8 <| ?_; obtain ⟨c10, hc10, H7⟩ := bsi H7; refine wa rfl (q_adr rfl T22 s25_8 s27_8 (hp1.lift (Lift.ext hE8 _)) hc10) <| wq rfl (q_loadS rfl T22 rfl (hp1.lift (Lift.ext hE8 _)) hc10) <| av (i64 s7.2) rfl rfl <| av (u8 c10) rfl rfl <| wnt <| W_seq <| W_rg <| av (u8 1) rfl (cst8 (1 : UInt8) rfl) <| ?_; refine av (u8 1) rfl (cst8 (1 : UInt8) rfl) <| wnt <| W_seq <| W_seq <| W_rg <| mv p1 rfl s1_8 <| wa rfl (q_len rfl T22.sl rfl (hp1.lift (Lift.ext hE8 _))) <| mv (i64 0) rfl rfl <| ?_; refine wnt ?_; obtain ⟨x11, G11, H7⟩ := bsi H7; refine W_mid (fun f w => f 0 = p0 ∧ f 1 = p1 ∧ f 2 = (u8 a2x) ∧ f 9 = v4 ∧ f 10 = (i64 s7.2) ∧ f 12 = (u8 x11.1) ∧ f 13 = (u8 x11.2) ∧ f 25 = p1 ∧ f 26 = (i64 ((a1xs.length : Int))) ∧ f 27 = (i64 s7.2) ∧ f 67 = undef ∧ Ext w0 w ∧ OwK (Sc u8) w [v4] 5 v4 s7.1 ∧ Nw w0 v4) ?_ ?_
      · refine W_block ?_; refine W_loop (fun s11 f w => f 0 = p0 ∧ f 1 = p1 ∧ f 2 = (u8 a2x) ∧ f 9 = v4 ∧ f 10 = (i64 s7.2) ∧ f 11 = (u8 c10) ∧ f 12 = (u8 s11.1) ∧ f 13 = (u8 s11.2.1) ∧ f 25 = p1 ∧ f 26 = (i64 ((a1xs.length : Int))) ∧ f 27 = (i64 s7.2) ∧ f 32 = p1 ∧ f 33 = (i64 ((a1xs.length : Int))) ∧ f 34 = (i64 s11.2.2) ∧ f 67 = undef ∧ Ext w0 w ∧ OwK (Sc u8) w [v4] 5 v4 s7.1 ∧ Nw w0 v4) G11 ?_ ?_
        · exact ⟨s0_8, s1_8, s2_8, s9_8, rfl, rfl, rfl, rfl, s25_8, s26_8, s27_8, rfl, rfl, rfl, s67_8, hE8, o0_8, n0_8⟩
        rintro s11 _ _ w12 ⟨s0_12, s1_12, s2_12, s9_12, s10_12, s11_12, s12_12, s13_12, s25_12, s26_12, s27_12, s32_12, s33_12, s34_12, s67_12, hE12, o0_12, n0_12⟩ H11 hr11; refine W_seq <| W_rg <| wa rfl (q_ltI rfl s34_12 s33_12) <| wnt <| W_seq <| ?_; refine W_cond _ rfl rfl (fun hb13 => ?_) (fun hb13 => ?_)
        · replace H11 := ifp hb13 H11; refine W_skip <| W_th <| W_seq <| W_block <| W_seq <| W_rg <| mv (i64 s11.2.2) rfl s34_12 <| ?_; obtain ⟨c14, hc14, H11⟩ := bsi H11; refine wa rfl (q_adr rfl T22 s32_12 s34_12 (hp1.lift (Lift.ext hE12 _)) hc14) <| wq rfl (q_loadS rfl T22 rfl (hp1.lift (Lift.ext hE12 _)) hc14) <| av (i64 s11.2.2) rfl rfl <| av (u8 c14) rfl rfl <| wnt <| W_seq <| W_rg <| mv (i64 s11.2.2) rfl rfl <| ?_; refine mv (i64 s7.2) rfl s10_12 <| wa rfl (q_neI rfl rfl rfl) <| wnt <| ?_; refine W_cond _ rfl rfl (fun hb15 => ?_) (fun hb15 => ?_)
          · replace H11 := (if_neg (ndec_t hb15)).symm.trans H11; refine W_rg <| mv p0 rfl s0_12 <| mv (u8 s11.1) rfl s12_12 <| mv (u8 a2x) rfl s2_12 <| mv (u8 c14) rfl rfl <| ?_; obtain ⟨r16, hr16, H11⟩ := bsi H11; refine wls rfl rfl (stp_call (vs := [(u8 a2x), (u8 c14)]) Try.func92 rfl rfl rfl (ar2 rfl rfl) (field_Add_calls a2x c14  r16 _  hr16) ?_); rintro _ w16 ⟨rfl, x16⟩; refine ⟨_, rfl, ?_⟩; replace o0_12 := o0_12.extL (Sc.stab _) x16 (Lift.ext x16 _); have e17 := hE12.trans x16; obtain ⟨r18, hr18, H11⟩ := bsi H11; refine wls rfl rfl (stp_call (vs := [p0, (u8 s11.1), (u8 r16)]) Try.func68 rfl rfl rfl (ar3 rfl rfl rfl) (field_Mul_calls a0f s11.1 r16 p0 r18 _ (hp0.lift (Lift.ext e17 _)) hr18) ?_); rintro _ w18 ⟨rfl, x18⟩; refine ⟨_, rfl, ?_⟩; replace o0_12 := o0_12.extL (Sc.stab _) x18 (Lift.ext x18 _); have e19 := e17.trans x18; refine mv p0 rfl s0_12 <| mv (u8 s11.2.1) rfl s13_12 <| mv (u8 c10) rfl s11_12 <| mv (u8 c14) rfl rfl <| ?_; obtain ⟨r20, hr20, H11⟩ := bsi H11; refine wls rfl rfl (stp_call (vs := [(u8 c10), (u8 c14)]) Try.func92 rfl rfl rfl (ar2 rfl rfl) (field_Add_calls c10 c14  r20 _  hr20) ?_); rintro _ w20 ⟨rfl, x20⟩; refine ⟨_, rfl, ?_⟩; replace o0_12 := o0_12.extL (Sc.stab _) x20 (Lift.ext x20 _); have e21 := e19.trans x20; obtain ⟨r22, hr22, H11⟩ := bsi H11; refine wls rfl rfl (stp_call (vs := [p0, (u8 s11.2.1), (u8 r20)]) Try.func68 rfl rfl rfl (ar3 rfl rfl rfl) (field_Mul_calls a0f s11.2.1 r20 p0 r22 _ (hp0.lift (Lift.ext e21 _)) hr22) ?_); rintro _ w22 ⟨rfl, x22⟩; refine ⟨_, rfl, ?_⟩; replace o0_12 := o0_12.extL (Sc.stab _) x22 (Lift.ext x22 _); have e23 := e21.trans x22; refine av (u8 r18) rfl rfl <| av (u8 r22) rfl rfl <| wl_nil <| bk_n <| W_th <| W_rg <| wa rfl (q_addI rfl s34_12 rfl) <| mv (i64 ((wI (s11.2.2 + 1)))) rfl rfl <| ?_; refine wl_nil ?_; obtain rfl := osi H11; exact ⟨_, rfl, s0_12, s1_12, s2_12, s9_12, s10_12, s11_12, rfl, rfl, s25_12, s26_12, s27_12, s32_12, s33_12, rfl, s67_12, e23, o0_12, n0_12⟩
          replace H11 := (if_pos (ndec_f hb15)).symm.trans H11; refine W_skip <| bk_n <| W_th <| W_rg <| wa rfl (q_addI rfl s34_12 rfl) <| mv (i64 ((wI (s11.2.2 + 1)))) rfl rfl <| wl_nil <| ?_; obtain rfl := osi H11; exact ⟨_, rfl, s0_12, s1_12, s2_12, s9_12, s10_12, s11_12, s12_12, s13_12, s25_12, s26_12, s27_12, s32_12, s33_12, rfl, s67_12, hE12, o0_12, n0_12⟩
        replace H11 := ifn hb13 H11; refine W_exit <| th_x <| ?_; obtain rfl := osi H11; obtain rfl := hr11 _ rfl; refine th_x <| bk_x <| ?_; exact ⟨s0_12, s1_12, s2_12, s9_12, s10_12, s12_12, s13_12, s25_12, s26_12, s27_12, s67_12, hE12, o0_12, n0_12⟩
      rintro _ w25 ⟨s0_25, s1_25, s2_25, s9_25, s10_25, s12_25, s13_25, s25_25, s26_25, s27_25, s67_25, hE25, o0_25, n0_25⟩; refine W_th <| W_rg <| mv v4 rfl s9_25 <| mv (i64 s7.2) rfl s10_25 <| mv p0 rfl s0_25 <| mv (u8 x11.1) rfl s12_25 <| mv (u8 x11.2) rfl s13_25 <| ?_; obtain ⟨r26, hr26, H7⟩ := bsi H7; refine wls rfl rfl (stp_call (vs := [p0, (u8 x11.1), (u8 x11.2)]) Try.func93 rfl rfl rfl (ar3 rfl rfl rfl) (field_Div_calls a0f x11.1 x11.2 p0 r26 _ (hp0.lift (Lift.ext hE25 _)) hr26) ?_); rintro _ w26 ⟨rfl, x26⟩; refine ⟨_, rfl, ?_⟩; replace o0_25 := o0_25.extL (Sc.stab _) x26 (Lift.ext x26 _); have e27 := hE25.trans x26; refine mv (.tuple #[(u8 r26.1), (i64 r26.2)]) rfl rfl <| wa rfl (q_extract rfl rfl rfl) <| wa rfl (q_extract rfl rfl rfl) <| ?_; obtain ⟨c28, hc28, H7⟩ := bsi H7; refine wa rfl (q_adr rfl T22 rfl rfl (o0_25.rd (Sc.stab _)) hc28) ?_; refine wln rfl rfl (stp_store (R := (Sc u8)) (u := (u8 r26.1)) (Sc.stab _) [] [] rfl T22 rfl rfl o0_25 (put_of r26.1 hc28) rfl rfl ?_); intro w29 o29 g29 l29; have e30 := e27.grown g29 n0_25; refine wl_nil <| bk_n <| W_th <| W_rg <| wa rfl (q_addI rfl s27_25 rfl) <| mv (i64 ((wI (s7.2 + 1)))) rfl rfl <| wl_nil <| ?_; obtain rfl := osi H7; exact ⟨_, rfl, s0_25, s1_25, s2_25, s9_25, s25_25, s26_25, rfl, s67_25, e30, o29, n0_25⟩
    replace H7 := ifn hb9 H7; refine W_exit <| th_x <| ?_; obtain rfl := osi H7; obtain rfl := hr7 _ rfl; refine th_x <| bk_x <| ?_; exact ⟨s9_8, s67_8, hE8, o0_8, n0_8⟩
  rintro _ w33 ⟨s9_33, s67_33, hE33, o0_33, n0_33⟩; refine W_th <| W_seq <| W_rg <| mv v4 rfl s9_33 <| av v4 rfl rfl <| av (i64 0) rfl rfl <| wnt <| W_ret <| ?_; obtain rfl := osi H; refine rt2 v4 (i64 0) rfl rfl rfl rfl rfl s67_33 ?_; exact ⟨v4, rfl, hE33, n0_33, (o0_33.weak (Sc.stab _) (fun _ _ => trivial))⟩
end Gk

/- Printed by gen.py: for each Go function a pure function, and that the Go code comes to it. No condition beside the equation that says what the pure function gives. -/
namespace Gk
open Go Go.Proofs
noncomputable def slices_Index_sbytebyte (a0s : List UInt8) (a1v : UInt8) : Option Int :=
((iterC (fun s1 : Int =>
(if s1 < (a0s.length : Int) then
((idx a0s s1).bind fun c4 =>
(if a1v = c4 then some (.inr (.inr s1))
else some (.inl (wI (s1 + 1)))))
else some (.inr (.inl ())))) 0).bind (Sum.elim (fun y1 => some (-1)) (fun q1 => some q1)))
theorem slices_Index_sbytebyte_calls (a0s : List UInt8) (a1v : UInt8) (p0 : Value) (r : Int) (w0 : World) (hp0 : By w0 [] p0 a0s) (H : slices_Index_sbytebyte a0s a1v = some r) :
    Calls Try.prog 67 [p0, (u8 a1v)].toArray w0 (fun e w' => e = .returned (i64 r) ∧ Ext w0 w') := by
  have hE : Ext w0 w0 := Ext.refl w0; unfold slices_Index_sbytebyte at H; refine calls_W (n := 19) Try.func67 rfl rfl rfl ?_; refine W_seq <| W_rg <| av (i64 0) rfl rfl <| wnt <| W_seq <| W_seq <| W_rg <| mv p0 rfl rfl <| ?_; refine wa rfl (q_len rfl T22.sl rfl (hp0.lift (Lift.ext hE _))) <| mv (i64 0) rfl rfl <| wnt <| ?_; obtain ⟨x1, G1, H⟩ := bsi H; refine W_mid (fun f w => ∃ y1, x1 = .inl y1 ∧ f 19 = undef ∧ Ext w0 w) ?_ ?_
  · refine W_block ?_; refine W_loop (fun s1 f w => f 0 = p0 ∧ f 1 = (u8 a1v) ∧ f 7 = (i64 ((a0s.length : Int))) ∧ f 8 = (i64 s1) ∧ f 19 = undef ∧ Ext w0 w) G1 ?_ ?_
    · exact ⟨rfl, rfl, rfl, rfl, rfl, hE⟩
    rintro s1 _ _ w2 ⟨s0_2, s1_2, s7_2, s8_2, s19_2, hE2⟩ H1 hr1; refine W_seq <| W_rg <| wa rfl (q_ltI rfl s8_2 s7_2) <| wnt <| W_seq <| ?_; refine W_cond _ rfl rfl (fun hb3 => ?_) (fun hb3 => ?_)
    · replace H1 := ifp hb3 H1; refine W_skip <| W_th <| W_seq <| W_block <| W_seq <| W_rg <| mv (i64 s1) rfl s8_2 <| av (i64 s1) rfl rfl <| ?_; refine wnt <| W_seq <| W_rg <| mv (u8 a1v) rfl s1_2 <| mv p0 rfl s0_2 <| mv (i64 s1) rfl rfl <| ?_; obtain ⟨c4, hc4, H1⟩ := bsi H1; refine wa rfl (q_adr rfl T22 rfl rfl (hp0.lift (Lift.ext hE2 _)) hc4) <| wq rfl (q_loadS rfl T22 rfl (hp0.lift (Lift.ext hE2 _)) hc4) <| wa rfl (q_eq8 rfl rfl rfl) <| wnt <| ?_; refine W_cond _ rfl rfl (fun hb5 => ?_) (fun hb5 => ?_)
      · replace H1 := ifp hb5 H1; refine W_seq <| W_rg <| mv (i64 s1) rfl rfl <| av (i64 s1) rfl rfl <| wnt <| W_ret <| bk_r <| th_r <| ?_; obtain rfl := osi H1; obtain rfl := hr1 _ rfl; simp only [Sum.elim_inr] at H; refine th_r <| bk_r <| th_r <| th_r <| ?_; obtain rfl := osi H; refine rt1 (i64 s1) rfl rfl rfl s19_2 ?_; exact ⟨rfl, hE2⟩
      replace H1 := ifn hb5 H1; refine W_skip <| bk_n <| W_th <| W_rg <| wa rfl (q_addI rfl s8_2 rfl) <| mv (i64 ((wI (s1 + 1)))) rfl rfl <| wl_nil <| ?_; obtain rfl := osi H1; exact ⟨_, rfl, s0_2, s1_2, s7_2, rfl, s19_2, hE2⟩
    replace H1 := ifn hb3 H1; refine W_exit <| th_x <| ?_; obtain rfl := osi H1; obtain rfl := hr1 _ rfl; refine th_x <| bk_x <| ?_; exact ⟨_, rfl, s19_2, hE2⟩
  rintro _ w7 ⟨y1, rfl, s19_7, hE7⟩; simp only [Sum.elim_inl] at H; refine W_th <| W_seq <| W_rg <| av (i64 (-1)) rfl rfl <| wnt <| W_ret <| ?_; obtain rfl := osi H; refine rt1 (i64 (-1)) rfl rfl rfl s19_7 ?_; exact ⟨rfl, hE7⟩
noncomputable def slices_Contains_sbytebyte (a0s : List UInt8) (a1v : UInt8) : Option Bool :=
((slices_Index_sbytebyte a0s a1v).bind fun r1 => some (decide (0 ≤ r1)))
theorem slices_Contains_sbytebyte_calls (a0s : List UInt8) (a1v : UInt8) (p0 : Value) (r : Bool) (w0 : World) (hp0 : By w0 [] p0 a0s) (H : slices_Contains_sbytebyte a0s a1v = some r) :
    Calls Try.prog 47 [p0, (u8 a1v)].toArray w0 (fun e w' => e = .returned (.bool r) ∧ Ext w0 w') := by
  have hE : Ext w0 w0 := Ext.refl w0; unfold slices_Contains_sbytebyte at H; refine calls_W (n := 9) Try.func47 rfl rfl rfl ?_; refine W_seq <| W_rg <| av (.bool false) rfl rfl <| wnt <| W_seq <| W_rg <| mv p0 rfl rfl <| mv (u8 a1v) rfl rfl <| ?_; obtain ⟨r1, hr1, H⟩ := bsi H; refine wls rfl rfl (stp_call (vs := [p0, (u8 a1v)]) Try.func67 rfl rfl rfl (ar2 rfl rfl) (slices_Index_sbytebyte_calls a0s a1v p0 r1 _ (hp0.lift (Lift.ext hE _)) hr1) ?_); rintro _ w1 ⟨rfl, x1⟩; refine ⟨_, rfl, ?_⟩; have e2 := hE.trans x1; refine wa rfl (q_geI rfl rfl rfl) <| av (.bool ((decide (0 ≤ r1)))) rfl rfl <| wnt <| W_ret <| ?_; obtain rfl := osi H; refine rt1 (.bool ((decide (0 ≤ r1)))) rfl rfl rfl rfl ?_; exact ⟨rfl, e2⟩
noncomputable def shamir_threshold (a0t : Int) : Option Bool :=
(if 1 ≤ a0t then some (decide (a0t ≤ 255))
else some false)
theorem shamir_threshold_calls (a0t : Int) (r : Bool) (w0 : World) (H : shamir_threshold a0t = some r) :
    Calls Try.prog 46 [(i64 a0t)].toArray w0 (fun e w' => e = .returned (.bool r) ∧ Ext w0 w') := by
  have hE : Ext w0 w0 := Ext.refl w0; unfold shamir_threshold at H; refine calls_W (n := 9) Try.func46 rfl rfl rfl ?_; refine W_seq <| W_rg <| av (.bool false) rfl rfl <| wnt <| W_seq <| W_rg <| mv (i64 a0t) rfl rfl <| wa rfl (q_geI rfl rfl rfl) <| ?_; refine wlb rfl rfl (q_move (v := (.bool ((decide (1 ≤ a0t))))) rfl rfl) (fun hb1 => ?_) (fun hb1 => ?_)
  · replace H := ifp hb1 H; refine mv (i64 a0t) rfl rfl <| wa rfl (q_leI rfl rfl rfl) <| wa rfl (q_pick_t (v := (.bool ((decide (a0t ≤ 255))))) rfl rfl rfl) <| av (.bool ((decide (a0t ≤ 255)))) rfl rfl <| wnt <| W_ret <| ?_; obtain rfl := osi H; refine rt1 (.bool ((decide (a0t ≤ 255)))) rfl rfl rfl rfl ?_; exact ⟨rfl, hE⟩
  replace H := ifn hb1 H; refine wlk rfl rfl <| wlk rfl rfl <| wa rfl (q_pick_f (v := (.bool false)) rfl rfl rfl) <| av (.bool false) rfl rfl <| wnt <| W_ret <| ?_; obtain rfl := osi H; refine rt1 (.bool false) rfl rfl rfl rfl ?_; exact ⟨rfl, hE⟩
noncomputable def shamir_MaskSize (a0t : Int) (a1size : Int) : Option Int :=
((shamir_threshold a0t).bind fun r1 =>
(if (!r1) = true then some 0
else
(if a1size < 0 then some 0
else some (wI ((wI (a0t - 1)) * a1size)))))
theorem shamir_MaskSize_calls (a0t : Int) (a1size : Int) (r : Int) (w0 : World) (H : shamir_MaskSize a0t a1size = some r) :
    Calls Try.prog 28 [(i64 a0t), (i64 a1size)].toArray w0 (fun e w' => e = .returned (i64 r) ∧ Ext w0 w') := by
  have hE : Ext w0 w0 := Ext.refl w0; unfold shamir_MaskSize at H; refine calls_W (n := 16) Try.func28 rfl rfl rfl ?_; refine W_seq <| W_rg <| av (i64 0) rfl rfl <| wnt <| W_seq <| W_seq <| W_rg <| mv (i64 a0t) rfl rfl <| ?_; obtain ⟨r1, hr1, H⟩ := bsi H; refine wls rfl rfl (stp_call (vs := [(i64 a0t)]) Try.func46 rfl rfl rfl (ar1 rfl) (shamir_threshold_calls a0t  r1 _  hr1) ?_); rintro _ w1 ⟨rfl, x1⟩; refine ⟨_, rfl, ?_⟩; have e2 := hE.trans x1; refine wa rfl (q_not rfl rfl) ?_; refine wlb rfl rfl (q_move (v := (.bool ((!r1)))) rfl rfl) (fun hb3 => ?_) (fun hb3 => ?_)
  · replace H := (if_pos hb3).symm.trans H; refine wlk rfl rfl <| wlk rfl rfl <| wa rfl (q_pick_t (v := (.bool true)) rfl rfl rfl) <| wnt <| ?_; refine W_cond true rfl rfl (fun _ => ?_) (fun hb => by cases hb); refine W_seq <| W_rg <| av (i64 0) rfl rfl <| wnt <| W_ret <| th_r <| ?_; obtain rfl := osi H; refine rt1 (i64 0) rfl rfl rfl rfl ?_; exact ⟨rfl, e2⟩
  replace H := (if_neg (ne_true_of_eq_false hb3)).symm.trans H; refine mv (i64 a1size) rfl rfl <| wa rfl (q_ltI rfl rfl rfl) <| wa rfl (q_pick_f (v := (.bool ((decide (a1size < 0))))) rfl rfl rfl) <| wnt <| ?_; refine W_cond _ rfl rfl (fun hb4 => ?_) (fun hb4 => ?_)
  · replace H := ifp hb4 H; refine W_seq <| W_rg <| av (i64 0) rfl rfl <| wnt <| W_ret <| th_r <| ?_; obtain rfl := osi H; refine rt1 (i64 0) rfl rfl rfl rfl ?_; exact ⟨rfl, e2⟩
  replace H := ifn hb4 H; refine W_skip <| W_th <| W_seq <| W_rg <| mv (i64 a0t) rfl rfl <| wa rfl (q_subI rfl rfl rfl) <| mv (i64 a1size) rfl rfl <| wa rfl (q_mulI rfl rfl rfl) <| ?_; refine av (i64 ((wI ((wI (a0t - 1)) * a1size)))) rfl rfl <| wnt <| W_ret <| ?_; obtain rfl := osi H; refine rt1 (i64 ((wI ((wI (a0t - 1)) * a1size)))) rfl rfl rfl rfl ?_; exact ⟨rfl, e2⟩
noncomputable def shamir_check (a0f : Bool) (a1t : Int) (a2secret : List UInt8) (a3mask : List UInt8) (a4xs : List UInt8) : Option Int :=
(if (!a0f) = true then some 1
else
((shamir_threshold a1t).bind fun r2 =>
(if (!r2) = true then some 2
else
((slices_Contains_sbytebyte a4xs (0 : UInt8)).bind fun r5 =>
(if r5 = true then some 2
else
((shamir_MaskSize a1t (a2secret.length : Int)).bind fun r8 =>
(if (a3mask.length : Int) = r8 then some 0
else some 3)))))))
theorem shamir_check_calls (a0f : Bool) (a1t : Int) (a2secret : List UInt8) (a3mask : List UInt8) (a4xs : List UInt8) (p0 : Value) (p2 : Value) (p3 : Value) (p4 : Value) (r : Int) (w0 : World) (hp0 : Fd w0 [] p0 a0f) (hp2 : By w0 [] p2 a2secret) (hp3 : By w0 [] p3 a3mask) (hp4 : By w0 [] p4 a4xs) (H : shamir_check a0f a1t a2secret a3mask a4xs = some r) :
    Calls Try.prog 29 [p0, (i64 a1t), p2, p3, p4].toArray w0 (fun e w' => e = .returned (i64 r) ∧ Ext w0 w') := by
  have hE : Ext w0 w0 := Ext.refl w0; unfold shamir_check at H; refine calls_W (n := 30) Try.func29 rfl rfl rfl ?_; refine W_seq <| W_rg <| av (i64 0) rfl rfl <| wnt <| W_seq <| W_block <| W_seq <| W_rg <| ?_; refine mv p0 rfl rfl <| wa rfl (q_eqF rfl rfl rfl rfl (hp0.lift (Lift.ext hE _))) <| av (.bool ((!a0f))) rfl rfl <| wnt <| ?_; refine W_cond _ rfl rfl (fun hb1 => ?_) (fun hb1 => ?_)
  · replace H := (if_pos hb1).symm.trans H; refine W_seq <| W_rg <| av (i64 1) rfl rfl <| wnt <| W_ret <| bk_r <| th_r <| ?_; obtain rfl := osi H; refine rt1 (i64 1) rfl rfl rfl rfl ?_; exact ⟨rfl, hE⟩
  replace H := (if_neg (ne_true_of_eq_false hb1)).symm.trans H; refine W_seq <| W_rg <| mv (i64 a1t) rfl rfl <| ?_; obtain ⟨r2, hr2, H⟩ := bsi H; refine wls rfl rfl (stp_call (vs := [(i64 a1t)]) Try.func46 rfl rfl rfl (ar1 rfl) (shamir_threshold_calls a1t  r2 _  hr2) ?_); rintro _ w2 ⟨rfl, x2⟩; refine ⟨_, rfl, ?_⟩; have e3 := hE.trans x2; refine wa rfl (q_not rfl rfl) ?_; refine wlb rfl rfl (q_move (v := (.bool ((!r2)))) rfl rfl) (fun hb4 => ?_) (fun hb4 => ?_)
  · replace H := (if_pos hb4).symm.trans H; refine wlk rfl rfl <| wlk rfl rfl <| wa rfl (q_pick_t (v := (.bool true)) rfl rfl rfl) <| av (.bool true) rfl rfl <| wnt <| ?_; refine W_cond true rfl rfl (fun _ => ?_) (fun hb => by cases hb); refine W_seq <| W_rg <| av (i64 2) rfl rfl <| wnt <| W_ret <| bk_r <| th_r <| ?_; obtain rfl := osi H; refine rt1 (i64 2) rfl rfl rfl rfl ?_; exact ⟨rfl, e3⟩
  replace H := (if_neg (ne_true_of_eq_false hb4)).symm.trans H; refine mv p4 rfl rfl ?_; obtain ⟨r5, hr5, H⟩ := bsi H; refine wls rfl rfl (stp_call (vs := [p4, (u8 0)]) Try.func47 rfl rfl rfl (ar2 rfl (by exact (cst8 (0 : UInt8) rfl))) (slices_Contains_sbytebyte_calls a4xs (0 : UInt8) p4 r5 _ (hp4.lift (Lift.ext e3 _)) hr5) ?_); rintro _ w5 ⟨rfl, x5⟩; refine ⟨_, rfl, ?_⟩; have e6 := e3.trans x5; refine wa rfl (q_pick_f (v := (.bool r5)) rfl rfl rfl) <| av (.bool r5) rfl rfl <| wnt <| ?_; refine W_cond _ rfl rfl (fun hb7 => ?_) (fun hb7 => ?_)
  · replace H := (if_pos hb7).symm.trans H; refine W_seq <| W_rg <| av (i64 2) rfl rfl <| wnt <| W_ret <| bk_r <| th_r <| ?_; obtain rfl := osi H; refine rt1 (i64 2) rfl rfl rfl rfl ?_; exact ⟨rfl, e6⟩
  replace H := (if_neg (ne_true_of_eq_false hb7)).symm.trans H; refine W_seq <| W_rg <| mv p3 rfl rfl <| wa rfl (q_len rfl T22.sl rfl (hp3.lift (Lift.ext e6 _))) <| mv (i64 a1t) rfl rfl <| mv p2 rfl rfl <| wa rfl (q_len rfl T22.sl rfl (hp2.lift (Lift.ext e6 _))) <| ?_; obtain ⟨r8, hr8, H⟩ := bsi H; refine wls rfl rfl (stp_call (vs := [(i64 a1t), (i64 ((a2secret.length : Int)))]) Try.func28 rfl rfl rfl (ar2 rfl rfl) (shamir_MaskSize_calls a1t (a2secret.length : Int)  r8 _  hr8) ?_); rintro _ w8 ⟨rfl, x8⟩; refine ⟨_, rfl, ?_⟩; have e9 := e6.trans x8; refine wa rfl (q_neI rfl rfl rfl) <| av (.bool ((!decide ((a3mask.length : Int) = r8)))) rfl rfl <| wnt <| ?_; refine W_cond _ rfl rfl (fun hb10 => ?_) (fun hb10 => ?_)
  · replace H := (if_neg (ndec_t hb10)).symm.trans H; refine W_seq <| W_rg <| av (i64 3) rfl rfl <| wnt <| W_ret <| bk_r <| th_r <| ?_; obtain rfl := osi H; refine rt1 (i64 3) rfl rfl rfl rfl ?_; exact ⟨rfl, e9⟩
  replace H := (if_pos (ndec_f hb10)).symm.trans H; refine W_skip <| bk_n <| W_th <| W_seq <| W_rg <| av (i64 0) rfl rfl <| wnt <| W_ret <| ?_; obtain rfl := osi H; refine rt1 (i64 0) rfl rfl rfl rfl ?_; exact ⟨rfl, e9⟩
noncomputable def shamir_share (a0f : Bool) (a1secret : List UInt8) (a2mask : List UInt8) (a3x : UInt8) : Option (List UInt8) :=
((makeL ((a1secret.length : Int)) (0 : UInt8)).bind fun c1 =>
((iterC (fun s3 : List UInt8 × Int =>
(if 0 ≤ s3.2 then
(if 0 < (a1secret.length : Int) then
((subL a2mask s3.2 ((wI (s3.2 + (a1secret.length : Int))))).bind fun c7 =>
((field_Sum a0f c7 a3x s3.1).bind fun r8 => some (.inl (r8, (wI (s3.2 - (a1secret.length : Int)))))))
else some (.inr s3.1))
else some (.inr s3.1))) (c1, (wI ((a2mask.length : Int) - (a1secret.length : Int))))).bind fun x3 =>
((field_Sum a0f a1secret a3x x3).bind fun r12 => some r12)))
theorem shamir_share_calls (a0f : Bool) (a1secret : List UInt8) (a2mask : List UInt8) (a3x : UInt8) (p0 : Value) (p1 : Value) (p2 : Value) (r : List UInt8) (w0 : World) (hp0 : Fd w0 [] p0 a0f) (hp1 : By w0 [] p1 a1secret) (hp2 : By w0 [] p2 a2mask) (H : shamir_share a0f a1secret a2mask a3x = some r) :
    Calls Try.prog 30 [p0, p1, p2, (u8 a3x)].toArray w0 (fun e w' => ∃ u0 : Value, e = .returned u0 ∧ Ext w0 w' ∧ Nw w0 u0 ∧ OwK (Sc u8) w' [] 5 u0 r) := by
  have hE : Ext w0 w0 := Ext.refl w0; unfold shamir_share at H; refine calls_W (n := 44) Try.func30 rfl rfl rfl ?_; refine W_seq <| W_rg <| av (.slice none 0 0) rfl rfl <| wnt <| W_seq <| W_rg <| mv p1 rfl rfl <| wa rfl (q_len rfl T22.sl rfl (hp1.lift (Lift.ext hE _))) <| ?_; refine av (i64 ((a1secret.length : Int))) rfl rfl <| wnt <| W_seq <| W_rg <| mv (i64 ((a1secret.length : Int))) rfl rfl <| ?_; obtain ⟨c1, hc1, H⟩ := bsi H; refine wls rfl rfl (stp_make (L := []) (R := (Sc u8)) rfl T22 rfl rfl hc1 (fun _ _ => rfl) ?_); intro v1 w1 o1 n1 g1 l1; have x1 := grown_ext g1; have i1 : By w1 [] v1 c1 := OwK.slk (Sc.stab _) _ o1 (fun k hk => (Old.nil _) k (n1 k hk)) (fun _ h => h.2); have e2 := hE.trans x1; refine av v1 rfl rfl <| wnt <| W_seq <| W_seq <| W_rg <| mv p2 rfl rfl <| wa rfl (q_len rfl T22.sl rfl (hp2.lift (Lift.ext e2 _))) <| mv (i64 ((a1secret.length : Int))) rfl rfl <| ?_; refine wa rfl (q_subI rfl rfl rfl) <| av (i64 ((wI ((a2mask.length : Int) - (a1secret.length : Int))))) rfl rfl <| wnt <| ?_; obtain ⟨x3, G3, H⟩ := bsi H; refine W_mid (fun f w => ∃ v10_15 : Value, f 0 = p0 ∧ f 1 = p1 ∧ f 3 = (u8 a3x) ∧ f 10 = v10_15 ∧ f 44 = undef ∧ Ext w0 w ∧ By w [] v10_15 x3) ?_ ?_
  · refine W_block ?_; refine W_loop (fun s3 f w => ∃ v10_10 : Value, f 0 = p0 ∧ f 1 = p1 ∧ f 2 = p2 ∧ f 3 = (u8 a3x) ∧ f 9 = (i64 ((a1secret.length : Int))) ∧ f 10 = v10_10 ∧ f 11 = (i64 s3.2) ∧ f 44 = undef ∧ Ext w0 w ∧ By w [] v10_10 s3.1) G3 ?_ ?_
    · exact ⟨v1, rfl, rfl, rfl, rfl, rfl, rfl, rfl, rfl, e2, i1⟩
    rintro s3 _ _ w4 ⟨v10_4, s0_4, s1_4, s2_4, s3_4, s9_4, s10_4, s11_4, s44_4, hE4, i0_4⟩ H3 hr3; refine W_seq <| W_seq <| W_rg <| mv (i64 s3.2) rfl s11_4 <| wa rfl (q_geI rfl rfl rfl) <| ?_; refine wlb rfl rfl (q_move (v := (.bool ((decide (0 ≤ s3.2))))) rfl rfl) (fun hb5 => ?_) (fun hb5 => ?_)
    · replace H3 := ifp hb5 H3; refine mv (i64 ((a1secret.length : Int))) rfl s9_4 <| wa rfl (q_gtI rfl rfl rfl) <| wa rfl (q_pick_t (v := (.bool ((decide (0 < (a1secret.length : Int)))))) rfl rfl rfl) <| wnt <| ?_; refine W_cond _ rfl rfl (fun hb6 => ?_) (fun hb6 => ?_)
      · replace H3 := ifp hb6 H3; refine W_skip <| W_th <| W_seq <| W_block <| W_rg <| mv p0 rfl s0_4 <| mv p2 rfl s2_4 <| mv (i64 s3.2) rfl s11_4 <| ?_; refine mv (i64 s3.2) rfl s11_4 <| mv (i64 ((a1secret.length : Int))) rfl s9_4 <| wa rfl (q_addI rfl rfl rfl) <| ?_; obtain ⟨c7, hc7, H3⟩ := bsi H3; refine wa rfl (q_slice (a := s3.2) (b := (wI (s3.2 + (a1secret.length : Int)))) rfl T22 rfl (hp2.lift (Lift.ext hE4 _)) rfl rfl hc7) <| mv (u8 a3x) rfl s3_4 <| mv v10_4 rfl s10_4 <| ?_; obtain ⟨r8, hr8, H3⟩ := bsi H3; refine wls rfl rfl (stp_call (vs := [p0, (subV p2 (s3.2 : Int).toNat ((wI (s3.2 + (a1secret.length : Int))) : Int).toNat), (u8 a3x), v10_4]) Try.func48 rfl rfl rfl (ar4 rfl rfl rfl rfl) (field_Sum_calls a0f c7 a3x s3.1 p0 (subV p2 (s3.2 : Int).toNat ((wI (s3.2 + (a1secret.length : Int))) : Int).toNat) v10_4 r8 _ (hp0.lift (Lift.ext hE4 _)) (SlK.cut (L := []) (hp2.lift (Lift.ext hE4 _)) hc7) (i0_4.lift (Lift.sub (L' := []) (fun _ _ => trivial))) hr8) ?_); rintro _ w8 ⟨v8, rfl, x8, n8_0, o8_0⟩; refine ⟨_, rfl, ?_⟩; have i8_0 : By w8 [] v8 r8 := OwK.slk (Sc.stab _) _ (OwK.scal o8_0 (v8 :: [])) (fun k hk => (Old.nil _) k (n8_0 k hk)) (fun _ h => h.2); replace i0_4 := i0_4.lift (Lift.ext x8 _); have e9 := hE4.trans x8; refine av v8 rfl rfl <| wl_nil <| bk_n <| W_th <| W_rg <| mv (i64 s3.2) rfl s11_4 <| mv (i64 ((a1secret.length : Int))) rfl s9_4 <| wa rfl (q_subI rfl rfl rfl) <| ?_; refine av (i64 ((wI (s3.2 - (a1secret.length : Int))))) rfl rfl <| wl_nil <| ?_; obtain rfl := osi H3; exact ⟨_, rfl, v8, s0_4, s1_4, s2_4, s3_4, s9_4, rfl, rfl, s44_4, e9, i8_0⟩
      replace H3 := ifn hb6 H3; refine W_exit <| th_x <| ?_; obtain rfl := osi H3; obtain rfl := hr3 _ rfl; refine th_x <| bk_x <| ?_; exact ⟨v10_4, s0_4, s1_4, s3_4, s10_4, s44_4, hE4, i0_4⟩
    replace H3 := ifn hb5 H3; refine wlk rfl rfl <| wlk rfl rfl <| wa rfl (q_pick_f (v := (.bool false)) rfl rfl rfl) <| wnt <| ?_; refine W_cond false rfl rfl (fun hb => by cases hb) (fun _ => ?_); refine W_exit <| th_x <| ?_; obtain rfl := osi H3; obtain rfl := hr3 _ rfl; refine th_x <| bk_x <| ?_; exact ⟨v10_4, s0_4, s1_4, s3_4, s10_4, s44_4, hE4, i0_4⟩
  rintro _ w11 ⟨v10_11, s0_11, s1_11, s3_11, s10_11, s44_11, hE11, i0_11⟩; refine W_th <| W_seq <| W_rg <| mv p0 rfl s0_11 <| mv p1 rfl s1_11 <| mv (u8 a3x) rfl s3_11 <| mv v10_11 rfl s10_11 <| ?_; obtain ⟨r12, hr12, H⟩ := bsi H; refine wls rfl rfl (stp_call (vs := [p0, p1, (u8 a3x), v10_11]) Try.func48 rfl rfl rfl (ar4 rfl rfl rfl rfl) (field_Sum_calls a0f a1secret a3x x3 p0 p1 v10_11 r12 _ (hp0.lift (Lift.ext hE11 _)) (hp1.lift (Lift.ext hE11 _)) (i0_11.lift (Lift.sub (L' := []) (fun _ _ => trivial))) hr12) ?_); rintro _ w12 ⟨v12, rfl, x12, n12_0, o12_0⟩; refine ⟨_, rfl, ?_⟩; have o12 : OwK (Sc u8) w12 (v12 :: []) 5 v12 r12 := OwK.scal o12_0 _; replace i0_11 := i0_11.lift (Lift.call _ x12 n12_0); have n14 := Nw.ext hE11 n12_0; have e13 := hE11.trans x12; refine av v12 rfl rfl <| wnt <| W_ret <| ?_; obtain rfl := osi H; refine rt1 v12 rfl rfl rfl s44_11 ?_; exact ⟨v12, rfl, e13, n14, (o12.weak (Sc.stab _) (fun _ _ => trivial))⟩
noncomputable def shamir_Split (a0f : Bool) (a1t : Int) (a2secret : List UInt8) (a3mask : List UInt8) (a4xs : List UInt8) : Option (List (List UInt8) × Int) :=
((shamir_check a0f a1t a2secret a3mask a4xs).bind fun r1 =>
(if r1 = 0 then
((iterC (fun s4 : List (List UInt8) × Int =>
(if s4.2 < (a4xs.length : Int) then
((idx a4xs s4.2).bind fun c7 =>
((shamir_share a0f a2secret a3mask c7).bind fun r8 =>
((appL s4.1 (([r8] : List (List UInt8)))).bind fun c12 => some (.inl (c12, (wI (s4.2 + 1)))))))
else some (.inr s4.1))) (([] : List (List UInt8)), 0)).bind fun x4 => some (x4, 0))
else some (([] : List (List UInt8)), r1)))
theorem shamir_Split_calls (a0f : Bool) (a1t : Int) (a2secret : List UInt8) (a3mask : List UInt8) (a4xs : List UInt8) (p0 : Value) (p2 : Value) (p3 : Value) (p4 : Value) (r : List (List UInt8) × Int) (w0 : World) (L0 : List Value) (hL0 : Old w0 L0) (hp0 : Fd w0 [] p0 a0f) (hp2 : By w0 [] p2 a2secret) (hp3 : By w0 [] p3 a3mask) (hp4 : By w0 [] p4 a4xs) (H : shamir_Split a0f a1t a2secret a3mask a4xs = some r) :
    Calls Try.prog 15 [p0, (i64 a1t), p2, p3, p4].toArray w0 (fun e w' => ∃ u0 : Value, e = .returned (.tuple #[u0, (i64 r.2)]) ∧ Ext w0 w' ∧ Nw w0 u0 ∧ OwK By w' (u0 :: L0) 22 u0 r.1) := by
  have hE : Ext w0 w0 := Ext.refl w0; unfold shamir_Split at H; refine calls_W (n := 41) Try.func15 rfl rfl rfl ?_; refine W_seq <| W_rg <| av (.slice none 0 0) rfl rfl <| av (i64 0) rfl rfl <| wnt <| W_seq <| W_seq <| W_rg <| ?_; refine mv p0 rfl rfl <| mv (i64 a1t) rfl rfl <| mv p2 rfl rfl <| mv p3 rfl rfl <| mv p4 rfl rfl <| ?_; obtain ⟨r1, hr1, H⟩ := bsi H; refine wls rfl rfl (stp_call (vs := [p0, (i64 a1t), p2, p3, p4]) Try.func29 rfl rfl rfl (ar5 rfl rfl rfl rfl rfl) (shamir_check_calls a0f a1t a2secret a3mask a4xs p0 p2 p3 p4 r1 _ (hp0.lift (Lift.ext hE _)) (hp2.lift (Lift.ext hE _)) (hp3.lift (Lift.ext hE _)) (hp4.lift (Lift.ext hE _)) hr1) ?_); rintro _ w1 ⟨rfl, x1⟩; refine ⟨_, rfl, ?_⟩; have e2 := hE.trans x1; refine av (i64 r1) rfl rfl <| wnt <| W_seq <| W_rg <| mv (i64 r1) rfl rfl <| wa rfl (q_neI rfl rfl rfl) <| wnt <| ?_; refine W_cond _ rfl rfl (fun hb3 => ?_) (fun hb3 => ?_)
  · replace H := (if_neg (ndec_t hb3)).symm.trans H; refine W_seq <| W_rg <| mv (i64 r1) rfl rfl <| av (.slice none 0 0) rfl rfl <| av (i64 r1) rfl rfl <| wnt <| W_ret <| th_r <| ?_; obtain rfl := osi H; refine rt2 (.slice none 0 0) (i64 r1) rfl rfl rfl rfl rfl rfl ?_; exact ⟨(.slice none 0 0), rfl, e2, Nw.nil _, (OwK.nil _ _ _ _)⟩
  replace H := (if_pos (ndec_f hb3)).symm.trans H; refine W_skip <| W_th <| W_seq <| W_rg <| av (.slice none 0 0) rfl rfl <| wnt <| W_seq <| W_seq <| ?_; refine W_rg <| mv p4 rfl rfl <| wa rfl (q_len rfl T22.sl rfl (hp4.lift (Lift.ext e2 _))) <| mv (i64 0) rfl rfl <| wnt <| ?_; obtain ⟨x4, G4, H⟩ := bsi H; refine W_mid (fun f w => ∃ v13_17 : Value, f 13 = v13_17 ∧ f 41 = undef ∧ Ext w0 w ∧ OwK By w (v13_17 :: L0) 22 v13_17 x4 ∧ Nw w0 v13_17) ?_ ?_
  · refine W_block ?_; refine W_loop (fun s4 f w => ∃ v13_15 : Value, f 0 = p0 ∧ f 2 = p2 ∧ f 3 = p3 ∧ f 13 = v13_15 ∧ f 25 = p4 ∧ f 26 = (i64 ((a4xs.length : Int))) ∧ f 27 = (i64 s4.2) ∧ f 41 = undef ∧ Ext w0 w ∧ OwK By w (v13_15 :: L0) 22 v13_15 s4.1 ∧ Nw w0 v13_15) G4 ?_ ?_
    · exact ⟨(.slice none 0 0), rfl, rfl, rfl, rfl, rfl, rfl, rfl, rfl, e2, (OwK.nil _ _ _ _), (Nw.nil _)⟩
    rintro s4 _ _ w5 ⟨v13_5, s0_5, s2_5, s3_5, s13_5, s25_5, s26_5, s27_5, s41_5, hE5, o0_5, n0_5⟩ H4 hr4; refine W_seq <| W_rg <| wa rfl (q_ltI rfl s27_5 s26_5) <| wnt <| W_seq <| ?_; refine W_cond _ rfl rfl (fun hb6 => ?_) (fun hb6 => ?_)
    · replace H4 := ifp hb6 H4; refine W_skip <| W_th <| W_seq <| W_block <| W_seq <| W_rg <| ?_; obtain ⟨c7, hc7, H4⟩ := bsi H4; refine wa rfl (q_adr rfl T22 s25_5 s27_5 (hp4.lift (Lift.ext hE5 _)) hc7) <| wq rfl (q_loadS rfl T22 rfl (hp4.lift (Lift.ext hE5 _)) hc7) <| av (u8 c7) rfl rfl <| wnt <| W_rg <| mv v13_5 rfl s13_5 <| mv p0 rfl s0_5 <| mv p2 rfl s2_5 <| ?_; refine mv p3 rfl s3_5 <| mv (u8 c7) rfl rfl <| ?_; obtain ⟨r8, hr8, H4⟩ := bsi H4; refine wls rfl rfl (stp_call (vs := [p0, p2, p3, (u8 c7)]) Try.func30 rfl rfl rfl (ar4 rfl rfl rfl rfl) (shamir_share_calls a0f a2secret a3mask c7 p0 p2 p3 r8 _ (hp0.lift (Lift.ext hE5 _)) (hp2.lift (Lift.ext hE5 _)) (hp3.lift (Lift.ext hE5 _)) hr8) ?_); rintro _ w8 ⟨v8, rfl, x8, n8_0, o8_0⟩; refine ⟨_, rfl, ?_⟩; have i8_0 : By w8 (v13_5 :: L0) v8 r8 := OwK.slk (Sc.stab _) _ (OwK.scal o8_0 (v8 :: (v13_5 :: L0))) (fun k hk => (Old.cons (hL0.ext hE5) o0_5.lt) k (n8_0 k hk)) (fun _ h => h.2); replace o0_5 := o0_5.extL (SlK.stab (Sc.stab _)) x8 (Lift.ext x8 _); have e9 := hE5.trans x8; refine wls rfl rfl (stp_lit (L := (v13_5 :: L0)) (R := By) [v8] ([r8] : List (List UInt8)) rfl T28 rfl (by exact ⟨rfl, rfl, trivial⟩) rfl (LitR.cells (R := By) (w := w8) (L := (v13_5 :: L0)) (l := ([r8] : List (List UInt8))) (LitR.cons i8_0 LitR.nil) (fun u x h => cells_sl u x h)) rfl (LitR.all (R := By) (w := w8) (L := (v13_5 :: L0)) (l := ([r8] : List (List UInt8))) (SlK.stab (Sc.stab _)) (LitR.cons i8_0 LitR.nil)) ?_); intro v10 w10 o10 n10 g10 l10; have x10 := grown_ext g10; have i10 : Rw w10 (v13_5 :: L0) v10 (([r8] : List (List UInt8))) := OwK.slk (SlK.stab (Sc.stab _)) _ o10 (fun k hk => (Old.cons (hL0.ext e9) o0_5.lt) k (n10 k hk)) (fun _ h => h.2); replace i8_0 := i8_0.lift (Lift.ext x10 _); replace o0_5 := o0_5.extL (SlK.stab (Sc.stab _)) x10 (Lift.ext x10 _); have e11 := e9.trans x10; obtain ⟨c12, hc12, H4⟩ := bsi H4; refine wls rfl rfl (stp_append (R := By) (v := v13_5) (u := v10) (SlK.stab (Sc.stab _)) [] (L0) rfl T28 rfl rfl o0_5 i10 (fun _ _ h => h) hc12 oc_sl ?_); intro v12 w12 o12 g12 nx12 l12; replace i8_0 := i8_0.lift l12; replace i10 := i10.lift l12; have e13 := e11.grown g12 n0_5; have n14 := Nw.nxt e11 n0_5 nx12; refine av v12 rfl rfl <| wl_nil <| bk_n <| W_th <| W_rg <| wa rfl (q_addI rfl s27_5 rfl) <| mv (i64 ((wI (s4.2 + 1)))) rfl rfl <| wl_nil <| ?_; obtain rfl := osi H4; exact ⟨_, rfl, v12, s0_5, s2_5, s3_5, rfl, s25_5, s26_5, rfl, s41_5, e13, o12, n14⟩
    replace H4 := ifn hb6 H4; refine W_exit <| th_x <| ?_; obtain rfl := osi H4; obtain rfl := hr4 _ rfl; refine th_x <| bk_x <| ?_; exact ⟨v13_5, s13_5, s41_5, hE5, o0_5, n0_5⟩
  rintro _ w16 ⟨v13_16, s13_16, s41_16, hE16, o0_16, n0_16⟩; refine W_th <| W_seq <| W_rg <| mv v13_16 rfl s13_16 <| av v13_16 rfl rfl <| av (i64 0) rfl rfl <| wnt <| W_ret <| ?_; obtain rfl := osi H; refine rt2 v13_16 (i64 0) rfl rfl rfl rfl rfl s41_16 ?_; exact ⟨v13_16, rfl, hE16, n0_16, (o0_16.weak (SlK.stab (Sc.stab _)) (fun _ h => ⟨h.1, h.2⟩))⟩
noncomputable def shamir_unlike_1 (a0r : List UInt8) (b0 : List (List UInt8)) : Option Bool :=
((idx b0 0).bind fun c1 => some (!decide ((a0r.length : Int) = (c1.length : Int))))
theorem shamir_unlike_1_calls (a0r : List UInt8) (b0 : List (List UInt8)) (p0 : Value) (gc0 : Nat) (cv0 : Value) (r : Bool) (w0 : World) (hp0 : By w0 [] p0 a0r) (hcB0 : Blk w0 gc0 28 #[cv0]) (hcv0 : Rw w0 [] cv0 b0) (H : shamir_unlike_1 a0r b0 = some r) :
    Calls Try.prog 90 [p0, (bp gc0)].toArray w0 (fun e w' => e = .returned (.bool r) ∧ Ext w0 w') := by
  have hE : Ext w0 w0 := Ext.refl w0; unfold shamir_unlike_1 at H; refine calls_W (n := 11) Try.func90 rfl rfl rfl ?_; refine W_seq <| W_rg <| av (.bool false) rfl rfl <| wnt <| W_seq <| W_rg <| mv p0 rfl rfl <| wa rfl (q_len rfl T22.sl rfl (hp0.lift (Lift.ext hE _))) <| ?_; refine wq rfl (q_loadB (u := cv0) rfl Try.isAgg28 rfl (hcB0.ext hE) rfl) ?_; obtain ⟨c1, hc1, H⟩ := bsi H; refine wa rfl (q_adr rfl T28 rfl rfl (hcv0.lift (Lift.ext hE _)) hc1) ?_; refine wlq_load rfl rfl rfl T28 rfl hcv0 hc1 hE (fun v2 ha2 => ?_); refine wa rfl (q_len rfl T22.sl rfl (ha2.lift (Lift.ext hE _))) <| wa rfl (q_neI rfl rfl rfl) <| av (.bool ((!decide ((a0r.length : Int) = (c1.length : Int))))) rfl rfl <| wnt <| W_ret <| ?_; obtain rfl := osi H; refine rt1 (.bool ((!decide ((a0r.length : Int) = (c1.length : Int))))) rfl rfl rfl rfl ?_; exact ⟨rfl, hE⟩
noncomputable def shamir_unlike (a0l : List (List UInt8)) : Option Bool :=
((lim a0l.length).bind fun lim4 =>
((anyO (fun y4 => shamir_unlike_1 y4 a0l) a0l).bind fun r4 => some r4))
theorem shamir_unlike_calls (a0l : List (List UInt8)) (p0 : Value) (r : Bool) (w0 : World) (hp0 : Rw w0 [] p0 a0l) (H : shamir_unlike a0l = some r) :
    Calls Try.prog 80 [p0].toArray w0 (fun e w' => e = .returned (.bool r) ∧ Ext w0 w') := by
  have hE : Ext w0 w0 := Ext.refl w0; unfold shamir_unlike at H; refine calls_W (n := 6) Try.func80 rfl rfl rfl ?_; refine W_seq <| W_rg <| ?_; refine wls rfl rfl (stp_boxL (v := p0) (cs := #[p0]) [] rfl rfl (cells_sl _ _ (hp0.lift (Lift.ext hE _))) ?_); intro g1 w1 o1 n1 g1r l1; have x1 := grown_ext g1r; have n3 := Nw.ext hE n1; have e2 := hE.trans x1; refine av (.bool false) rfl rfl <| wnt <| W_seq <| W_rg <| wq rfl (q_loadB (u := p0) rfl Try.isAgg28 rfl o1 rfl) <| wa rfl (q_mkfuncN (vs := [(bp g1)]) rfl (ar1 rfl)) <| ?_; obtain ⟨lim4, hl4, H⟩ := bsi H; obtain ⟨r4, hr4, H⟩ := bsi H; refine wls rfl rfl (stp_call (vs := [p0, (.func (.func 90) #[] [(bp g1)].toArray)]) Try.func56 rfl rfl rfl (ar2 rfl rfl) (ContainsFunc_rows_calls p0 a0l 90 _ Try.func90 rfl rfl [(bp g1)] (fun y4 => shamir_unlike_1 y4 a0l) r4 _ (hp0.lift (Lift.ext e2 _)) (lim_lt hl4) hr4 (fun y4 _ b w' xE hb u hu => shamir_unlike_1_calls y4 a0l u g1 p0 b w' hu (o1.ext xE) ((hp0.lift (Lift.ext e2 _)).lift (Lift.ext xE _)) hb)) ?_); rintro _ w4 ⟨rfl, x4⟩; refine ⟨_, rfl, ?_⟩; replace o1 := o1.ext x4; have e5 := e2.trans x4; refine av (.bool r4) rfl rfl <| wnt <| W_ret <| ?_; obtain rfl := osi H; refine rt1 (.bool r4) rfl rfl rfl rfl ?_; exact ⟨rfl, e5⟩
noncomputable def shamir_At (a0f : Bool) (a1xs : List UInt8) (a2shares : List (List UInt8)) (a3x : UInt8) : Option (List UInt8 × Int) :=
(if (!a0f) = true then some (([] : List UInt8), 1)
else
(if (a1xs.length : Int) = (a2shares.length : Int) then
((shamir_unlike a2shares).bind fun r3 =>
(if r3 = true then some (([] : List UInt8), 3)
else
((poly_Weights a0f a1xs a3x).bind fun r6 =>
(if r6.2 = 0 then
((idx a2shares 0).bind fun c9 =>
((makeL ((c9.length : Int)) (0 : UInt8)).bind fun c11 =>
((iterC (fun s14 : List UInt8 × Int =>
(if s14.2 < (a2shares.length : Int) then
((idx a2shares s14.2).bind fun c17 =>
((idx r6.1 s14.2).bind fun c19 =>
((field_Sum a0f s14.1 c19 c17).bind fun r20 => some (.inl (r20, (wI (s14.2 + 1)))))))
else some (.inr s14.1))) (c11, 0)).bind fun x14 => some (x14, 0))))
else some (([] : List UInt8), r6.2)))))
else some (([] : List UInt8), 1)))
theorem shamir_At_calls (a0f : Bool) (a1xs : List UInt8) (a2shares : List (List UInt8)) (a3x : UInt8) (p0 : Value) (p1 : Value) (p2 : Value) (r : List UInt8 × Int) (w0 : World) (hp0 : Fd w0 [] p0 a0f) (hp1 : By w0 [] p1 a1xs) (hp2 : Rw w0 [] p2 a2shares) (H : shamir_At a0f a1xs a2shares a3x = some r) :
    Calls Try.prog 58 [p0, p1, p2, (u8 a3x)].toArray w0 (fun e w' => ∃ u0 : Value, e = .returned (.tuple #[u0, (i64 r.2)]) ∧ Ext w0 w' ∧ Nw w0 u0 ∧ OwK (Sc u8) w' [] 5 u0 r.1) := by
  have hE : Ext w0 w0 := Ext.refl w0; unfold shamir_At at H; refine calls_W (n := 60) Try.func58 rfl rfl rfl ?_; refine W_seq <| W_rg <| av (.slice none 0 0) rfl rfl <| av (i64 0) rfl rfl <| wnt <| W_seq <| W_block <| W_seq <| ?_; refine W_rg <| mv p0 rfl rfl <| wa rfl (q_eqF rfl rfl rfl rfl (hp0.lift (Lift.ext hE _))) <| ?_; refine wlb rfl rfl (q_move (v := (.bool ((!a0f)))) rfl rfl) (fun hb1 => ?_) (fun hb1 => ?_)
  · replace H := (if_pos hb1).symm.trans H; refine wlk rfl rfl <| wlk rfl rfl <| wlk rfl rfl <| wlk rfl rfl <| wlk rfl rfl <| wa rfl (q_pick_t (v := (.bool true)) rfl rfl rfl) <| av (.bool true) rfl rfl <| wnt <| ?_; refine W_cond true rfl rfl (fun _ => ?_) (fun hb => by cases hb); refine W_seq <| W_rg <| av (.slice none 0 0) rfl rfl <| av (i64 1) rfl rfl <| wnt <| W_ret <| bk_r <| th_r <| ?_; obtain rfl := osi H; refine rt2 (.slice none 0 0) (i64 1) rfl rfl rfl rfl rfl rfl ?_; exact ⟨(.slice none 0 0), rfl, hE, Nw.nil _, (OwK.nil _ _ _ _)⟩
  replace H := (if_neg (ne_true_of_eq_false hb1)).symm.trans H; refine mv p1 rfl rfl <| wa rfl (q_len rfl T22.sl rfl (hp1.lift (Lift.ext hE _))) <| mv p2 rfl rfl <| wa rfl (q_len rfl T28.sl rfl (hp2.lift (Lift.ext hE _))) <| wa rfl (q_neI rfl rfl rfl) <| wa rfl (q_pick_f (v := (.bool ((!decide ((a1xs.length : Int) = (a2shares.length : Int)))))) rfl rfl rfl) <| av (.bool ((!decide ((a1xs.length : Int) = (a2shares.length : Int))))) rfl rfl <| wnt <| ?_; refine W_cond _ rfl rfl (fun hb2 => ?_) (fun hb2 => ?_)
  · replace H := (if_neg (ndec_t hb2)).symm.trans H; refine W_seq <| W_rg <| av (.slice none 0 0) rfl rfl <| av (i64 1) rfl rfl <| wnt <| W_ret <| bk_r <| th_r <| ?_; obtain rfl := osi H; refine rt2 (.slice none 0 0) (i64 1) rfl rfl rfl rfl rfl rfl ?_; exact ⟨(.slice none 0 0), rfl, hE, Nw.nil _, (OwK.nil _ _ _ _)⟩
  replace H := (if_pos (ndec_f hb2)).symm.trans H; refine W_seq <| W_rg <| mv p2 rfl rfl <| ?_; obtain ⟨r3, hr3, H⟩ := bsi H; refine wls rfl rfl (stp_call (vs := [p2]) Try.func80 rfl rfl rfl (ar1 rfl) (shamir_unlike_calls a2shares p2 r3 _ (hp2.lift (Lift.ext hE _)) hr3) ?_); rintro _ w3 ⟨rfl, x3⟩; refine ⟨_, rfl, ?_⟩; have e4 := hE.trans x3; refine av (.bool r3) rfl rfl <| wnt <| ?_; refine W_cond _ rfl rfl (fun hb5 => ?_) (fun hb5 => ?_)
  · replace H := (if_pos hb5).symm.trans H; refine W_seq <| W_rg <| av (.slice none 0 0) rfl rfl <| av (i64 3) rfl rfl <| wnt <| W_ret <| bk_r <| th_r <| ?_; obtain rfl := osi H; refine rt2 (.slice none 0 0) (i64 3) rfl rfl rfl rfl rfl rfl ?_; exact ⟨(.slice none 0 0), rfl, e4, Nw.nil _, (OwK.nil _ _ _ _)⟩
  replace H := (if_neg (ne_true_of_eq_false hb5)).symm.trans H; refine W_skip <| bk_n <| W_th <| W_seq <| W_rg <| mv p0 rfl rfl <| mv p1 rfl rfl <| mv (u8 a3x) rfl rfl <| ?_; obtain ⟨r6, hr6, H⟩ := bsi H; refine wls rfl rfl (stp_call (vs := [p0, p1, (u8 a3x)]) Try.func81 rfl rfl rfl (ar3 rfl rfl rfl) (poly_Weights_calls a0f a1xs a3x p0 p1 r6 _ (hp0.lift (Lift.ext e4 _)) (hp1.lift (Lift.ext e4 _)) hr6) ?_); rintro _ w6 ⟨v6_0, rfl, x6, n6_0, o6_0⟩; refine ⟨_, rfl, ?_⟩; have i6_0 : By w6 [] v6_0 r6.1 := OwK.slk (Sc.stab _) _ (OwK.scal o6_0 (v6_0 :: [])) (fun k hk => (Old.nil _) k (n6_0 k hk)) (fun _ h => h.2); have e7 := e4.trans x6; refine mv (.tuple #[v6_0, (i64 r6.2)]) rfl rfl <| wa rfl (q_extract rfl rfl rfl) <| wa rfl (q_extract rfl rfl rfl) <| av v6_0 rfl rfl <| av (i64 r6.2) rfl rfl <| wnt <| W_seq <| W_seq <| ?_; refine W_rg <| mv (i64 r6.2) rfl rfl <| wa rfl (q_neI rfl rfl rfl) <| wnt <| ?_; refine W_cond _ rfl rfl (fun hb8 => ?_) (fun hb8 => ?_)
  · replace H := (if_neg (ndec_t hb8)).symm.trans H; refine W_seq <| W_rg <| mv (i64 r6.2) rfl rfl <| av (.slice none 0 0) rfl rfl <| av (i64 r6.2) rfl rfl <| wnt <| W_ret <| th_r <| ?_; obtain rfl := osi H; refine rt2 (.slice none 0 0) (i64 r6.2) rfl rfl rfl rfl rfl rfl ?_; exact ⟨(.slice none 0 0), rfl, e7, Nw.nil _, (OwK.nil _ _ _ _)⟩
  replace H := (if_pos (ndec_f hb8)).symm.trans H; refine W_skip <| W_th <| W_seq <| W_rg <| mv p2 rfl rfl <| ?_; obtain ⟨c9, hc9, H⟩ := bsi H; refine wa rfl (q_adr rfl T28 rfl rfl (hp2.lift (Lift.ext e7 _)) hc9) ?_; refine wlq_load rfl rfl rfl T28 rfl hp2 hc9 e7 (fun v10 ha10 => ?_); refine wa rfl (q_len rfl T22.sl rfl (ha10.lift (Lift.ext e7 _))) ?_; obtain ⟨c11, hc11, H⟩ := bsi H; refine wls rfl rfl (stp_make (L := []) (R := (Sc u8)) rfl T22 rfl rfl hc11 (fun _ _ => rfl) ?_); intro v11 w11 o11 n11 g11 l11; have x11 := grown_ext g11; replace i6_0 := i6_0.lift (Lift.call _ x11 n11); have n13 := Nw.ext e7 n11; have e12 := e7.trans x11; refine av v11 rfl rfl <| wnt <| W_seq <| W_seq <| W_rg <| mv p2 rfl rfl <| wa rfl (q_len rfl T28.sl rfl (hp2.lift (Lift.ext e12 _))) <| mv (i64 0) rfl rfl <| ?_; refine wnt ?_; obtain ⟨x14, G14, H⟩ := bsi H; refine W_mid (fun f w => ∃ v12_26 : Value, f 12 = v12_26 ∧ f 60 = undef ∧ Ext w0 w ∧ OwK (Sc u8) w [v12_26] 5 v12_26 x14 ∧ Nw w0 v12_26) ?_ ?_
  · refine W_block ?_; refine W_loop (fun s14 f w => ∃ v12_24 : Value, f 0 = p0 ∧ f 10 = v6_0 ∧ f 12 = v12_24 ∧ f 43 = p2 ∧ f 44 = (i64 ((a2shares.length : Int))) ∧ f 45 = (i64 s14.2) ∧ f 60 = undef ∧ Ext w0 w ∧ OwK (Sc u8) w [v12_24] 5 v12_24 s14.1 ∧ Nw w0 v12_24 ∧ By w [v12_24] v6_0 r6.1) G14 ?_ ?_
    · exact ⟨v11, rfl, rfl, rfl, rfl, rfl, rfl, rfl, e12, o11, n13, i6_0⟩
    rintro s14 _ _ w15 ⟨v12_15, s0_15, s10_15, s12_15, s43_15, s44_15, s45_15, s60_15, hE15, o0_15, n0_15, i0_15⟩ H14 hr14; refine W_seq <| W_rg <| wa rfl (q_ltI rfl s45_15 s44_15) <| wnt <| W_seq <| ?_; refine W_cond _ rfl rfl (fun hb16 => ?_) (fun hb16 => ?_)
    · replace H14 := ifp hb16 H14; refine W_skip <| W_th <| W_seq <| W_block <| W_seq <| W_rg <| mv (i64 s14.2) rfl s45_15 <| ?_; obtain ⟨c17, hc17, H14⟩ := bsi H14; refine wa rfl (q_adr rfl T28 s43_15 s45_15 (hp2.lift (Lift.ext hE15 _)) hc17) ?_; refine wlq_load rfl rfl rfl T28 rfl hp2 hc17 hE15 (fun v18 ha18 => ?_); refine av (i64 s14.2) rfl rfl <| av v18 rfl rfl <| wnt <| W_rg <| mv p0 rfl s0_15 <| mv v12_15 rfl s12_15 <| mv v6_0 rfl s10_15 <| mv (i64 s14.2) rfl rfl <| ?_; obtain ⟨c19, hc19, H14⟩ := bsi H14; refine wa rfl (q_adr rfl T22 rfl rfl i0_15 hc19) <| wq rfl (q_loadS rfl T22 rfl i0_15 hc19) <| mv v18 rfl rfl <| ?_; obtain ⟨r20, hr20, H14⟩ := bsi H14; refine wls rfl rfl (stp_call (vs := [p0, v12_15, (u8 c19), v18]) Try.func48 rfl rfl rfl (ar4 rfl rfl rfl rfl) (field_Sum_calls a0f s14.1 c19 c17 p0 v12_15 v18 r20 _ (hp0.lift (Lift.ext hE15 _)) (o0_15.rd (Sc.stab _)) (ha18.lift (Lift.ext hE15 _)) hr20) ?_); rintro _ w20 ⟨v20, rfl, x20, n20_0, o20_0⟩; refine ⟨_, rfl, ?_⟩; have o20 : OwK (Sc u8) w20 (v20 :: [v12_15]) 5 v20 r20 := OwK.scal o20_0 _; have q21 : Nq v12_15 v20 := o0_15.nq n20_0; replace i0_15 := i0_15.lift (Lift.call _ x20 n20_0); replace o0_15 := o0_15.extL (Sc.stab _) x20 (Lift.call _ x20 n20_0); have n23 := Nw.ext hE15 n20_0; have e22 := hE15.trans x20; refine av v20 rfl rfl <| wl_nil <| bk_n <| W_th <| W_rg <| wa rfl (q_addI rfl s45_15 rfl) <| mv (i64 ((wI (s14.2 + 1)))) rfl rfl <| wl_nil <| ?_; obtain rfl := osi H14; exact ⟨_, rfl, v20, s0_15, s10_15, rfl, s43_15, s44_15, rfl, s60_15, e22, (o20.weak (Sc.stab _) (fun _ h => ⟨h.1, trivial⟩)), n23, (i0_15.lift (Lift.sub (fun _ h => ⟨h.1, trivial⟩)))⟩
    replace H14 := ifn hb16 H14; refine W_exit <| th_x <| ?_; obtain rfl := osi H14; obtain rfl := hr14 _ rfl; refine th_x <| bk_x <| ?_; exact ⟨v12_15, s12_15, s60_15, hE15, o0_15, n0_15⟩
  rintro _ w25 ⟨v12_25, s12_25, s60_25, hE25, o0_25, n0_25⟩; refine W_th <| W_seq <| W_rg <| mv v12_25 rfl s12_25 <| av v12_25 rfl rfl <| av (i64 0) rfl rfl <| wnt <| W_ret <| ?_; obtain rfl := osi H; refine rt2 v12_25 (i64 0) rfl rfl rfl rfl rfl s60_25 ?_; exact ⟨v12_25, rfl, hE25, n0_25, (o0_25.weak (Sc.stab _) (fun _ _ => trivial))⟩
noncomputable def word_Xor (a0a : List UInt8) (a1b : List UInt8) : Option (List UInt8) :=
((makeL ((if (a1b.length : Int) < (a0a.length : Int) then (a1b.length : Int) else (a0a.length : Int))) (0 : UInt8)).bind fun c1 =>
((iterC (fun s4 : List UInt8 × Int =>
(if s4.2 < (c1.length : Int) then
((idx a0a s4.2).bind fun c9 =>
((idx a1b s4.2).bind fun c10 =>
((idx s4.1 s4.2).bind fun c11 => some (.inl ((s4.1.set (s4.2 : Int).toNat ((c9 ^^^ c10))), (wI (s4.2 + 1)))))))
else some (.inr s4.1))) (c1, 0)).bind fun x4 => some x4))
theorem word_Xor_calls (a0a : List UInt8) (a1b : List UInt8) (p0 : Value) (p1 : Value) (r : List UInt8) (w0 : World) (hp0 : By w0 [] p0 a0a) (hp1 : By w0 [] p1 a1b) (H : word_Xor a0a a1b = some r) :
    Calls Try.prog 32 [p0, p1].toArray w0 (fun e w' => ∃ u0 : Value, e = .returned u0 ∧ Ext w0 w' ∧ Nw w0 u0 ∧ OwK (Sc u8) w' [] 5 u0 r) := by
  have hE : Ext w0 w0 := Ext.refl w0; unfold word_Xor at H; refine calls_W (n := 32) Try.func32 rfl rfl rfl ?_; refine W_seq <| W_rg <| av (.slice none 0 0) rfl rfl <| wnt <| W_seq <| W_rg <| mv p0 rfl rfl <| wa rfl (q_len rfl T22.sl rfl (hp0.lift (Lift.ext hE _))) <| ?_; refine mv p1 rfl rfl <| wa rfl (q_len rfl T22.sl rfl (hp1.lift (Lift.ext hE _))) <| wa rfl (q_minI rfl rfl rfl) <| ?_; obtain ⟨c1, hc1, H⟩ := bsi H; refine wls rfl rfl (stp_make (L := []) (R := (Sc u8)) rfl T22 rfl rfl hc1 (fun _ _ => rfl) ?_); intro v1 w1 o1 n1 g1 l1; have x1 := grown_ext g1; have n3 := Nw.ext hE n1; have e2 := hE.trans x1; refine av v1 rfl rfl <| wnt <| W_seq <| W_seq <| W_rg <| mv v1 rfl rfl <| wa rfl (q_len rfl T22.sl rfl (o1.rd (Sc.stab _))) <| mv (i64 0) rfl rfl <| ?_; refine wnt ?_; obtain ⟨x4, G4, H⟩ := bsi H; refine W_mid (fun f w => f 5 = v1 ∧ f 32 = undef ∧ Ext w0 w ∧ OwK (Sc u8) w [v1] 5 v1 x4 ∧ Nw w0 v1) ?_ ?_
  · refine W_block ?_; refine W_loop (fun s4 f w => f 0 = p0 ∧ f 1 = p1 ∧ f 5 = v1 ∧ f 14 = (i64 ((c1.length : Int))) ∧ f 15 = (i64 s4.2) ∧ f 32 = undef ∧ Ext w0 w ∧ OwK (Sc u8) w [v1] 5 v1 s4.1 ∧ Nw w0 v1) G4 ?_ ?_
    · exact ⟨rfl, rfl, rfl, rfl, rfl, rfl, e2, o1, n3⟩
    rintro s4 _ _ w5 ⟨s0_5, s1_5, s5_5, s14_5, s15_5, s32_5, hE5, o0_5, n0_5⟩ H4 hr4; refine W_seq <| W_rg <| wa rfl (q_ltI rfl s15_5 s14_5) <| wnt <| W_seq <| ?_; refine W_cond _ rfl rfl (fun hb6 => ?_) (fun hb6 => ?_)
    · replace H4 := ifp hb6 H4; refine W_skip <| W_th <| W_seq <| W_block <| W_seq <| W_rg <| mv (i64 s4.2) rfl s15_5 <| av (i64 s4.2) rfl rfl <| ?_; refine wnt ?_; refine W_draw [5, 9] [(0, 0), (1, 0), (2, 0), (3, 0), (4, 0), (5, 1), (6, 0), (7, 0), (8, 0), (9, 1), (10, 0), (11, 0), (12, 2)] mixed (by kernel_rfl) (by kernel_rfl) (by kernel_rfl) (by kernel_rfl) ?_; have x7 := Ext.drew w5; replace o0_5 := o0_5.extL (Sc.stab _) x7 (Lift.ext x7 _); have e8 := hE5.trans x7; refine sv v1 rfl rfl s5_5 <| sv (i64 s4.2) rfl rfl rfl <| sv p0 rfl rfl s0_5 <| sv (i64 s4.2) rfl rfl rfl <| ?_; obtain ⟨c9, hc9, H4⟩ := bsi H4; refine sa rfl rfl (q_adr rfl T22 rfl rfl (hp0.lift (Lift.ext e8 _)) hc9) <| sq rfl rfl (q_loadS rfl T22 rfl (hp0.lift (Lift.ext e8 _)) hc9) <| sv p1 rfl rfl s1_5 <| sv (i64 s4.2) rfl rfl rfl <| ?_; obtain ⟨c10, hc10, H4⟩ := bsi H4; refine sa rfl rfl (q_adr rfl T22 rfl rfl (hp1.lift (Lift.ext e8 _)) hc10) <| sq rfl rfl (q_loadS rfl T22 rfl (hp1.lift (Lift.ext e8 _)) hc10) <| sa rfl rfl (q_xor8 rfl rfl rfl) <| ?_; obtain ⟨c11, hc11, H4⟩ := bsi H4; refine sa rfl rfl (q_adr rfl T22 rfl rfl (o0_5.rd (Sc.stab _)) hc11) ?_; refine wsn rfl (by kernel_rfl) rfl rfl (stp_store (R := (Sc u8)) (u := (u8 ((c9 ^^^ c10)))) (Sc.stab _) [] [] rfl T22 rfl rfl o0_5 (put_of ((c9 ^^^ c10)) hc11) rfl rfl ?_); intro w12 o12 g12 l12; have e13 := e8.grown g12 n0_5; refine ws_nil ?_; refine bk_n <| W_th <| W_rg <| wa rfl (q_addI rfl s15_5 rfl) <| mv (i64 ((wI (s4.2 + 1)))) rfl rfl <| wl_nil <| ?_; obtain rfl := osi H4; exact ⟨_, rfl, s0_5, s1_5, s5_5, s14_5, rfl, s32_5, e13, o12, n0_5⟩
    replace H4 := ifn hb6 H4; refine W_exit <| th_x <| ?_; obtain rfl := osi H4; obtain rfl := hr4 _ rfl; refine th_x <| bk_x <| ?_; exact ⟨s5_5, s32_5, hE5, o0_5, n0_5⟩
  rintro _ w15 ⟨s5_15, s32_15, hE15, o0_15, n0_15⟩; refine W_th <| W_seq <| W_rg <| mv v1 rfl s5_15 <| av v1 rfl rfl <| wnt <| W_ret <| ?_; obtain rfl := osi H; refine rt1 v1 rfl rfl rfl s32_15 ?_; exact ⟨v1, rfl, hE15, n0_15, (o0_15.weak (Sc.stab _) (fun _ _ => trivial))⟩
end Gk

/- Arrays: as values, and in blocks behind pointers. No condition. -/
namespace Gk
open Go Go.RowKit
def ac {α : Type} (enc : α → Value) (l : List α) : Array Value := (l.map enc).toArray
def ag {α : Type} (enc : α → Value) (l : List α) : Value := .agg (ac enc l)
theorem ac_size {α : Type} (enc : α → Value) (l : List α) : (ac enc l).size = l.length := by simp [ac]
theorem ac_get {α : Type} (enc : α → Value) (l : List α) (i : Nat) : (ac enc l)[i]? = (l[i]?).map enc := by simp [ac]
theorem ac_set {α : Type} (enc : α → Value) (l : List α) (i : Nat) (x : α) : (ac enc l).setIfInBounds i (enc x) = ac enc (l.set i x) := by
  apply Array.ext'
  simp [ac, List.map_set]
def lenA {α : Type} (n : Nat) (l : List α) : Option Unit := if l.length = n then some () else none
theorem lenA_eq {α : Type} {n : Nat} {l : List α} {u : Unit} (h : lenA n l = some u) : l.length = n := by
  unfold lenA at h; split at h
  · assumption
  · cases h
def Seg (cs : Array Value) (m : Nat) (us : List Value) : Prop := ∀ j, j < us.length → cs[m + j]? = us[j]?
theorem seg_self {α : Type} (enc : α → Value) (l : List α) : Seg (ac enc l) 0 (l.map enc) := fun j _ => by simp [ac]
structure TyA (P : Program) (t e : TypeId) (n : Nat) : Prop where
  und : P.underlying t = some (.array n e)
  agg : ∀ w, (isAgg t).run P w = .ok true w
  size : ∀ w, (Go.sizeOf t).run P w = .ok n w
  esz : ∀ w, (Go.sizeOf e).run P w = .ok 1 w
  eagg : ∀ w, (isAgg e).run P w = .ok false w
section
variable {P : Program} {o : Oper} {f : Nat → Value} {w : World} {x y : Operand} {t e T : TypeId} {g m n : Nat} {cs : Array Value} {u v : Value} {α : Type} {enc : α → Value} {l l' : List α} {i : Int} {a b : α}
theorem run_loadSeg (A : TyA P t e n) (h : Blk w g T cs) {us : List Value} (hs : Seg cs m us) (hl : us.length = n) : (loadVar t ⟨g, m, none⟩).run P w = .ok (.agg us.toArray) w := by
  have := run_loadCells_list (P := P) w ⟨g, m, none⟩ us (fun j v hj => by
    have hlt : j < us.length := (List.getElem?_eq_some_iff.1 hj).1
    rw [add_off, h.cell, hs j hlt]; exact hj)
  rw [hl] at this
  simp [loadVar, A.agg, A.size, this]
theorem q_loadA (ho : o.op = .load t x) (A : TyA P t e n) (hx : ev f x = .pointer (some ⟨g, m, none⟩)) (h : Blk w g T cs) (hs : Seg cs m (l.map enc)) (hl : l.length = n) : Qt P o f w (ag enc l) := by
  intro w' hE
  have := run_loadSeg (w := w') A (h.ext hE) hs (by simpa using hl)
  simp [execOp, ho, hx, Instr.loadAt, Instr.sureAddr, this, ag, ac]
def spl (cs : Array Value) (m : Nat) (us : List Value) : Array Value := (cs.toList.take m ++ us ++ cs.toList.drop (m + us.length)).toArray
theorem stp_storeSeg (ho : o.op = .store t x y) (A : TyA P t e n) (hx : ev f x = .pointer (some ⟨g, m, none⟩)) (hy : ev f y = ag enc l) (hl : l.length = n) (h : Blk w g T cs) (hm : m + n ≤ cs.size) (hc : ∀ x, (enc x).oneCell' = true)
    {K : Value → World → Prop} (hk : ∀ w', Blk w' g T (spl cs m (l.map enc)) → w.grownBy w' (some g) → K undef w') : Stp P o f w K := by
  have hrun := run_storeCells_at (P := P) g m T (l.map enc) 0 cs w h (by simp; omega) (fun v hv => by obtain ⟨x, _, rfl⟩ := List.mem_map.1 hv; exact hc x)
  have hb : Blk (w.setRow g (spl cs m (l.map enc))) g T (spl cs m (l.map enc)) := setRow_heap w g cs _ T _ h
  have hg : w.grownBy (w.setRow g (spl cs m (l.map enc))) (some g) := ⟨rfl, rfl, rfl, by simp [World.setRow], fun k _ hk => setRow_other w g k _ (fun e => hk (by rw [e]))⟩
  refine stp_of_skip (w' := w.setRow g (spl cs m (l.map enc))) ?_ (hk _ hb hg)
  have hsz : (ac enc l).size = n := by rw [ac_size]; exact hl
  simp only [Nat.add_zero] at hrun
  have hrun' : (storeCells ⟨g, m, none⟩ (ac enc l).toList).run P w = .ok () (w.setRow g (spl cs m (l.map enc))) := by simpa [ac, spl] using hrun
  simp [execOp, ho, hx, hy, Instr.storeAt, Instr.sureAddr, storeVar, ag, Value.cells, A.size, hsz, hrun']
theorem spl_all (h : cs.size = l.length) : spl cs 0 (l.map enc) = ac enc l := by
  unfold spl ac
  apply Array.ext'
  simp [List.drop_eq_nil_of_le, h]
theorem stp_storeA (L1 L2 : List Value) (ho : o.op = .store t x y) (A : TyA P t e n) (hx : ev f x = bp g) (hy : ev f y = ag enc l') (hl : l.length = n) (hl' : l'.length = n) (h : Blk w g T (ac enc l)) (hc : ∀ x, (enc x).oneCell' = true)
    {K : Value → World → Prop} (hk : ∀ w', Blk w' g T (ac enc l') → Gr w w' (bp g) → Lift w w' (L1 ++ bp g :: L2) (L1 ++ bp g :: L2) → K undef w') : Stp P o f w K :=
  stp_storeSeg (m := 0) ho A hx hy hl' h (by rw [ac_size]; omega) hc fun w' hB hg => hk w' (by rw [spl_all (by rw [ac_size]; omega)] at hB; exact hB) (Gr.of hg) (Lift.own L1 L2 (Gr.of hg) (Nx.refl _ _))
abbrev bpo (g m : Nat) : Value := .pointer (some ⟨g, m, none⟩)
theorem q_ixA (ho : o.op = .indexAddr t x y) (A : TyA P t e n) (hx : ev f x = bpo g m) (hy : ev f y = i64 i) (hl : l.length = n) (hi : idx l i = some a) : Qa P o f (bpo g (m + i.toNat)) := by
  obtain ⟨h0, h1, _⟩ := idx_some.1 hi
  refine q_ixP (kk := .i64) ho A.und A.esz hx (hy.trans ?_) (by omega)
  show Value.int .i64 i = _
  rw [show ((i.toNat : Nat) : Int) = i by omega]
theorem q_ixA8 {c : UInt8} (ho : o.op = .indexAddr t x y) (A : TyA P t e n) (hx : ev f x = bpo g m) (hy : ev f y = u8 c) (hl : l.length = n) (hi : idx l (c.toNat : Int) = some a) : Qa P o f (bpo g (m + (c.toNat : Int).toNat)) := by
  obtain ⟨h0, h1, _⟩ := idx_some.1 hi
  exact q_ixP (kk := .u8) ho A.und A.esz hx hy (by omega)
theorem q_loadE (ho : o.op = .load e x) (A : TyA P t e n) (hx : ev f x = bpo g (m + i.toNat)) (h : Blk w g T cs) (hs : Seg cs m (l.map enc)) (hi : idx l i = some a) : Qt P o f w (enc a) := by
  obtain ⟨h0, h1, h2⟩ := idx_some.1 hi
  refine q_loadB ho A.eagg hx h ?_
  rw [hs i.toNat (by simpa using h1)]
  simp [h1, h2]
theorem stp_storeE (ho : o.op = .store e x y) (A : TyA P t e n) (hx : ev f x = bpo g (m + i.toNat)) (hy : ev f y = enc b) (h : Blk w g T cs) (hm : m + l.length ≤ cs.size) (hi : idx l i = some a) (hc : (enc b).oneCell' = true)
    {K : Value → World → Prop} (hk : ∀ w', Blk w' g T (cs.setIfInBounds (m + i.toNat) (enc b)) → w.grownBy w' (some g) → K undef w') : Stp P o f w K := by
  obtain ⟨h0, h1, h2⟩ := idx_some.1 hi
  exact stp_storeB ho A.esz hx hy h (by omega) hc hk
theorem stp_storeX (L1 L2 : List Value) (ho : o.op = .store e x y) (A : TyA P t e n) (hx : ev f x = bpo g (0 + i.toNat)) (hy : ev f y = enc b) (h : Blk w g T (ac enc l)) (hi : idx l i = some a) (hc : (enc b).oneCell' = true)
    {K : Value → World → Prop} (hk : ∀ w', Blk w' g T (ac enc (l.set i.toNat b)) → Gr w w' (bp g) → Lift w w' (L1 ++ bp g :: L2) (L1 ++ bp g :: L2) → K undef w') : Stp P o f w K :=
  stp_storeE (m := 0) ho A hx hy h (by rw [ac_size]; omega) hi hc fun w' hB hg => hk w' (by rw [Nat.zero_add, ac_set] at hB; exact hB) (Gr.of hg) (Lift.own L1 L2 (Gr.of hg) (Nx.refl _ _))
theorem q_index (ho : o.op = .index t x y) (A : TyA P t e n) (hx : ev f x = ag enc l) (hy : ev f y = i64 i) (hl : l.length = n) (hi : idx l i = some a) : Qa P o f (enc a) := by
  intro w'
  obtain ⟨h0, h1, h2⟩ := idx_some.1 hi
  have h3 : i < (n : Int) := by omega
  have h4 : (ac enc l)[i.toNat]? = some (enc a) := by rw [ac_get]; simp [h1, h2]
  simp [execOp, ho, hx, hy, i64, Instr.index, asIntOf, run_underlying A.und, ag, h0, h3, A.esz, part, A.eagg, h4]
theorem q_buildA {z : α} {parts : List (Nat × Operand)} {us : List Value} (ho : o.op = .build t parts.toArray) (A : TyA P t e n) (hz : ∀ w, (zeroValue t).run P w = .ok (ag enc (List.replicate n z)) w) (hp : Parts f parts 0 us) (hus : us = l.map enc) (hl : l.length ≤ n) (h1 : ∀ x, (enc x).cells = #[enc x]) : Qa P o f (ag enc (l ++ List.replicate (n - l.length) z)) := by
  intro w'
  have hparts : (parts.toArray.map fun (i, x) => (i, ev f x)).toList = (us.zipIdx 0).map fun p => (p.2, p.1) := by
    rw [← Parts.eq parts 0 us hp]; simp
  have hf := fill_seq us 0 ((List.replicate n z).map enc) (by subst hus; simp; omega) (fun u hu => by subst hus; obtain ⟨x, _, rfl⟩ := List.mem_map.1 hu; exact h1 x)
  have hf' : Instr.fill (fun i => some (i * 1, 1)) (ac enc (List.replicate n z)) ((us.zipIdx 0).map fun p => (p.2, p.1)) = some (ac enc (l ++ List.replicate (n - l.length) z)) := by
    unfold ac at hf ⊢
    rw [hf]
    subst hus
    simp
  have hrun : (Instr.build t (parts.toArray.map fun (i, x) => (i, ev f x))).run P w' = .ok (ag enc (l ++ List.replicate (n - l.length) z)) w' := by
    unfold Instr.build
    simp only [Sem.run_bind, hz, Result.andThen_ok, Sem.run_pure, run_underlying A.und, A.esz, hparts]
    show Sem.run P (match Instr.fill (fun i => some (i * 1, 1)) (ac enc (List.replicate n z)) ((us.zipIdx 0).map fun p => (p.2, p.1)) with | some cells => pure (Value.agg cells) | x => stuck "build: a part of the wrong size") w' = _
    rw [hf']; rfl
  simp only [execOp, ho, Sem.run_bind, hrun, Result.andThen_ok, Sem.run_pure]
theorem q_buildAF {z : α} {parts : List (Nat × Operand)} {us : List Value} (ho : o.op = .build t parts.toArray) (A : TyA P t e n) (hz : ∀ w, (zeroValue t).run P w = .ok (ag enc (List.replicate n z)) w) (hp : Parts f parts 0 us) (hus : us = l.map enc) (hl : l.length = n) (h1 : ∀ x, (enc x).cells = #[enc x]) : Qa P o f (ag enc l) := by
  have := q_buildA (l := l) ho A hz hp hus (Nat.le_of_eq hl) h1
  rwa [hl, Nat.sub_self, List.replicate_zero, List.append_nil] at this
theorem q_buildA0 {z : α} {parts : List (Nat × Operand)} {us : List Value} (ho : o.op = .build t parts.toArray) (A : TyA P t e n) (hz : ∀ w, (zeroValue t).run P w = .ok (ag enc (List.replicate n z)) w) (hp : Parts f parts 0 us) (hus : us = l.map enc) (hl : l.length = 0) (h1 : ∀ x, (enc x).cells = #[enc x]) : Qa P o f (ag enc (List.replicate n z)) := by
  have := q_buildA (l := l) ho A hz hp hus (by omega) h1
  have h0 := List.eq_nil_of_length_eq_zero hl
  subst h0
  simpa using this
end
theorem one_u8 (x : UInt8) : (u8 x).oneCell' = true := rfl
theorem one_u32 (x : UInt32) : (u32 x).oneCell' = true := rfl
theorem one_i64 (x : Int) : (i64 x).oneCell' = true := rfl
theorem cel_u8 (x : UInt8) : (u8 x).cells = #[u8 x] := rfl
theorem cel_u32 (x : UInt32) : (u32 x).cells = #[u32 x] := rfl
section
variable {P : Program} {o : Oper} {f : Nat → Value} {w : World} {x y : Operand} {t t' : TypeId} {k : IntKind}
theorem q_not8 {a : UInt8} (ho : o.op = .unOp .xor t x) (hx : ev f x = u8 a) : Qa P o f (u8 ((255 : UInt8) ^^^ a)) := by
  intro w
  have h := back_u8 ((255 : UInt8) ^^^ a)
  rw [UInt8.toBitVec_xor, ← bv_u8, ← bv_u8] at h
  unfold execOp; rw [ho]; dsimp only; rw [hx]; exact congrArg (fun n : Int => (Result.ok (Next.value (Value.int .u8 n)) w : Result Next)) h
theorem q_not32 {a : UInt32} (ho : o.op = .unOp .xor t x) (hx : ev f x = u32 a) : Qa P o f (u32 ((4294967295 : UInt32) ^^^ a)) := by
  intro w
  have h := back_u32 ((4294967295 : UInt32) ^^^ a)
  rw [UInt32.toBitVec_xor, ← bv_u32, ← bv_u32] at h
  unfold execOp; rw [ho]; dsimp only; rw [hx]; exact congrArg (fun n : Int => (Result.ok (Next.value (Value.int .u32 n)) w : Result Next)) h
theorem q_not64 {a : UInt64} (ho : o.op = .unOp .xor t x) (hx : ev f x = u64 a) : Qa P o f (u64 ((18446744073709551615 : UInt64) ^^^ a)) := by
  intro w
  have h := back_u64 ((18446744073709551615 : UInt64) ^^^ a)
  rw [UInt64.toBitVec_xor, ← bv_u64, ← bv_u64] at h
  unfold execOp; rw [ho]; dsimp only; rw [hx]; exact congrArg (fun n : Int => (Result.ok (Next.value (Value.int .u64 n)) w : Result Next)) h
theorem q_cvt648 {a : UInt8} (ho : o.op = .convert t t' x) (ht : P.underlying t = some (.int k)) (ht' : P.underlying t' = some (.int .u64)) (hx : ev f x = u8 a) : Qa P o f (u64 a.toUInt64) := by
  intro w
  have h : IntKind.u64.wrap (a.toNat : Int) = (a.toUInt64.toNat : Int) := by
    have := a.toNat_lt
    rw [wrap_u64]; simp; omega
  simp [execOp, ho, hx, u8, convert, run_underlying ht, run_underlying ht', Conv.intToInt, h, u64]
theorem q_cvt3264 {a : UInt64} (ho : o.op = .convert t t' x) (ht : P.underlying t = some (.int k)) (ht' : P.underlying t' = some (.int .u32)) (hx : ev f x = u64 a) : Qa P o f (u32 a.toUInt32) := by
  intro w
  have h : IntKind.u32.wrap (a.toNat : Int) = (a.toUInt32.toNat : Int) := by
    rw [wrap_u32]; simp
  simp [execOp, ho, hx, u64, convert, run_underlying ht, run_underlying ht', Conv.intToInt, h, u32]
theorem q_cvt832 {a : UInt32} (ho : o.op = .convert t t' x) (ht : P.underlying t = some (.int k)) (ht' : P.underlying t' = some (.int .u8)) (hx : ev f x = u32 a) : Qa P o f (u8 a.toUInt8) := by
  intro w
  have h : IntKind.u8.wrap (a.toNat : Int) = (a.toUInt8.toNat : Int) := by
    rw [wrap_u8]; simp
  simp [execOp, ho, hx, u32, convert, run_underlying ht, run_underlying ht', Conv.intToInt, h, u8]
theorem q_cvt32I {a : Int} (ho : o.op = .convert t t' x) (ht : P.underlying t = some (.int k)) (ht' : P.underlying t' = some (.int .u32)) (hx : ev f x = i64 a) : Qa P o f (u32 (UInt32.ofInt a)) := by
  intro w
  have h : IntKind.u32.wrap a = ((UInt32.ofInt a).toNat : Int) := by
    rw [wrap_u32]; simp [UInt32.ofInt]; omega
  simp [execOp, ho, hx, i64, convert, run_underlying ht, run_underlying ht', Conv.intToInt, h, u32]
theorem q_cvt328 {a : UInt8} (ho : o.op = .convert t t' x) (ht : P.underlying t = some (.int k)) (ht' : P.underlying t' = some (.int .u32)) (hx : ev f x = u8 a) : Qa P o f (u32 a.toUInt32) := by
  intro w
  have h : IntKind.u32.wrap (a.toNat : Int) = (a.toUInt32.toNat : Int) := by
    have := a.toNat_lt
    rw [wrap_u32]; simp; omega
  simp [execOp, ho, hx, u8, convert, run_underlying ht, run_underlying ht', Conv.intToInt, h, u32]
end
section
variable {P : Program} {fn : Func} {n : Nat} {R : Ending → World → Prop} {f : Nat → Value} {w : World} {t e T : TypeId} {a g m : Nat} {α : Type} {enc : α → Value} {l : List α}
theorem rtc1 (A : TyA P T e m) (hr : fn.results = #[.cell a T]) (ha : Nat.blt a n = true) (hv : f a = bp g) (hB : Blk w g t (ac enc l)) (hl : l.length = m) (hm : f n = undef) (h : R (.returned (ag enc l)) w) : Rt P fn n R .ret f w := by
  have hrun := run_loadSeg A hB (seg_self enc l) (by simpa using hl)
  refine .inl ⟨by rw [hm]; rfl, ag enc l, ?_, h⟩
  have hg : (fr n f).tmps.getD a undef = bp g := by rw [fr_getD n f a ha, hv]
  simp [results, hr, ← Array.getD_eq_getD_getElem?, hg, asAddr, hrun, ag, ac]
end
end Gk

/- Cuts with three numbers; results that are read and not owned; rows that are put behind rows; rows that grow in their place. No condition. -/
namespace Gk
open Go Go.RowKit
def subL3 {α : Type} (l : List α) (lo hi mx : Int) : Option (List α) := if 0 ≤ lo ∧ lo ≤ hi ∧ hi ≤ mx ∧ mx ≤ l.length then some ((l.take hi.toNat).drop lo.toNat) else none
theorem subL3_some {α : Type} {l m : List α} {lo hi mx : Int} : subL3 l lo hi mx = some m ↔ (0 ≤ lo ∧ lo ≤ hi ∧ hi ≤ mx ∧ mx ≤ l.length) ∧ (l.take hi.toNat).drop lo.toNat = m := by
  unfold subL3
  by_cases h : 0 ≤ lo ∧ lo ≤ hi ∧ hi ≤ mx ∧ mx ≤ l.length
  · rw [if_pos h]; simp [h]
  · rw [if_neg h]; simp [h]
section
variable {P : Program} {o : Oper} {f : Nat → Value} {w : World} {L : List Value}
theorem q_slice3 {α : Type} {R : World → List Value → Value → α → Prop} {v z : Value} {l m : List α} {x y y' : Operand} {t e : TypeId} {bytes : Nat} {lo : Option Operand} {a b c : Int}
    (ho : o.op = .slice t x lo (some y) (some y')) (T : TyS P t e z bytes) (hx : ev f x = v) (h : SlK R w L v l)
    (hlo : match lo with | none => a = 0 | some q => ev f q = i64 a) (hy : ev f y = i64 b) (hy' : ev f y' = i64 c) (hs : subL3 l a b c = some m) : Qa P o f (subW v a.toNat b.toNat c.toNat) := by
  intro w'
  obtain ⟨p, cap, rfl, hc⟩ := h.shape
  obtain ⟨⟨h0, h1, h2, h3⟩, _⟩ := subL3_some.1 hs
  have hm : ∀ k w, (Instr.sliceBound (i64 c) cap k).run P w = .ok c.toNat w := fun k w => run_bound rfl (by omega) (by omega) w
  have hb : ∀ k w, (Instr.sliceBound (i64 b) c.toNat k).run P w = .ok b.toNat w := fun k w => run_bound rfl (by omega) (by omega) w
  have ha : ∀ k w, (Instr.sliceBound (i64 a) b.toNat k).run P w = .ok a.toNat w := fun k w => run_bound rfl (by omega) (by omega) w
  cases lo with
  | none =>
    dsimp only at hlo; subst hlo
    simp [execOp, ho, hx, hy, hy', Instr.sliceAt, run_underlying T.sl, Instr.slice, Instr.sliceBounds, ty_size T, hb, hm, subW]
  | some q =>
    dsimp only at hlo
    simp [execOp, ho, hx, hlo, hy, hy', Instr.sliceAt, run_underlying T.sl, Instr.slice, Instr.sliceBounds, ty_size T, ha, hb, hm, subW]
theorem Sl.cut3 {v : Value} {us : List Value} (h : Sl w L v us) (lo hi mx : Nat) (h1 : lo ≤ hi) (h2 : hi ≤ mx) (h3 : mx ≤ us.length) : Sl w L (subW v lo hi mx) ((us.take hi).drop lo) := by
  obtain ⟨p, cap, rfl, hc, hne⟩ := h
  have hlen : ((us.take hi).drop lo).length = hi - lo := by simp; omega
  refine ⟨_, mx - lo, by unfold subW; rw [hlen], by rw [hlen]; omega, fun hn => ?_⟩
  have h0 : 0 < hi - lo := by rw [← hlen]; exact List.length_pos_iff.2 hn
  obtain ⟨b, off, rfl, ha, hr⟩ := hne (fun e => by subst e; simp at h3; omega)
  refine ⟨b, off + lo, ?_, ha, fun i hi' => ?_⟩
  · rw [if_neg (by omega)]; simp [add_off]
  · rw [hlen] at hi'
    have := hr (lo + i) (by omega)
    rw [Nat.add_assoc, this]
    simp
theorem SlK.cut3 {α : Type} {R : World → List Value → Value → α → Prop} {v : Value} {l m : List α} (h : SlK R w L v l) {lo hi mx : Int} (hs : subL3 l lo hi mx = some m) : SlK R w L (subW v lo.toNat hi.toNat mx.toNat) m := by
  obtain ⟨us, hu, hl, he⟩ := h
  obtain ⟨⟨h0, h1, h2, h3⟩, rfl⟩ := subL3_some.1 hs
  refine ⟨_, hu.cut3 lo.toNat hi.toNat mx.toNat (by omega) (by omega) (by omega), by simp [hl], fun i a b => ?_⟩
  simp only [List.getElem_drop, List.getElem_take]
  exact he _ _ _
theorem oB_add {p : Option Addr} {n n' c c' d : Nat} {q : Prop} [Decidable q] {k : Nat} (hc : 0 < c) (h : oB (.slice (if q then p else p.map (·.add d)) n' c') = some k) : oB (.slice p n c) = some k := by
  cases c with
  | zero => omega
  | succ c =>
    cases p with
    | none => split at h <;> cases h
    | some a =>
      cases c' with
      | zero => split at h <;> simp [oB] at h
      | succ c' =>
        split at h
        · exact h
        · simp only [Option.map_some, oB] at h ⊢
          rw [← h]
          unfold Addr.add
          split <;> rfl
theorem hs_cut3 {α : Type} {R : World → List Value → Value → α → Prop} {v : Value} {l m : List α} (h : SlK R w L v l) {lo hi mx : Int} (hs : subL3 l lo hi mx = some m) : ∀ k, Hs (subW v lo.toNat hi.toNat mx.toNat) k → Hs v k := by
  intro k hk
  obtain ⟨p, cap, rfl, hc⟩ := h.shape
  obtain ⟨⟨h0, h1, h2, h3⟩, _⟩ := subL3_some.1 hs
  have hk := hs_sl hk
  by_cases h4 : 0 < cap
  · exact .inl (oB_add h4 hk)
  · rw [show mx.toNat - lo.toNat = 0 by omega] at hk
    cases hp : (if mx.toNat = lo.toNat then p else p.map (·.add lo.toNat)) <;> rw [hp] at hk <;> cases hk
theorem SlK.avail {α : Type} {enc : α → Value} {v : Value} {l : List α} (h : SlK (Sc enc) w [] v l) (L : List Value) (ha : ∀ k, Hs v k → Av L k) : SlK (Sc enc) w L v l := by
  obtain ⟨us, ⟨p, cap, rfl, hc, hne⟩, hl, he⟩ := h
  refine ⟨us, ⟨p, cap, rfl, hc, fun hn => ?_⟩, hl, he⟩
  obtain ⟨b, off, rfl, _, hr⟩ := hne hn
  refine ⟨b, off, rfl, ha b (.inl ?_), hr⟩
  have h1 : 0 < us.length := List.length_pos_iff.2 hn
  cases cap with
  | zero => omega
  | succ c => rfl
end
theorem ob_own {α : Type} {R : World → List Value → Value → α → Prop} {w : World} {L : List Value} {e : TypeId} {x : Value} {l : List α} (h : OwK R w L e x l) : ∀ k, Hs x k → oB x = some k := fun k hk => by
  obtain ⟨us', h5, _⟩ := h
  rcases h5 with ⟨p, rfl, _⟩ | ⟨g, cap, rfl, _⟩ <;> exact hs_sl hk
theorem ob_ow {w : World} {e : TypeId} {x : Value} {us : List Value} (h5 : Ow w e x us) : ∀ k, Hs x k → oB x = some k := fun k hk => by
  rcases h5 with ⟨p, rfl, _⟩ | ⟨g, cap, rfl, _⟩ <;> exact hs_sl hk
theorem hs_nilG {k : Nat} : ¬ Hs (.tuple #[.slice none 0 0]) k := fun h => by
  obtain ⟨x, hx, e⟩ := hs_tup h
  have hx : x ∈ [Value.slice none 0 0] := hx
  rw [List.mem_singleton.1 hx] at e; cases e
theorem nw_nilG (w : World) : Nw w (.tuple #[.slice none 0 0]) := fun _ h => absurd h hs_nilG
theorem OwD.nil (w : World) (e1 e2 : TypeId) : OwD w e1 e2 (.tuple #[.slice none 0 0]) (.slice none 0 0) [] := ⟨[], rfl, Ow.nil w e1, rfl, fun i h => absurd h (by simp), by simp⟩
section
variable {P : Program} {f : Nat → Value} {w : World} {o : Oper}
def Pnd (w : World) (e2 : TypeId) (G : Value) (i : Nat) (x' : Value) (r' : List UInt8) : Prop :=
  OwK (Sc u8) w [] e2 x' r' ∧ ∀ k, Hs x' k → (∃ x, DAt G i x ∧ oB x = some k) ∨ ¬ Hs G k
theorem stp_appendRow (L1 L2 : List Value) {s y : Operand} {t e1 e2 : TypeId} {z v q : Value} {bytes : Nat} {i : Int} {G u : Value} {ls : List (List UInt8)} {r m r' : List UInt8} (ho : o.op = .call ⟨.builtin .append, #[s, y], #[t, t]⟩) (T : TyS P t e2 z bytes) (hs : ev f s = v) (hy : ev f y = q)
    (h : OwD w e1 e2 G u ls) (hd : DAt G i.toNat v) (hi : idx ls i = some r) {Lu : List Value} (hq : SlK (Sc u8) w Lu q m) (hm : appL r m = some r')
    {K : Value → World → Prop} (hk : ∀ x' w', Pnd w' e2 G i.toNat x' r' → OwD w' e1 e2 G u ls → Gr w w' G → Nx w G x' → Lift w w' (L1 ++ G :: L2) (x' :: (L1 ++ G :: L2)) → K x' w') : Stp P o f w K := by
  obtain ⟨hlt, hor, hsub⟩ := h.row hd
  have hG := h.lt
  obtain ⟨_, _, rfl⟩ := idx_some.1 hi
  refine stp_append2 (R := Sc u8) (Sc.stab _) [] [] ho T hs hy (hor.scal _) hq (fun _ _ h => h) hm oc_u8 ?_
  intro x' w' hx' hg hnx _ hold
  have hb := ob_own hor
  have hNx : Nx w G x' := fun k hk => (hnx k hk).imp (hsub k) id
  have hgG : Gr w w' G := by
    obtain ⟨row, hgr, hr⟩ := hg
    exact ⟨row, hgr, fun k hk => hsub k (hr k hk)⟩
  refine hk x' w' ⟨hx'.scal [], fun k hk1 => ?_⟩ ?_ hgG hNx ⟨fun k o ho hc ha => ?_, fun k hk1 ha => ⟨fun e => ?_, ha⟩⟩
  · rcases hnx k hk1 with h4 | h4
    · exact .inl ⟨v, hd, hb k h4⟩
    · exact .inr fun h5 => by have := hG k h5; omega
  · have := (h.upd (r := ls[i.toNat]) hd (hold.scal []) hg).1
    rwa [List.set_getElem_self] at this
  · exact (Lift.own L1 L2 hgG (Nx.refl _ _)).blk k o ho hc ha
  · rcases hNx k e with h4 | h4
    · exact (av_append.1 ha).2.1 h4
    · omega
theorem stp_storePnd (L1 L2 : List Value) {a y : Operand} {t e1 e2 : TypeId} {z x : Value} {bytes : Nat} {i : Int} {G u : Value} {ls : List (List UInt8)} {r xs : List UInt8} (ho : o.op = .store e1 a y) (T : TyS P t e1 z bytes) (hx : ev f a = adr u i.toNat) (hy : ev f y = x)
    (h : OwD w e1 e2 G u ls) (hi : idx ls i = some r) (hp : Pnd w e2 G i.toNat x xs)
    {K : Value → World → Prop} (hk : ∀ G' w', OwD w' e1 e2 G' u (ls.set i.toNat xs) → Gr w w' G → (∀ k, Hs G' k → Hs G k ∨ Hs x k) → Lift w w' (L1 ++ G :: L2) (L1 ++ G :: L2) → K undef w') : Stp P o f w K := by
  obtain ⟨us, rfl, h1, hl, h2, h3⟩ := h
  obtain ⟨hxo, hxG⟩ := hp
  obtain ⟨h0, hlt, rfl⟩ := idx_some.1 hi
  have hid : idx us i = some (us[i.toNat]'(by omega)) := by unfold idx; rw [if_pos h0]; simp
  refine stp_store (R := Sc (fun x : Value => x)) (u := x) idv_stab [] [] ho T hx hy (idv_eq.2 h1) (put_of x hid) rfl (oc_own hxo) ?_
  intro w' h' hg _
  have h' := idv_eq.1 h'
  have hxs := ob_own hxo
  have hus := ob_ow h1
  have hgG : Gr w w' (.tuple (u :: us).toArray) := by
    obtain ⟨row, hgr, hr⟩ := hg
    exact ⟨row, hgr, fun k hk => hs_grp.2 (.inl (hus k (hr k hk)))⟩
  have hi' : i.toNat < us.length := by omega
  have hold : ∀ k, oB x = some k → oB us[i.toNat] = some k ∨ ¬ Hs (.tuple (u :: us).toArray) k := fun k hk => by
    rcases hxG k (.inl hk) with ⟨y, ⟨u', us', e, hy⟩, hyk⟩ | h4
    · obtain ⟨rfl, rfl⟩ := List.cons.inj (tup_inj e)
      obtain ⟨_, rfl⟩ := List.getElem?_eq_some_iff.1 hy
      exact .inl hyk
    · exact .inr h4
  have hux : Apt u x := fun k hk1 hk2 => by
    rcases hold k hk2 with h4 | h4
    · exact (List.rel_of_pairwise_cons h3 (List.getElem_mem hi')) k hk1 h4
    · exact h4 (hs_grp.2 (.inl hk1))
  have hrx : ∀ (j : Nat) (hj : j < us.length), j ≠ i.toNat → Apt us[j] x := fun j hj hne k hk1 hk2 => by
    rcases hold k hk2 with h4 | h4
    · have h5 := List.pairwise_iff_getElem.1 (List.pairwise_cons.1 h3).2
      rcases Nat.lt_or_gt_of_ne hne with h6 | h6
      · exact h5 j i.toNat hj hi' h6 k hk1 h4
      · exact h5 i.toNat j hi' hj h6 k h4 hk1
    · exact h4 (hs_grp.2 (.inr ⟨_, List.getElem_mem hj, hk1⟩))
  obtain ⟨row, hgr, hr⟩ := hg
  have hro : ∀ k, row = some k → oB u = some k := fun k hk => hus k (hr k hk)
  refine hk (.tuple (u :: us.set i.toNat x).toArray) w' ⟨us.set i.toNat x, rfl, h', by simpa using hl, fun j a b => ?_, ?_⟩ hgG (fun k hk' => ?_) (Lift.own L1 L2 hgG (Nx.refl _ _))
  · have hj : j < us.length := by simpa using a
    have hj' : j < ls.length := by simpa using b
    simp only [List.getElem_set]
    by_cases hij : i.toNat = j
    · subst hij
      rw [if_pos rfl, if_pos rfl]
      exact hxo.keptR hgr (fun k hk1 e => hux k (hro k e) hk1)
    · rw [if_neg hij, if_neg hij]
      exact (h2 j hj hj').keptR hgr (fun k hk1 e => (List.rel_of_pairwise_cons h3 (List.getElem_mem hj)) k (hro k e) hk1)
  · rw [List.pairwise_cons] at h3 ⊢
    refine ⟨fun v hv => ?_, ?_⟩
    · rcases List.mem_or_eq_of_mem_set hv with hv | rfl
      · exact h3.1 v hv
      · exact hux
    · refine List.pairwise_iff_getElem.2 fun p q hp hq' hpq => ?_
      have hp' : p < us.length := by simpa using hp
      have hq'' : q < us.length := by simpa using hq'
      simp only [List.getElem_set]
      have h4 := List.pairwise_iff_getElem.1 h3.2 p q hp' hq'' hpq
      by_cases h5 : i.toNat = p
      · rw [if_pos h5, if_neg (by omega)]
        exact (hrx q hq'' (by omega)).symm
      · rw [if_neg h5]
        by_cases h6 : i.toNat = q
        · rw [if_pos h6]; exact hrx p hp' (by omega)
        · rw [if_neg h6]; exact h4
  · rcases hs_grp.1 hk' with hk2 | ⟨v, hv, hk2⟩
    · exact .inl (hs_grp.2 (.inl hk2))
    · rcases List.mem_or_eq_of_mem_set hv with hv | rfl
      · exact .inl (hs_grp.2 (.inr ⟨v, hv, hk2⟩))
      · exact .inr (.inl hk2)
end
end Gk

/- Functions that turn what a pointer points to: what they keep. No condition. -/
namespace Gk
open Go Go.RowKit
structure ExG (S : List Value) (w w' : World) : Prop where
  os : w'.os = w.os
  output : w'.output = w.output
  size : w.heap.size ≤ w'.heap.size
  blk : ∀ k, k < w.heap.size → Av S k → w'.heap[k]? = w.heap[k]?
def NS (S : List Value) (w : World) (v : Value) : Prop := ∀ k, Hs v k → w.heap.size ≤ k ∨ ¬ Av S k
section
variable {S : List Value} {w0 w w' : World} {v v' : Value}
theorem ExG.refl (S : List Value) (w : World) : ExG S w w := ⟨rfl, rfl, Nat.le_refl _, fun _ _ _ => rfl⟩
theorem ExG.trans (h : ExG S w0 w) (x : Ext w w') : ExG S w0 w' :=
  ⟨x.os.trans h.os, x.output.trans h.output, Nat.le_trans h.size x.size, fun k hk ha => (x.blk k (Nat.lt_of_lt_of_le hk h.size)).trans (h.blk k hk ha)⟩
theorem ExG.grown (h : ExG S w0 w) (hg : Gr w w' v) (hn : NS S w0 v) : ExG S w0 w' := by
  obtain ⟨row, hg, hr⟩ := hg
  refine ⟨hg.os.trans h.os, hg.output.trans h.output, Nat.le_trans h.size hg.size, fun k hk ha => ?_⟩
  refine (hg.block k (Nat.lt_of_lt_of_le hk h.size) (fun e => ?_)).trans (h.blk k hk ha)
  rcases hn k (hr k e.symm) with h1 | h1
  · omega
  · exact h1 ha
theorem NS.ext (h : ExG S w0 w) (hn : Nw w v) : NS S w0 v := fun k hk => .inl (Nat.le_trans h.size (hn k hk))
theorem NS.own {g : Nat} {S' : List Value} : NS (bp g :: S') w (bp g) := fun k hk => .inr (fun h => h.1 hk)
theorem Lift.exg0 (h : ExG S w0 w) : Lift w0 w S [] := ⟨fun k o ho _ ha => (h.blk k (lt_of_get ho) ha).trans ho, fun _ _ _ => trivial⟩
variable {b u : Value} {e T : TypeId} {g : Nat} {cs : Array Value}
theorem av_one {k : Nat} (h : ¬ Hs b k) : Av [b] k := ⟨h, trivial⟩
theorem Ow.otherX {us : List Value} (h : Ow w e u us) (x : ExG [b] w w') (hq : Nq u b) : Ow w' e u us := by
  rcases h with h | ⟨g, cap, rfl, hc, h⟩
  · exact .inl h
  · have ha : Av [b] g := av_one (hq g (.inl (oB_pos hc)))
    obtain ⟨cur, hg, h1, h2, h3, h4⟩ := row_spec h
    have hlt := lt_of_get hg
    exact .inr ⟨g, cap, rfl, hc, h.1, .inr ⟨g, cap, cur, rfl, Nat.zero_le _, by rw [x.blk g hlt ha]; exact hg, h1, h2, h3, h4⟩⟩
theorem OwK.otherX {α : Type} {R : World → List Value → Value → α → Prop} (hR : Stab R) {L L' : List Value} {l : List α} (h : OwK R w L e u l) (x : ExG [b] w w') (hq : Nq u b) (g : Lift w w' L L') : OwK R w' L' e u l := by
  obtain ⟨us, h, hl, he⟩ := h
  exact ⟨us, h.otherX x hq, hl, fun i h1 h2 => hR _ _ _ _ _ _ g (he i h1 h2)⟩
theorem Blk.otherX (h : Blk w g T cs) (x : ExG [b] w w') (hq : Nq (bp g) b) : Blk w' g T cs := by
  unfold Blk; rw [x.blk g h.lt (av_one (hq g (hs_bp' g)))]; exact h
theorem Lift.ownX (L1 L2 : List Value) (x : ExG [b] w w') : Lift w w' (L1 ++ b :: L2) (L1 ++ b :: L2) :=
  ⟨fun k o ho _ ha => by
    obtain ⟨_, h2, _⟩ := av_append.1 ha
    exact (x.blk k (lt_of_get ho) (av_one h2)).trans ho, fun _ _ h => h⟩
theorem Ext.grownX (h : Ext w0 w) (x : ExG [b] w w') (hn : Nw w0 b) : Ext w0 w' :=
  ⟨x.os.trans h.os, x.output.trans h.output, Nat.le_trans h.size x.size, fun k hk =>
    (x.blk k (Nat.lt_of_lt_of_le hk h.size) (av_one (fun e => by have := hn k e; omega))).trans (h.blk k hk)⟩
theorem _root_.Go.KeepsFrom.ownX {B : Nat} {W : World} (h : KeepsFrom B W w) (x : ExG [b] w w') (hc : Cl w b) : KeepsFrom B W w' := h.trans ⟨x.size, fun k o _ ho hn => by
  refine (x.blk k (lt_of_get ho) (av_one (fun e => ?_))).trans ho
  obtain ⟨o', ho', hc'⟩ := hc k e
  rw [ho] at ho'; cases ho'; rw [hn] at hc'; cases hc'⟩
end
end Gk

/- Facts of this seat's program: its array types. No condition. -/
namespace Gk
open Go Go.Proofs
theorem A78 : TyA Try.prog 78 77 8 := ⟨Try.underlying78, Try.isAgg78, Try.sizeOf78, Try.sizeOf77, Try.isAgg77⟩
theorem Z78 : ∀ w, (zeroValue 78).run Try.prog w = .ok (ag u32 (List.replicate 8 (0 : UInt32))) w := fun w => by rw [Try.zeroValue78]; rfl
theorem A79 : TyA Try.prog 79 77 8 := ⟨Try.underlying79, Try.isAgg79, Try.sizeOf79, Try.sizeOf77, Try.isAgg77⟩
theorem Z79 : ∀ w, (zeroValue 79).run Try.prog w = .ok (ag u32 (List.replicate 8 (0 : UInt32))) w := fun w => by rw [Try.zeroValue79]; rfl
theorem A89 : TyA Try.prog 89 5 16 := ⟨Try.underlying89, Try.isAgg89, Try.sizeOf89, Try.sizeOf5, Try.isAgg5⟩
theorem Z89 : ∀ w, (zeroValue 89).run Try.prog w = .ok (ag u8 (List.replicate 16 (0 : UInt8))) w := fun w => by rw [Try.zeroValue89]; rfl
theorem A90 : TyA Try.prog 90 77 64 := ⟨Try.underlying90, Try.isAgg90, Try.sizeOf90, Try.sizeOf77, Try.isAgg77⟩
theorem Z90 : ∀ w, (zeroValue 90).run Try.prog w = .ok (ag u32 (List.replicate 64 (0 : UInt32))) w := fun w => by rw [Try.zeroValue90]; rfl
theorem A98 : TyA Try.prog 98 5 256 := ⟨Try.underlying98, Try.isAgg98, Try.sizeOf98, Try.sizeOf5, Try.isAgg5⟩
theorem A106 : TyA Try.prog 106 5 16 := ⟨Try.underlying106, Try.isAgg106, Try.sizeOf106, Try.sizeOf5, Try.isAgg5⟩
theorem Z106 : ∀ w, (zeroValue 106).run Try.prog w = .ok (ag u8 (List.replicate 16 (0 : UInt8))) w := fun w => by rw [Try.zeroValue106]; rfl
theorem A127 : TyA Try.prog 127 5 4 := ⟨Try.underlying127, Try.isAgg127, Try.sizeOf127, Try.sizeOf5, Try.isAgg5⟩
theorem Z127 : ∀ w, (zeroValue 127).run Try.prog w = .ok (ag u8 (List.replicate 4 (0 : UInt8))) w := fun w => by rw [Try.zeroValue127]; rfl
end Gk

/- Regions in which several operations that act may come up, in whatever order: a tree of orders. No condition. -/
namespace Gk
open Go
inductive Tr where
  | fin
  | br (i : Nat) (sch : List (Nat × Nat)) (t rest : Tr)
def Tr.len : Tr → Nat
  | .fin => 0
  | .br _ sch t _ => t.len + sch.length + 1
def Tr.roots : Tr → List Nat
  | .fin => []
  | .br i _ _ rest => i :: rest.roots
def Tr.isFin : Tr → Bool
  | .fin => true
  | _ => false
def okS (ops : Array Oper) (qs : List Nat) : Tr → Nat → Array Bool → Bool
  | .fin, _, _ => true
  | .br i sch t rest, m, listed =>
    Nat.beq (t.len + sch.length + 1) m && (schOKe ops qs (fun l => if t.isFin then (Region.ready .any ops l).isEmpty else (Region.ready .any ops l == t.roots && okS ops qs t t.len l)) sch (listed.setIfInBounds i true) && okS ops qs rest m listed)
def wtT (t : Tr) (A B : Prop) : Prop := match t with | .fin => A | .br .. => B
def wrT (P : Program) (ops : Array Oper) (qs : List Nat) (K : (Nat → Value) → World → Prop) : Tr → (Nat → Value) → World → Prop
  | .fin, _, _ => True
  | .br i sch t rest, f, w => stepT P ops qs i (ws P ops qs (fun f w => wtT t (K f w) (wrT P ops qs K t f w)) sch) f w ∧ wrT P ops qs K rest f w
theorem tree_ok {P : Program} {n : Nat} {ops : Array Oper} {qs : List Nat} {K : (Nat → Value) → World → Prop} (hok : okRegion n ops = true) (hns : Region.noSelect ops = true) :
    ∀ (t : Tr) (m : Nat) (listed : Array Bool) (f : Nat → Value) (w : World), Closed .any ops listed → okS ops qs t (m + 1) listed = true → wrT P ops qs K t f w →
      ∀ k ∈ t.roots, k ∈ Region.ready .any ops listed → wpOp P ops (fun e a w => e = .normal ∧ At n K a w) k (fun a' w' => (Ext w w' ∨ clearOf .any ops qs k = true) ∧ wpAnyE P .any ops (fun e a w => e = .normal ∧ At n K a w) Ext qs m (listed.setIfInBounds k true) a' w') (fr n f) w
  | .fin, _, _, _, _, _, _, _, k, hk, _ => by simp [Tr.roots] at hk
  | .br i sch t rest, m, listed, f, w, hcl, hs, h, k, hk, hr => by
    simp only [okS, Bool.and_eq_true] at hs
    obtain ⟨hl, hsch, hrest⟩ := hs
    have hl' : t.len + sch.length = m := by have := Nat.eq_of_beq_eq_true hl; omega
    unfold wrT at h
    rcases List.mem_cons.1 hk with rfl | hk
    · have h1 := h.1
      unfold stepT at h1
      unfold Go.wpOp
      cases ho : ops[k]? with
      | none => rw [ho] at h1; exact h1.elim
      | some o =>
        rw [ho] at h1
        dsimp only at h1 ⊢
        have hmem : o ∈ ops := Array.mem_of_getElem? ho
        have hall := List.all_eq_true.1 hok o (Array.mem_toList_iff.2 hmem)
        simp only [Bool.and_eq_true] at hall
        have hwant := wantF_fr n ops f o hall.2
        have hcl' : Closed .any ops (listed.setIfInBounds k true) := by
          obtain ⟨_, o', ho', hall'⟩ := mem_ready.1 hr
          exact hcl.set ho' hall'
        have key : ∀ f w, ws P ops qs (fun f w => wtT t (K f w) (wrT P ops qs K t f w)) sch f w → wpAnyE P .any ops (fun e a w => e = .normal ∧ At n K a w) Ext qs m (listed.setIfInBounds k true) (fr n f) w := fun f w hw => by
          have := wpAnyE_of_wse (K0 := K) (m := t.len) hok hns (fun listed f w hcl2 hf hk2 => by
            cases t with
            | fin =>
              simp only [Tr.isFin, if_true] at hf
              rw [List.isEmpty_iff] at hf
              exact ⟨hf, rfl, At.mk hk2⟩
            | br i2 sch2 t2 rest2 =>
              simp only [Tr.isFin, Bool.false_eq_true, if_false, Bool.and_eq_true] at hf
              obtain ⟨hrd, hok2⟩ := hf
              have hrd' : Region.ready .any ops listed = (Tr.br i2 sch2 t2 rest2).roots := by simpa using hrd
              have ih := tree_ok hok hns (.br i2 sch2 t2 rest2) (t2.len + sch2.length) listed f w hcl2 hok2 hk2
              show wpAnyE P .any ops _ Ext qs (t2.len + sch2.length + 1) listed (fr n f) w
              refine ⟨fun h0 => ?_, fun j hj => ih j (by rw [← hrd']; exact hj) hj⟩
              rw [hrd'] at h0
              simp [Tr.roots] at h0) sch (listed.setIfInBounds k true) f w hcl' hsch hw
          rwa [hl'] at this
        by_cases hw : wantF ops f o = true
        · rw [if_pos hw] at h1
          rw [if_pos (hwant.trans hw)]
          exact .inl (Stp.wp hall.1 h1 fun v w' hv => ⟨hv.1, key _ _ hv.2⟩)
        · rw [if_neg hw] at h1
          have hwf : Region.wanted o (yielded ops (fr n f).tmps) = false := hwant.trans (by simpa using hw)
          rw [if_neg (by rw [hwf]; simp)]
          rw [fr_put _ _ _ _ (okOp.dst hall.1)]
          exact ⟨.inl (Ext.refl w), key _ _ h1⟩
    · exact tree_ok hok hns rest m listed f w hcl hrest h.2 k hk hr
theorem wr_mono {P : Program} {ops : Array Oper} {qs : List Nat} {K K' : (Nat → Value) → World → Prop} (hk : ∀ f w, K f w → K' f w) : ∀ (t : Tr) (f : Nat → Value) (w : World), wrT P ops qs K t f w → wrT P ops qs K' t f w
  | .fin, _, _, _ => trivial
  | .br i sch t rest, f, w, h => by
    unfold wrT at h ⊢
    refine ⟨?_, wr_mono hk rest f w h.2⟩
    have h1 := h.1
    have key : ∀ f w, ws P ops qs (fun f w => wtT t (K f w) (wrT P ops qs K t f w)) sch f w → ws P ops qs (fun f w => wtT t (K' f w) (wrT P ops qs K' t f w)) sch f w :=
      ws_mono (fun f w h2 => by
        cases t with
        | fin => exact hk f w h2
        | br i2 sch2 t2 rest2 => exact wr_mono hk (.br i2 sch2 t2 rest2) f w h2) sch
    unfold stepT at h1 ⊢
    cases ho : ops[i]? with
    | none => rw [ho] at h1; exact h1
    | some o =>
      rw [ho] at h1
      dsimp only at h1 ⊢
      by_cases hw : wantF ops f o = true
      · rw [if_pos hw] at h1 ⊢
        exact Stp.mono h1 fun v w' h' => ⟨h'.1, key _ _ h'.2⟩
      · rw [if_neg hw] at h1 ⊢
        exact key _ _ h1
def schT (ops : Array Oper) (qs : List Nat) (t : Tr) (listed : Array Bool) : Bool := Region.ready .any ops listed == t.roots && (okS ops qs t t.len listed && !t.isFin)
section
variable {P : Program} {ro : Option Nat} {n : Nat} {Q : Exit → (Nat → Value) → World → Prop} {f : Nat → Value} {w : World}
theorem W_drawT {id : Nat} {l : List Oper} (qs : List Nat) (sch : List (Nat × Nat)) (t : Tr) (hm : P.follows .mixedOrders = true) (hok : okRegion n l.toArray = true) (hns : Region.noSelect l.toArray = true)
    (hlen : Nat.beq (t.len + sch.length) l.toArray.size = true) (hs : schOKe l.toArray qs (schT l.toArray qs t) sch (Array.replicate l.toArray.size false) = true)
    (h : ws P l.toArray qs (fun f w => wrT P l.toArray qs (Q .normal) t f w) sch f w.drew) : W (ro := ro) P n (.region id l.toArray true) Q f w := by
  have h0 : ws P l.toArray qs (fun f w => wrT P l.toArray qs (fun f w => ∃ f', fr n f = fr n f' ∧ Q .normal f' w) t f w) sch f w.drew := ws_mono (fun f w q => wr_mono (fun f _ q => ⟨f, rfl, q⟩) t f w q) _ _ _ h
  have h1 := wpAnyE_of_wse (K0 := fun f w => ∃ f', fr n f = fr n f' ∧ Q .normal f' w) (m := t.len) hok hns (fun listed f w hcl hf hk => by
    simp only [schT, Bool.and_eq_true] at hf
    obtain ⟨hrd, hok2, hnf⟩ := hf
    have hrd' : Region.ready .any l.toArray listed = t.roots := by simpa using hrd
    cases t with
    | fin => simp [Tr.isFin] at hnf
    | br i2 sch2 t2 rest2 =>
      have ih := tree_ok hok hns (.br i2 sch2 t2 rest2) (t2.len + sch2.length) listed f w hcl hok2 hk
      show wpAnyE P .any l.toArray _ Ext qs (t2.len + sch2.length + 1) listed (fr n f) w
      refine ⟨fun h0 => ?_, fun j hj => ih j (by rw [← hrd']; exact hj) hj⟩
      rw [hrd'] at h0
      simp [Tr.roots] at h0) sch _ f _ (Closed.none _ _ _) hs h0
  rw [Nat.eq_of_beq_eq_true hlen] at h1
  have h2 := any_in (ro := ro) (m := 0) no_out (okRegion.noDefer hok) _ _ _ _ (wpAny_of_E _ _ _ _ h1)
  refine Code.wpIn_mono ?_ (wpIn_region_any (id := id) hm h2)
  rintro e a w' ⟨rfl, f', rfl, f'', he, hk⟩
  exact ⟨f'', he, hk⟩
theorem wr_br {ops : Array Oper} {qs : List Nat} {K : (Nat → Value) → World → Prop} {i : Nat} {sch : List (Nat × Nat)} {t rest : Tr}
    (h1 : ws P ops qs (fun f w => wtT t (K f w) (wrT P ops qs K t f w)) ((i, 2) :: sch) f w) (h2 : wrT P ops qs K rest f w) : wrT P ops qs K (.br i sch t rest) f w := by
  unfold wrT
  exact ⟨stepT_of_ws (fun _ _ h => h) h1, h2⟩
theorem wt_fin {A B : Prop} (h : A) : wtT .fin A B := h
theorem wt_br {i : Nat} {sch : List (Nat × Nat)} {t rest : Tr} {A B : Prop} (h : B) : wtT (.br i sch t rest) A B := h
end
end Gk

/- Regions in whose orders what is read from blocks that were there stands beside what writes to new ones. No condition. (Made out of Ga, Gb, Gg, Gt by a program: what a load is let stand is that the blocks below B are as they were.) -/
namespace Gk
open Go Go.RowKit
def EB (B : Nat) (w w' : World) : Prop := w.heap.size ≤ w'.heap.size ∧ ∀ k, k < B → w'.heap[k]? = w.heap[k]?
theorem EB.refl {B : Nat} (w : World) : EB B w w := ⟨Nat.le_refl _, fun _ _ => rfl⟩
theorem EB.trans {B : Nat} {a b c : World} (h : EB B a b) (k : EB B b c) : EB B a c := ⟨Nat.le_trans h.1 k.1, fun i hi => (k.2 i hi).trans (h.2 i hi)⟩
theorem EB.ext {B : Nat} {w w' : World} (hB : B ≤ w.heap.size) (x : Ext w w') : EB B w w' := ⟨x.size, fun k hk => x.blk k (Nat.lt_of_lt_of_le hk hB)⟩
theorem EB.own {B : Nat} {w w' : World} {v : Value} (hB : B ≤ w.heap.size) (g : Gr w w' v) (hn : ∀ k, Hs v k → B ≤ k) : EB B w w' :=
  ⟨g.size, fun k hk => g.block (Nat.lt_of_lt_of_le hk hB) (fun h => by have := hn k h; omega)⟩
def Qb (P : Program) (o : Oper) (f : Nat → Value) (B : Nat) (w : World) (v : Value) : Prop := ∀ w', EB B w w' → (execOp (ev f) o).run P w' = .ok (.value v) w'
section
variable {B : Nat}
def wsB (P : Program) (ops : Array Oper) (qs : List Nat) (B : Nat) (K : (Nat → Value) → World → Prop) : List (Nat × Nat) → (Nat → Value) → World → Prop
  | [], f, w => K f w
  | (i, t) :: r, f, w =>
    match ops[i]? with
    | none => False
    | some o =>
      if wantF ops f o = true then
        (match t with
         | 0 => ∃ v, Qa P o f v ∧ wsB P ops qs B K r (updO f o.dst v) w
         | 1 => ∃ v, Qb P o f B w v ∧ wsB P ops qs B K r (updO f o.dst v) w
         | _ => Stp P o f w (fun v w' => (EB B w w' ∨ clearOf .any ops qs i = true) ∧ wsB P ops qs B K r (updO f o.dst v) w'))
      else wsB P ops qs B K r (updO f o.dst undef) w
theorem wpAnyE_of_wseB {P : Program} {n : Nat} {ops : Array Oper} {qs : List Nat} {K0 K : (Nat → Value) → World → Prop} (hok : okRegion n ops = true) (hns : Region.noSelect ops = true) {fin : Array Bool → Bool} {m : Nat}
    (hfin : ∀ (listed : Array Bool) (f : Nat → Value) (w : World), Closed .any ops listed → fin listed = true → K f w → wpAnyE P .any ops (fun e a w => e = .normal ∧ At n K0 a w) (EB B) qs m listed (fr n f) w) :
    ∀ (sch : List (Nat × Nat)) (listed : Array Bool) (f : Nat → Value) (w : World), Closed .any ops listed → schOKe ops qs fin sch listed = true → wsB P ops qs B K sch f w →
      wpAnyE P .any ops (fun e a w => e = .normal ∧ At n K0 a w) (EB B) qs (m + sch.length) listed (fr n f) w
  | [], listed, f, w, hcl, hs, h => hfin listed f w hcl hs h
  | (i, t) :: r, listed, f, w, hcl, hs, h => by
    simp only [schOKe, Bool.and_eq_true] at hs
    obtain ⟨hst, hsr⟩ := hs
    unfold wsB at h
    cases ho : ops[i]? with
    | none => rw [ho] at h; exact h.elim
    | some o =>
      rw [ho] at h
      dsimp only at h
      have hmem : o ∈ ops := Array.mem_of_getElem? ho
      have hall := List.all_eq_true.1 hok o (Array.mem_toList_iff.2 hmem)
      simp only [Bool.and_eq_true] at hall
      have hwant := wantF_fr n ops f o hall.2
      have hcl' : i ∈ Region.ready .any ops listed → Closed .any ops (listed.setIfInBounds i true) := fun hi => by
        obtain ⟨_, o', ho', hall'⟩ := mem_ready.1 hi
        exact hcl.set ho' hall'
      have key0 : ∀ v, (Region.wanted o (yielded ops (fr n f).tmps) = true ∧ ∀ w, (execOp (fr n f).eval o).run P w = .ok (.value v) w) ∨ (Region.wanted o (yielded ops (fr n f).tmps) = false ∧ v = undef) →
          (Region.ready .any ops listed).contains i = true → Region.free .any ops listed i = true → wsB P ops qs B K r (updO f o.dst v) w →
          wpAnyE P .any ops (fun e a w => e = .normal ∧ At n K0 a w) (EB B) qs (m + r.length + 1) listed (fr n f) w := fun v hy hr hf hk =>
        wpAnyE_free ho (Region.noSelect_spec hns) (fun _ _ _ h => by cases h.1) EB.refl _ listed _ w (Region.free_spec ho hf) (by simpa using hr) hy
          (by rw [fr_put _ _ _ _ (okOp.dst hall.1)]; exact wpAnyE_of_wseB hok hns hfin r _ _ _ (hcl' (by simpa using hr)) hsr hk)
      by_cases hw : wantF ops f o = true
      · rw [if_pos hw] at h
        match t, hst, h with
        | 0, hst, ⟨v, hv, hk⟩ =>
          simp only [Bool.and_eq_true] at hst
          exact key0 v (.inl ⟨hwant.trans hw, fun w => by rw [execOp_fr n f o hall.1]; exact hv w⟩) hst.1 hst.2 hk
        | 1, hst, ⟨v, hv, hk⟩ =>
          simp only [Bool.and_eq_true] at hst
          refine wpAnyE_first (by simpa using hst.2) ho (Region.noSelect_spec hns) (fun _ _ _ h => by cases h.1) EB.refl (fun _ _ _ => EB.trans) _ listed _ w hcl (Region.free_spec ho hst.1.2) (by simpa using hst.1.1)
            (.inl ⟨hwant.trans hw, fun w' hw' => by rw [execOp_fr n f o hall.1]; exact hv w' hw'⟩) ?_
          rw [fr_put _ _ _ _ (okOp.dst hall.1)]; exact wpAnyE_of_wseB hok hns hfin r _ _ _ (hcl' (by simpa using hst.1.1)) hsr hk
        | t + 2, hst, h =>
          have hr : Region.ready .any ops listed = [i] := by simpa using hst
          show wpAnyE P .any ops _ (EB B) qs (m + r.length + 1) listed _ w
          refine ⟨fun h0 => (by rw [hr] at h0; cases h0), fun j hj => ?_⟩
          obtain rfl : j = i := by rw [hr] at hj; simpa using hj
          unfold wpOp
          rw [ho]
          dsimp only
          rw [if_pos (hwant.trans hw)]
          exact .inl (Stp.wp hall.1 h fun v w' hv => ⟨hv.1, wpAnyE_of_wseB hok hns hfin r _ _ _ (hcl' hj) hsr hv.2⟩)
      · rw [if_neg hw] at h
        have hwf : Region.wanted o (yielded ops (fr n f).tmps) = false := hwant.trans (by simpa using hw)
        match t, hst with
        | 0, hst =>
          simp only [Bool.and_eq_true] at hst
          exact key0 undef (.inr ⟨hwf, rfl⟩) hst.1 hst.2 h
        | 1, hst =>
          simp only [Bool.and_eq_true] at hst
          exact key0 undef (.inr ⟨hwf, rfl⟩) hst.1.1 hst.1.2 h
        | t + 2, hst =>
          have hr : Region.ready .any ops listed = [i] := by simpa using hst
          show wpAnyE P .any ops _ (EB B) qs (m + r.length + 1) listed _ w
          refine ⟨fun h0 => (by rw [hr] at h0; cases h0), fun j hj => ?_⟩
          obtain rfl : j = i := by rw [hr] at hj; simpa using hj
          unfold wpOp
          rw [ho]
          dsimp only
          rw [if_neg (by rw [hwf]; simp)]
          rw [fr_put _ _ _ _ (okOp.dst hall.1)]
          exact ⟨.inl (EB.refl w), wpAnyE_of_wseB hok hns hfin r _ _ _ (hcl' hj) hsr h⟩
def stepB (P : Program) (ops : Array Oper) (qs : List Nat) (B : Nat) (i : Nat) (K : (Nat → Value) → World → Prop) (f : Nat → Value) (w : World) : Prop :=
  match ops[i]? with
  | none => False
  | some o => if wantF ops f o = true then Stp P o f w (fun v w' => (EB B w w' ∨ clearOf .any ops qs i = true) ∧ K (updO f o.dst v) w') else K (updO f o.dst undef) w
section
variable {P : Program} {ro : Option Nat} {n : Nat} {Q : Exit → (Nat → Value) → World → Prop} {f : Nat → Value} {w : World}
theorem wsB_mono {ops : Array Oper} {qs : List Nat} {K K' : (Nat → Value) → World → Prop} (hk : ∀ f w, K f w → K' f w) : ∀ (l : List (Nat × Nat)) (f : Nat → Value) (w : World), wsB P ops qs B K l f w → wsB P ops qs B K' l f w
  | [], _, _, h => hk _ _ h
  | (i, t) :: r, f, w, h => by
    unfold wsB at h ⊢
    cases ho : ops[i]? with
    | none => rw [ho] at h; exact h.elim
    | some o =>
      rw [ho] at h
      dsimp only at h ⊢
      by_cases hw : wantF ops f o = true
      · rw [if_pos hw] at h ⊢
        match t, h with
        | 0, ⟨v, hv, h'⟩ => exact ⟨v, hv, wsB_mono hk r _ _ h'⟩
        | 1, ⟨v, hv, h'⟩ => exact ⟨v, hv, wsB_mono hk r _ _ h'⟩
        | t + 2, h => exact Stp.mono h fun v w' h' => ⟨h'.1, wsB_mono hk r _ _ h'.2⟩
      · rw [if_neg hw] at h ⊢
        exact wsB_mono hk r _ _ h
theorem stepB_of_ws {ops : Array Oper} {qs : List Nat} {K K' : (Nat → Value) → World → Prop} (hk : ∀ f w, K f w → K' f w) {i : Nat} {r : List (Nat × Nat)} (h : wsB P ops qs B K ((i, 2) :: r) f w) : stepB P ops qs B i (wsB P ops qs B K' r) f w := by
  unfold wsB at h
  unfold stepB
  cases ho : ops[i]? with
  | none => rw [ho] at h; exact h
  | some o =>
    rw [ho] at h
    dsimp only at h ⊢
    by_cases hw : wantF ops f o = true
    · rw [if_pos hw] at h ⊢
      exact Stp.mono h fun v w' h' => ⟨h'.1, wsB_mono hk r _ _ h'.2⟩
    · rw [if_neg hw] at h ⊢
      exact wsB_mono hk r _ _ h
end
def wrB (P : Program) (ops : Array Oper) (qs : List Nat) (B : Nat) (K : (Nat → Value) → World → Prop) : Tr → (Nat → Value) → World → Prop
  | .fin, _, _ => True
  | .br i sch t rest, f, w => stepB P ops qs B i (wsB P ops qs B (fun f w => wtT t (K f w) (wrB P ops qs B K t f w)) sch) f w ∧ wrB P ops qs B K rest f w
theorem tree_okB {P : Program} {n : Nat} {ops : Array Oper} {qs : List Nat} {K : (Nat → Value) → World → Prop} (hok : okRegion n ops = true) (hns : Region.noSelect ops = true) :
    ∀ (t : Tr) (m : Nat) (listed : Array Bool) (f : Nat → Value) (w : World), Closed .any ops listed → okS ops qs t (m + 1) listed = true → wrB P ops qs B K t f w →
      ∀ k ∈ t.roots, k ∈ Region.ready .any ops listed → wpOp P ops (fun e a w => e = .normal ∧ At n K a w) k (fun a' w' => (EB B w w' ∨ clearOf .any ops qs k = true) ∧ wpAnyE P .any ops (fun e a w => e = .normal ∧ At n K a w) (EB B) qs m (listed.setIfInBounds k true) a' w') (fr n f) w
  | .fin, _, _, _, _, _, _, _, k, hk, _ => by simp [Tr.roots] at hk
  | .br i sch t rest, m, listed, f, w, hcl, hs, h, k, hk, hr => by
    simp only [okS, Bool.and_eq_true] at hs
    obtain ⟨hl, hsch, hrest⟩ := hs
    have hl' : t.len + sch.length = m := by have := Nat.eq_of_beq_eq_true hl; omega
    unfold wrB at h
    rcases List.mem_cons.1 hk with rfl | hk
    · have h1 := h.1
      unfold stepB at h1
      unfold Go.wpOp
      cases ho : ops[k]? with
      | none => rw [ho] at h1; exact h1.elim
      | some o =>
        rw [ho] at h1
        dsimp only at h1 ⊢
        have hmem : o ∈ ops := Array.mem_of_getElem? ho
        have hall := List.all_eq_true.1 hok o (Array.mem_toList_iff.2 hmem)
        simp only [Bool.and_eq_true] at hall
        have hwant := wantF_fr n ops f o hall.2
        have hcl' : Closed .any ops (listed.setIfInBounds k true) := by
          obtain ⟨_, o', ho', hall'⟩ := mem_ready.1 hr
          exact hcl.set ho' hall'
        have key : ∀ f w, wsB P ops qs B (fun f w => wtT t (K f w) (wrB P ops qs B K t f w)) sch f w → wpAnyE P .any ops (fun e a w => e = .normal ∧ At n K a w) (EB B) qs m (listed.setIfInBounds k true) (fr n f) w := fun f w hw => by
          have := wpAnyE_of_wseB (K0 := K) (m := t.len) hok hns (fun listed f w hcl2 hf hk2 => by
            cases t with
            | fin =>
              simp only [Tr.isFin, if_true] at hf
              rw [List.isEmpty_iff] at hf
              exact ⟨hf, rfl, At.mk hk2⟩
            | br i2 sch2 t2 rest2 =>
              simp only [Tr.isFin, Bool.false_eq_true, if_false, Bool.and_eq_true] at hf
              obtain ⟨hrd, hok2⟩ := hf
              have hrd' : Region.ready .any ops listed = (Tr.br i2 sch2 t2 rest2).roots := by simpa using hrd
              have ih := tree_okB hok hns (.br i2 sch2 t2 rest2) (t2.len + sch2.length) listed f w hcl2 hok2 hk2
              show wpAnyE P .any ops _ (EB B) qs (t2.len + sch2.length + 1) listed (fr n f) w
              refine ⟨fun h0 => ?_, fun j hj => ih j (by rw [← hrd']; exact hj) hj⟩
              rw [hrd'] at h0
              simp [Tr.roots] at h0) sch (listed.setIfInBounds k true) f w hcl' hsch hw
          rwa [hl'] at this
        by_cases hw : wantF ops f o = true
        · rw [if_pos hw] at h1
          rw [if_pos (hwant.trans hw)]
          exact .inl (Stp.wp hall.1 h1 fun v w' hv => ⟨hv.1, key _ _ hv.2⟩)
        · rw [if_neg hw] at h1
          have hwf : Region.wanted o (yielded ops (fr n f).tmps) = false := hwant.trans (by simpa using hw)
          rw [if_neg (by rw [hwf]; simp)]
          rw [fr_put _ _ _ _ (okOp.dst hall.1)]
          exact ⟨.inl (EB.refl w), key _ _ h1⟩
    · exact tree_okB hok hns rest m listed f w hcl hrest h.2 k hk hr
theorem wrB_mono {P : Program} {ops : Array Oper} {qs : List Nat} {K K' : (Nat → Value) → World → Prop} (hk : ∀ f w, K f w → K' f w) : ∀ (t : Tr) (f : Nat → Value) (w : World), wrB P ops qs B K t f w → wrB P ops qs B K' t f w
  | .fin, _, _, _ => trivial
  | .br i sch t rest, f, w, h => by
    unfold wrB at h ⊢
    refine ⟨?_, wrB_mono hk rest f w h.2⟩
    have h1 := h.1
    have key : ∀ f w, wsB P ops qs B (fun f w => wtT t (K f w) (wrB P ops qs B K t f w)) sch f w → wsB P ops qs B (fun f w => wtT t (K' f w) (wrB P ops qs B K' t f w)) sch f w :=
      wsB_mono (fun f w h2 => by
        cases t with
        | fin => exact hk f w h2
        | br i2 sch2 t2 rest2 => exact wrB_mono hk (.br i2 sch2 t2 rest2) f w h2) sch
    unfold stepB at h1 ⊢
    cases ho : ops[i]? with
    | none => rw [ho] at h1; exact h1
    | some o =>
      rw [ho] at h1
      dsimp only at h1 ⊢
      by_cases hw : wantF ops f o = true
      · rw [if_pos hw] at h1 ⊢
        exact Stp.mono h1 fun v w' h' => ⟨h'.1, key _ _ h'.2⟩
      · rw [if_neg hw] at h1 ⊢
        exact key _ _ h1
section
variable {P : Program} {ro : Option Nat} {n : Nat} {Q : Exit → (Nat → Value) → World → Prop} {f : Nat → Value} {w : World}
theorem W_drawTB {id : Nat} {l : List Oper} (qs : List Nat) (sch : List (Nat × Nat)) (t : Tr) (hm : P.follows .mixedOrders = true) (hok : okRegion n l.toArray = true) (hns : Region.noSelect l.toArray = true)
    (hlen : Nat.beq (t.len + sch.length) l.toArray.size = true) (hs : schOKe l.toArray qs (schT l.toArray qs t) sch (Array.replicate l.toArray.size false) = true)
    (h : wsB P l.toArray qs B (fun f w => wrB P l.toArray qs B (Q .normal) t f w) sch f w.drew) : W (ro := ro) P n (.region id l.toArray true) Q f w := by
  have h0 : wsB P l.toArray qs B (fun f w => wrB P l.toArray qs B (fun f w => ∃ f', fr n f = fr n f' ∧ Q .normal f' w) t f w) sch f w.drew := wsB_mono (fun f w q => wrB_mono (fun f _ q => ⟨f, rfl, q⟩) t f w q) _ _ _ h
  have h1 := wpAnyE_of_wseB (K0 := fun f w => ∃ f', fr n f = fr n f' ∧ Q .normal f' w) (m := t.len) hok hns (fun listed f w hcl hf hk => by
    simp only [schT, Bool.and_eq_true] at hf
    obtain ⟨hrd, hok2, hnf⟩ := hf
    have hrd' : Region.ready .any l.toArray listed = t.roots := by simpa using hrd
    cases t with
    | fin => simp [Tr.isFin] at hnf
    | br i2 sch2 t2 rest2 =>
      have ih := tree_okB hok hns (.br i2 sch2 t2 rest2) (t2.len + sch2.length) listed f w hcl hok2 hk
      show wpAnyE P .any l.toArray _ (EB B) qs (t2.len + sch2.length + 1) listed (fr n f) w
      refine ⟨fun h0 => ?_, fun j hj => ih j (by rw [← hrd']; exact hj) hj⟩
      rw [hrd'] at h0
      simp [Tr.roots] at h0) sch _ f _ (Closed.none _ _ _) hs h0
  rw [Nat.eq_of_beq_eq_true hlen] at h1
  have h2 := any_in (ro := ro) (m := 0) no_out (okRegion.noDefer hok) _ _ _ _ (wpAny_of_E _ _ _ _ h1)
  refine Code.wpIn_mono ?_ (wpIn_region_any (id := id) hm h2)
  rintro e a w' ⟨rfl, f', rfl, f'', he, hk⟩
  exact ⟨f'', he, hk⟩
theorem wrB_br {ops : Array Oper} {qs : List Nat} {K : (Nat → Value) → World → Prop} {i : Nat} {sch : List (Nat × Nat)} {t rest : Tr}
    (h1 : wsB P ops qs B (fun f w => wtT t (K f w) (wrB P ops qs B K t f w)) ((i, 2) :: sch) f w) (h2 : wrB P ops qs B K rest f w) : wrB P ops qs B K (.br i sch t rest) f w := by
  unfold wrB
  exact ⟨stepB_of_ws (fun _ _ h => h) h1, h2⟩
end
section
variable {P : Program} {ops : Array Oper} {qs : List Nat} {K : (Nat → Value) → World → Prop} {r : List (Nat × Nat)} {i : Nat} {o : Oper} {f : Nat → Value} {w : World}
theorem wsB_nil (h : K f w) : wsB P ops qs B K [] f w := h
theorem wsB_a {v : Value} (ho : ops[i]? = some o) (hw : wantF ops f o = true) (hq : Qa P o f v) (h : wsB P ops qs B K r (updO f o.dst v) w) : wsB P ops qs B K ((i, 0) :: r) f w := by
  unfold wsB; rw [ho]; dsimp only; rw [if_pos hw]; exact ⟨v, hq, h⟩
theorem wsB_q {v : Value} (ho : ops[i]? = some o) (hw : wantF ops f o = true) (hq : Qb P o f B w v) (h : wsB P ops qs B K r (updO f o.dst v) w) : wsB P ops qs B K ((i, 1) :: r) f w := by
  unfold wsB; rw [ho]; dsimp only; rw [if_pos hw]; exact ⟨v, hq, h⟩
theorem wsB_stp (ho : ops[i]? = some o) (hw : wantF ops f o = true) (h : Stp P o f w fun v w' => (EB B w w' ∨ clearOf .any ops qs i = true) ∧ wsB P ops qs B K r (updO f o.dst v) w') : wsB P ops qs B K ((i, 2) :: r) f w := by
  unfold wsB; rw [ho]; dsimp only; rw [if_pos hw]; exact h
end
section
variable {P : Program} {ops : Array Oper} {qs : List Nat} {K : (Nat → Value) → World → Prop} {r : List (Nat × Nat)} {i : Nat} {o : Oper} {f : Nat → Value} {w : World} {d : Nat} {v : Value}
theorem wba (ho : ops[i]? = some o) (hw : wantF ops f o = true) (hd : o.dst = some d) (hq : Qa P o f v) (h : wsB P ops qs B K r (upd f d v) w) : wsB P ops qs B K ((i, 0) :: r) f w :=
  wsB_a ho hw hq (by rw [hd]; exact h)
theorem wbq (ho : ops[i]? = some o) (hw : wantF ops f o = true) (hd : o.dst = some d) (hq : Qb P o f B w v) (h : wsB P ops qs B K r (upd f d v) w) : wsB P ops qs B K ((i, 1) :: r) f w :=
  wsB_q ho hw hq (by rw [hd]; exact h)
theorem wbs (ho : ops[i]? = some o) (hw : wantF ops f o = true) (hd : o.dst = some d) (h : Stp P o f w (fun v w' => EB B w w' ∧ wsB P ops qs B K r (upd f d v) w')) : wsB P ops qs B K ((i, 2) :: r) f w :=
  wsB_stp ho hw (h.mono fun v w' h => ⟨.inl h.1, by rw [hd]; exact h.2⟩)
theorem wbn (ho : ops[i]? = some o) (hc : clearOf .any ops qs i = true) (hw : wantF ops f o = true) (hd : o.dst = none) (h : Stp P o f w (fun _ w' => wsB P ops qs B K r f w')) : wsB P ops qs B K ((i, 2) :: r) f w :=
  wsB_stp ho hw (h.mono fun v w' h => ⟨.inr hc, by rw [hd]; exact h⟩)
end
theorem Qb.of {P : Program} {o : Oper} {f : Nat → Value} {w : World} {v : Value} (h : ∀ w', EB B w w' → Qt P o f w' v) : Qb P o f B w v := fun w' h' => h w' h' w' (Ext.refl w')
theorem Blk.ebs {w w' : World} {g : Nat} {T : TypeId} {cs : Array Value} (h : Blk w g T cs) (x : EB w.heap.size w w') : Blk w' g T cs := by
  unfold Blk; rw [x.2 g h.lt]; exact h
theorem wbm {P : Program} {ops : Array Oper} {qs : List Nat} {K : (Nat → Value) → World → Prop} {r : List (Nat × Nat)} {i : Nat} {o : Oper} {f : Nat → Value} {w : World} (ho : ops[i]? = some o) (hw : wantF ops f o = true) (hd : o.dst = none) (h : Stp P o f w (fun _ w' => EB B w w' ∧ wsB P ops qs B K r f w')) : wsB P ops qs B K ((i, 2) :: r) f w := by
  refine wsB_stp ho hw (h.mono fun v w' h' => ⟨.inl h'.1, ?_⟩)
  rw [hd]; exact h'.2
end
end Gk

namespace Gk
open Go Go.Proofs
theorem sal {P : Program} {o : Oper} {f : Nat → Value} {w : World} {t : TypeId} {α : Type} (enc : α → Value) (l : List α) (L : List Value) (ho : o.op = .alloc t) (hz : ∀ w, (zeroValue t).run P w = .ok (ag enc l) w) {K : Value → World → Prop} (hk : ∀ g w', Blk w' g t (ac enc l) → Nw w (bp g) → w.grownBy w' none → Lift w w' L (bp g :: L) → K (bp g) w') : Stp P o f w K := stp_allocL L ho hz rfl hk
theorem EB.e {a b c : World} (h : EB a.heap.size a b) (x : Ext b c) : EB a.heap.size a c := EB.trans h (EB.ext h.1 x)
end Gk

/- Printed by gen.py: for each Go function a pure function, and that the Go code comes to it. No condition beside the equation that says what the pure function gives. -/
namespace Gk
open Go Go.Proofs
noncomputable def word_Bits_uint32  : Option Int :=
((iterC (fun s1 : Int × UInt32 =>
(if s1.2 = (0 : UInt32) then some (.inr s1.1)
else some (.inl ((wI (s1.1 + 1)), (shr32 s1.2 1))))) (0, ((4294967295 : UInt32) ^^^ (UInt32.ofInt 0)))).bind fun x1 => some x1)
theorem word_Bits_uint32_calls  (r : Int) (w0 : World) (H : word_Bits_uint32 = some r) :
    Calls Try.prog 78 [].toArray w0 (fun e w' => e = .returned (i64 r) ∧ Ext w0 w') := by
  have hE : Ext w0 w0 := Ext.refl w0; unfold word_Bits_uint32 at H; refine calls_W (n := 12) Try.func78 rfl rfl rfl ?_; refine W_seq <| W_rg <| av (i64 0) rfl rfl <| wnt <| W_seq <| W_rg <| av (i64 0) rfl rfl <| wnt <| ?_; refine W_seq <| W_seq <| W_rg <| wa rfl (q_cvt32I rfl rfl rfl rfl) <| wa rfl (q_not32 rfl rfl) <| av (u32 (((4294967295 : UInt32) ^^^ (UInt32.ofInt 0)))) rfl rfl <| wnt <| ?_; obtain ⟨x1, G1, H⟩ := bsi H; refine W_mid (fun f w => f 1 = (i64 x1) ∧ f 12 = undef ∧ Ext w0 w) ?_ ?_
  · refine W_block ?_; refine W_loop (fun s1 f w => f 1 = (i64 s1.1) ∧ f 2 = (u32 s1.2) ∧ f 12 = undef ∧ Ext w0 w) G1 ?_ ?_
    · exact ⟨rfl, rfl, rfl, hE⟩
    rintro s1 _ _ w2 ⟨s1_2, s2_2, s12_2, hE2⟩ H1 hr1; refine W_seq <| W_seq <| W_rg <| mv (u32 s1.2) rfl s2_2 <| wa rfl (q_ne32 rfl rfl (cst32 (0 : UInt32) rfl)) <| wnt <| ?_; refine W_cond _ rfl rfl (fun hb3 => ?_) (fun hb3 => ?_)
    · replace H1 := (if_neg (ndec_t hb3)).symm.trans H1; refine W_skip <| W_th <| W_seq <| W_block <| W_rg <| mv (i64 s1.1) rfl s1_2 <| wa rfl (q_addI rfl rfl rfl) <| av (i64 ((wI (s1.1 + 1)))) rfl rfl <| ?_; refine wl_nil <| bk_n <| W_th <| W_rg <| mv (u32 s1.2) rfl s2_2 <| wa rfl (q_shr32 1 rfl rfl rfl rfl) <| av (u32 ((shr32 s1.2 1))) rfl rfl <| wl_nil <| ?_; obtain rfl := osi H1; exact ⟨_, rfl, rfl, rfl, s12_2, hE2⟩
    replace H1 := (if_pos (ndec_f hb3)).symm.trans H1; refine W_exit <| th_x <| ?_; obtain rfl := osi H1; obtain rfl := hr1 _ rfl; refine th_x <| bk_x <| ?_; exact ⟨s1_2, s12_2, hE2⟩
  rintro _ w5 ⟨s1_5, s12_5, hE5⟩; refine W_th <| W_seq <| W_rg <| mv (i64 x1) rfl s1_5 <| av (i64 x1) rfl rfl <| wnt <| W_ret <| ?_; obtain rfl := osi H; refine rt1 (i64 x1) rfl rfl rfl s12_5 ?_; exact ⟨rfl, hE5⟩
noncomputable def word_Bits_uint64  : Option Int :=
((iterC (fun s1 : Int × UInt64 =>
(if s1.2 = (0 : UInt64) then some (.inr s1.1)
else some (.inl ((wI (s1.1 + 1)), (shr64 s1.2 1))))) (0, ((18446744073709551615 : UInt64) ^^^ (UInt64.ofInt 0)))).bind fun x1 => some x1)
theorem word_Bits_uint64_calls  (r : Int) (w0 : World) (H : word_Bits_uint64 = some r) :
    Calls Try.prog 73 [].toArray w0 (fun e w' => e = .returned (i64 r) ∧ Ext w0 w') := by
  have hE : Ext w0 w0 := Ext.refl w0; unfold word_Bits_uint64 at H; refine calls_W (n := 12) Try.func73 rfl rfl rfl ?_; refine W_seq <| W_rg <| av (i64 0) rfl rfl <| wnt <| W_seq <| W_rg <| av (i64 0) rfl rfl <| wnt <| ?_; refine W_seq <| W_seq <| W_rg <| wa rfl (q_cvt64I rfl rfl rfl rfl) <| wa rfl (q_not64 rfl rfl) <| av (u64 (((18446744073709551615 : UInt64) ^^^ (UInt64.ofInt 0)))) rfl rfl <| wnt <| ?_; obtain ⟨x1, G1, H⟩ := bsi H; refine W_mid (fun f w => f 1 = (i64 x1) ∧ f 12 = undef ∧ Ext w0 w) ?_ ?_
  · refine W_block ?_; refine W_loop (fun s1 f w => f 1 = (i64 s1.1) ∧ f 2 = (u64 s1.2) ∧ f 12 = undef ∧ Ext w0 w) G1 ?_ ?_
    · exact ⟨rfl, rfl, rfl, hE⟩
    rintro s1 _ _ w2 ⟨s1_2, s2_2, s12_2, hE2⟩ H1 hr1; refine W_seq <| W_seq <| W_rg <| mv (u64 s1.2) rfl s2_2 <| wa rfl (q_ne64 rfl rfl (cst64 (0 : UInt64) rfl)) <| wnt <| ?_; refine W_cond _ rfl rfl (fun hb3 => ?_) (fun hb3 => ?_)
    · replace H1 := (if_neg (ndec_t hb3)).symm.trans H1; refine W_skip <| W_th <| W_seq <| W_block <| W_rg <| mv (i64 s1.1) rfl s1_2 <| wa rfl (q_addI rfl rfl rfl) <| av (i64 ((wI (s1.1 + 1)))) rfl rfl <| ?_; refine wl_nil <| bk_n <| W_th <| W_rg <| mv (u64 s1.2) rfl s2_2 <| wa rfl (q_shr64 1 rfl rfl rfl rfl) <| av (u64 ((shr64 s1.2 1))) rfl rfl <| wl_nil <| ?_; obtain rfl := osi H1; exact ⟨_, rfl, rfl, rfl, s12_2, hE2⟩
    replace H1 := (if_pos (ndec_f hb3)).symm.trans H1; refine W_exit <| th_x <| ?_; obtain rfl := osi H1; obtain rfl := hr1 _ rfl; refine th_x <| bk_x <| ?_; exact ⟨s1_2, s12_2, hE2⟩
  rintro _ w5 ⟨s1_5, s12_5, hE5⟩; refine W_th <| W_seq <| W_rg <| mv (i64 x1) rfl s1_5 <| av (i64 x1) rfl rfl <| wnt <| W_ret <| ?_; obtain rfl := osi H; refine rt1 (i64 x1) rfl rfl rfl s12_5 ?_; exact ⟨rfl, hE5⟩
noncomputable def word_Bits_byte  : Option Int :=
((iterC (fun s1 : Int × UInt8 =>
(if s1.2 = (0 : UInt8) then some (.inr s1.1)
else some (.inl ((wI (s1.1 + 1)), (shr8 s1.2 1))))) (0, ((255 : UInt8) ^^^ (UInt8.ofInt 0)))).bind fun x1 => some x1)
theorem word_Bits_byte_calls  (r : Int) (w0 : World) (H : word_Bits_byte = some r) :
    Calls Try.prog 95 [].toArray w0 (fun e w' => e = .returned (i64 r) ∧ Ext w0 w') := by
  have hE : Ext w0 w0 := Ext.refl w0; unfold word_Bits_byte at H; refine calls_W (n := 12) Try.func95 rfl rfl rfl ?_; refine W_seq <| W_rg <| av (i64 0) rfl rfl <| wnt <| W_seq <| W_rg <| av (i64 0) rfl rfl <| wnt <| ?_; refine W_seq <| W_seq <| W_rg <| wa rfl (q_cvt8I rfl rfl rfl rfl) <| wa rfl (q_not8 rfl rfl) <| av (u8 (((255 : UInt8) ^^^ (UInt8.ofInt 0)))) rfl rfl <| wnt <| ?_; obtain ⟨x1, G1, H⟩ := bsi H; refine W_mid (fun f w => f 1 = (i64 x1) ∧ f 12 = undef ∧ Ext w0 w) ?_ ?_
  · refine W_block ?_; refine W_loop (fun s1 f w => f 1 = (i64 s1.1) ∧ f 2 = (u8 s1.2) ∧ f 12 = undef ∧ Ext w0 w) G1 ?_ ?_
    · exact ⟨rfl, rfl, rfl, hE⟩
    rintro s1 _ _ w2 ⟨s1_2, s2_2, s12_2, hE2⟩ H1 hr1; refine W_seq <| W_seq <| W_rg <| mv (u8 s1.2) rfl s2_2 <| wa rfl (q_ne8 rfl rfl (cst8 (0 : UInt8) rfl)) <| wnt <| ?_; refine W_cond _ rfl rfl (fun hb3 => ?_) (fun hb3 => ?_)
    · replace H1 := (if_neg (ndec_t hb3)).symm.trans H1; refine W_skip <| W_th <| W_seq <| W_block <| W_rg <| mv (i64 s1.1) rfl s1_2 <| wa rfl (q_addI rfl rfl rfl) <| av (i64 ((wI (s1.1 + 1)))) rfl rfl <| ?_; refine wl_nil <| bk_n <| W_th <| W_rg <| mv (u8 s1.2) rfl s2_2 <| wa rfl (q_shr8 1 rfl rfl rfl rfl) <| av (u8 ((shr8 s1.2 1))) rfl rfl <| wl_nil <| ?_; obtain rfl := osi H1; exact ⟨_, rfl, rfl, rfl, s12_2, hE2⟩
    replace H1 := (if_pos (ndec_f hb3)).symm.trans H1; refine W_exit <| th_x <| ?_; obtain rfl := osi H1; obtain rfl := hr1 _ rfl; refine th_x <| bk_x <| ?_; exact ⟨s1_2, s12_2, hE2⟩
  rintro _ w5 ⟨s1_5, s12_5, hE5⟩; refine W_th <| W_seq <| W_rg <| mv (i64 x1) rfl s1_5 <| av (i64 x1) rfl rfl <| wnt <| W_ret <| ?_; obtain rfl := osi H; refine rt1 (i64 x1) rfl rfl rfl s12_5 ?_; exact ⟨rfl, hE5⟩
noncomputable def word_Turn_uint32 (a0x : UInt32) (a1n : Int) : Option UInt32 :=
((word_Bits_uint32 ).bind fun r1 =>
((remI a1n r1).bind fun c3 =>
((remI ((wI (c3 + r1))) r1).bind fun c4 =>
(if c4 = 0 then some a0x
else
((cnt c4).bind fun c8 =>
((cnt ((wI (r1 - c4)))).bind fun c9 => some ((shl32 a0x c8) ||| (shr32 a0x c9))))))))
theorem word_Turn_uint32_calls (a0x : UInt32) (a1n : Int) (r : UInt32) (w0 : World) (H : word_Turn_uint32 a0x a1n = some r) :
    Calls Try.prog 89 [(u32 a0x), (i64 a1n)].toArray w0 (fun e w' => e = .returned (u32 r) ∧ Ext w0 w') := by
  have hE : Ext w0 w0 := Ext.refl w0; unfold word_Turn_uint32 at H; refine calls_W (n := 26) Try.func89 rfl rfl rfl ?_; refine W_seq <| W_rg <| av (u32 0) rfl (cst32 (0 : UInt32) rfl) <| wnt <| W_seq <| W_rg <| ?_; obtain ⟨r1, hr1, H⟩ := bsi H; refine wls rfl rfl (stp_call (vs := []) Try.func78 rfl rfl rfl (ar0 ) (word_Bits_uint32_calls   r1 _  hr1) ?_); rintro _ w1 ⟨rfl, x1⟩; refine ⟨_, rfl, ?_⟩; have e2 := hE.trans x1; refine av (i64 r1) rfl rfl <| wnt <| W_seq <| W_rg <| mv (i64 a1n) rfl rfl <| mv (i64 r1) rfl rfl <| ?_; obtain ⟨c3, hc3, H⟩ := bsi H; refine wa rfl (q_remI rfl rfl rfl hc3) <| mv (i64 r1) rfl rfl <| wa rfl (q_addI rfl rfl rfl) <| mv (i64 r1) rfl rfl <| ?_; obtain ⟨c4, hc4, H⟩ := bsi H; refine wa rfl (q_remI rfl rfl rfl hc4) <| av (i64 c4) rfl rfl <| wnt <| W_seq <| W_seq <| W_rg <| mv (i64 c4) rfl rfl <| wa rfl (q_eqI rfl rfl rfl) <| ?_; refine wnt ?_; refine W_cond _ rfl rfl (fun hb5 => ?_) (fun hb5 => ?_)
  · replace H := ifp hb5 H; refine W_seq <| W_rg <| mv (u32 a0x) rfl rfl <| av (u32 a0x) rfl rfl <| wnt <| W_ret <| th_r <| ?_; obtain rfl := osi H; refine rt1 (u32 a0x) rfl rfl rfl rfl ?_; exact ⟨rfl, e2⟩
  replace H := ifn hb5 H; refine W_skip <| W_th <| W_seq <| ?_; refine W_draw [] [(0, 0), (1, 0), (2, 0), (3, 0), (4, 0), (5, 0), (6, 0), (7, 0), (8, 0), (9, 0)] mixed (by kernel_rfl) (by kernel_rfl) (by kernel_rfl) (by kernel_rfl) ?_; have x6 := Ext.drew w1; have e7 := e2.trans x6; refine sv (u32 a0x) rfl rfl rfl <| sv (i64 c4) rfl rfl rfl <| ?_; obtain ⟨c8, hc8, H⟩ := bsi H; refine sa rfl rfl (q_shl32 c8 rfl rfl rfl (cnt_eq hc8)) <| sv (u32 a0x) rfl rfl rfl <| sv (i64 r1) rfl rfl rfl <| sv (i64 c4) rfl rfl rfl <| sa rfl rfl (q_subI rfl rfl rfl) <| ?_; obtain ⟨c9, hc9, H⟩ := bsi H; refine sa rfl rfl (q_shr32 c9 rfl rfl rfl (cnt_eq hc9)) <| sa rfl rfl (q_or32 rfl rfl rfl) <| sa rfl rfl (q_assign (v := (u32 (((shl32 a0x c8) ||| (shr32 a0x c9))))) rfl rfl) <| ?_; refine ws_nil ?_; refine W_th <| W_ret <| ?_; obtain rfl := osi H; refine rt1 (u32 (((shl32 a0x c8) ||| (shr32 a0x c9)))) rfl rfl rfl rfl ?_; exact ⟨rfl, e7⟩
noncomputable def word_Turn_byte (a0x : UInt8) (a1n : Int) : Option UInt8 :=
((word_Bits_byte ).bind fun r1 =>
((remI a1n r1).bind fun c3 =>
((remI ((wI (c3 + r1))) r1).bind fun c4 =>
(if c4 = 0 then some a0x
else
((cnt c4).bind fun c8 =>
((cnt ((wI (r1 - c4)))).bind fun c9 => some ((shl8 a0x c8) ||| (shr8 a0x c9))))))))
theorem word_Turn_byte_calls (a0x : UInt8) (a1n : Int) (r : UInt8) (w0 : World) (H : word_Turn_byte a0x a1n = some r) :
    Calls Try.prog 85 [(u8 a0x), (i64 a1n)].toArray w0 (fun e w' => e = .returned (u8 r) ∧ Ext w0 w') := by
  have hE : Ext w0 w0 := Ext.refl w0; unfold word_Turn_byte at H; refine calls_W (n := 26) Try.func85 rfl rfl rfl ?_; refine W_seq <| W_rg <| av (u8 0) rfl (cst8 (0 : UInt8) rfl) <| wnt <| W_seq <| W_rg <| ?_; obtain ⟨r1, hr1, H⟩ := bsi H; refine wls rfl rfl (stp_call (vs := []) Try.func95 rfl rfl rfl (ar0 ) (word_Bits_byte_calls   r1 _  hr1) ?_); rintro _ w1 ⟨rfl, x1⟩; refine ⟨_, rfl, ?_⟩; have e2 := hE.trans x1; refine av (i64 r1) rfl rfl <| wnt <| W_seq <| W_rg <| mv (i64 a1n) rfl rfl <| mv (i64 r1) rfl rfl <| ?_; obtain ⟨c3, hc3, H⟩ := bsi H; refine wa rfl (q_remI rfl rfl rfl hc3) <| mv (i64 r1) rfl rfl <| wa rfl (q_addI rfl rfl rfl) <| mv (i64 r1) rfl rfl <| ?_; obtain ⟨c4, hc4, H⟩ := bsi H; refine wa rfl (q_remI rfl rfl rfl hc4) <| av (i64 c4) rfl rfl <| wnt <| W_seq <| W_seq <| W_rg <| mv (i64 c4) rfl rfl <| wa rfl (q_eqI rfl rfl rfl) <| ?_; refine wnt ?_; refine W_cond _ rfl rfl (fun hb5 => ?_) (fun hb5 => ?_)
  · replace H := ifp hb5 H; refine W_seq <| W_rg <| mv (u8 a0x) rfl rfl <| av (u8 a0x) rfl rfl <| wnt <| W_ret <| th_r <| ?_; obtain rfl := osi H; refine rt1 (u8 a0x) rfl rfl rfl rfl ?_; exact ⟨rfl, e2⟩
  replace H := ifn hb5 H; refine W_skip <| W_th <| W_seq <| ?_; refine W_draw [] [(0, 0), (1, 0), (2, 0), (3, 0), (4, 0), (5, 0), (6, 0), (7, 0), (8, 0), (9, 0)] mixed (by kernel_rfl) (by kernel_rfl) (by kernel_rfl) (by kernel_rfl) ?_; have x6 := Ext.drew w1; have e7 := e2.trans x6; refine sv (u8 a0x) rfl rfl rfl <| sv (i64 c4) rfl rfl rfl <| ?_; obtain ⟨c8, hc8, H⟩ := bsi H; refine sa rfl rfl (q_shl8 c8 rfl rfl rfl (cnt_eq hc8)) <| sv (u8 a0x) rfl rfl rfl <| sv (i64 r1) rfl rfl rfl <| sv (i64 c4) rfl rfl rfl <| sa rfl rfl (q_subI rfl rfl rfl) <| ?_; obtain ⟨c9, hc9, H⟩ := bsi H; refine sa rfl rfl (q_shr8 c9 rfl rfl rfl (cnt_eq hc9)) <| sa rfl rfl (q_or8 rfl rfl rfl) <| sa rfl rfl (q_assign (v := (u8 (((shl8 a0x c8) ||| (shr8 a0x c9))))) rfl rfl) <| ?_; refine ws_nil ?_; refine W_th <| W_ret <| ?_; obtain rfl := osi H; refine rt1 (u8 (((shl8 a0x c8) ||| (shr8 a0x c9)))) rfl rfl rfl rfl ?_; exact ⟨rfl, e7⟩
noncomputable def word_Get_uint32 (a0b : List UInt8) : Option (UInt32 × Bool) :=
((word_Bits_uint32 ).bind fun r1 =>
((divI r1 8).bind fun c3 =>
(if (a0b.length : Int) < c3 then some ((0 : UInt32), false)
else
((subL a0b 0 c3).bind fun c5 =>
((iterC (fun s6 : UInt64 × Int =>
(if s6.2 < (c5.length : Int) then
((idx c5 s6.2).bind fun c9 => some (.inl (((shl64 s6.1 8) ||| (c9.toUInt64)), (wI (s6.2 + 1)))))
else some (.inr s6.1))) ((0 : UInt64), 0)).bind fun x6 => some ((x6.toUInt32), true))))))
theorem word_Get_uint32_calls (a0b : List UInt8) (p0 : Value) (r : UInt32 × Bool) (w0 : World) (hp0 : By w0 [] p0 a0b) (H : word_Get_uint32 a0b = some r) :
    Calls Try.prog 88 [p0].toArray w0 (fun e w' => e = .returned (.tuple #[(u32 r.1), (.bool r.2)]) ∧ Ext w0 w') := by
  have hE : Ext w0 w0 := Ext.refl w0; unfold word_Get_uint32 at H; refine calls_W (n := 30) Try.func88 rfl rfl rfl ?_; refine W_seq <| W_rg <| av (u32 0) rfl (cst32 (0 : UInt32) rfl) <| av (.bool false) rfl rfl <| wnt <| W_seq <| W_rg <| ?_; obtain ⟨r1, hr1, H⟩ := bsi H; refine wls rfl rfl (stp_call (vs := []) Try.func78 rfl rfl rfl (ar0 ) (word_Bits_uint32_calls   r1 _  hr1) ?_); rintro _ w1 ⟨rfl, x1⟩; refine ⟨_, rfl, ?_⟩; have e2 := hE.trans x1; obtain ⟨c3, hc3, H⟩ := bsi H; refine wa rfl (q_divI rfl rfl rfl hc3) <| av (i64 c3) rfl rfl <| wnt <| W_seq <| W_seq <| W_rg <| mv p0 rfl rfl <| wa rfl (q_len rfl T22.sl rfl (hp0.lift (Lift.ext e2 _))) <| ?_; refine mv (i64 c3) rfl rfl <| wa rfl (q_ltI rfl rfl rfl) <| wnt <| ?_; refine W_cond _ rfl rfl (fun hb4 => ?_) (fun hb4 => ?_)
  · replace H := ifp hb4 H; refine W_seq <| W_rg <| av (u32 0) rfl (cst32 (0 : UInt32) rfl) <| av (.bool false) rfl rfl <| wnt <| W_ret <| th_r <| ?_; obtain rfl := osi H; refine rt2 (u32 0) (.bool false) rfl rfl rfl rfl rfl rfl ?_; exact ⟨rfl, e2⟩
  replace H := ifn hb4 H; refine W_skip <| W_th <| W_seq <| W_rg <| av (u64 0) rfl (cst64 (0 : UInt64) rfl) <| wnt <| W_seq <| W_seq <| ?_; refine W_rg <| mv p0 rfl rfl <| mv (i64 c3) rfl rfl <| ?_; obtain ⟨c5, hc5, H⟩ := bsi H; refine wa rfl (q_slice (a := 0) (b := c3) rfl T22 rfl (hp0.lift (Lift.ext e2 _)) rfl rfl hc5) <| wa rfl (q_len rfl T22.sl rfl (SlK.cut (hp0.lift (Lift.ext e2 _)) hc5)) <| mv (i64 0) rfl rfl <| wnt <| ?_; obtain ⟨x6, G6, H⟩ := bsi H; refine W_mid (fun f w => f 5 = (u64 x6) ∧ f 30 = undef ∧ Ext w0 w) ?_ ?_
  · refine W_block ?_; refine W_loop (fun s6 f w => f 5 = (u64 s6.1) ∧ f 16 = (subV p0 (0 : Int).toNat (c3 : Int).toNat) ∧ f 17 = (i64 ((c5.length : Int))) ∧ f 18 = (i64 s6.2) ∧ f 30 = undef ∧ Ext w0 w) G6 ?_ ?_
    · exact ⟨rfl, rfl, rfl, rfl, rfl, e2⟩
    rintro s6 _ _ w7 ⟨s5_7, s16_7, s17_7, s18_7, s30_7, hE7⟩ H6 hr6; refine W_seq <| W_rg <| wa rfl (q_ltI rfl s18_7 s17_7) <| wnt <| W_seq <| ?_; refine W_cond _ rfl rfl (fun hb8 => ?_) (fun hb8 => ?_)
    · replace H6 := ifp hb8 H6; refine W_skip <| W_th <| W_seq <| W_block <| W_seq <| W_rg <| ?_; obtain ⟨c9, hc9, H6⟩ := bsi H6; refine wa rfl (q_adr rfl T22 s16_7 s18_7 (SlK.cut (hp0.lift (Lift.ext hE7 _)) hc5) hc9) <| wq rfl (q_loadS rfl T22 rfl (SlK.cut (hp0.lift (Lift.ext hE7 _)) hc5) hc9) <| av (u8 c9) rfl rfl <| wnt <| W_rg <| mv (u64 s6.1) rfl s5_7 <| wa rfl (q_shl64 8 rfl rfl rfl rfl) <| mv (u8 c9) rfl rfl <| ?_; refine wa rfl (q_cvt648 rfl rfl rfl rfl) <| wa rfl (q_or64 rfl rfl rfl) <| av (u64 (((shl64 s6.1 8) ||| (c9.toUInt64)))) rfl rfl <| wl_nil <| bk_n <| W_th <| W_rg <| wa rfl (q_addI rfl s18_7 rfl) <| ?_; refine mv (i64 ((wI (s6.2 + 1)))) rfl rfl <| wl_nil <| ?_; obtain rfl := osi H6; exact ⟨_, rfl, rfl, s16_7, s17_7, rfl, s30_7, hE7⟩
    replace H6 := ifn hb8 H6; refine W_exit <| th_x <| ?_; obtain rfl := osi H6; obtain rfl := hr6 _ rfl; refine th_x <| bk_x <| ?_; exact ⟨s5_7, s30_7, hE7⟩
  rintro _ w11 ⟨s5_11, s30_11, hE11⟩; refine W_th <| W_seq <| W_rg <| mv (u64 x6) rfl s5_11 <| wa rfl (q_cvt3264 rfl rfl rfl rfl) <| av (u32 ((x6.toUInt32))) rfl rfl <| av (.bool true) rfl rfl <| wnt <| ?_; refine W_ret ?_; obtain rfl := osi H; refine rt2 (u32 ((x6.toUInt32))) (.bool true) rfl rfl rfl rfl rfl s30_11 ?_; exact ⟨rfl, hE11⟩
noncomputable def word_Put_uint32 (a0b : List UInt8) (a1x : UInt32) : Option (List UInt8) :=
((slices_Clone_sbytebyte a0b).bind fun r1 =>
((word_Bits_uint32 ).bind fun r4 =>
((iterC (fun s6 : List UInt8 × Int =>
(if 0 ≤ s6.2 then
((cnt s6.2).bind fun c9 =>
((appL s6.1 (([(((shr32 a1x c9)).toUInt8)] : List UInt8))).bind fun c12 => some (.inl (c12, (wI (s6.2 - 8))))))
else some (.inr s6.1))) (r1, (wI (r4 - 8)))).bind fun x6 => some x6)))
theorem word_Put_uint32_calls (a0b : List UInt8) (a1x : UInt32) (p0 : Value) (r : List UInt8) (w0 : World) (hp0 : By w0 [] p0 a0b) (H : word_Put_uint32 a0b a1x = some r) :
    Calls Try.prog 55 [p0, (u32 a1x)].toArray w0 (fun e w' => ∃ u0 : Value, e = .returned u0 ∧ Ext w0 w' ∧ Nw w0 u0 ∧ OwK (Sc u8) w' [] 5 u0 r) := by
  have hE : Ext w0 w0 := Ext.refl w0; unfold word_Put_uint32 at H; refine calls_W (n := 23) Try.func55 rfl rfl rfl ?_; refine W_seq <| W_rg <| av (.slice none 0 0) rfl rfl <| wnt <| W_seq <| W_rg <| mv p0 rfl rfl <| ?_; obtain ⟨r1, hr1, H⟩ := bsi H; refine wls rfl rfl (stp_call (vs := [p0]) Try.func35 rfl rfl rfl (ar1 rfl) (slices_Clone_sbytebyte_calls a0b p0 r1 _ (hp0.lift (Lift.ext hE _)) hr1) ?_); rintro _ w1 ⟨v1, rfl, x1, n1_0, o1_0⟩; refine ⟨_, rfl, ?_⟩; have o1 : OwK (Sc u8) w1 (v1 :: []) 5 v1 r1 := OwK.scal o1_0 _; have n3 := Nw.ext hE n1_0; have e2 := hE.trans x1; refine av v1 rfl rfl <| wnt <| W_seq <| W_seq <| W_rg <| ?_; obtain ⟨r4, hr4, H⟩ := bsi H; refine wls rfl rfl (stp_call (vs := []) Try.func78 rfl rfl rfl (ar0 ) (word_Bits_uint32_calls   r4 _  hr4) ?_); rintro _ w4 ⟨rfl, x4⟩; refine ⟨_, rfl, ?_⟩; replace o1 := o1.extL (Sc.stab _) x4 (Lift.ext x4 _); have e5 := e2.trans x4; refine wa rfl (q_subI rfl rfl rfl) <| av (i64 ((wI (r4 - 8)))) rfl rfl <| wnt <| ?_; obtain ⟨x6, G6, H⟩ := bsi H; refine W_mid (fun f w => ∃ v5_17 : Value, f 5 = v5_17 ∧ f 23 = undef ∧ Ext w0 w ∧ OwK (Sc u8) w [v5_17] 5 v5_17 x6 ∧ Nw w0 v5_17) ?_ ?_
  · refine W_block ?_; refine W_loop (fun s6 f w => ∃ v5_15 : Value, f 1 = (u32 a1x) ∧ f 5 = v5_15 ∧ f 6 = (i64 s6.2) ∧ f 23 = undef ∧ Ext w0 w ∧ OwK (Sc u8) w [v5_15] 5 v5_15 s6.1 ∧ Nw w0 v5_15) G6 ?_ ?_
    · exact ⟨v1, rfl, rfl, rfl, rfl, e5, o1, n3⟩
    rintro s6 _ _ w7 ⟨v5_7, s1_7, s5_7, s6_7, s23_7, hE7, o0_7, n0_7⟩ H6 hr6; refine W_seq <| W_seq <| W_rg <| mv (i64 s6.2) rfl s6_7 <| wa rfl (q_geI rfl rfl rfl) <| wnt <| ?_; refine W_cond _ rfl rfl (fun hb8 => ?_) (fun hb8 => ?_)
    · replace H6 := ifp hb8 H6; refine W_skip <| W_th <| W_seq <| W_block <| W_rg <| mv v5_7 rfl s5_7 <| mv (u32 a1x) rfl s1_7 <| mv (i64 s6.2) rfl s6_7 <| ?_; obtain ⟨c9, hc9, H6⟩ := bsi H6; refine wa rfl (q_shr32 c9 rfl rfl rfl (cnt_eq hc9)) <| wa rfl (q_cvt832 rfl rfl rfl rfl) <| ?_; refine wls rfl rfl (stp_lit (L := [v5_7]) (R := (Sc u8)) [(u8 ((((shr32 a1x c9)).toUInt8)))] ([(((shr32 a1x c9)).toUInt8)] : List UInt8) rfl T22 rfl (by exact ⟨rfl, rfl, trivial⟩) rfl (litC u8 (oneC_u8) (us := [(u8 ((((shr32 a1x c9)).toUInt8)))]) (l := ([(((shr32 a1x c9)).toUInt8)] : List UInt8)) rfl) rfl (litS u8 (us := [(u8 ((((shr32 a1x c9)).toUInt8)))]) (l := ([(((shr32 a1x c9)).toUInt8)] : List UInt8)) rfl) ?_); intro v10 w10 o10 n10 g10 l10; have x10 := grown_ext g10; have i10 : By w10 [v5_7] v10 (([(((shr32 a1x c9)).toUInt8)] : List UInt8)) := OwK.slk (Sc.stab _) _ o10 (fun k hk => (Old.cons (Old.nil _) o0_7.lt) k (n10 k hk)) (fun _ h => h.2); replace o0_7 := o0_7.extL (Sc.stab _) x10 (Lift.ext x10 _); have e11 := hE7.trans x10; obtain ⟨c12, hc12, H6⟩ := bsi H6; refine wls rfl rfl (stp_append (R := (Sc u8)) (v := v5_7) (u := v10) (Sc.stab _) [] [] rfl T22 rfl rfl o0_7 i10 (fun _ _ h => h) hc12 oc_u8 ?_); intro v12 w12 o12 g12 nx12 l12; replace i10 := i10.lift l12; have e13 := e11.grown g12 n0_7; have n14 := Nw.nxt e11 n0_7 nx12; refine av v12 rfl rfl <| wl_nil <| bk_n <| W_th <| W_rg <| mv (i64 s6.2) rfl s6_7 <| wa rfl (q_subI rfl rfl rfl) <| av (i64 ((wI (s6.2 - 8)))) rfl rfl <| ?_; refine wl_nil ?_; obtain rfl := osi H6; exact ⟨_, rfl, v12, s1_7, rfl, rfl, s23_7, e13, o12, n14⟩
    replace H6 := ifn hb8 H6; refine W_exit <| th_x <| ?_; obtain rfl := osi H6; obtain rfl := hr6 _ rfl; refine th_x <| bk_x <| ?_; exact ⟨v5_7, s5_7, s23_7, hE7, o0_7, n0_7⟩
  rintro _ w16 ⟨v5_16, s5_16, s23_16, hE16, o0_16, n0_16⟩; refine W_th <| W_seq <| W_rg <| mv v5_16 rfl s5_16 <| av v5_16 rfl rfl <| wnt <| W_ret <| ?_; obtain rfl := osi H; refine rt1 v5_16 rfl rfl rfl s23_16 ?_; exact ⟨v5_16, rfl, hE16, n0_16, (o0_16.weak (Sc.stab _) (fun _ _ => trivial))⟩
noncomputable def word_Put_uint64 (a0b : List UInt8) (a1x : UInt64) : Option (List UInt8) :=
((slices_Clone_sbytebyte a0b).bind fun r1 =>
((word_Bits_uint64 ).bind fun r4 =>
((iterC (fun s6 : List UInt8 × Int =>
(if 0 ≤ s6.2 then
((cnt s6.2).bind fun c9 =>
((appL s6.1 (([(((shr64 a1x c9)).toUInt8)] : List UInt8))).bind fun c12 => some (.inl (c12, (wI (s6.2 - 8))))))
else some (.inr s6.1))) (r1, (wI (r4 - 8)))).bind fun x6 => some x6)))
theorem word_Put_uint64_calls (a0b : List UInt8) (a1x : UInt64) (p0 : Value) (r : List UInt8) (w0 : World) (hp0 : By w0 [] p0 a0b) (H : word_Put_uint64 a0b a1x = some r) :
    Calls Try.prog 51 [p0, (u64 a1x)].toArray w0 (fun e w' => ∃ u0 : Value, e = .returned u0 ∧ Ext w0 w' ∧ Nw w0 u0 ∧ OwK (Sc u8) w' [] 5 u0 r) := by
  have hE : Ext w0 w0 := Ext.refl w0; unfold word_Put_uint64 at H; refine calls_W (n := 23) Try.func51 rfl rfl rfl ?_; refine W_seq <| W_rg <| av (.slice none 0 0) rfl rfl <| wnt <| W_seq <| W_rg <| mv p0 rfl rfl <| ?_; obtain ⟨r1, hr1, H⟩ := bsi H; refine wls rfl rfl (stp_call (vs := [p0]) Try.func35 rfl rfl rfl (ar1 rfl) (slices_Clone_sbytebyte_calls a0b p0 r1 _ (hp0.lift (Lift.ext hE _)) hr1) ?_); rintro _ w1 ⟨v1, rfl, x1, n1_0, o1_0⟩; refine ⟨_, rfl, ?_⟩; have o1 : OwK (Sc u8) w1 (v1 :: []) 5 v1 r1 := OwK.scal o1_0 _; have n3 := Nw.ext hE n1_0; have e2 := hE.trans x1; refine av v1 rfl rfl <| wnt <| W_seq <| W_seq <| W_rg <| ?_; obtain ⟨r4, hr4, H⟩ := bsi H; refine wls rfl rfl (stp_call (vs := []) Try.func73 rfl rfl rfl (ar0 ) (word_Bits_uint64_calls   r4 _  hr4) ?_); rintro _ w4 ⟨rfl, x4⟩; refine ⟨_, rfl, ?_⟩; replace o1 := o1.extL (Sc.stab _) x4 (Lift.ext x4 _); have e5 := e2.trans x4; refine wa rfl (q_subI rfl rfl rfl) <| av (i64 ((wI (r4 - 8)))) rfl rfl <| wnt <| ?_; obtain ⟨x6, G6, H⟩ := bsi H; refine W_mid (fun f w => ∃ v5_17 : Value, f 5 = v5_17 ∧ f 23 = undef ∧ Ext w0 w ∧ OwK (Sc u8) w [v5_17] 5 v5_17 x6 ∧ Nw w0 v5_17) ?_ ?_
  · refine W_block ?_; refine W_loop (fun s6 f w => ∃ v5_15 : Value, f 1 = (u64 a1x) ∧ f 5 = v5_15 ∧ f 6 = (i64 s6.2) ∧ f 23 = undef ∧ Ext w0 w ∧ OwK (Sc u8) w [v5_15] 5 v5_15 s6.1 ∧ Nw w0 v5_15) G6 ?_ ?_
    · exact ⟨v1, rfl, rfl, rfl, rfl, e5, o1, n3⟩
    rintro s6 _ _ w7 ⟨v5_7, s1_7, s5_7, s6_7, s23_7, hE7, o0_7, n0_7⟩ H6 hr6; refine W_seq <| W_seq <| W_rg <| mv (i64 s6.2) rfl s6_7 <| wa rfl (q_geI rfl rfl rfl) <| wnt <| ?_; refine W_cond _ rfl rfl (fun hb8 => ?_) (fun hb8 => ?_)
    · replace H6 := ifp hb8 H6; refine W_skip <| W_th <| W_seq <| W_block <| W_rg <| mv v5_7 rfl s5_7 <| mv (u64 a1x) rfl s1_7 <| mv (i64 s6.2) rfl s6_7 <| ?_; obtain ⟨c9, hc9, H6⟩ := bsi H6; refine wa rfl (q_shr64 c9 rfl rfl rfl (cnt_eq hc9)) <| wa rfl (q_cvt864 rfl rfl rfl rfl) <| ?_; refine wls rfl rfl (stp_lit (L := [v5_7]) (R := (Sc u8)) [(u8 ((((shr64 a1x c9)).toUInt8)))] ([(((shr64 a1x c9)).toUInt8)] : List UInt8) rfl T22 rfl (by exact ⟨rfl, rfl, trivial⟩) rfl (litC u8 (oneC_u8) (us := [(u8 ((((shr64 a1x c9)).toUInt8)))]) (l := ([(((shr64 a1x c9)).toUInt8)] : List UInt8)) rfl) rfl (litS u8 (us := [(u8 ((((shr64 a1x c9)).toUInt8)))]) (l := ([(((shr64 a1x c9)).toUInt8)] : List UInt8)) rfl) ?_); intro v10 w10 o10 n10 g10 l10; have x10 := grown_ext g10; have i10 : By w10 [v5_7] v10 (([(((shr64 a1x c9)).toUInt8)] : List UInt8)) := OwK.slk (Sc.stab _) _ o10 (fun k hk => (Old.cons (Old.nil _) o0_7.lt) k (n10 k hk)) (fun _ h => h.2); replace o0_7 := o0_7.extL (Sc.stab _) x10 (Lift.ext x10 _); have e11 := hE7.trans x10; obtain ⟨c12, hc12, H6⟩ := bsi H6; refine wls rfl rfl (stp_append (R := (Sc u8)) (v := v5_7) (u := v10) (Sc.stab _) [] [] rfl T22 rfl rfl o0_7 i10 (fun _ _ h => h) hc12 oc_u8 ?_); intro v12 w12 o12 g12 nx12 l12; replace i10 := i10.lift l12; have e13 := e11.grown g12 n0_7; have n14 := Nw.nxt e11 n0_7 nx12; refine av v12 rfl rfl <| wl_nil <| bk_n <| W_th <| W_rg <| mv (i64 s6.2) rfl s6_7 <| wa rfl (q_subI rfl rfl rfl) <| av (i64 ((wI (s6.2 - 8)))) rfl rfl <| ?_; refine wl_nil ?_; obtain rfl := osi H6; exact ⟨_, rfl, v12, s1_7, rfl, rfl, s23_7, e13, o12, n14⟩
    replace H6 := ifn hb8 H6; refine W_exit <| th_x <| ?_; obtain rfl := osi H6; obtain rfl := hr6 _ rfl; refine th_x <| bk_x <| ?_; exact ⟨v5_7, s5_7, s23_7, hE7, o0_7, n0_7⟩
  rintro _ w16 ⟨v5_16, s5_16, s23_16, hE16, o0_16, n0_16⟩; refine W_th <| W_seq <| W_rg <| mv v5_16 rfl s5_16 <| av v5_16 rfl rfl <| wnt <| W_ret <| ?_; obtain rfl := osi H; refine rt1 v5_16 rfl rfl rfl s23_16 ?_; exact ⟨v5_16, rfl, hE16, n0_16, (o0_16.weak (Sc.stab _) (fun _ _ => trivial))⟩
noncomputable def hash_constants  : Option (List UInt32) :=
((lenA 64 ((List.replicate 64 (0 : UInt32)))).bind fun c5 =>
((lenA 64 (([(1116352408 : UInt32), (1899447441 : UInt32), (3049323471 : UInt32), (3921009573 : UInt32), (961987163 : UInt32), (1508970993 : UInt32), (2453635748 : UInt32), (2870763221 : UInt32), (3624381080 : UInt32), (310598401 : UInt32), (607225278 : UInt32), (1426881987 : UInt32), (1925078388 : UInt32), (2162078206 : UInt32), (2614888103 : UInt32), (3248222580 : UInt32), (3835390401 : UInt32), (4022224774 : UInt32), (264347078 : UInt32), (604807628 : UInt32), (770255983 : UInt32), (1249150122 : UInt32), (1555081692 : UInt32), (1996064986 : UInt32), (2554220882 : UInt32), (2821834349 : UInt32), (2952996808 : UInt32), (3210313671 : UInt32), (3336571891 : UInt32), (3584528711 : UInt32), (113926993 : UInt32), (338241895 : UInt32), (666307205 : UInt32), (773529912 : UInt32), (1294757372 : UInt32), (1396182291 : UInt32), (1695183700 : UInt32), (1986661051 : UInt32), (2177026350 : UInt32), (2456956037 : UInt32), (2730485921 : UInt32), (2820302411 : UInt32), (3259730800 : UInt32), (3345764771 : UInt32), (3516065817 : UInt32), (3600352804 : UInt32), (4094571909 : UInt32), (275423344 : UInt32), (430227734 : UInt32), (506948616 : UInt32), (659060556 : UInt32), (883997877 : UInt32), (958139571 : UInt32), (1322822218 : UInt32), (1537002063 : UInt32), (1747873779 : UInt32), (1955562222 : UInt32), (2024104815 : UInt32), (2227730452 : UInt32), (2361852424 : UInt32), (2428436474 : UInt32), (2756734187 : UInt32), (3204031479 : UInt32), (3329325298 : UInt32)] : List UInt32))).bind fun c6 =>
((lenA 64 (([(1116352408 : UInt32), (1899447441 : UInt32), (3049323471 : UInt32), (3921009573 : UInt32), (961987163 : UInt32), (1508970993 : UInt32), (2453635748 : UInt32), (2870763221 : UInt32), (3624381080 : UInt32), (310598401 : UInt32), (607225278 : UInt32), (1426881987 : UInt32), (1925078388 : UInt32), (2162078206 : UInt32), (2614888103 : UInt32), (3248222580 : UInt32), (3835390401 : UInt32), (4022224774 : UInt32), (264347078 : UInt32), (604807628 : UInt32), (770255983 : UInt32), (1249150122 : UInt32), (1555081692 : UInt32), (1996064986 : UInt32), (2554220882 : UInt32), (2821834349 : UInt32), (2952996808 : UInt32), (3210313671 : UInt32), (3336571891 : UInt32), (3584528711 : UInt32), (113926993 : UInt32), (338241895 : UInt32), (666307205 : UInt32), (773529912 : UInt32), (1294757372 : UInt32), (1396182291 : UInt32), (1695183700 : UInt32), (1986661051 : UInt32), (2177026350 : UInt32), (2456956037 : UInt32), (2730485921 : UInt32), (2820302411 : UInt32), (3259730800 : UInt32), (3345764771 : UInt32), (3516065817 : UInt32), (3600352804 : UInt32), (4094571909 : UInt32), (275423344 : UInt32), (430227734 : UInt32), (506948616 : UInt32), (659060556 : UInt32), (883997877 : UInt32), (958139571 : UInt32), (1322822218 : UInt32), (1537002063 : UInt32), (1747873779 : UInt32), (1955562222 : UInt32), (2024104815 : UInt32), (2227730452 : UInt32), (2361852424 : UInt32), (2428436474 : UInt32), (2756734187 : UInt32), (3204031479 : UInt32), (3329325298 : UInt32)] : List UInt32))).bind fun c8 => some ([(1116352408 : UInt32), (1899447441 : UInt32), (3049323471 : UInt32), (3921009573 : UInt32), (961987163 : UInt32), (1508970993 : UInt32), (2453635748 : UInt32), (2870763221 : UInt32), (3624381080 : UInt32), (310598401 : UInt32), (607225278 : UInt32), (1426881987 : UInt32), (1925078388 : UInt32), (2162078206 : UInt32), (2614888103 : UInt32), (3248222580 : UInt32), (3835390401 : UInt32), (4022224774 : UInt32), (264347078 : UInt32), (604807628 : UInt32), (770255983 : UInt32), (1249150122 : UInt32), (1555081692 : UInt32), (1996064986 : UInt32), (2554220882 : UInt32), (2821834349 : UInt32), (2952996808 : UInt32), (3210313671 : UInt32), (3336571891 : UInt32), (3584528711 : UInt32), (113926993 : UInt32), (338241895 : UInt32), (666307205 : UInt32), (773529912 : UInt32), (1294757372 : UInt32), (1396182291 : UInt32), (1695183700 : UInt32), (1986661051 : UInt32), (2177026350 : UInt32), (2456956037 : UInt32), (2730485921 : UInt32), (2820302411 : UInt32), (3259730800 : UInt32), (3345764771 : UInt32), (3516065817 : UInt32), (3600352804 : UInt32), (4094571909 : UInt32), (275423344 : UInt32), (430227734 : UInt32), (506948616 : UInt32), (659060556 : UInt32), (883997877 : UInt32), (958139571 : UInt32), (1322822218 : UInt32), (1537002063 : UInt32), (1747873779 : UInt32), (1955562222 : UInt32), (2024104815 : UInt32), (2227730452 : UInt32), (2361852424 : UInt32), (2428436474 : UInt32), (2756734187 : UInt32), (3204031479 : UInt32), (3329325298 : UInt32)] : List UInt32))))
theorem hash_constants_calls  (r : List UInt32) (w0 : World) (H : hash_constants = some r) :
    Calls Try.prog 76 [].toArray w0 (fun e w' => e = .returned (ag u32 r) ∧ Ext w0 w') := by
  have hE : Ext w0 w0 := Ext.refl w0; unfold hash_constants at H; refine calls_W (n := 2) Try.func76 rfl rfl rfl ?_; refine W_seq <| W_rg <| ?_; refine wls rfl rfl (sal u32 (List.replicate 64 (0 : UInt32)) [] rfl Z90 ?_); intro g1 w1 o1 n1 g1r l1; have x1 := grown_ext g1r; have n3 := Nw.ext hE n1; have e2 := hE.trans x1; refine wnt <| W_seq <| W_rg <| wa rfl (q_buildAF (l := ([(1116352408 : UInt32), (1899447441 : UInt32), (3049323471 : UInt32), (3921009573 : UInt32), (961987163 : UInt32), (1508970993 : UInt32), (2453635748 : UInt32), (2870763221 : UInt32), (3624381080 : UInt32), (310598401 : UInt32), (607225278 : UInt32), (1426881987 : UInt32), (1925078388 : UInt32), (2162078206 : UInt32), (2614888103 : UInt32), (3248222580 : UInt32), (3835390401 : UInt32), (4022224774 : UInt32), (264347078 : UInt32), (604807628 : UInt32), (770255983 : UInt32), (1249150122 : UInt32), (1555081692 : UInt32), (1996064986 : UInt32), (2554220882 : UInt32), (2821834349 : UInt32), (2952996808 : UInt32), (3210313671 : UInt32), (3336571891 : UInt32), (3584528711 : UInt32), (113926993 : UInt32), (338241895 : UInt32), (666307205 : UInt32), (773529912 : UInt32), (1294757372 : UInt32), (1396182291 : UInt32), (1695183700 : UInt32), (1986661051 : UInt32), (2177026350 : UInt32), (2456956037 : UInt32), (2730485921 : UInt32), (2820302411 : UInt32), (3259730800 : UInt32), (3345764771 : UInt32), (3516065817 : UInt32), (3600352804 : UInt32), (4094571909 : UInt32), (275423344 : UInt32), (430227734 : UInt32), (506948616 : UInt32), (659060556 : UInt32), (883997877 : UInt32), (958139571 : UInt32), (1322822218 : UInt32), (1537002063 : UInt32), (1747873779 : UInt32), (1955562222 : UInt32), (2024104815 : UInt32), (2227730452 : UInt32), (2361852424 : UInt32), (2428436474 : UInt32), (2756734187 : UInt32), (3204031479 : UInt32), (3329325298 : UInt32)] : List UInt32)) (us := [(u32 1116352408), (u32 1899447441), (u32 3049323471), (u32 3921009573), (u32 961987163), (u32 1508970993), (u32 2453635748), (u32 2870763221), (u32 3624381080), (u32 310598401), (u32 607225278), (u32 1426881987), (u32 1925078388), (u32 2162078206), (u32 2614888103), (u32 3248222580), (u32 3835390401), (u32 4022224774), (u32 264347078), (u32 604807628), (u32 770255983), (u32 1249150122), (u32 1555081692), (u32 1996064986), (u32 2554220882), (u32 2821834349), (u32 2952996808), (u32 3210313671), (u32 3336571891), (u32 3584528711), (u32 113926993), (u32 338241895), (u32 666307205), (u32 773529912), (u32 1294757372), (u32 1396182291), (u32 1695183700), (u32 1986661051), (u32 2177026350), (u32 2456956037), (u32 2730485921), (u32 2820302411), (u32 3259730800), (u32 3345764771), (u32 3516065817), (u32 3600352804), (u32 4094571909), (u32 275423344), (u32 430227734), (u32 506948616), (u32 659060556), (u32 883997877), (u32 958139571), (u32 1322822218), (u32 1537002063), (u32 1747873779), (u32 1955562222), (u32 2024104815), (u32 2227730452), (u32 2361852424), (u32 2428436474), (u32 2756734187), (u32 3204031479), (u32 3329325298)]) (z := (0 : UInt32)) rfl A90 Z90 (by exact ⟨rfl, (cst32 (1116352408 : UInt32) rfl), rfl, (cst32 (1899447441 : UInt32) rfl), rfl, (cst32 (3049323471 : UInt32) rfl), rfl, (cst32 (3921009573 : UInt32) rfl), rfl, (cst32 (961987163 : UInt32) rfl), rfl, (cst32 (1508970993 : UInt32) rfl), rfl, (cst32 (2453635748 : UInt32) rfl), rfl, (cst32 (2870763221 : UInt32) rfl), rfl, (cst32 (3624381080 : UInt32) rfl), rfl, (cst32 (310598401 : UInt32) rfl), rfl, (cst32 (607225278 : UInt32) rfl), rfl, (cst32 (1426881987 : UInt32) rfl), rfl, (cst32 (1925078388 : UInt32) rfl), rfl, (cst32 (2162078206 : UInt32) rfl), rfl, (cst32 (2614888103 : UInt32) rfl), rfl, (cst32 (3248222580 : UInt32) rfl), rfl, (cst32 (3835390401 : UInt32) rfl), rfl, (cst32 (4022224774 : UInt32) rfl), rfl, (cst32 (264347078 : UInt32) rfl), rfl, (cst32 (604807628 : UInt32) rfl), rfl, (cst32 (770255983 : UInt32) rfl), rfl, (cst32 (1249150122 : UInt32) rfl), rfl, (cst32 (1555081692 : UInt32) rfl), rfl, (cst32 (1996064986 : UInt32) rfl), rfl, (cst32 (2554220882 : UInt32) rfl), rfl, (cst32 (2821834349 : UInt32) rfl), rfl, (cst32 (2952996808 : UInt32) rfl), rfl, (cst32 (3210313671 : UInt32) rfl), rfl, (cst32 (3336571891 : UInt32) rfl), rfl, (cst32 (3584528711 : UInt32) rfl), rfl, (cst32 (113926993 : UInt32) rfl), rfl, (cst32 (338241895 : UInt32) rfl), rfl, (cst32 (666307205 : UInt32) rfl), rfl, (cst32 (773529912 : UInt32) rfl), rfl, (cst32 (1294757372 : UInt32) rfl), rfl, (cst32 (1396182291 : UInt32) rfl), rfl, (cst32 (1695183700 : UInt32) rfl), rfl, (cst32 (1986661051 : UInt32) rfl), rfl, (cst32 (2177026350 : UInt32) rfl), rfl, (cst32 (2456956037 : UInt32) rfl), rfl, (cst32 (2730485921 : UInt32) rfl), rfl, (cst32 (2820302411 : UInt32) rfl), rfl, (cst32 (3259730800 : UInt32) rfl), rfl, (cst32 (3345764771 : UInt32) rfl), rfl, (cst32 (3516065817 : UInt32) rfl), rfl, (cst32 (3600352804 : UInt32) rfl), rfl, (cst32 (4094571909 : UInt32) rfl), rfl, (cst32 (275423344 : UInt32) rfl), rfl, (cst32 (430227734 : UInt32) rfl), rfl, (cst32 (506948616 : UInt32) rfl), rfl, (cst32 (659060556 : UInt32) rfl), rfl, (cst32 (883997877 : UInt32) rfl), rfl, (cst32 (958139571 : UInt32) rfl), rfl, (cst32 (1322822218 : UInt32) rfl), rfl, (cst32 (1537002063 : UInt32) rfl), rfl, (cst32 (1747873779 : UInt32) rfl), rfl, (cst32 (1955562222 : UInt32) rfl), rfl, (cst32 (2024104815 : UInt32) rfl), rfl, (cst32 (2227730452 : UInt32) rfl), rfl, (cst32 (2361852424 : UInt32) rfl), rfl, (cst32 (2428436474 : UInt32) rfl), rfl, (cst32 (2756734187 : UInt32) rfl), rfl, (cst32 (3204031479 : UInt32) rfl), rfl, (cst32 (3329325298 : UInt32) rfl), trivial⟩) rfl rfl cel_u32) <| ?_
  obtain ⟨c5, hc5, H⟩ := bsi H; obtain ⟨c6, hc6, H⟩ := bsi H; refine wln rfl rfl (stp_storeA [] [] rfl A90 rfl rfl (lenA_eq hc5) (lenA_eq hc6) o1 one_u32 ?_); intro w4 o4 g4 l4; have e7 := e2.grown g4 n3; refine wnt <| W_ret <| ?_; obtain ⟨c8, hc8, H⟩ := bsi H; obtain rfl := osi H; refine rtc1 A90 rfl rfl rfl o4 (lenA_eq hc8) rfl ?_; exact ⟨rfl, e7⟩
noncomputable def hash_first  : Option (List UInt32) :=
((lenA 8 ((List.replicate 8 (0 : UInt32)))).bind fun c5 =>
((lenA 8 (([(1779033703 : UInt32), (3144134277 : UInt32), (1013904242 : UInt32), (2773480762 : UInt32), (1359893119 : UInt32), (2600822924 : UInt32), (528734635 : UInt32), (1541459225 : UInt32)] : List UInt32))).bind fun c6 =>
((lenA 8 (([(1779033703 : UInt32), (3144134277 : UInt32), (1013904242 : UInt32), (2773480762 : UInt32), (1359893119 : UInt32), (2600822924 : UInt32), (528734635 : UInt32), (1541459225 : UInt32)] : List UInt32))).bind fun c8 => some ([(1779033703 : UInt32), (3144134277 : UInt32), (1013904242 : UInt32), (2773480762 : UInt32), (1359893119 : UInt32), (2600822924 : UInt32), (528734635 : UInt32), (1541459225 : UInt32)] : List UInt32))))
theorem hash_first_calls  (r : List UInt32) (w0 : World) (H : hash_first = some r) :
    Calls Try.prog 52 [].toArray w0 (fun e w' => e = .returned (ag u32 r) ∧ Ext w0 w') := by
  have hE : Ext w0 w0 := Ext.refl w0; unfold hash_first at H; refine calls_W (n := 2) Try.func52 rfl rfl rfl ?_; refine W_seq <| W_rg <| ?_; refine wls rfl rfl (sal u32 (List.replicate 8 (0 : UInt32)) [] rfl Z79 ?_); intro g1 w1 o1 n1 g1r l1; have x1 := grown_ext g1r; have n3 := Nw.ext hE n1; have e2 := hE.trans x1; refine wnt <| W_seq <| W_rg <| wa rfl (q_buildAF (l := ([(1779033703 : UInt32), (3144134277 : UInt32), (1013904242 : UInt32), (2773480762 : UInt32), (1359893119 : UInt32), (2600822924 : UInt32), (528734635 : UInt32), (1541459225 : UInt32)] : List UInt32)) (us := [(u32 1779033703), (u32 3144134277), (u32 1013904242), (u32 2773480762), (u32 1359893119), (u32 2600822924), (u32 528734635), (u32 1541459225)]) (z := (0 : UInt32)) rfl A79 Z79 (by exact ⟨rfl, (cst32 (1779033703 : UInt32) rfl), rfl, (cst32 (3144134277 : UInt32) rfl), rfl, (cst32 (1013904242 : UInt32) rfl), rfl, (cst32 (2773480762 : UInt32) rfl), rfl, (cst32 (1359893119 : UInt32) rfl), rfl, (cst32 (2600822924 : UInt32) rfl), rfl, (cst32 (528734635 : UInt32) rfl), rfl, (cst32 (1541459225 : UInt32) rfl), trivial⟩) rfl rfl cel_u32) <| ?_; obtain ⟨c5, hc5, H⟩ := bsi H; obtain ⟨c6, hc6, H⟩ := bsi H; refine wln rfl rfl (stp_storeA [] [] rfl A79 rfl rfl (lenA_eq hc5) (lenA_eq hc6) o1 one_u32 ?_); intro w4 o4 g4 l4; have e7 := e2.grown g4 n3; refine wnt <| W_ret <| ?_; obtain ⟨c8, hc8, H⟩ := bsi H; obtain rfl := osi H; refine rtc1 A79 rfl rfl rfl o4 (lenA_eq hc8) rfl ?_; exact ⟨rfl, e7⟩
noncomputable def hash_turned (a0x : UInt32) (a1a : Int) (a2b : Int) (a3c : Int) : Option UInt32 :=
((word_Turn_uint32 a0x (wI (0 - a1a))).bind fun r1 =>
((word_Turn_uint32 a0x (wI (0 - a2b))).bind fun r3 =>
((word_Turn_uint32 a0x (wI (0 - a3c))).bind fun r5 => some ((r1 ^^^ r3) ^^^ r5))))
theorem hash_turned_calls (a0x : UInt32) (a1a : Int) (a2b : Int) (a3c : Int) (r : UInt32) (w0 : World) (H : hash_turned a0x a1a a2b a3c = some r) :
    Calls Try.prog 77 [(u32 a0x), (i64 a1a), (i64 a2b), (i64 a3c)].toArray w0 (fun e w' => e = .returned (u32 r) ∧ Ext w0 w') := by
  have hE : Ext w0 w0 := Ext.refl w0; unfold hash_turned at H; refine calls_W (n := 23) Try.func77 rfl rfl rfl ?_; refine W_seq <| W_rg <| av (u32 0) rfl (cst32 (0 : UInt32) rfl) <| wnt <| W_seq <| W_rg <| mv (u32 a0x) rfl rfl <| mv (i64 a1a) rfl rfl <| ?_; refine wa rfl (q_negI rfl rfl) ?_; obtain ⟨r1, hr1, H⟩ := bsi H; refine wls rfl rfl (stp_call (vs := [(u32 a0x), (i64 ((wI (0 - a1a))))]) Try.func89 rfl rfl rfl (ar2 rfl rfl) (word_Turn_uint32_calls a0x (wI (0 - a1a))  r1 _  hr1) ?_); rintro _ w1 ⟨rfl, x1⟩; refine ⟨_, rfl, ?_⟩; have e2 := hE.trans x1; refine mv (u32 a0x) rfl rfl <| mv (i64 a2b) rfl rfl <| wa rfl (q_negI rfl rfl) <| ?_; obtain ⟨r3, hr3, H⟩ := bsi H; refine wls rfl rfl (stp_call (vs := [(u32 a0x), (i64 ((wI (0 - a2b))))]) Try.func89 rfl rfl rfl (ar2 rfl rfl) (word_Turn_uint32_calls a0x (wI (0 - a2b))  r3 _  hr3) ?_); rintro _ w3 ⟨rfl, x3⟩; refine ⟨_, rfl, ?_⟩; have e4 := e2.trans x3; refine wa rfl (q_xor32 rfl rfl rfl) <| mv (u32 a0x) rfl rfl <| mv (i64 a3c) rfl rfl <| wa rfl (q_negI rfl rfl) <| ?_; obtain ⟨r5, hr5, H⟩ := bsi H; refine wls rfl rfl (stp_call (vs := [(u32 a0x), (i64 ((wI (0 - a3c))))]) Try.func89 rfl rfl rfl (ar2 rfl rfl) (word_Turn_uint32_calls a0x (wI (0 - a3c))  r5 _  hr5) ?_); rintro _ w5 ⟨rfl, x5⟩; refine ⟨_, rfl, ?_⟩; have e6 := e4.trans x5; refine wa rfl (q_xor32 rfl rfl rfl) <| av (u32 (((r1 ^^^ r3) ^^^ r5))) rfl rfl <| wnt <| W_ret <| ?_; obtain rfl := osi H; refine rt1 (u32 (((r1 ^^^ r3) ^^^ r5))) rfl rfl rfl rfl ?_; exact ⟨rfl, e6⟩
noncomputable def hash_plan (a0p : List UInt8) : Option (List UInt32) :=
((iterC (fun s8 : List UInt32 × Int =>
(if s8.2 < 64 then
(if s8.2 < 16 then
((subL a0p ((wI (4 * s8.2))) ((a0p.length : Int))).bind fun c12 =>
((word_Get_uint32 c12).bind fun r13 =>
((lenA 64 s8.1).bind fun c15 =>
((idx s8.1 s8.2).bind fun c16 => some (.inl ((s8.1.set (s8.2 : Int).toNat r13.1), (wI (s8.2 + 1))))))))
else
((lenA 64 s8.1).bind fun c21 =>
((idx s8.1 ((wI (s8.2 - 15)))).bind fun c22 =>
((idx s8.1 ((wI (s8.2 - 2)))).bind fun c23 =>
((lenA 64 s8.1).bind fun c26 =>
((idx s8.1 ((wI (s8.2 - 16)))).bind fun c27 =>
((idx s8.1 ((wI (s8.2 - 7)))).bind fun c28 =>
((word_Turn_uint32 c22 (-7)).bind fun r29 =>
((word_Turn_uint32 c22 (-18)).bind fun r31 =>
((word_Turn_uint32 c23 (-17)).bind fun r33 =>
((word_Turn_uint32 c23 (-19)).bind fun r35 =>
((idx s8.1 s8.2).bind fun c37 => some (.inl ((s8.1.set (s8.2 : Int).toNat ((((c27 + c28) + ((r29 ^^^ r31) ^^^ (shr32 c22 3))) + ((r33 ^^^ r35) ^^^ (shr32 c23 10))))), (wI (s8.2 + 1))))))))))))))))
else some (.inr s8.1))) ((List.replicate 64 (0 : UInt32)), 0)).bind fun x8 =>
((lenA 64 x8).bind fun c42 =>
((lenA 64 ((List.replicate 64 (0 : UInt32)))).bind fun c44 =>
((lenA 64 x8).bind fun c46 => some x8))))
theorem hash_plan_calls (a0p : List UInt8) (p0 : Value) (r : List UInt32) (w0 : World) (hp0 : By w0 [] p0 a0p) (H : hash_plan a0p = some r) :
    Calls Try.prog 75 [p0].toArray w0 (fun e w' => e = .returned (ag u32 r) ∧ Ext w0 w') := by
  have hE : Ext w0 w0 := Ext.refl w0; unfold hash_plan at H; refine calls_W (n := 61) Try.func75 rfl rfl rfl ?_; refine W_seq <| W_rg <| ?_; refine wls rfl rfl (sal u32 (List.replicate 64 (0 : UInt32)) [] rfl Z90 ?_); intro g1 w1 o1 n1 g1r l1; have x1 := grown_ext g1r; have n3 := Nw.ext hE n1; have e2 := hE.trans x1; refine wnt <| W_seq <| W_rg <| ?_; refine wls rfl rfl (sal u32 (List.replicate 64 (0 : UInt32)) [(bp g1)] rfl Z90 ?_); intro g4 w4 o4 n4 g4r l4; have x4 := grown_ext g4r; have q5 : Nq (bp g1) (bp g4) := o1.nq n4; replace o1 := o1.ext x4; have n7 := Nw.ext e2 n4; have e6 := e2.trans x4; refine wnt <| W_seq <| W_seq <| W_rg <| mv (i64 0) rfl rfl <| wnt <| ?_; obtain ⟨x8, G8, H⟩ := bsi H; refine W_mid (fun f w => f 2 = (bp g1) ∧ f 3 = (bp g4) ∧ f 61 = undef ∧ Ext w0 w ∧ Blk w g1 90 (ac u32 ((List.replicate 64 (0 : UInt32)))) ∧ Nw w0 (bp g1) ∧ Blk w g4 90 (ac u32 x8) ∧ Nw w0 (bp g4) ∧ Nq (bp g1) (bp g4)) ?_ ?_
  · refine W_block ?_; refine W_loop (fun s8 f w => f 0 = p0 ∧ f 2 = (bp g1) ∧ f 3 = (bp g4) ∧ f 7 = (i64 s8.2) ∧ f 61 = undef ∧ Ext w0 w ∧ Blk w g1 90 (ac u32 ((List.replicate 64 (0 : UInt32)))) ∧ Nw w0 (bp g1) ∧ Blk w g4 90 (ac u32 s8.1) ∧ Nw w0 (bp g4) ∧ Nq (bp g1) (bp g4)) G8 ?_ ?_
    · exact ⟨rfl, rfl, rfl, rfl, rfl, e6, o1, n3, o4, n7, q5⟩
    rintro s8 _ _ w9 ⟨s0_9, s2_9, s3_9, s7_9, s61_9, hE9, o0_9, n0_9, o1_9, n1_9, q0_1_9⟩ H8 hr8; refine W_seq <| W_rg <| wa rfl (q_ltI rfl s7_9 rfl) <| wnt <| W_seq <| ?_; refine W_cond _ rfl rfl (fun hb10 => ?_) (fun hb10 => ?_)
    · replace H8 := ifp hb10 H8; refine W_skip <| W_th <| W_seq <| W_block <| W_seq <| W_rg <| mv (i64 s8.2) rfl s7_9 <| av (i64 s8.2) rfl rfl <| ?_; refine wnt <| W_seq <| W_seq <| W_rg <| mv (i64 s8.2) rfl rfl <| wa rfl (q_ltI rfl rfl rfl) <| wnt <| ?_; refine W_cond _ rfl rfl (fun hb11 => ?_) (fun hb11 => ?_)
      · replace H8 := ifp hb11 H8; refine W_seq <| W_rg <| mv (i64 s8.2) rfl rfl <| mv p0 rfl s0_9 <| mv (i64 s8.2) rfl rfl <| wa rfl (q_mulI rfl rfl rfl) <| ?_; obtain ⟨c12, hc12, H8⟩ := bsi H8; refine wa rfl (q_slice (a := (wI (4 * s8.2))) (b := (a0p.length : Int)) rfl T22 rfl (hp0.lift (Lift.ext hE9 _)) rfl rfl hc12) ?_; obtain ⟨r13, hr13, H8⟩ := bsi H8; refine wls rfl rfl (stp_call (vs := [(subV p0 ((wI (4 * s8.2)) : Int).toNat ((a0p.length : Int) : Int).toNat)]) Try.func88 rfl rfl rfl (ar1 rfl) (word_Get_uint32_calls c12 (subV p0 ((wI (4 * s8.2)) : Int).toNat ((a0p.length : Int) : Int).toNat) r13 _ (SlK.cut (L := []) (hp0.lift (Lift.ext hE9 _)) hc12) hr13) ?_); rintro _ w13 ⟨rfl, x13⟩; refine ⟨_, rfl, ?_⟩; replace o0_9 := o0_9.ext x13; replace o1_9 := o1_9.ext x13; have e14 := hE9.trans x13; refine mv (.tuple #[(u32 r13.1), (.bool r13.2)]) rfl rfl <| wa rfl (q_extract rfl rfl rfl) <| wa rfl (q_extract rfl rfl rfl) <| ?_; obtain ⟨c15, hc15, H8⟩ := bsi H8; obtain ⟨c16, hc16, H8⟩ := bsi H8; refine wa rfl (q_ixA (m := 0) rfl A90 (by exact s3_9) rfl (lenA_eq hc15) hc16) ?_; refine wln rfl rfl (stp_storeX (b := r13.1) [(bp g1)] [] rfl A90 rfl rfl o1_9 hc16 (one_u32 _) ?_); intro w17 o17 g17 l17; replace o0_9 := o0_9.other g17 q0_1_9; have e18 := e14.grown g17 n1_9; refine wnt <| W_exit <| th_x <| bk_x <| W_th <| W_rg <| wa rfl (q_addI rfl s7_9 rfl) <| mv (i64 ((wI (s8.2 + 1)))) rfl rfl <| ?_; refine wl_nil ?_; obtain rfl := osi H8; exact ⟨_, rfl, s0_9, s2_9, s3_9, rfl, s61_9, e18, o0_9, n0_9, o17, n1_9, q0_1_9⟩
      replace H8 := ifn hb11 H8; refine W_skip <| W_th <| W_seq <| ?_; refine W_draw [3, 7] [(0, 0), (1, 0), (2, 0), (3, 1), (4, 0), (5, 0), (6, 0), (7, 1), (8, 0), (9, 0)] mixed (by kernel_rfl) (by kernel_rfl) (by kernel_rfl) (by kernel_rfl) ?_; have x19 := Ext.drew w9; replace o0_9 := o0_9.ext x19; replace o1_9 := o1_9.ext x19; have e20 := hE9.trans x19; refine sv (i64 s8.2) rfl rfl rfl <| sa rfl rfl (q_subI rfl rfl rfl) <| ?_; obtain ⟨c21, hc21, H8⟩ := bsi H8; obtain ⟨c22, hc22, H8⟩ := bsi H8; refine sa rfl rfl (q_ixA (m := 0) rfl A90 (by exact s3_9) rfl (lenA_eq hc21) hc22) <| sq rfl rfl (q_loadE (m := 0) rfl A90 rfl o1_9 (seg_self _ _) hc22) <| sv (i64 s8.2) rfl rfl rfl <| sa rfl rfl (q_subI rfl rfl rfl) <| ?_; obtain ⟨c23, hc23, H8⟩ := bsi H8; refine sa rfl rfl (q_ixA (m := 0) rfl A90 (by exact s3_9) rfl (lenA_eq hc21) hc23) <| sq rfl rfl (q_loadE (m := 0) rfl A90 rfl o1_9 (seg_self _ _) hc23) <| sa rfl rfl (q_assign (v := (u32 c22)) rfl rfl) <| sa rfl rfl (q_assign (v := (u32 c23)) rfl rfl) <| ?_; refine ws_nil ?_; refine W_th ?_; refine W_draw [4, 8] [(0, 0), (1, 0), (2, 0), (3, 0), (4, 1), (5, 0), (6, 0), (7, 0), (8, 1), (9, 0), (10, 0), (12, 0), (15, 0), (16, 0), (19, 0), (21, 0), (24, 0), (25, 0), (11, 2), (13, 2), (14, 0), (17, 0), (18, 0), (20, 2), (22, 2), (23, 0), (26, 0), (27, 0), (28, 0), (29, 2)] mixed (by kernel_rfl) (by kernel_rfl) (by kernel_rfl) (by kernel_rfl) ?_; have x24 := Ext.drew (World.drew w9); replace o0_9 := o0_9.ext x24; replace o1_9 := o1_9.ext x24; have e25 := e20.trans x24; refine sv (i64 s8.2) rfl rfl rfl <| sv (i64 s8.2) rfl rfl rfl <| sa rfl rfl (q_subI rfl rfl rfl) <| ?_; obtain ⟨c26, hc26, H8⟩ := bsi H8; obtain ⟨c27, hc27, H8⟩ := bsi H8; refine sa rfl rfl (q_ixA (m := 0) rfl A90 (by exact s3_9) rfl (lenA_eq hc26) hc27) <| sq rfl rfl (q_loadE (m := 0) rfl A90 rfl o1_9 (seg_self _ _) hc27) <| sv (i64 s8.2) rfl rfl rfl <| sa rfl rfl (q_subI rfl rfl rfl) <| ?_; obtain ⟨c28, hc28, H8⟩ := bsi H8; refine sa rfl rfl (q_ixA (m := 0) rfl A90 (by exact s3_9) rfl (lenA_eq hc26) hc28) <| sq rfl rfl (q_loadE (m := 0) rfl A90 rfl o1_9 (seg_self _ _) hc28) <| sa rfl rfl (q_add32 rfl rfl rfl) <| sv (u32 c22) rfl rfl rfl <| sv (u32 c22) rfl rfl rfl <| sv (u32 c22) rfl rfl rfl <| sa rfl rfl (q_shr32 3 rfl rfl rfl rfl) <| sv (u32 c23) rfl rfl rfl <| ?_; refine sv (u32 c23) rfl rfl rfl <| sv (u32 c23) rfl rfl rfl <| ?_
      refine sa rfl rfl (q_shr32 10 rfl rfl rfl rfl) ?_; obtain ⟨r29, hr29, H8⟩ := bsi H8; refine wss rfl rfl rfl (stp_call (vs := [(u32 c22), (i64 (-7))]) Try.func89 rfl rfl rfl (ar2 rfl rfl) (word_Turn_uint32_calls c22 (-7)  r29 _  hr29) ?_); rintro _ w29 ⟨rfl, x29⟩; refine ⟨_, rfl, x29, ?_⟩; replace o0_9 := o0_9.ext x29; replace o1_9 := o1_9.ext x29; have e30 := e25.trans x29; obtain ⟨r31, hr31, H8⟩ := bsi H8; refine wss rfl rfl rfl (stp_call (vs := [(u32 c22), (i64 (-18))]) Try.func89 rfl rfl rfl (ar2 rfl rfl) (word_Turn_uint32_calls c22 (-18)  r31 _  hr31) ?_); rintro _ w31 ⟨rfl, x31⟩; refine ⟨_, rfl, x31, ?_⟩; replace o0_9 := o0_9.ext x31; replace o1_9 := o1_9.ext x31; have e32 := e30.trans x31; refine sa rfl rfl (q_xor32 rfl rfl rfl) <| sa rfl rfl (q_xor32 rfl rfl rfl) <| sa rfl rfl (q_add32 rfl rfl rfl) <| ?_; obtain ⟨r33, hr33, H8⟩ := bsi H8; refine wss rfl rfl rfl (stp_call (vs := [(u32 c23), (i64 (-17))]) Try.func89 rfl rfl rfl (ar2 rfl rfl) (word_Turn_uint32_calls c23 (-17)  r33 _  hr33) ?_); rintro _ w33 ⟨rfl, x33⟩; refine ⟨_, rfl, x33, ?_⟩; replace o0_9 := o0_9.ext x33; replace o1_9 := o1_9.ext x33; have e34 := e32.trans x33; obtain ⟨r35, hr35, H8⟩ := bsi H8; refine wss rfl rfl rfl (stp_call (vs := [(u32 c23), (i64 (-19))]) Try.func89 rfl rfl rfl (ar2 rfl rfl) (word_Turn_uint32_calls c23 (-19)  r35 _  hr35) ?_); rintro _ w35 ⟨rfl, x35⟩; refine ⟨_, rfl, x35, ?_⟩; replace o0_9 := o0_9.ext x35; replace o1_9 := o1_9.ext x35; have e36 := e34.trans x35; refine sa rfl rfl (q_xor32 rfl rfl rfl) <| sa rfl rfl (q_xor32 rfl rfl rfl) <| sa rfl rfl (q_add32 rfl rfl rfl) <| ?_; obtain ⟨c37, hc37, H8⟩ := bsi H8; refine sa rfl rfl (q_ixA (m := 0) rfl A90 (by exact s3_9) rfl (lenA_eq hc26) hc37) ?_; refine wsn rfl (by kernel_rfl) rfl rfl (stp_storeX (b := (((c27 + c28) + ((r29 ^^^ r31) ^^^ (shr32 c22 3))) + ((r33 ^^^ r35) ^^^ (shr32 c23 10)))) [(bp g1)] [] rfl A90 rfl rfl o1_9 hc37 (one_u32 _) ?_); intro w38 o38 g38 l38; replace o0_9 := o0_9.other g38 q0_1_9; have e39 := e36.grown g38 n1_9; refine ws_nil ?_; refine bk_n <| W_th <| W_rg <| wa rfl (q_addI rfl s7_9 rfl) <| mv (i64 ((wI (s8.2 + 1)))) rfl rfl <| wl_nil <| ?_; obtain rfl := osi H8; exact ⟨_, rfl, s0_9, s2_9, s3_9, rfl, s61_9, e39, o0_9, n0_9, o38, n1_9, q0_1_9⟩
    replace H8 := ifn hb10 H8; refine W_exit <| th_x <| ?_; obtain rfl := osi H8; obtain rfl := hr8 _ rfl; refine th_x <| bk_x <| ?_; exact ⟨s2_9, s3_9, s61_9, hE9, o0_9, n0_9, o1_9, n1_9, q0_1_9⟩
  rintro _ w41 ⟨s2_41, s3_41, s61_41, hE41, o0_41, n0_41, o1_41, n1_41, q0_1_41⟩; refine W_th <| W_seq <| W_rg <| ?_; obtain ⟨c42, hc42, H⟩ := bsi H; refine wq rfl (q_loadA (m := 0) rfl A90 (by exact s3_41) o1_41 (seg_self _ _) (lenA_eq hc42)) ?_; obtain ⟨c44, hc44, H⟩ := bsi H; refine wln rfl rfl (stp_storeA [] [(bp g4)] rfl A90 (by exact s2_41) rfl (lenA_eq hc44) (lenA_eq hc42) o0_41 one_u32 ?_); intro w43 o43 g43 l43; replace o1_41 := o1_41.other g43 q0_1_41.symm; have e45 := hE41.grown g43 n0_41; refine wnt <| W_ret <| ?_; obtain ⟨c46, hc46, H⟩ := bsi H; obtain rfl := osi H; refine rtc1 A90 rfl rfl (by exact s2_41) o43 (lenA_eq hc46) s61_41 ?_; exact ⟨rfl, e45⟩
end Gk

/- A literal of bytes that is a text's: its mark. No condition. -/
namespace Gk
open Go Go.RowKit
end Gk

/- A byte of a text. No condition. -/
namespace Gk
open Go Go.RowKit
variable {P : Program} {o : Oper} {f : Nat → Value}
end Gk

/- Arrays as slices; pointers to arrays that are read. No condition. -/
namespace Gk
open Go Go.RowKit
section
variable {P : Program} {o : Oper} {f : Nat → Value} {w : World} {L : List Value} {t e T : TypeId} {n g : Nat} {l m : List UInt8}
theorem Blk.by (h : Blk w g T (ac u8 l)) (hl : l.length = n) : By w [] (.slice (some ⟨g, 0, none⟩) n n) l := by
  refine ⟨l.map u8, ⟨some ⟨g, 0, none⟩, n, by simp [hl], by simp [hl], fun hn => ⟨g, 0, rfl, trivial, fun i hi => ?_⟩⟩, by simp, fun i a1 a2 => by simp [Sc]⟩
  rw [Nat.zero_add, h.cell]
  simp at hi
  simp [ac, hi]
theorem q_sliceA {x : Operand} (ho : o.op = .slice t x none none none) (A : TyA P t e n) (hx : ev f x = bp g) : Qa P o f (.slice (some ⟨g, 0, none⟩) n n) := by
  intro w'
  simp [execOp, ho, hx, bp, Instr.sliceAt, run_underlying A.und, Instr.sureAddr, Instr.sliceBounds, A.esz, Addr.add]
theorem stp_copyA {d x : Operand} {z u : Value} {bytes : Nat} {Lu : List Value} (L1 L2 : List Value) (ho : o.op = .call ⟨.builtin .copy, #[d, x], #[t, t]⟩) (TT : TyS P t e z bytes) (hd : ev f d = .slice (some ⟨g, 0, none⟩) n n) (hx : ev f x = u)
    (h : Blk w g T (ac u8 l)) (hl : l.length = n) (hu : SlK (Sc u8) w Lu u m)
    {K : Value → World → Prop} (hk : ∀ w', Blk w' g T (ac u8 (copyL l 0 m)) → Gr w w' (bp g) → Lift w w' (L1 ++ bp g :: L2) (L1 ++ bp g :: L2) → K (i64 (min m.length (l.length - (0 : Int).toNat) : Nat)) w') : Stp P o f w K := by
  subst hl
  obtain ⟨ns, ⟨p, cap, rfl, hcap, hne⟩, hl', he0⟩ := hu
  have hns : ns = m.map u8 := by
    apply List.ext_getElem (by simp [hl'])
    intro i h1 h2
    have := he0 i h1 (by simpa using h2)
    simpa [Sc] using this
  subst hns
  obtain ⟨i, hi, i1, i2, i3⟩ := info_parts TT.info
  have hsz : (P.info? e).map (·.size) = some 1 := by rw [hi]; simp [i2]
  by_cases hz : Nat.min (m.map u8).length l.length = 0
  · have hrun := run_copy_none (P := P) w t t o.type e (some ⟨g, 0, none⟩) p l.length l.length (m.map u8).length cap TT.sl hsz hz
    rw [List.length_map] at hrun hx
    have hz' : min m.length l.length = 0 := by simpa using hz
    refine stp_of_run (v := goInt 0) (w' := w) (by rw [exec_builtin _ ho]; simp [builtin, hd, hx, hrun]) ?_
    have hk' := hk w ?_ (Gr.refl w _) (Lift.sub (fun _ h => h))
    · have e0 : min m.length (l.length - (0 : Int).toNat) = 0 := by simpa using hz'
      rw [e0] at hk'; exact hk'
    · have : copyL l 0 m = l := by
        unfold copyL
        simp only [show (0 : Int).toNat = 0 from rfl, Nat.sub_zero, List.take_zero, List.nil_append, Nat.zero_add, hz', List.drop_zero]
        rcases Nat.eq_zero_or_pos l.length with h3 | h3
        · rw [h3]; simp
        · have : m.length = 0 := by omega
          rw [List.eq_nil_of_length_eq_zero this]; simp
      rw [this]; exact h
  · have hpos : 0 < Nat.min (m.map u8).length l.length := Nat.pos_of_ne_zero hz
    have hm0 : 0 < (m.map u8).length := Nat.lt_of_lt_of_le hpos (Nat.min_le_left _ _)
    obtain ⟨b, so, rfl, _, hr⟩ := hne (List.length_pos_iff.1 hm0)
    have hn : ((m.map u8).take l.length).length = Nat.min (m.map u8).length l.length := by simp; exact Nat.min_comm _ _
    have hrun := run_copy_row (P := P) w t t o.type e g 0 l.length l.length ⟨b, so, none⟩ (m.map u8).length cap (ac u8 l) T ((m.map u8).take l.length) TT.sl hsz h hn
      (fun j v hj => by
        obtain ⟨hj', rfl⟩ := List.getElem?_eq_some_iff.1 hj
        rw [add_off, hr j (by have := hj'; simp only [List.length_take] at this; omega)]; simp)
      (by rw [hn, ac_size, Nat.zero_add]; exact Nat.min_le_right _ _)
      (fun a ha => by
        have := List.mem_of_mem_take ha
        obtain ⟨c, _, rfl⟩ := List.mem_map.1 this
        rfl)
    generalize hw' : w.setRow g ((ac u8 l).toList.take 0 ++ (m.map u8).take l.length ++ (ac u8 l).toList.drop (0 + ((m.map u8).take l.length).length)).toArray = w' at hrun
    have hgr : Gr w w' (bp g) := Gr.of (by rw [← hw']; exact ⟨rfl, rfl, rfl, by simp, fun j _ hj => setRow_other w g j _ (fun e => hj (by rw [e]; rfl))⟩)
    rw [List.length_map] at hrun hx
    refine stp_of_run (v := goInt ((m.map u8).take l.length).length) (w' := w') (by rw [exec_builtin _ ho]; simp [builtin, hd, hx, hrun]) ?_
    have hk' := hk w' ?_ hgr (Lift.own L1 L2 hgr (Nx.refl _ _))
    · have e0 : ((m.map u8).take l.length).length = min m.length (l.length - (0 : Int).toNat) := by
        rw [hn, List.length_map]; rfl
      rw [e0]; exact hk'
    · have hb : Blk w' g T ((ac u8 l).toList.take 0 ++ (m.map u8).take l.length ++ (ac u8 l).toList.drop (0 + ((m.map u8).take l.length).length)).toArray := by
        rw [← hw']; exact setRow_heap w g _ _ T _ h
      have e1 : ((ac u8 l).toList.take 0 ++ (m.map u8).take l.length ++ (ac u8 l).toList.drop (0 + ((m.map u8).take l.length).length)).toArray = ac u8 (copyL l 0 m) := by
        have e2 : min l.length m.length = min m.length l.length := Nat.min_comm _ _
        simp [ac, copyL, List.map_append, List.map_take, List.map_drop, e2]
      rw [e1] at hb; exact hb
theorem nw_asl (h : Nw w (bp g)) : Nw w (.slice (some ⟨g, 0, none⟩) n n) := fun k hk => h k (.inl (by
  have h1 := hs_sl hk
  cases n with
  | zero => simp [oB] at h1
  | succ n => rw [oB_pos (Nat.succ_pos _)] at h1; cases h1; rfl))
def Pa (w : World) (L : List Value) (v : Value) (l : List UInt8) : Prop := ∃ a, v = .pointer (some a) ∧ By w L (.slice (some a) l.length l.length) l
theorem Pa.lift {w w' : World} {L L' : List Value} {v : Value} (h : Pa w L v l) (g : Lift w w' L L') : Pa w' L' v l := by
  obtain ⟨a, rfl, hb⟩ := h; exact ⟨a, rfl, hb.lift g⟩
def pix (v : Value) (i : Nat) : Value := match v with | .pointer (some a) => .pointer (some (a.add i)) | _ => undef
theorem q_nilPa {x : Operand} {v : Value} (ho : o.op = .nilCheck x) (hx : ev f x = v) (h : Pa w L v l) : Qa P o f v := by
  obtain ⟨a, rfl, _⟩ := h
  intro w'
  simp [execOp, ho, hx]
theorem q_ixPa8 {x y : Operand} {v : Value} {i c : UInt8} (ho : o.op = .indexAddr t x y) (A : TyA P t e n) (hx : ev f x = v) (h : Pa w L v l) (hy : ev f y = u8 i) (hl : l.length = n) (hi : idx l (i.toNat : Int) = some c) : Qa P o f (pix v (i.toNat : Int).toNat) := by
  obtain ⟨a, rfl, _⟩ := h
  intro w'
  obtain ⟨h0, h1, h2⟩ := idx_some.1 hi
  have h3 : i.toNat < n := by simp at h1; omega
  simp [execOp, ho, hx, hy, u8, Instr.indexAt, asIntOf, run_underlying A.und, Instr.sureAddr, h3, A.esz, pix]
theorem q_loadPa {x : Operand} {v : Value} {i : Int} {c : UInt8} {z : Value} {bytes : Nat} (ho : o.op = .load e x) (TT : TyS P t e z bytes) (hx : ev f x = pix v i.toNat) (h : Pa w L v l) (hi : idx l i = some c) : Qt P o f w (u8 c) := by
  obtain ⟨a, rfl, hb⟩ := h
  exact q_loadS (v := .slice (some a) l.length l.length) ho TT hx hb hi
end
end Gk

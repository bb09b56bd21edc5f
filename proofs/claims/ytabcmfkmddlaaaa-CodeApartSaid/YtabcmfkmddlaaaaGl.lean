/- Ranges over functions whose pure form is a fold; boxes beside what is owned; results behind a mark. No condition. -/
import Derived.Test.YtabcmfkmddlaaaaGk
set_option linter.unusedVariables false
set_option linter.unusedSimpArgs false
namespace Gk
open Go Go.RowKit

/-! ### Folds -/
/-- A fold over a list, where whatever elements of it can be gone through, in whatever order, as many as it has. -/
noncomputable def rangeL {σ α : Type} (f : σ → α → Option σ) (xs : List α) (s0 : σ) : Option σ :=
  open Classical in if (∀ ys : List α, ys.length ≤ xs.length → (∀ y ∈ ys, y ∈ xs) → ∃ r, ys.foldlM f s0 = some r) then xs.foldlM f s0 else none
theorem rangeL_some {σ α : Type} {f : σ → α → Option σ} {xs : List α} {s0 r : σ} (h : rangeL f xs s0 = some r) :
    (∀ ys : List α, ys.length ≤ xs.length → (∀ y ∈ ys, y ∈ xs) → ∃ r, ys.foldlM f s0 = some r) ∧ xs.foldlM f s0 = some r := by
  unfold rangeL at h
  split at h
  · rename_i h'; exact ⟨h', h⟩
  · cases h
theorem foldlM_app {σ α : Type} (f : σ → α → Option σ) (a b : List α) (s : σ) : (a ++ b).foldlM f s = (a.foldlM f s).bind fun s' => b.foldlM f s' := by
  rw [List.foldlM_append]; rfl
theorem fold_inv {σ α : Type} {f : σ → α → Option σ} {g : σ → α → σ} (I : Nat → σ → Prop) (N : Nat) (P : α → Prop) (hs : ∀ k s x, k < N → P x → I k s → f s x = some (g s x) ∧ I (k + 1) (g s x)) :
    ∀ (ys : List α) (k : Nat) (s0 : σ), k + ys.length ≤ N → (∀ y ∈ ys, P y) → I k s0 → ys.foldlM f s0 = some (ys.foldl g s0) ∧ I (k + ys.length) (ys.foldl g s0)
  | [], k, s0, _, _, h0 => ⟨rfl, h0⟩
  | y :: ys, k, s0, hl, hy, h0 => by
    obtain ⟨h1, h2⟩ := hs k s0 y (by simp at hl; omega) (hy y (by simp)) h0
    obtain ⟨h3, h4⟩ := fold_inv I N P hs ys (k + 1) (g s0 y) (by simp at hl; omega) (fun z hz => hy z (by simp [hz])) h2
    refine ⟨?_, ?_⟩
    · rw [List.foldlM_cons, h1]; exact h3
    · rw [List.foldl_cons, List.length_cons, show k + (ys.length + 1) = k + 1 + ys.length by omega]; exact h4
/-- What a fold comes to, by an invariant. -/
theorem rangeL_inv {σ α : Type} {f : σ → α → Option σ} (g : σ → α → σ) {xs : List α} {s0 : σ} (I : Nat → σ → Prop) (h0 : I 0 s0) (hs : ∀ k s x, k < xs.length → x ∈ xs → I k s → f s x = some (g s x) ∧ I (k + 1) (g s x)) :
    rangeL f xs s0 = some (xs.foldl g s0) ∧ I xs.length (xs.foldl g s0) := by
  have hall := fold_inv I xs.length (· ∈ xs) hs
  have h1 := hall xs 0 s0 (by omega) (fun y hy => hy) h0
  refine ⟨?_, by simpa using h1.2⟩
  unfold rangeL
  rw [if_pos (fun ys hl hm => ⟨_, (hall ys 0 s0 (by omega) hm h0).1⟩)]
  exact h1.1

/-- A length that a number of 64 bits can tell. -/
def lim (n : Nat) : Option Unit := if n < 9223372036854775808 then some () else none
theorem lim_lt {n : Nat} {u : Unit} (h : lim n = some u) : n < 9223372036854775808 := by
  unfold lim at h
  split at h
  · assumption
  · cases h
theorem lim_of {n : Nat} (h : n < 9223372036854775808) : lim n = some () := if_pos h

/-! ### A range over a function, its pure form a fold -/
/-- What the iterator needs is kept. -/
def Keep (Rd : World → Prop) (W W' : World) : Prop := W.heap.size ≤ W'.heap.size ∧ (Rd W → Rd W')
theorem Keep.trans {Rd : World → Prop} {A B C : World} (h : Keep Rd A B) (k : Keep Rd B C) : Keep Rd A C := ⟨Nat.le_trans h.1 k.1, fun x => k.2 (h.2 x)⟩
/-- How a round's body may be left. -/
def RoundK (B : Nat) (Rd : World → Prop) (I : World → Prop) (W : World) : Exit → (Nat → Value) → World → Prop
  | .normal, _, W' => KeepsFrom B W W' ∧ Rd W' ∧ I W'
  | _, _, _ => False
section
variable {P : Program} {n : Nat} {Q : Exit → (Nat → Value) → World → Prop} {f : Nat → Value} {w : World}
theorem W_rangeS {α α' σ : Type} {π : α' → α} {xs : List α} {fstep : σ → α → Option σ} {s0 r : σ} {g : Operand} {p q : Tmp} {assign body : Code} (hfold : rangeL fstep xs s0 = some r)
    (hm : f n = undef) (hog : okO n g = true) {gf : Nat} {lb : Array Value} (hg : ev f g = .func (.func gf) #[] lb)
    (eg : ∀ args w, (callFunc gf args).run P w = .ok (.enter gf args) w)
    {ea eb : α' → Value} {Rd : World → Prop} {S Sp : List α' → Prop} {N : Nat} (hN : N = xs.length) (hseq : SeqStopsK Fence.wide 1 P gf lb (fun x => #[ea x, eb x]) (Keep Rd) S Sp N w) (hS : ∀ ys, S ys → ys.map π = xs) (hmem : ∀ x, π x ∈ xs)
    (hRdT : ∀ W W', Tn w.heap.size W W' → Rd W → Rd W') (hp : Nat.blt p n = true) (hq : Nat.blt q n = true)
    (I : σ → World → Prop) (hI : ∀ s W W', Tn w.heap.size W W' → I s W → I s W') (h0 : I s0 w) (ga : α' → (Nat → Value) → Nat → Value)
    (hassign : ∀ (l : Nat) (x : α') (W1 : World) (K : (Nat → Value) → World → Prop), K (ga x (upd (upd f p (ea x)) q (eb x))) W1 → W (ro := some l) P n assign (Th K (fun _ _ _ => False)) (upd (upd f p (ea x)) q (eb x)) W1)
    (hbody : ∀ (l : Nat) (x : α') (s s' : σ) (W1 : World), I s W1 → fstep s (π x) = some s' → W (ro := some l) P n body (RoundK w.heap.size Rd (I s') W1) (ga x (upd (upd f p (ea x)) q (eb x))) W1)
    (hdone : ∀ (D : Nat) (W1 : World), w.heap.size ≤ D → I r W1 → W1.heap[D]? = some (.deferred (some [])) → Q .normal (upd f n (bp D)) W1) :
    W (ro := none) P n (.rangeFunc g #[p, q] assign body) Q f w := by
  obtain ⟨hall, hxs⟩ := rangeL_some hfold
  refine W_range2 hm hog hg eg hseq (fun h k => h.trans k) ?_ (Below.refl _ _) hp hq (fun pre W => ∃ s, (pre.map π).foldlM fstep s0 = some s ∧ I s W) (fun _ _ => False) ?_ ?_ ⟨s0, rfl, h0⟩ ga hassign ?_ ?_ ?_
  · intro W l o o' hl ho hc _
    have hg := grownBy_putObj' W l o'
    exact ⟨hg.size, fun h => hRdT _ _ ⟨some l, hg, fun r e => by cases e; exact ⟨hl, o, ho, hc⟩⟩ h⟩
  · rintro pre W W' row ⟨s, hs, h⟩ hg hr
    exact ⟨s, hs, hI _ _ _ ⟨row, hg, hr⟩ h⟩
  · intro _ _ _ _ h _ _; exact h
  · rintro l pre x W1 ⟨s, hs, h⟩ hl
    obtain ⟨s2, h2⟩ := hall ((pre ++ [x]).map π) (by simp; omega) (fun y hy => by
      obtain ⟨z, _, rfl⟩ := List.mem_map.1 hy
      exact hmem z)
    have h3 : fstep s (π x) = some s2 := by
      rw [List.map_append, foldlM_app, hs] at h2
      simpa using h2
    refine wpIn_mono (hbody l x s s2 W1 h h3) ?_
    rintro e a w' ⟨f', rfl, q⟩
    refine ⟨f', rfl, ?_⟩
    cases e <;> first | exact q.elim | exact ⟨q.1, ⟨q.1.size, fun _ => q.2.1⟩, s2, h2, q.2.2⟩
  · rintro D ys W1 hD hSy ⟨s, hs, h⟩ hK
    rw [hS ys hSy, hxs] at hs
    obtain rfl := Option.some.inj hs
    exact hdone D W1 hD h hK
  · intro _ _ _ _ _ h _; exact h.elim
end

/-! ### Boxes beside what is owned -/
section
variable {P : Program} {f : Nat → Value} {w : World} {o : Oper} {t e T : TypeId} {g : Nat} {u z v u0 : Value} {x y : Operand} {cs : Array Value}
theorem Nw.bp (w : World) : Nw w (bp w.heap.size) := fun k e => by
  have e' := hs_bp e
  omega
theorem stp_allocL (L : List Value) (ho : o.op = .alloc t) (hz : ∀ w, (zeroValue t).run P w = .ok z w) (hc : z.cells = cs) {K : Value → World → Prop}
    (hk : ∀ g w', Blk w' g t cs → Nw w (bp g) → w.grownBy w' none → Lift w w' L (bp g :: L) → K (bp g) w') : Stp P o f w K := by
  subst hc
  exact stp_alloc ho hz fun w' hB hg => hk _ w' hB (Nw.bp w) hg (Lift.new L hg (Nw.bp w))
theorem stp_boxL (L : List Value) (ho : o.op = .box t x) (hx : ev f x = v) (hc : v.cells = cs) {K : Value → World → Prop}
    (hk : ∀ g w', Blk w' g t cs → Nw w (bp g) → w.grownBy w' none → Lift w w' L (bp g :: L) → K (bp g) w') : Stp P o f w K := by
  subst hc
  exact stp_box ho hx fun w' hB hg => hk _ w' hB (Nw.bp w) hg (Lift.new L hg (Nw.bp w))
theorem stp_storeL (L1 L2 : List Value) (ho : o.op = .store e x y) (hs : ∀ w, (Go.sizeOf e).run P w = .ok 1 w) (hx : ev f x = bp g) (hy : ev f y = u) (h : Blk w g T #[u0]) (hc : u.oneCell' = true)
    {K : Value → World → Prop} (hk : ∀ w', Blk w' g T #[u] → Gr w w' (bp g) → Lift w w' (L1 ++ bp g :: L2) (L1 ++ bp g :: L2) → K undef w') : Stp P o f w K :=
  stp_storeB ho hs hx hy h (Nat.zero_lt_one) hc fun w' hB hg => hk w' hB (Gr.of hg) (Lift.own L1 L2 (Gr.of hg) (Nx.refl _ _))
theorem cells_fd {pw : List UInt8} {lg : List Int} {T : TypeId} {w : World} {L : List Value} {v : Value} {b : Bool} (h : FdT pw lg T w L v b) : v.cells = #[v] := by
  rcases h with ⟨_, rfl⟩ | ⟨_, k, rfl, _⟩ <;> rfl
theorem oc_fd {pw : List UInt8} {lg : List Int} {T : TypeId} {w : World} {L : List Value} {v : Value} {b : Bool} (h : FdT pw lg T w L v b) : v.oneCell' = true := by
  rcases h with ⟨_, rfl⟩ | ⟨_, k, rfl, _⟩ <;> rfl
theorem cells_own {α : Type} {R : World → List Value → Value → α → Prop} {w : World} {L : List Value} {e : TypeId} {v : Value} {l : List α} (h : OwK R w L e v l) : v.cells = #[v] := by
  obtain ⟨us, h, _⟩ := h
  rcases h with ⟨p, rfl, _⟩ | ⟨g, cap, rfl, _⟩ <;> rfl
theorem oc_own {α : Type} {R : World → List Value → Value → α → Prop} {w : World} {L : List Value} {e : TypeId} {v : Value} {l : List α} (h : OwK R w L e v l) : v.oneCell' = true := by
  obtain ⟨us, h, _⟩ := h
  rcases h with ⟨p, rfl, _⟩ | ⟨g, cap, rfl, _⟩ <;> rfl
theorem FdT.tn {pw : List UInt8} {lg : List Int} {T : TypeId} {B : Nat} {w w' : World} {L : List Value} {v : Value} {b : Bool} (h : FdT pw lg T w L v b) (t : Tn B w w') : FdT pw lg T w' L v b := h.lift (t.lift L)
end

theorem q_mkfuncN {P : Program} {o : Oper} {f : Nat → Value} {g : FuncId} {xs : Array Operand} {vs : List Value} (ho : o.op = .makeFunc (.func g) #[] xs) (hx : xs.toList.map (ev f) = vs) : Qa P o f (.func (.func g) #[] vs.toArray) := by
  intro w
  have hxs : xs.map (ev f) = vs.toArray := by subst hx; apply Array.ext'; simp
  simp [execOp, ho, hxs, Instr.makeFunc]

/-! ### Results behind a mark -/
section
variable {P : Program} {fn : Func} {n : Nat} {R : Ending → World → Prop} {f : Nat → Value} {w : World} {D t u s : Nat}
theorem Tn.put {B : Nat} (hK : w.heap[D]? = some (.deferred (some []))) (hB : B ≤ D) (o : Obj) : Tn B w (w.putObj D o) :=
  ⟨some D, grownBy_putObj' w D o, fun r e => by cases e; exact ⟨hB, _, hK, rfl⟩⟩
theorem rtm0 (hr : fn.results = #[]) (hD : f n = bp D) (hK : w.heap[D]? = some (.deferred (some []))) (h : R (.returned (.tuple #[])) (w.putObj D (.deferred none))) : Rt P fn n R .ret f w :=
  .inr ⟨D, hD, hK, _, results_none hr _ _ _, h⟩
theorem rtm1 (v : Value) (hr : fn.results = #[.tmp t]) (ht : Nat.blt t n = true) (hv : f t = v) (hD : f n = bp D) (hK : w.heap[D]? = some (.deferred (some []))) (h : R (.returned v) (w.putObj D (.deferred none))) : Rt P fn n R .ret f w :=
  .inr ⟨D, hD, hK, v, by rw [results_tmp hr, fr_getD n f t ht, hv], h⟩
theorem rtm2 (v1 v2 : Value) (hr : fn.results = #[.tmp t, .tmp u]) (ht : Nat.blt t n = true) (hu : Nat.blt u n = true) (hv1 : f t = v1) (hv2 : f u = v2) (hD : f n = bp D) (hK : w.heap[D]? = some (.deferred (some []))) (h : R (.returned (.tuple #[v1, v2])) (w.putObj D (.deferred none))) : Rt P fn n R .ret f w :=
  .inr ⟨D, hD, hK, _, by rw [results_tmp2 hr, fr_getD n f t ht, fr_getD n f u hu, hv1, hv2], h⟩
theorem rtm3 (v1 v2 v3 : Value) (hr : fn.results = #[.tmp t, .tmp u, .tmp s]) (ht : Nat.blt t n = true) (hu : Nat.blt u n = true) (hs : Nat.blt s n = true) (hv1 : f t = v1) (hv2 : f u = v2) (hv3 : f s = v3) (hD : f n = bp D) (hK : w.heap[D]? = some (.deferred (some []))) (h : R (.returned (.tuple #[v1, v2, v3])) (w.putObj D (.deferred none))) : Rt P fn n R .ret f w :=
  .inr ⟨D, hD, hK, _, by simp [results, hr, ← Array.getD_eq_getD_getElem?, fr_getD n f t ht, fr_getD n f u hu, fr_getD n f s hs, hv1, hv2, hv3], h⟩
end
end Gk

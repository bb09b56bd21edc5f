/- The walk through code, over frames as functions: sequences, tests, blocks, loops, entering and leaving a function. No condition. -/
import Derived.Test.YtabcmfkmddlaaaaGa
import Derived.Deep.LoopGhost
import Derived.Tactics
import Derived.Sort.LoopGhostIn
import Derived.RangeFuncLeaves
import Derived.RangeFuncNested
import Derived.RangeFuncRecord
set_option linter.unusedVariables false
set_option linter.unusedSimpArgs false
namespace Gk
open Go

/-- Code, from a frame 'f' of n slots (in an activation, or in a round of a range over a function). -/
def W {ro : Option Nat} (P : Program) (n : Nat) (c : Code) (Q : Exit → (Nat → Value) → World → Prop) (f : Nat → Value) (w : World) : Prop :=
  c.wpIn (Fn ro) 0 P (fun e a w => ∃ f', a = fr n f' ∧ Q e f' w) (fr n f) w

/-- What is asked of the first of two pieces. -/
@[reducible] def Th (N : (Nat → Value) → World → Prop) (Q : Exit → (Nat → Value) → World → Prop) : Exit → (Nat → Value) → World → Prop
  | .normal, f, w => N f w
  | e, f, w => Q e f w
/-- What is asked inside block 'id'. -/
@[reducible] def Bk (id : Nat) (Q : Exit → (Nat → Value) → World → Prop) : Exit → (Nat → Value) → World → Prop
  | .exit id', f, w => cond (Nat.beq id' id) (Q .normal f w) (Q (.exit id') f w)
  | e, f, w => Q e f w

section
variable {ro : Option Nat} {P : Program} {n : Nat} {Q Q' : Exit → (Nat → Value) → World → Prop} {f : Nat → Value} {w : World}

theorem W.mono {c : Code} (h : W (ro := ro) P n c Q f w) (hq : ∀ e f w, Q e f w → Q' e f w) : W (ro := ro) P n c Q' f w :=
  wpIn_mono h fun e a w ⟨f', ha, q⟩ => ⟨f', ha, hq _ _ _ q⟩

theorem W_seq {x y : Code} (h : W (ro := ro) P n x (Th (W (ro := ro) P n y Q) Q) f w) : W (ro := ro) P n (.seq x y) Q f w := by
  refine wpIn_seq (wpIn_mono h ?_)
  rintro e a w' ⟨f', rfl, q⟩
  cases e <;> first | exact q | exact ⟨f', rfl, q⟩

/-- A cut: what stands behind the first piece is shown once. -/
theorem W_cut (A : (Nat → Value) → World → Prop) {x y : Code} (h : W (ro := ro) P n x (Th A Q) f w) (hy : ∀ f w, A f w → W (ro := ro) P n y Q f w) : W (ro := ro) P n (.seq x y) Q f w :=
  W_seq (h.mono fun e f w q => by cases e <;> first | exact hy _ _ q | exact q)

theorem W_reg {id : Nat} {l : List Oper} (hok : okRegion n l.toArray = true) (h : wl P l.toArray (Q .normal) l f w) : W (ro := ro) P n (.region id l.toArray false) Q f w := by
  refine wpIn_reg hok ?_
  have : (fun (f : Nat → Value) w => ∃ f', fr n f = fr n f' ∧ Q .normal f' w) = fun f w => ∃ f', fr n f = fr n f' ∧ Q .normal f' w := rfl
  exact wl_mono (fun f w q => ⟨f, rfl, q⟩) l f w h
where
  wl_mono {P : Program} {ops : Array Oper} {K K' : (Nat → Value) → World → Prop} (hk : ∀ f w, K f w → K' f w) : ∀ (l : List Oper) (f : Nat → Value) (w : World), wl P ops K l f w → wl P ops K' l f w
    | [], _, _, h => hk _ _ h
    | o :: r, f, w, h => by
      unfold wl at h ⊢
      split
      · rename_i hw; rw [if_pos hw] at h; exact h.mono fun v w' h' => wl_mono hk r _ _ h'
      · rename_i hw; rw [if_neg hw] at h; exact wl_mono hk r _ _ h

theorem ws_mono {ops : Array Oper} {qs : List Nat} {K K' : (Nat → Value) → World → Prop} (hk : ∀ f w, K f w → K' f w) : ∀ (l : List (Nat × Nat)) (f : Nat → Value) (w : World), ws P ops qs K l f w → ws P ops qs K' l f w
  | [], _, _, h => hk _ _ h
  | (i, t) :: r, f, w, h => by
    unfold ws at h ⊢
    cases ho : ops[i]? with
    | none => rw [ho] at h; exact h.elim
    | some o =>
      rw [ho] at h
      dsimp only at h ⊢
      by_cases hw : wantF ops f o = true
      · rw [if_pos hw] at h ⊢
        match t, h with
        | 0, ⟨v, hv, h'⟩ => exact ⟨v, hv, ws_mono hk r _ _ h'⟩
        | 1, ⟨v, hv, h'⟩ => exact ⟨v, hv, ws_mono hk r _ _ h'⟩
        | t + 2, h => exact Stp.mono h fun v w' h' => ⟨h'.1, ws_mono hk r _ _ h'.2⟩
      · rw [if_neg hw] at h ⊢
        exact ws_mono hk r _ _ h

theorem W_draw {id : Nat} {l : List Oper} (qs : List Nat) (sch : List (Nat × Nat)) (hm : P.follows .mixedOrders = true) (hok : okRegion n l.toArray = true) (hns : Region.noSelect l.toArray = true)
    (hlen : sch.length = l.toArray.size) (hs : schOK l.toArray qs sch (Array.replicate l.toArray.size false) = true)
    (h : ws P l.toArray qs (Q .normal) sch f w.drew) : W (ro := ro) P n (.region id l.toArray true) Q f w :=
  wpIn_reg_draw qs sch hm hok hns hlen hs (ws_mono (fun f _ q => ⟨f, rfl, q⟩) _ _ _ h)

theorem stepT_of_ws {ops : Array Oper} {qs : List Nat} {K K' : (Nat → Value) → World → Prop} (hk : ∀ f w, K f w → K' f w) {i : Nat} {r : List (Nat × Nat)} (h : ws P ops qs K ((i, 2) :: r) f w) : stepT P ops qs i (ws P ops qs K' r) f w := by
  unfold ws at h
  unfold stepT
  cases ho : ops[i]? with
  | none => rw [ho] at h; exact h
  | some o =>
    rw [ho] at h
    dsimp only at h ⊢
    by_cases hw : wantF ops f o = true
    · rw [if_pos hw] at h ⊢
      exact Stp.mono h fun v w' h' => ⟨h'.1, ws_mono hk r _ _ h'.2⟩
    · rw [if_neg hw] at h ⊢
      exact ws_mono hk r _ _ h
theorem W_draw2 {id : Nat} {l : List Oper} (qs : List Nat) (sch : List (Nat × Nat)) (i j : Nat) (ri rj : List (Nat × Nat)) (hm : P.follows .mixedOrders = true) (hok : okRegion n l.toArray = true) (hns : Region.noSelect l.toArray = true)
    (hlen : ri.length + 1 + sch.length = l.toArray.size) (hs : schOKe l.toArray qs (schOK2 l.toArray qs i j ri rj) sch (Array.replicate l.toArray.size false) = true)
    (h : ws P l.toArray qs (fun f w => ws P l.toArray qs (Q .normal) ((i, 2) :: ri) f w ∧ ws P l.toArray qs (Q .normal) ((j, 2) :: rj) f w) sch f w.drew) : W (ro := ro) P n (.region id l.toArray true) Q f w :=
  wpIn_reg_draw2 qs sch i j ri rj hm hok hns hlen hs (ws_mono (fun f _ q => ⟨stepT_of_ws (fun f _ q => ⟨f, rfl, q⟩) q.1, stepT_of_ws (fun f _ q => ⟨f, rfl, q⟩) q.2⟩) _ _ _ h)

theorem W_skip (h : Q .normal f w) : W (ro := ro) P n .skip Q f w := wpIn_skip ⟨f, rfl, h⟩
theorem W_exit {id : Nat} (h : Q (.exit id) f w) : W (ro := ro) P n (.exit id) Q f w := wpIn_exit ⟨f, rfl, h⟩
theorem W_ret (h : Q .ret f w) : W (ro := ro) P n .ret Q f w := wpIn_ret ⟨f, rfl, h⟩
theorem W_cond {c : Operand} {x y : Code} (b : Bool) (ho : okO n c = true) (hc : ev f c = .bool b) (ht : b = true → W (ro := ro) P n x Q f w) (hf : b = false → W (ro := ro) P n y Q f w) : W (ro := ro) P n (.cond c x y) Q f w :=
  wpIn_cond_split (t := b) (by rw [fr_eval n f c ho]; exact hc) ht hf
theorem W_block {id : Nat} {c : Code} (h : W (ro := ro) P n c (Bk id Q) f w) : W (ro := ro) P n (.block id c) Q f w := by
  refine wpIn_block (wpIn_mono h ?_)
  rintro e a w' ⟨f', rfl, q⟩
  cases e with
  | exit id' =>
    simp only [Exit.inBlock, Bk] at *
    by_cases hid : id' = id
    · rw [if_pos hid]
      subst hid
      have : Nat.beq id' id' = true := by simp
      rw [this] at q
      exact ⟨f', rfl, q⟩
    · rw [if_neg hid]
      have : Nat.beq id' id = false := by
        cases h' : Nat.beq id' id
        · rfl
        · exact absurd (Nat.eq_of_beq_eq_true h') hid
      rw [this] at q
      exact ⟨f', rfl, q⟩
  | _ => exact ⟨f', rfl, q⟩

theorem W_mid (A : (Nat → Value) → World → Prop) {x : Code} (h : W (ro := ro) P n x (Th A Q) f w) (hy : ∀ f w, A f w → Q .normal f w) : W (ro := ro) P n x Q f w :=
  h.mono fun e f w q => by cases e <;> first | exact hy _ _ q | exact q
theorem W_th {y : Code} (h : W (ro := ro) P n y Q f w) : Th (W (ro := ro) P n y Q) Q' .normal f w := h
theorem th_x {N : (Nat → Value) → World → Prop} {id : Nat} (h : Q (.exit id) f w) : Th N Q (.exit id) f w := h
theorem th_r {N : (Nat → Value) → World → Prop} (h : Q .ret f w) : Th N Q .ret f w := h
theorem th_n {N : (Nat → Value) → World → Prop} (h : N f w) : Th N Q .normal f w := h
theorem bk_n {id : Nat} (h : Q .normal f w) : Bk id Q .normal f w := h
theorem bk_r {id : Nat} (h : Q .ret f w) : Bk id Q .ret f w := h
theorem bk_x {id : Nat} (h : Q .normal f w) : Bk id Q (.exit id) f w := by
  show cond (Nat.beq id id) _ _
  have : Nat.beq id id = true := by simp
  rw [this]; exact h
theorem bk_o {id id' : Nat} (hn : Nat.beq id' id = false) (h : Q (.exit id') f w) : Bk id Q (.exit id') f w := by
  show cond (Nat.beq id' id) _ _
  rw [hn]; exact h

/-! ### Loops -/
/-- So many rounds at most. -/
def iterN {S X : Type} (body : S → Option (S ⊕ X)) : Nat → S → Option X
  | 0, _ => none
  | k + 1, s => match body s with
    | none => none
    | some (.inl s') => iterN body k s'
    | some (.inr x) => some x

theorem iterN_mono {S X : Type} (body : S → Option (S ⊕ X)) : ∀ (k : Nat) (s : S) (x : X), iterN body k s = some x → ∀ m, k ≤ m → iterN body m s = some x
  | 0, _, _, h, _, _ => by simp [iterN] at h
  | k + 1, s, x, h, m, hm => by
    obtain ⟨m, rfl⟩ : ∃ j, m = j + 1 := ⟨m - 1, by omega⟩
    unfold iterN at h ⊢
    cases hb : body s with
    | none => rw [hb] at h; cases h
    | some r =>
      rw [hb] at h
      cases r with
      | inl s' => exact iterN_mono body k s' x h m (by omega)
      | inr y => exact h

/-- Rounds till the end. -/
noncomputable def iterC {S X : Type} (body : S → Option (S ⊕ X)) (s : S) : Option X :=
  @dite _ (∃ k x, iterN body k s = some x) (Classical.propDecidable _) (fun h => some (Classical.choose (Classical.choose_spec h))) (fun _ => none)

theorem iterC_some {S X : Type} {body : S → Option (S ⊕ X)} {s : S} {x : X} : iterC body s = some x ↔ ∃ k, iterN body k s = some x := by
  unfold iterC
  constructor
  · intro h
    split at h
    · rename_i h'
      exact ⟨_, by rw [← h]; exact Classical.choose_spec (Classical.choose_spec h')⟩
    · cases h
  · rintro ⟨k, hk⟩
    have h' : ∃ k x, iterN body k s = some x := ⟨k, x, hk⟩
    rw [dif_pos h']
    have h2 := Classical.choose_spec (Classical.choose_spec h')
    have h3 := iterN_mono body _ _ _ h2 (max (Classical.choose h') k) (by omega)
    have h4 := iterN_mono body _ _ _ hk (max (Classical.choose h') k) (by omega)
    rw [h3] at h4
    exact h4

theorem iterC_step {S X : Type} (body : S → Option (S ⊕ X)) (s : S) :
    iterC body s = (body s).bind fun | .inl s' => iterC body s' | .inr x => some x := by
  apply Option.ext
  intro x
  rw [iterC_some]
  constructor
  · rintro ⟨k, hk⟩
    cases k with
    | zero => simp [iterN] at hk
    | succ k =>
      unfold iterN at hk
      cases hb : body s with
      | none => rw [hb] at hk; cases hk
      | some r =>
        rw [hb] at hk
        cases r with
        | inl s' => simp only [Option.bind_some]; exact iterC_some.2 ⟨k, hk⟩
        | inr y => simpa using hk
  · intro h
    cases hb : body s with
    | none => rw [hb] at h; cases h
    | some r =>
      rw [hb] at h
      cases r with
      | inl s' =>
        simp only [Option.bind_some] at h
        obtain ⟨k, hk⟩ := iterC_some.1 h
        exact ⟨k + 1, by unfold iterN; rw [hb]; exact hk⟩
      | inr y => exact ⟨1, by unfold iterN; rw [hb]; simpa using h⟩

theorem W_loop {S X : Type} {body : S → Option (S ⊕ X)} (Inv : S → (Nat → Value) → World → Prop) {x : X} {s0 : S} {c : Code} (H : iterC body s0 = some x) (h0 : Inv s0 f w)
    (round : ∀ s r f w, Inv s f w → body s = some r → (∀ y, r = .inr y → y = x) → W (ro := ro) P n c (Th (fun f' w' => ∃ s', r = .inl s' ∧ Inv s' f' w') Q) f w) : W (ro := ro) P n (.loop c) Q f w := by
  obtain ⟨k, hk⟩ := iterC_some.1 H
  refine wpIn_loop_ghost (fun k a w => ∃ s f, a = fr n f ∧ Inv s f w ∧ iterN body k s = some x) k ⟨s0, f, rfl, h0, hk⟩ ?_
  rintro k a w ⟨s, f, rfl, hI, hk⟩
  cases k with
  | zero => simp [iterN] at hk
  | succ k =>
    cases hb : body s with
    | none => unfold iterN at hk; rw [hb] at hk; cases hk
    | some r =>
      have hr : ∀ y, r = .inr y → y = x := by
        rintro y rfl
        unfold iterN at hk
        rw [hb] at hk
        simpa using hk
      refine wpIn_mono (round s r f w hI hb hr) ?_
      rintro e a' w' ⟨f', rfl, q⟩
      cases e with
      | normal =>
        obtain ⟨s', rfl, hI'⟩ := q
        refine ⟨k, by omega, s', f', rfl, hI', ?_⟩
        unfold iterN at hk
        rw [hb] at hk
        exact hk
      | _ => exact ⟨f', rfl, q⟩

/-- A loop of which nothing but an invariant and a count is known. -/
theorem W_loopG (Inv : Nat → (Nat → Value) → World → Prop) (k : Nat) {c : Code} (h0 : Inv k f w)
    (round : ∀ k f w, Inv k f w → W (ro := ro) P n c (Th (fun f' w' => ∃ k', k' < k ∧ Inv k' f' w') Q) f w) : W (ro := ro) P n (.loop c) Q f w := by
  refine wpIn_loop_ghost (fun k a w => ∃ f, a = fr n f ∧ Inv k f w) k ⟨f, rfl, h0⟩ ?_
  rintro k a w ⟨f, rfl, hI⟩
  refine wpIn_mono (round k f w hI) ?_
  rintro e a' w' ⟨f', rfl, q⟩
  cases e with
  | normal =>
    obtain ⟨k', hk, hI'⟩ := q
    exact ⟨k', hk, f', rfl, hI'⟩
  | _ => exact ⟨f', rfl, q⟩

/-! ### Entering and leaving -/
theorem argsF_get : ∀ (l : List Value) (t : Nat), argsF l t = (l[t]?).getD undef
  | [], t => by simp [argsF]
  | v :: r, t => by
    unfold argsF
    cases t with
    | zero => rfl
    | succ t =>
      have : Nat.beq (t + 1) 0 = false := rfl
      rw [this]
      simp [argsF_get r t]

theorem frame_args (l : List Value) (n : Nat) (h : l.length ≤ n) : ({ tmps := l.toArray ++ Array.replicate (n - l.toArray.size) undef, defers := [] } : Act) = fr n (argsF l) := by
  have : l.toArray ++ Array.replicate (n - l.toArray.size) undef = (fr n (argsF l)).tmps := by
    apply Array.ext_getElem?
    intro i
    rw [Array.getElem?_append]
    by_cases hi : i < n
    · rw [fr_get n _ i hi, argsF_get]
      by_cases h1 : i < l.length
      · rw [if_pos (by simpa using h1)]; simp [h1]
      · rw [if_neg (by simpa using h1), Array.getElem?_replicate, if_pos (by simp; omega)]
        simp [List.getElem?_eq_none (Nat.le_of_not_lt h1)]
    · rw [fr_none n _ i (by omega), if_neg (by simp; omega), Array.getElem?_replicate, if_neg (by simp; omega)]
  have hd : dec (argsF l n) = [] := by
    rw [argsF_get, List.getElem?_eq_none h]; rfl
  rw [this]
  simp only [fr, hd]

/-- What a function's end is asked: no mark is left, or one that can be taken up; its results can be read, and are of R. -/
def Rt (P : Program) (fn : Func) (n : Nat) (R : Ending → World → Prop) : Exit → (Nat → Value) → World → Prop
  | .normal, f, w | .ret, f, w =>
    (dec (f n) = [] ∧ ∃ v, (results fn (fr n f).tmps).run P w = .ok v w ∧ R (.returned v) w) ∨
    (∃ D, f n = .pointer (some ⟨D, 0, none⟩) ∧ w.heap[D]? = some (.deferred (some [])) ∧ ∃ v, (results fn (fr n f).tmps).run P (w.putObj D (.deferred none)) = .ok v (w.putObj D (.deferred none)) ∧ R (.returned v) (w.putObj D (.deferred none)))
  | _, _, _ => False

theorem calls_W {g : FuncId} {fn : Func} {c : Code} {l : List Value} {R : Ending → World → Prop} (hf : P.funcs[g]? = some fn) (hb : fn.body = some c) (hn : fn.ntmps = n) (hl : Nat.ble l.length n = true)
    (h : W (ro := none) P n c (Rt P fn n R) (argsF l) w) : Calls P g l.toArray w R := by
  refine (callsIn_wide (n := 0)).1 (callsIn_of_wp_marks hf hb trivial ?_ rfl)
  rw [hn, frame_args l n (Nat.le_of_ble_eq_true hl)]
  refine wpIn_mono h ?_
  rintro e a w' ⟨f', rfl, q⟩
  have key : Rt P fn n R .ret f' w' → LeavesInM Fence.wide 0 P fn (fr n f').tmps R (fr n f').defers .returning w' := by
    rintro (⟨h0, v, hv, hR⟩ | ⟨D, hD, hK, v, hv, hR⟩)
    · show LeavesInM Fence.wide 0 P fn (fr n f').tmps R (dec (f' n)) .returning w'
      rw [h0]
      exact ⟨v, hv, hR⟩
    · show LeavesInM Fence.wide 0 P fn (fr n f').tmps R (dec (f' n)) .returning w'
      rw [hD]
      exact ⟨by simp, .inl ⟨D, _, rfl, run_takeDeferred hK, ⟨v, hv, hR⟩⟩⟩
  cases e <;> first | exact q.elim | exact key q

theorem fr_getD (n : Nat) (f : Nat → Value) (t : Nat) (h : Nat.blt t n = true) : (fr n f).tmps.getD t undef = f t := by
  rw [Array.getD_eq_getD_getElem?, fr_get n f t (by simpa using h)]; rfl

theorem rt0 {fn : Func} {R : Ending → World → Prop} (hr : fn.results = #[]) (hm : f n = undef) (h : R (.returned (.tuple #[])) w) : Rt P fn n R .ret f w :=
  .inl ⟨by rw [hm]; rfl, _, results_none hr _ _ _, h⟩
theorem rt1 {fn : Func} {R : Ending → World → Prop} {t : Nat} (v : Value) (hr : fn.results = #[.tmp t]) (ht : Nat.blt t n = true) (hv : f t = v) (hm : f n = undef) (h : R (.returned v) w) : Rt P fn n R .ret f w :=
  .inl ⟨by rw [hm]; rfl, v, by rw [results_tmp hr, fr_getD n f t ht, hv], h⟩
theorem rt2 {fn : Func} {R : Ending → World → Prop} {t u : Nat} (v1 v2 : Value) (hr : fn.results = #[.tmp t, .tmp u]) (ht : Nat.blt t n = true) (hu : Nat.blt u n = true) (hv1 : f t = v1) (hv2 : f u = v2)
    (hm : f n = undef) (h : R (.returned (.tuple #[v1, v2])) w) : Rt P fn n R .ret f w :=
  .inl ⟨by rw [hm]; rfl, _, by rw [results_tmp2 hr, fr_getD n f t ht, fr_getD n f u hu, hv1, hv2], h⟩
theorem rt3 {fn : Func} {R : Ending → World → Prop} {t u s : Nat} (v1 v2 v3 : Value) (hr : fn.results = #[.tmp t, .tmp u, .tmp s]) (ht : Nat.blt t n = true) (hu : Nat.blt u n = true) (hs : Nat.blt s n = true) (hv1 : f t = v1) (hv2 : f u = v2) (hv3 : f s = v3)
    (hm : f n = undef) (h : R (.returned (.tuple #[v1, v2, v3])) w) : Rt P fn n R .ret f w :=
  .inl ⟨by rw [hm]; rfl, _, by simp [results, hr, ← Array.getD_eq_getD_getElem?, fr_getD n f t ht, fr_getD n f u hu, fr_getD n f s hs, hv1, hv2, hv3], h⟩
theorem rtn {fn : Func} {R : Ending → World → Prop} (h : Rt P fn n R .ret f w) : Rt P fn n R .normal f w := h
end

/-! ### Steps of a region -/
section
variable {P : Program} {ops : Array Oper} {K : (Nat → Value) → World → Prop} {r : List Oper} {o : Oper} {f : Nat → Value} {w : World}

theorem wl_nil (h : K f w) : wl P ops K [] f w := h
theorem wl_stp (hw : wantF ops f o = true) (h : Stp P o f w fun v w' => wl P ops K r (updO f o.dst v) w') : wl P ops K (o :: r) f w := by
  unfold wl; rw [if_pos hw]; exact .inl h
theorem wl_yield {l : Nat} {g : FuncId} {tmps : Array Value} {assign body : Code} (hw : wantF ops f o = true) (hy : (execOp (ev f) o).run P w = .ok (.round l g tmps assign body) w)
    (h : RoundIn Fence.wide 0 P l g tmps assign body w fun e w' => ∃ v, e = .returned v ∧ wl P ops K r (updO f o.dst v) w') : wl P ops K (o :: r) f w := by
  unfold wl; rw [if_pos hw]; exact .inr ⟨l, g, tmps, assign, body, hy, h⟩
theorem wl_skip (hw : wantF ops f o = false) (h : wl P ops K r (updO f o.dst undef) w) : wl P ops K (o :: r) f w := by
  unfold wl; rw [if_neg (by rw [hw]; simp)]; exact h
/-- An operation that reads. -/
theorem wl_q {v : Value} (hw : wantF ops f o = true) (hq : Qt P o f w v) (h : wl P ops K r (updO f o.dst v) w) : wl P ops K (o :: r) f w :=
  wl_stp hw (hq.stp h)
/-- An operation that only computes. -/
theorem wl_a {v : Value} (hw : wantF ops f o = true) (hq : Qa P o f v) (h : wl P ops K r (updO f o.dst v) w) : wl P ops K (o :: r) f w :=
  wl_stp hw ((hq.qt w).stp h)
end
section
variable {P : Program} {ops : Array Oper} {qs : List Nat} {K : (Nat → Value) → World → Prop} {r : List (Nat × Nat)} {i : Nat} {o : Oper} {f : Nat → Value} {w : World}
theorem ws_nil (h : K f w) : ws P ops qs K [] f w := h
theorem ws_a {v : Value} (ho : ops[i]? = some o) (hw : wantF ops f o = true) (hq : Qa P o f v) (h : ws P ops qs K r (updO f o.dst v) w) : ws P ops qs K ((i, 0) :: r) f w := by
  unfold ws; rw [ho]; dsimp only; rw [if_pos hw]; exact ⟨v, hq, h⟩
theorem ws_q {v : Value} (ho : ops[i]? = some o) (hw : wantF ops f o = true) (hq : Qt P o f w v) (h : ws P ops qs K r (updO f o.dst v) w) : ws P ops qs K ((i, 1) :: r) f w := by
  unfold ws; rw [ho]; dsimp only; rw [if_pos hw]; exact ⟨v, hq, h⟩
theorem ws_stp (ho : ops[i]? = some o) (hw : wantF ops f o = true) (h : Stp P o f w fun v w' => (Ext w w' ∨ clearOf .any ops qs i = true) ∧ ws P ops qs K r (updO f o.dst v) w') : ws P ops qs K ((i, 2) :: r) f w := by
  unfold ws; rw [ho]; dsimp only; rw [if_pos hw]; exact h
theorem ws_skip {t : Nat} (ho : ops[i]? = some o) (hw : wantF ops f o = false) (h : ws P ops qs K r (updO f o.dst undef) w) : ws P ops qs K ((i, t) :: r) f w := by
  unfold ws; rw [ho]; dsimp only; rw [if_neg (by rw [hw]; simp)]; exact h
end
end Gk

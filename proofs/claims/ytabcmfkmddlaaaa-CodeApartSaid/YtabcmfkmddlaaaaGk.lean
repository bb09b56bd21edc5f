/- A range over a function, in the walk's own words. No condition. -/
import Derived.Test.YtabcmfkmddlaaaaGi
import Derived.RangeFuncNested
import Derived.RangeFuncWrites
set_option linter.unusedVariables false
set_option linter.unusedSimpArgs false
namespace Gk
open Go Go.RowKit

/-- How a round's body may be left: to the next round, by a return, by a break. -/
def RoundQ {α : Type} (B : Nat) (Kp : World → World → Prop) (I : List α → World → Prop) (Ir : List α → World → Prop) (xs : List α) (W : World) : Exit → (Nat → Value) → World → Prop
  | .normal, _, W' => KeepsFrom B W W' ∧ Kp W W' ∧ I xs W'
  | .ret, _, W' => KeepsFrom B W W' ∧ Ir xs W'
  | _, _, _ => False

theorem fr_mark (n : Nat) (f : Nat → Value) (D : Nat) (h : f n = undef) : ({ fr n f with defers := { target := .collected D, args := #[] } :: (fr n f).defers } : Act) = fr n (upd f n (.pointer (some ⟨D, 0, none⟩))) := by
  have e1 : (fr n f).tmps = (fr n (upd f n (.pointer (some ⟨D, 0, none⟩)))).tmps := by
    apply Array.ext_getElem?
    intro i
    by_cases hi : i < n
    · rw [fr_get n _ i hi, fr_get n _ i hi, upd_ne f _ (by omega)]
    · rw [fr_none n _ i (by omega), fr_none n _ i (by omega)]
  have e2 : (fr n f).defers = [] := by show dec (f n) = []; rw [h]; rfl
  have e3 : (fr n (upd f n (.pointer (some ⟨D, 0, none⟩)))).defers = [{ target := .collected D, args := #[] }] := by
    show dec (upd f n (.pointer (some ⟨D, 0, none⟩)) n) = _
    rw [upd_eq]; rfl
  rw [e2]
  show Act.mk (fr n f).tmps _ = _
  rw [e1, ← e3]

section
variable {P : Program} {n : Nat} {Q : Exit → (Nat → Value) → World → Prop} {f : Nat → Value} {w : World}
theorem W_range {α : Type} {g : Operand} {ps : Array Tmp} {assign body : Code} (hm : f n = undef) (hog : okO n g = true) {gf : Nat} {lb : Array Value} (hg : ev f g = .func (.func gf) #[] lb)
    (eg : ∀ args w, (callFunc gf args).run P w = .ok (.enter gf args) w)
    {encs : α → Array Value} {Kp : World → World → Prop} {S Sp : List α → Prop} {N : Nat} {w0 : World} (hseq : SeqStopsK Fence.wide 1 P gf lb encs Kp S Sp N w0)
    (hKt : ∀ {A B C : World}, Kp A B → Kp B C → Kp A C) (hKb : ∀ (W : World) (l : Nat) (o o' : Obj), w.heap.size ≤ l → W.heap[l]? = some o → o.isCells = false → o.isWalk = false → Kp W (W.putObj l o'))
    (hb0 : Below w0.heap.size w0 w) (hps : ∀ x, (encs x).size = ps.size)
    (I Ir : List α → World → Prop) (hI : OwnFrom w.heap.size I) (hIr : OwnFrom w.heap.size Ir) (h0 : I [] w) (fp fa : α → Nat → Value)
    (hp : ∀ x, ({ tmps := (ps.zip (encs x)).foldl (fun t (p, v) => t.setIfInBounds p v) (fr n f).tmps, defers := [] } : Act) = fr n (fp x))
    (hassign : ∀ (l : Nat) (x : α) (W1 : World) (K : (Nat → Value) → World → Prop), K (fa x) W1 → W (ro := some l) P n assign (Th K (fun _ _ _ => False)) (fp x) W1)
    (hbody : ∀ (l : Nat) (pre : List α) (x : α) (W1 : World), I pre W1 → pre.length < N → W (ro := some l) P n body (RoundQ w.heap.size Kp I Ir (pre ++ [x]) W1) (fa x) W1)
    (hdone : ∀ (D : Nat) (xs : List α) (W1 : World), w.heap.size ≤ D → S xs → I xs W1 → W1.heap[D]? = some (.deferred (some [])) → Q .normal (upd f n (.pointer (some ⟨D, 0, none⟩))) W1)
    (hstop : ∀ (D : Nat) (pre : List α) (W1 : World), w.heap.size ≤ D → Sp pre → Ir pre W1 → W1.heap[D]? = some (.deferred (some [])) → Q .ret (upd f n (.pointer (some ⟨D, 0, none⟩))) W1) :
    W (ro := none) P n (.rangeFunc g ps assign body) Q f w := by
  unfold W
  refine (wpIn_wide (n := 0)).2 ((wpIn_wide (n := 2)).1 ?_)
  refine wpIn_rangeFunc_ownG (F := Fence.wide) (n := 2) (w0 := w0) rfl (by decide) (gf := gf) (lb := lb) (by rw [fr_eval n f g hog]; exact hg) trivial eg hseq hKt hKb hb0 hps I
    (fun c pre W1 => match c with | .ret => Ir pre W1 | _ => False) hI ?_ h0 (fun x => fr n (fa x)) ?_ ?_ ?_ ?_
  · intro c
    cases c <;> first | exact hIr | exact fun _ _ _ _ h _ _ => h
  · intro l x W1 K hK
    rw [hp]
    refine wpIn_mono (hassign l x W1 (fun f w => K (fr n f) w) hK) ?_
    rintro e a w' ⟨f', rfl, q⟩
    cases e <;> exact q
  · intro l pre x W1 hi hl
    refine wpIn_mono (hbody l pre x W1 hi hl) ?_
    rintro e a w' ⟨f', rfl, q⟩
    cases e <;> first | exact q | exact (show False from q).elim
  · intro D xs W1 hD hS hi hK
    exact ⟨_, fr_mark n f D hm, hdone D xs W1 hD hS hi hK⟩
  · intro D c pre W1 hD hSp hx hK
    cases c <;> first | exact hx.elim | skip
    refine wpIn_ret ⟨_, fr_mark n f D hm, hstop D pre W1 hD hSp hx hK⟩
end

section
variable {P : Program} {n : Nat} {f : Nat → Value} {w : World} {o : Oper} {t e T : TypeId} {g D : Nat} {u z : Value}
theorem stp_alloc (ho : o.op = .alloc t) (hz : ∀ w, (zeroValue t).run P w = .ok z w) {K : Value → World → Prop}
    (hk : ∀ w', Blk w' w.heap.size t z.cells → w.grownBy w' none → K (.pointer (some ⟨w.heap.size, 0, none⟩)) w') : Stp P o f w K := by
  refine stp_of_run (w' := w.alloc (.cells z.cells t)) (v := .pointer (some ⟨w.heap.size, 0, none⟩)) ?_ (hk _ (alloc_new w _) (World.grownBy_alloc w _ none))
  simp [execOp, ho, Instr.alloc, hz, newVar, newRow, newObj, Sem.run]
/-- A result that lies in a cell, behind a loop that has left its mark. -/
theorem rtc_mark {fn : Func} {R : Ending → World → Prop} {t : Nat} (hr : fn.results = #[.cell t e]) (ht : Nat.blt t n = true) (hv : f t = .pointer (some ⟨g, 0, none⟩)) (hD : f n = .pointer (some ⟨D, 0, none⟩))
    (hK : w.heap[D]? = some (.deferred (some []))) (ha : ∀ w, (isAgg e).run P w = .ok false w) (hB : Blk w g T #[u]) (h : R (.returned u) (w.putObj D (.deferred none))) : Rt P fn n R .ret f w := by
  refine .inr ⟨D, hD, hK, u, ?_, h⟩
  have hne : g ≠ D := by
    intro e; subst e
    have : w.heap[g]? = some (.cells #[u] T (0, 0)) := hB
    rw [this] at hK; cases hK
  have hB2 : Blk (w.putObj D (.deferred none)) g T #[u] := by
    unfold Blk; rw [World.putObj_heap_other hne]; exact hB
  have hcell : (w.putObj D (.deferred none)).cell? ⟨g, 0, none⟩ = some u := by rw [hB2.cell 0]; rfl
  have hg : (fr n f).tmps.getD t undef = .pointer (some ⟨g, 0, none⟩) := by rw [fr_getD n f t ht, hv]
  simp [results, hr, ← Array.getD_eq_getD_getElem?, hg, asAddr, loadVar, ha, load, Sem.run, hcell]
theorem Ext.grownO {w0 w w' : World} {row : Option Nat} (h : Ext w0 w) (hg : w.grownBy w' row) (hn : ∀ k, row = some k → w0.heap.size ≤ k) : Ext w0 w' :=
  ⟨hg.os.trans h.os, hg.output.trans h.output, Nat.le_trans h.size hg.size, fun k hk =>
    (hg.block k (Nat.lt_of_lt_of_le hk h.size) (fun e => by have := hn k e.symm; omega)).trans (h.blk k hk)⟩
theorem Ext.putD {w0 w : World} (h : Ext w0 w) (D : Nat) (o : Obj) (hD : w0.heap.size ≤ D) : Ext w0 (w.putObj D o) := h.grownO (grownBy_putObj' w D o) (fun k e => by cases e; exact hD)
end

theorem params2 {n : Nat} {F : Nat → Value} {p q : Nat} {a b : Value} (hm : F n = undef) (hp : Nat.blt p n = true) (hq : Nat.blt q n = true) :
    ({ tmps := ((#[p, q] : Array Tmp).zip #[a, b]).foldl (fun t (p, v) => t.setIfInBounds p v) (fr n F).tmps, defers := [] } : Act) = fr n (upd (upd F p a) q b) := by
  have h1 := fr_put n F (some p) a hp
  have h2 := fr_put n (upd F p a) (some q) b hq
  have e : (fr n F).defers = [] := by show dec (F n) = []; rw [hm]; rfl
  simp only [updO] at h1 h2
  rw [← h2, ← h1]
  simp [Act.put, e]
section
variable {P : Program} {n : Nat} {Q : Exit → (Nat → Value) → World → Prop} {f : Nat → Value} {w : World}
/-- Two loop variables. 'ga': what the assignments to them do to the frame. -/
theorem W_range2 {α : Type} {g : Operand} {p q : Tmp} {assign body : Code} (hm : f n = undef) (hog : okO n g = true) {gf : Nat} {lb : Array Value} (hg : ev f g = .func (.func gf) #[] lb)
    (eg : ∀ args w, (callFunc gf args).run P w = .ok (.enter gf args) w)
    {ea eb : α → Value} {Kp : World → World → Prop} {S Sp : List α → Prop} {N : Nat} {w0 : World} (hseq : SeqStopsK Fence.wide 1 P gf lb (fun x => #[ea x, eb x]) Kp S Sp N w0)
    (hKt : ∀ {A B C : World}, Kp A B → Kp B C → Kp A C) (hKb : ∀ (W : World) (l : Nat) (o o' : Obj), w.heap.size ≤ l → W.heap[l]? = some o → o.isCells = false → o.isWalk = false → Kp W (W.putObj l o'))
    (hb0 : Below w0.heap.size w0 w) (hp : Nat.blt p n = true) (hq : Nat.blt q n = true)
    (I Ir : List α → World → Prop) (hI : OwnFrom w.heap.size I) (hIr : OwnFrom w.heap.size Ir) (h0 : I [] w) (ga : α → (Nat → Value) → Nat → Value)
    (hassign : ∀ (l : Nat) (x : α) (W1 : World) (K : (Nat → Value) → World → Prop), K (ga x (upd (upd f p (ea x)) q (eb x))) W1 → W (ro := some l) P n assign (Th K (fun _ _ _ => False)) (upd (upd f p (ea x)) q (eb x)) W1)
    (hbody : ∀ (l : Nat) (pre : List α) (x : α) (W1 : World), I pre W1 → pre.length < N → W (ro := some l) P n body (RoundQ w.heap.size Kp I Ir (pre ++ [x]) W1) (ga x (upd (upd f p (ea x)) q (eb x))) W1)
    (hdone : ∀ (D : Nat) (xs : List α) (W1 : World), w.heap.size ≤ D → S xs → I xs W1 → W1.heap[D]? = some (.deferred (some [])) → Q .normal (upd f n (.pointer (some ⟨D, 0, none⟩))) W1)
    (hstop : ∀ (D : Nat) (pre : List α) (W1 : World), w.heap.size ≤ D → Sp pre → Ir pre W1 → W1.heap[D]? = some (.deferred (some [])) → Q .ret (upd f n (.pointer (some ⟨D, 0, none⟩))) W1) :
    W (ro := none) P n (.rangeFunc g #[p, q] assign body) Q f w :=
  W_range hm hog hg eg hseq hKt hKb hb0 (fun _ => rfl) I Ir hI hIr h0 (fun x => upd (upd f p (ea x)) q (eb x)) (fun x => ga x (upd (upd f p (ea x)) q (eb x))) (fun x => params2 hm hp hq) hassign hbody hdone hstop
end

/-! A slice against nil. -/
def nilB : Value → Bool
  | .slice none _ _ => true
  | _ => false
section
variable {P : Program} {f : Nat → Value} {o : Oper}
theorem run_eqSl {t e : TypeId} (d : Nat) (p : Option Addr) (n c : Nat) (ht : P.underlying t = some (.slice e)) (w : World) : (Op.equalIn (d + 1) t (.slice p n c) (.slice none 0 0)).run P w = .ok p.isNone w := by
  cases p <;> simp [Op.equalIn, run_underlying ht]
theorem q_eqSl {x y : Operand} {t t' e : TypeId} {p : Option Addr} {n c : Nat} (ho : o.op = .binOp .eql t x y t') (ht : P.underlying t = some (.slice e)) (hx : ev f x = .slice p n c) (hy : ev f y = .slice none 0 0) : Qa P o f (.bool p.isNone) := by
  intro w
  have h : (Op.equalIn 10000 t (.slice p n c) (.slice none 0 0)).run P w = .ok p.isNone w := run_eqSl (P := P) 9999 p n c ht w
  unfold execOp; rw [ho]; dsimp only; rw [hx, hy]
  simp only [eqGuard, binOp, Op.equal, Op.maxDepth, Sem.run_bind, Sem.run_pure, Result.andThen_ok, h, Bool.not_true, Bool.false_eq_true, if_false]
end

/-! An owned slice, cut to a beginning of itself. -/
theorem oB_sub0 (v : Value) (lo hi : Int) (h0 : lo = 0) : oB (subV v lo.toNat hi.toNat) = oB v := by
  subst h0
  cases v <;> try rfl
  rename_i p n cap
  cases p with
  | none => simp [subV, oB]
  | some a =>
    cases cap with
    | zero => simp [subV, oB]
    | succ c => simp [subV, oB, Addr.add]
theorem hs_sub0 {v : Value} {lo hi : Int} (h0 : lo = 0) {k : Nat} (h : Hs (subV v lo.toNat hi.toNat) k) : Hs v k := by
  rcases h with h | ⟨vs, e, h⟩
  · rw [oB_sub0 v lo hi h0] at h; exact .inl h
  · refine .inr ⟨vs, ?_, h⟩
    cases v <;> simp_all [subV]
theorem own_cut {α : Type} {R : World → List Value → Value → α → Prop} (hR : Stab R) {w : World} {e : TypeId} {v : Value} {l m : List α} {lo hi : Int} (L1 L2 : List Value) (h : OwK R w (L1 ++ v :: L2) e v l) (h0 : lo = 0) (hs : subL l lo hi = some m) :
    OwK R w (L1 ++ subV v lo.toNat hi.toNat :: L2) e (subV v lo.toNat hi.toNat) m ∧ Nx w v (subV v lo.toNat hi.toNat) ∧ Lift w w (L1 ++ v :: L2) (L1 ++ subV v lo.toNat hi.toNat :: L2) := by
  have hnx : Nx w v (subV v lo.toNat hi.toNat) := fun k hk => .inl (hs_sub0 h0 hk)
  have hlift := Lift.own (w := w) (w' := w) L1 L2 (Gr.refl w v) hnx
  refine ⟨?_, hnx, hlift⟩
  subst h0
  obtain ⟨us, hown, hl, he⟩ := h
  obtain ⟨⟨_, h1, h2⟩, rfl⟩ := subL_some.1 hs
  refine ⟨us.take hi.toNat, ?_, by simp [hl], fun i a b => ?_⟩
  · rcases hown with ⟨p, rfl, rfl⟩ | ⟨g, cap, rfl, hc, hrow⟩
    · have : hi = 0 := by simp at hl; omega
      subst this
      exact .inl ⟨p, by cases p <;> simp [subV], by simp⟩
    · obtain ⟨cur, hg, q1, q2, q3, q4⟩ := row_spec hrow
      have hlen : (us.take hi.toNat).length = hi.toNat := by simp; omega
      have hv : subV (.slice (some ⟨g, 0, none⟩) us.length cap) (0 : Int).toNat hi.toNat = .slice (some ⟨g, 0, none⟩) hi.toNat cap := by
        simp [subV, Addr.add]
      rw [hv]
      refine Ow.mk hlen.symm ⟨by simpa using hlen, .inr ⟨g, cap, cur, rfl, Nat.zero_le _, hg, by omega, q2, q3, ?_⟩⟩
      rw [← q4, Nat.mul_one, Nat.mul_one, List.take_take]
      congr 1; omega
  · simp only [Int.toNat_zero, List.drop_zero, List.getElem_take]
    exact hR _ _ _ _ _ _ hlift (he i (by simp at a; omega) (by simp at b; omega))
end Gk

/- Frames as functions from slots to values, single steps of operations, and regions (in whatever order): the words on which all walks of this work rest. No condition. -/
import Derived.Orders
import Derived.Deep.Draws
import Derived.Laws.World
import Derived.KernelRfl
import Derived.OrdersIn
import Derived.TacticsIn
import Derived.RangeFuncCalls
set_option linter.unusedVariables false
set_option linter.unusedSimpArgs false
namespace Gk
open Go

theorem alloc_new (w : World) (o : Obj) : (w.alloc o).heap[w.heap.size]? = some o := by
  show (w.heap.push o)[w.heap.size]? = _
  simp
theorem alloc_old (w : World) (o : Obj) (k : Nat) (h : k < w.heap.size) : (w.alloc o).heap[k]? = w.heap[k]? := by
  show (w.heap.push o)[k]? = _
  rw [Array.getElem?_push, if_neg (by omega)]
/-- A frame: a value for each slot. -/
def upd (f : Nat → Value) (d : Nat) (v : Value) : Nat → Value := fun t => cond (Nat.beq t d) v (f t)
def updO (f : Nat → Value) : Option Nat → Value → Nat → Value
  | some d, v => upd f d v
  | none, _ => f
def ev (f : Nat → Value) : Operand → Value
  | .tmp t => f t
  | .const v => v
  | .global g => .pointer (some ⟨g, 0, none⟩)
  | .func g => .func (.func g) #[] #[]
/-- The deferred calls, read off a value: a pointer to block D stands for the mark of a range over a function whose rounds' deferred calls lie in D. -/
def dec : Value → List Deferred
  | .pointer (some a) => [{ target := .collected a.block, args := #[] }]
  | _ => []
/-- A frame of n slots; slot n stands for its deferred calls. -/
def fr (n : Nat) (f : Nat → Value) : Act := ⟨((List.range n).map f).toArray, dec (f n)⟩
def okD (n : Nat) : Option Nat → Bool
  | some d => Nat.blt d n
  | none => true
def argsF : List Value → Nat → Value
  | [], _ => undef
  | v :: r, t => cond (Nat.beq t 0) v (argsF r (t - 1))

theorem upd_eq (f : Nat → Value) (d : Nat) (v : Value) : upd f d v d = v := by simp [upd]
theorem upd_ne (f : Nat → Value) {d t : Nat} (v : Value) (h : t ≠ d) : upd f d v t = f t := by
  have : Nat.beq t d = false := by
    cases h' : Nat.beq t d
    · rfl
    · exact absurd (Nat.eq_of_beq_eq_true h') h
  simp [upd, this]

theorem fr_get (n : Nat) (f : Nat → Value) (t : Nat) (h : t < n) : (fr n f).tmps[t]? = some (f t) := by
  simp [fr, h]
theorem fr_none (n : Nat) (f : Nat → Value) (t : Nat) (h : n ≤ t) : (fr n f).tmps[t]? = none := by
  simp [fr, h]
theorem fr_size (n : Nat) (f : Nat → Value) : (fr n f).tmps.size = n := by simp [fr]

theorem fr_put (n : Nat) (f : Nat → Value) (dst : Option Nat) (v : Value) (hd : okD n dst = true) : (fr n f).put dst v = fr n (updO f dst v) := by
  cases dst with
  | none => rfl
  | some d =>
    have : (fr n f).tmps.setIfInBounds d v = (fr n (upd f d v)).tmps := by
      apply Array.ext_getElem?
      intro i
      rw [Array.getElem?_setIfInBounds]
      by_cases hi : i < n
      · rw [fr_get n _ i hi, fr_get n _ i hi, fr_size]
        by_cases h : d = i
        · subst h; simp [upd_eq, hi]
        · rw [if_neg h, upd_ne f v (Ne.symm h)]
      · rw [fr_none n _ i (by omega), fr_none n _ i (by omega), fr_size]
        by_cases h : d = i
        · subst h; simp [hi]
        · rw [if_neg h]
    have hn : upd f d v n = f n := upd_ne f v (by have : d < n := by simpa [okD] using hd
                                                  omega)
    simp only [Act.put, updO, this]
    simp only [fr, hn]

def okO (n : Nat) : Operand → Bool
  | .tmp t => Nat.blt t n
  | _ => true

theorem fr_eval (n : Nat) (f : Nat → Value) (x : Operand) (h : okO n x = true) : (fr n f).eval x = ev f x := by
  cases x with
  | tmp t =>
    have ht : t < n := by simpa [okO] using h
    simp [Act.eval, ev, Array.getD_eq_getD_getElem?, fr_get n f t ht]
  | _ => rfl

def notSelect : Op → Bool
  | .select .. => false
  | _ => true
def notDefer : Op → Bool
  | .defer _ => false
  | _ => true
theorem notDefer_spec {x : Op} (h : notDefer x = true) : ∀ c, x ≠ .defer c := by
  intro c e; rw [e] at h; cases h
/-- An operation that names slots of the frame alone (and defers nothing). -/
def okOp (n : Nat) (o : Oper) : Bool := o.op.operands.toList.all (okO n) && (notSelect o.op && (notDefer o.op && okD n o.dst))
theorem okOp.dst {n : Nat} {o : Oper} (h : okOp n o = true) : okD n o.dst = true := by
  simp only [okOp, Bool.and_eq_true] at h
  exact h.2.2.2

theorem execOp_fr (n : Nat) (f : Nat → Value) (o : Oper) (h : okOp n o = true) : execOp (fr n f).eval o = execOp (ev f) o := by
  simp only [okOp, Bool.and_eq_true] at h
  refine execOp_congr o (fun cs b e => ?_) (fun x hx => fr_eval n f x ?_)
  · rw [e] at h; simp [notSelect] at h
  · exact List.all_eq_true.1 h.1 x (Array.mem_toList_iff.2 hx)

/-! ### One step -/

/-- What an operation's run is asked. -/
def Got (P : Program) (R : Value → World → Prop) : Result Next → Prop
  | .ok (.value v) w' => R v w'
  | .ok .skip w' => R undef w'
  | .ok (.enter g args) w' => Calls P g args w' fun e w'' => ∃ v, e = .returned v ∧ R v w''
  | _ => False

/-- Operation 'o' in frame 'f' and world 'w' yields a value and a world of R. -/
def Stp (P : Program) (o : Oper) (f : Nat → Value) (w : World) (R : Value → World → Prop) : Prop :=
  Got P R ((execOp (ev f) o).run P w)

theorem Got.mono {P : Program} {R R' : Value → World → Prop} {r : Result Next} (h : Got P R r) (hr : ∀ v w, R v w → R' v w) : Got P R' r := by
  cases r with
  | ok n w' =>
    cases n <;> simp only [Got] at h ⊢ <;> first
      | exact hr _ _ h
      | exact h.mono (fun e w'' ⟨v, he, hv⟩ => ⟨v, he, hr _ _ hv⟩)
  | halt x w' => exact h
theorem Stp.mono {P : Program} {o : Oper} {f : Nat → Value} {w : World} {R R' : Value → World → Prop} (h : Stp P o f w R) (hr : ∀ v w, R v w → R' v w) : Stp P o f w R' :=
  Got.mono h hr

theorem Stp.wp {P : Program} {o : Oper} {n : Nat} {f : Nat → Value} {w : World} {R : Value → World → Prop} {K : Act → World → Prop} {Q : Exit → Act → World → Prop}
    (ho : okOp n o = true) (h : Stp P o f w R) (hk : ∀ v w', R v w' → K (fr n (updO f o.dst v)) w') : o.wp P (fr n f) w K Q := by
  unfold Oper.wp
  rw [execOp_fr n f o ho]
  unfold Stp at h
  generalize (execOp (ev f) o).run P w = r at *
  cases r with
  | ok x w' =>
    cases x <;> simp only [Got] at h <;> simp only [Oper.upon]
    case value v => rw [fr_put _ _ _ _ (okOp.dst ho)]; exact hk _ _ h
    case skip => rw [fr_put _ _ _ _ (okOp.dst ho)]; exact hk _ _ h
    case enter g args =>
      refine h.mono fun e w'' ⟨v, he, hv⟩ => ?_
      subst he
      dsimp only
      rw [fr_put _ _ _ _ (okOp.dst ho)]
      exact hk _ _ hv
  | halt x w' => exact h.elim

/-- The same, or the operation is a call of 'yield': a round of the loop's body. -/
def StpR (P : Program) (o : Oper) (f : Nat → Value) (w : World) (R : Value → World → Prop) : Prop :=
  Stp P o f w R ∨ ∃ l g tmps assign body, (execOp (ev f) o).run P w = .ok (.round l g tmps assign body) w ∧ RoundIn Fence.wide 0 P l g tmps assign body w fun e w'' => ∃ v, e = .returned v ∧ R v w''
theorem StpR.mono {P : Program} {o : Oper} {f : Nat → Value} {w : World} {R R' : Value → World → Prop} (h : StpR P o f w R) (hr : ∀ v w, R v w → R' v w) : StpR P o f w R' := by
  rcases h with h | ⟨l, g, tmps, assign, body, h1, h2⟩
  · exact .inl (h.mono hr)
  · exact .inr ⟨l, g, tmps, assign, body, h1, h2.mono fun e w'' ⟨v, he, hv⟩ => ⟨v, he, hr _ _ hv⟩⟩

/-- Is the guard met? -/
def wantF (ops : Array Oper) (f : Nat → Value) (o : Oper) : Bool :=
  match o.guard with
  | none => true
  | some (j, want) =>
    (match (ops[j]?).bind (·.dst) with
     | some d => (match f d with | .bool b => some b | _ => none)
     | none => none) == some want

def okGuard (n : Nat) (ops : Array Oper) (o : Oper) : Bool :=
  match o.guard with
  | none => true
  | some (j, _) => match (ops[j]?).bind (·.dst) with
    | some d => Nat.blt d n
    | none => true

theorem wantF_fr (n : Nat) (ops : Array Oper) (f : Nat → Value) (o : Oper) (h : okGuard n ops o = true) :
    Region.wanted o (yielded ops (fr n f).tmps) = wantF ops f o := by
  unfold Region.wanted wantF okGuard at *
  cases hg : o.guard with
  | none => rfl
  | some jw =>
    obtain ⟨j, want⟩ := jw
    simp only [hg] at h ⊢
    unfold yielded
    cases hd : (ops[j]?).bind (·.dst) with
    | none => rfl
    | some d =>
      simp only [hd] at h
      have hlt : d < n := by simpa using h
      simp only [Option.bind_some, fr_get n f d hlt]
      cases f d <;> rfl

/-- The walk of a region in the text's order. -/
def wl (P : Program) (ops : Array Oper) (K : (Nat → Value) → World → Prop) : List Oper → (Nat → Value) → World → Prop
  | [], f, w => K f w
  | o :: r, f, w => if wantF ops f o = true then StpR P o f w (fun v w' => wl P ops K r (updO f o.dst v) w') else wl P ops K r (updO f o.dst undef) w

/-- What stands behind a region, of frames 'fr n f'. -/
def At (n : Nat) (K : (Nat → Value) → World → Prop) (a : Act) (w : World) : Prop := ∃ f, a = fr n f ∧ K f w
theorem At.mk {n : Nat} {K : (Nat → Value) → World → Prop} {f : Nat → Value} {w : World} (h : K f w) : At n K (fr n f) w := ⟨f, rfl, h⟩

def okRegion (n : Nat) (ops : Array Oper) : Bool := ops.toList.all fun o => okOp n o && okGuard n ops o
def noDefer (l : List Oper) : Bool := l.all fun o => notDefer o.op


/-! ### Regions that draw their order -/
section
variable {P : Program} {ops : Array Oper} {Q : Exit → Act → World → Prop} {md : Region.Mode} {E : World → World → Prop}

/-- In frame 'a', in every world behind 'w', operation 'o' leaves 'v' in its slot and does nothing else. -/
def YieldsE (P : Program) (ops : Array Oper) (E : World → World → Prop) (o : Oper) (v : Value) (a : Act) (w : World) : Prop :=
  (Region.wanted o (yielded ops a.tmps) = true ∧ ∀ w', E w w' → (execOp a.eval o).run P w' = .ok (.value v) w') ∨
  (Region.wanted o (yielded ops a.tmps) = false ∧ v = undef)

theorem YieldsE.wpOp {i : Nat} {o : Oper} {v : Value} {a : Act} {w : World} (hE : E w w) (hi : ops[i]? = some o) (hy : YieldsE P ops E o v a w)
    {K : Act → World → Prop} (h : K (a.put o.dst v) w) : wpOp P ops Q i K a w := by
  unfold Go.wpOp
  simp only [hi]
  rcases hy with ⟨hw, hv⟩ | ⟨hw, rfl⟩
  · simp only [hw, if_true, Oper.wp, hv w hE, Oper.upon]; exact .inl h
  · simp only [hw, Bool.false_eq_true, if_false]; exact h

theorem YieldsE.of_same {o : Oper} {v : Value} {a a' : Act} {w w1 : World} (hE : ∀ w2, E w1 w2 → E w w2) (hy : YieldsE P ops E o v a w) (he : execOp a'.eval o = execOp a.eval o)
    (hw : Region.wanted o (yielded ops a'.tmps) = Region.wanted o (yielded ops a.tmps)) : YieldsE P ops E o v a' w1 := by
  unfold YieldsE at *
  rw [he, hw]
  exact hy.imp (fun h => ⟨h.1, fun w' h' => h.2 w' (hE w' h')⟩) id

/-- Operation j waits for operation q, through at most d others. -/
def reaches (md : Region.Mode) (ops : Array Oper) : Nat → Nat → Nat → Bool
  | 0, _, _ => false
  | d + 1, j, q => ((ops[j]?).map (·.after.any fun e => Region.binds md e && (Nat.beq e.on q || reaches md ops d e.on q))).getD false
def waits (md : Region.Mode) (ops : Array Oper) (j q : Nat) : Bool := (List.range 10).any fun d => reaches md ops d j q
/-- Operation j and each of the operations 'qs' wait for one another, the one way or the other. -/
def clearOf (md : Region.Mode) (ops : Array Oper) (qs : List Nat) (j : Nat) : Bool :=
  qs.all fun q => waits md ops j q || waits md ops q j
/-- What is listed, all that it waited for is listed. -/
def Closed (md : Region.Mode) (ops : Array Oper) (listed : Array Bool) : Prop := ∀ k ok, ops[k]? = some ok → listed.getD k false = true → ∀ e ∈ ok.after, Region.binds md e = true → listed.getD e.on false = true
theorem reaches_listed {md : Region.Mode} {ops : Array Oper} {listed : Array Bool} (hc : Closed md ops listed) {i : Nat} : ∀ (d j : Nat) (oj : Oper), ops[j]? = some oj → (∀ e ∈ oj.after, Region.binds md e = true → listed.getD e.on false = true) → reaches md ops d j i = true → listed.getD i false = true
  | 0, _, _, _, _, h => by cases h
  | d + 1, j, oj, hj, hall, h => by
    unfold reaches at h
    rw [hj] at h
    simp only [Option.map_some, Option.getD_some] at h
    obtain ⟨e, he, h⟩ := (Array.any_eq_true'.1 h)
    simp only [Bool.and_eq_true, Bool.or_eq_true] at h
    obtain ⟨hb, h | h⟩ := h
    · rw [← Nat.eq_of_beq_eq_true h]; exact hall e he hb
    · cases ho : ops[e.on]? with
      | none =>
        cases d with
        | zero => cases h
        | succ d => unfold reaches at h; rw [ho] at h; cases h
      | some ok => exact reaches_listed hc d e.on ok ho (hc e.on ok ho (hall e he hb)) h
theorem waits_listed {md : Region.Mode} {ops : Array Oper} {listed : Array Bool} (hc : Closed md ops listed) {i j : Nat} {oj : Oper} (hj : ops[j]? = some oj) (hall : ∀ e ∈ oj.after, Region.binds md e = true → listed.getD e.on false = true) (hi : listed.getD i true = false) : waits md ops j i = false := by
  cases h : waits md ops j i with
  | false => rfl
  | true =>
    obtain ⟨d, _, hd⟩ := List.any_eq_true.1 h
    have h1 := reaches_listed hc d j oj hj hall hd
    rcases Nat.lt_or_ge i listed.size with h' | h'
    · simp [h'] at hi h1; rw [hi] at h1; cases h1
    · simp [Array.getElem?_eq_none h'] at h1
theorem getD_set_ne' {l : Array Bool} {j k : Nat} (h : j ≠ k) : (l.setIfInBounds j true).getD k false = l.getD k false := by
  simp [Array.getD_eq_getD_getElem?, Array.getElem?_setIfInBounds, h]
theorem Closed.set {md : Region.Mode} {ops : Array Oper} {listed : Array Bool} (hc : Closed md ops listed) {j : Nat} {oj : Oper} (hj : ops[j]? = some oj) (hall : ∀ e ∈ oj.after, Region.binds md e = true → listed.getD e.on false = true) : Closed md ops (listed.setIfInBounds j true) := by
  have mono : ∀ k, listed.getD k false = true → (listed.setIfInBounds j true).getD k false = true := by
    intro k hk
    by_cases hkj : j = k
    · subst hkj
      rcases Nat.lt_or_ge j listed.size with h' | h'
      · simp [h']
      · simp [Array.getElem?_eq_none h'] at hk
    · rw [getD_set_ne' hkj]; exact hk
  intro k ok hk hl e he hb
  by_cases hkj : j = k
  · subst hkj
    rw [hj] at hk; cases hk
    exact mono _ (hall e he hb)
  · rw [getD_set_ne' hkj] at hl
    exact mono _ (hc k ok hk hl e he hb)
theorem Closed.none (md : Region.Mode) (ops : Array Oper) (n : Nat) : Closed md ops (Array.replicate n false) := by
  intro k ok _ hl
  rcases Nat.lt_or_ge k n with h | h
  · simp [h] at hl
  · simp [h] at hl

/-- Whatever order is picked from here on; what is carried out while an operation of 'qs' may stand beside it leaves a world that E lets. -/
def wpAnyE (P : Program) (md : Region.Mode) (ops : Array Oper) (Q : Exit → Act → World → Prop) (E : World → World → Prop) (qs : List Nat) : Nat → Array Bool → Act → World → Prop
  | 0, listed, a, w => Region.ready md ops listed = [] ∧ Q .normal a w
  | fuel + 1, listed, a, w =>
    (Region.ready md ops listed = [] → Q .normal a w) ∧
    ∀ i ∈ Region.ready md ops listed, wpOp P ops Q i (fun a' w' => (E w w' ∨ clearOf md ops qs i = true) ∧ wpAnyE P md ops Q E qs fuel (listed.setIfInBounds i true) a' w') a w

theorem wpAny_of_E {qs : List Nat} : ∀ (fuel : Nat) (listed : Array Bool) (a : Act) (w : World), wpAnyE P md ops Q E qs fuel listed a w → wpAny P md ops Q fuel listed a w
  | 0, _, _, _, h => h
  | fuel + 1, _, _, _, h => ⟨h.1, fun i hi => wpOp_mono (fun a' w' h' => wpAny_of_E fuel _ a' w' h'.2) (h.2 i hi)⟩

theorem wpOp_putE {j : Nat} {oi oj : Oper} {v : Value} (hj : ops[j]? = some oj) (hap : oi.apart ops oj = true)
    (hsi : ∀ cs b, oi.op ≠ .select cs b) (hsj : ∀ cs b, oj.op ≠ .select cs b)
    (hQ : ∀ c a w, Q (.panic c) (a.put oi.dst v) w → Q (.panic c) a w) (hE : ∀ w1 w2 w3, E w1 w2 → E w2 w3 → E w1 w3)
    {K : Act → World → Prop} {a : Act} {w : World} (hy : YieldsE P ops E oi v a w)
    (h : wpOp P ops Q j (fun a' w' => E w w' ∧ K a' w') (a.put oi.dst v) w) :
    wpOp P ops Q j (fun a' w' => YieldsE P ops E oi v a' w' ∧ E w w' ∧ K (a'.put oi.dst v) w') a w := by
  obtain ⟨h1, h2, h3⟩ := Oper.apart_spec hap
  have keep : ∀ (a : Act) (w1 w2 : World), E w1 w2 → YieldsE P ops E oi v a w1 → ∀ u, YieldsE P ops E oi v (a.put oj.dst u) w2 := fun a w1 w2 e hy u =>
    hy.of_same (fun w3 h => hE _ _ _ e h) (execOp_put oi hsi a oj.dst u h3) (wanted_put oi a oj.dst u h3)
  have keepD : ∀ d (w1 : World), YieldsE P ops E oi v a w1 → YieldsE P ops E oi v { a with defers := d :: a.defers } w1 := fun d w1 hy => hy
  unfold wpOp at *
  simp only [hj] at *
  rw [wanted_put oj a oi.dst v h1] at h
  split
  · rename_i hw
    simp only [hw, if_true] at h
    rcases h with h | ⟨hasks, hlets⟩
    case inr => exact .inr ⟨by unfold Oper.asks at *; rw [execOp_put oj hsj a oi.dst v h1] at hasks; exact hasks, hlets⟩
    refine .inl ?_
    unfold Oper.wp at *
    rw [execOp_put oj hsj a oi.dst v h1] at h
    generalize (execOp a.eval oj).run P w = r at *
    cases r with
    | ok n w' =>
      cases n <;> simp only [Oper.upon] at h ⊢
      case value u => exact ⟨keep a _ _ h.1 hy u, h.1, by rw [← Act.put_comm a v u h2]; exact h.2⟩
      case skip => exact ⟨keep a _ _ h.1 hy _, h.1, by rw [← Act.put_comm a v undef h2]; exact h.2⟩
      case defer d =>
        refine ⟨keep _ _ _ h.1 (keepD d _ hy) _, h.1, ?_⟩
        rw [← Act.put_comm _ v undef h2, ← Act.put_defers]
        exact h.2
      case enter f args =>
        refine Calls.mono h fun e w'' he => ?_
        cases e with
        | returned u => exact ⟨keep a _ _ he.1 hy u, he.1, by rw [← Act.put_comm a v u h2]; exact he.2⟩
        | panicked c => exact hQ _ _ _ he
        | outgrown => exact he
      case row row args => exact Rows.mono h fun u w'' he => ⟨keep a _ _ he.1 hy u, he.1, by rw [← Act.put_comm a v u h2]; exact he.2⟩
    | halt x w' =>
      cases x <;> simp only [Oper.upon] at h ⊢
      case panic u => exact hQ _ _ _ h
  · rename_i hw
    simp only [hw] at h
    exact ⟨keep a _ _ h.1 hy _, h.1, by rw [← Act.put_comm a v undef h2]; exact h.2⟩

theorem not_after {listed : Array Bool} {i : Nat} {oj : Oper} (hi : listed.getD i true = false) (hall : ∀ e ∈ oj.after, Region.binds md e = true → listed.getD e.on false = true) :
    ∀ e ∈ oj.after, Region.binds md e = true → e.on ≠ i := fun e he hb heq => by
  have h1 := hall e he hb
  rw [heq] at h1
  rcases Nat.lt_or_ge i listed.size with h' | h'
  · simp [h'] at hi h1; rw [hi] at h1; cases h1
  · simp [Array.getElem?_eq_none h'] at h1

/-- An operation that may come up now may be taken first, if it yields its value in every world that E lets from here on. -/
theorem wpAnyE_first {qs : List Nat} {i : Nat} {oi : Oper} {v : Value} (hq : i ∈ qs) (hi : ops[i]? = some oi) (hsel : ∀ (j : Nat) (o : Oper) cs b, ops[j]? = some o → o.op ≠ .select cs b)
    (hQ : ∀ c a w, Q (.panic c) (a.put oi.dst v) w → Q (.panic c) a w) (hr0 : ∀ w, E w w) (hE : ∀ w1 w2 w3, E w1 w2 → E w2 w3 → E w1 w3) :
    ∀ (fuel : Nat) (listed : Array Bool) (a : Act) (w : World), Closed md ops listed →
      (∀ j oj, ops[j]? = some oj → j ≠ i → listed.getD j true = false → (∀ e ∈ oj.after, Region.binds md e = true → e.on ≠ i) → oi.apart ops oj = true) →
      i ∈ Region.ready md ops listed → YieldsE P ops E oi v a w →
      wpAnyE P md ops Q E qs fuel (listed.setIfInBounds i true) (a.put oi.dst v) w → wpAnyE P md ops Q E qs (fuel + 1) listed a w := by
  intro fuel
  induction fuel with
  | zero =>
    intro listed a w _ _ hr hy H
    refine ⟨fun h => (by rw [h] at hr; cases hr), fun j hj => ?_⟩
    by_cases hji : j = i
    · subst hji; exact hy.wpOp (hr0 w) hi ⟨.inl (hr0 w), H⟩
    · have := ready_mono hj hji
      rw [H.1] at this
      cases this
  | succ fuel ih =>
    intro listed a w hcl hfree hr hy H
    refine ⟨fun h => (by rw [h] at hr; cases hr), fun j hj => ?_⟩
    by_cases hji : j = i
    · subst hji; exact hy.wpOp (hr0 w) hi ⟨.inl (hr0 w), H⟩
    · have h1 := H.2 j (ready_mono hj hji)
      obtain ⟨hjun, oj, hoj, hall⟩ := mem_ready.1 hj
      obtain ⟨hiun, oi', hoi', halli⟩ := mem_ready.1 hr
      obtain rfl : oi' = oi := by rw [hi] at hoi'; exact (Option.some.inj hoi').symm
      have hnot := not_after hiun hall
      have hnoti := not_after hjun halli
      have hno : clearOf md ops qs j = false := by
        unfold clearOf
        rw [List.all_eq_false]
        refine ⟨i, hq, ?_⟩
        rw [waits_listed hcl hoj hall hiun, waits_listed hcl hoi' halli hjun]
        simp
      have h1' := wpOp_mono (K' := fun a' w' => E w w' ∧ wpAnyE P md ops Q E qs fuel ((listed.setIfInBounds i true).setIfInBounds j true) a' w') (fun a' w' h => ⟨h.1.resolve_right (by rw [hno]; simp), h.2⟩) h1
      have h2 := wpOp_putE hoj (hfree j oj hoj hji hjun hnot) (fun cs b => hsel i oi' cs b hi) (fun cs b => hsel j oj cs b hoj) hQ hE hy h1'
      have hfree' : ∀ k ok, ops[k]? = some ok → k ≠ i → (listed.setIfInBounds j true).getD k true = false →
          (∀ e ∈ ok.after, Region.binds md e = true → e.on ≠ i) → oi'.apart ops ok = true := fun k ok hk hki hun hno => by
        refine hfree k ok hk hki ?_ hno
        by_cases hjk : j = k
        · subst hjk; exact hjun
        · rw [getD_set_ne true hjk] at hun; exact hun
      refine wpOp_mono (fun a' w' h3 => ⟨.inl h3.2.1, ih (listed.setIfInBounds j true) a' w' (hcl.set hoj hall) hfree' (ready_mono hr (Ne.symm hji)) h3.1 ?_⟩) h2
      rw [Array.setIfInBounds_comm _ _ hji]
      exact h3.2.2

/-- An operation that yields its value in whatever world may be taken first. -/
theorem wpAnyE_free {qs : List Nat} {i : Nat} {oi : Oper} {v : Value} (hi : ops[i]? = some oi) (hsel : ∀ (j : Nat) (o : Oper) cs b, ops[j]? = some o → o.op ≠ .select cs b)
    (hQ : ∀ c a w, Q (.panic c) (a.put oi.dst v) w → Q (.panic c) a w) (hr0 : ∀ w, E w w) :
    ∀ (fuel : Nat) (listed : Array Bool) (a : Act) (w : World),
      (∀ j oj, ops[j]? = some oj → j ≠ i → listed.getD j true = false → (∀ e ∈ oj.after, Region.binds md e = true → e.on ≠ i) → oi.apart ops oj = true) →
      i ∈ Region.ready md ops listed → Yields P ops oi v a →
      wpAnyE P md ops Q E qs fuel (listed.setIfInBounds i true) (a.put oi.dst v) w → wpAnyE P md ops Q E qs (fuel + 1) listed a w := by
  intro fuel
  induction fuel with
  | zero =>
    intro listed a w _ hr hy H
    refine ⟨fun h => (by rw [h] at hr; cases hr), fun j hj => ?_⟩
    by_cases hji : j = i
    · subst hji; exact hy.wpOp hi ⟨.inl (hr0 w), H⟩
    · have := ready_mono hj hji
      rw [H.1] at this
      cases this
  | succ fuel ih =>
    intro listed a w hfree hr hy H
    refine ⟨fun h => (by rw [h] at hr; cases hr), fun j hj => ?_⟩
    by_cases hji : j = i
    · subst hji; exact hy.wpOp hi ⟨.inl (hr0 w), H⟩
    · have h1 := H.2 j (ready_mono hj hji)
      obtain ⟨hjun, oj, hoj, hall⟩ := mem_ready.1 hj
      obtain ⟨hiun, -⟩ := mem_ready.1 hr
      have hnot := not_after hiun hall
      have h2 := wpOp_put hoj (hfree j oj hoj hji hjun hnot) (fun cs b => hsel i oi cs b hi) (fun cs b => hsel j oj cs b hoj) hQ hy h1
      have hfree' : ∀ k ok, ops[k]? = some ok → k ≠ i → (listed.setIfInBounds j true).getD k true = false →
          (∀ e ∈ ok.after, Region.binds md e = true → e.on ≠ i) → oi.apart ops ok = true := fun k ok hk hki hun hno => by
        refine hfree k ok hk hki ?_ hno
        by_cases hjk : j = k
        · subst hjk; exact hjun
        · rw [getD_set_ne true hjk] at hun; exact hun
      refine wpOp_mono (fun a' w' h3 => ⟨h3.2.1, ih (listed.setIfInBounds j true) a' w' hfree' (ready_mono hr (Ne.symm hji)) h3.1 ?_⟩) h2
      rw [Array.setIfInBounds_comm _ _ hji]
      exact h3.2.2


end

/-- 'w'' is 'w' and more: what was there is as it was. -/
structure Ext (w w' : World) : Prop where
  os : w'.os = w.os
  output : w'.output = w.output
  size : w.heap.size ≤ w'.heap.size
  blk : ∀ k, k < w.heap.size → w'.heap[k]? = w.heap[k]?
theorem Ext.refl (w : World) : Ext w w := ⟨rfl, rfl, Nat.le_refl _, fun _ _ => rfl⟩
theorem Ext.trans {a b c : World} (h : Ext a b) (k : Ext b c) : Ext a c :=
  ⟨k.os.trans h.os, k.output.trans h.output, Nat.le_trans h.size k.size, fun i hi => (k.blk i (Nat.lt_of_lt_of_le hi h.size)).trans (h.blk i hi)⟩
theorem Ext.drew (w : World) : Ext w w.drew := ⟨rfl, rfl, Nat.le_refl _, fun _ _ => rfl⟩

/-- The operation yields v in whatever world. -/
def Qa (P : Program) (o : Oper) (f : Nat → Value) (v : Value) : Prop := ∀ w, (execOp (ev f) o).run P w = .ok (.value v) w
/-- The operation yields v in w, and in whatever more. -/
def Qt (P : Program) (o : Oper) (f : Nat → Value) (w : World) (v : Value) : Prop := ∀ w', Ext w w' → (execOp (ev f) o).run P w' = .ok (.value v) w'
theorem Qa.qt {P : Program} {o : Oper} {f : Nat → Value} {v : Value} (h : Qa P o f v) (w : World) : Qt P o f w v := fun w' _ => h w'
theorem Qt.stp {P : Program} {o : Oper} {f : Nat → Value} {w : World} {v : Value} {R : Value → World → Prop} (h : Qt P o f w v) (hr : R v w) : Stp P o f w R := by
  unfold Stp; rw [h w (Ext.refl w)]; exact hr

/-- The walk of a region by a schedule: 0: in whatever world · 1: in this world and in whatever more · else: as it comes. -/
def ws (P : Program) (ops : Array Oper) (qs : List Nat) (K : (Nat → Value) → World → Prop) : List (Nat × Nat) → (Nat → Value) → World → Prop
  | [], f, w => K f w
  | (i, t) :: r, f, w =>
    match ops[i]? with
    | none => False
    | some o =>
      if wantF ops f o = true then
        (match t with
         | 0 => ∃ v, Qa P o f v ∧ ws P ops qs K r (updO f o.dst v) w
         | 1 => ∃ v, Qt P o f w v ∧ ws P ops qs K r (updO f o.dst v) w
         | _ => Stp P o f w (fun v w' => (Ext w w' ∨ clearOf .any ops qs i = true) ∧ ws P ops qs K r (updO f o.dst v) w'))
      else ws P ops qs K r (updO f o.dst undef) w

/-- The schedule fits the region; what is left behind it is let by fin. -/
def schOKe (ops : Array Oper) (qs : List Nat) (fin : Array Bool → Bool) : List (Nat × Nat) → Array Bool → Bool
  | [], listed => fin listed
  | (i, t) :: r, listed =>
    (match t with
     | 0 => (Region.ready .any ops listed).contains i && Region.free .any ops listed i
     | 1 => (Region.ready .any ops listed).contains i && Region.free .any ops listed i && qs.contains i
     | _ => Region.ready .any ops listed == [i]) && schOKe ops qs fin r (listed.setIfInBounds i true)
/-- The schedule fits the region. -/
def schOK (ops : Array Oper) (qs : List Nat) : List (Nat × Nat) → Array Bool → Bool := schOKe ops qs (fun listed => (Region.ready .any ops listed).isEmpty)

theorem wpAnyE_of_wse {P : Program} {n : Nat} {ops : Array Oper} {qs : List Nat} {K0 K : (Nat → Value) → World → Prop} (hok : okRegion n ops = true) (hns : Region.noSelect ops = true) {fin : Array Bool → Bool} {m : Nat}
    (hfin : ∀ (listed : Array Bool) (f : Nat → Value) (w : World), Closed .any ops listed → fin listed = true → K f w → wpAnyE P .any ops (fun e a w => e = .normal ∧ At n K0 a w) Ext qs m listed (fr n f) w) :
    ∀ (sch : List (Nat × Nat)) (listed : Array Bool) (f : Nat → Value) (w : World), Closed .any ops listed → schOKe ops qs fin sch listed = true → ws P ops qs K sch f w →
      wpAnyE P .any ops (fun e a w => e = .normal ∧ At n K0 a w) Ext qs (m + sch.length) listed (fr n f) w
  | [], listed, f, w, hcl, hs, h => hfin listed f w hcl hs h
  | (i, t) :: r, listed, f, w, hcl, hs, h => by
    simp only [schOKe, Bool.and_eq_true] at hs
    obtain ⟨hst, hsr⟩ := hs
    unfold ws at h
    cases ho : ops[i]? with
    | none => rw [ho] at h; exact h.elim
    | some o =>
      rw [ho] at h
      dsimp only at h
      have hmem : o ∈ ops := Array.mem_of_getElem? ho
      have hall := List.all_eq_true.1 hok o (Array.mem_toList_iff.2 hmem)
      simp only [Bool.and_eq_true] at hall
      have hwant := wantF_fr n ops f o hall.2
      have hcl' : i ∈ Region.ready .any ops listed → Closed .any ops (listed.setIfInBounds i true) := fun hi => by
        obtain ⟨_, o', ho', hall'⟩ := mem_ready.1 hi
        exact hcl.set ho' hall'
      have key0 : ∀ v, (Region.wanted o (yielded ops (fr n f).tmps) = true ∧ ∀ w, (execOp (fr n f).eval o).run P w = .ok (.value v) w) ∨ (Region.wanted o (yielded ops (fr n f).tmps) = false ∧ v = undef) →
          (Region.ready .any ops listed).contains i = true → Region.free .any ops listed i = true → ws P ops qs K r (updO f o.dst v) w →
          wpAnyE P .any ops (fun e a w => e = .normal ∧ At n K0 a w) Ext qs (m + r.length + 1) listed (fr n f) w := fun v hy hr hf hk =>
        wpAnyE_free ho (Region.noSelect_spec hns) (fun _ _ _ h => by cases h.1) Ext.refl _ listed _ w (Region.free_spec ho hf) (by simpa using hr) hy
          (by rw [fr_put _ _ _ _ (okOp.dst hall.1)]; exact wpAnyE_of_wse hok hns hfin r _ _ _ (hcl' (by simpa using hr)) hsr hk)
      by_cases hw : wantF ops f o = true
      · rw [if_pos hw] at h
        match t, hst, h with
        | 0, hst, ⟨v, hv, hk⟩ =>
          simp only [Bool.and_eq_true] at hst
          exact key0 v (.inl ⟨hwant.trans hw, fun w => by rw [execOp_fr n f o hall.1]; exact hv w⟩) hst.1 hst.2 hk
        | 1, hst, ⟨v, hv, hk⟩ =>
          simp only [Bool.and_eq_true] at hst
          refine wpAnyE_first (by simpa using hst.2) ho (Region.noSelect_spec hns) (fun _ _ _ h => by cases h.1) Ext.refl (fun _ _ _ => Ext.trans) _ listed _ w hcl (Region.free_spec ho hst.1.2) (by simpa using hst.1.1)
            (.inl ⟨hwant.trans hw, fun w' hw' => by rw [execOp_fr n f o hall.1]; exact hv w' hw'⟩) ?_
          rw [fr_put _ _ _ _ (okOp.dst hall.1)]; exact wpAnyE_of_wse hok hns hfin r _ _ _ (hcl' (by simpa using hst.1.1)) hsr hk
        | t + 2, hst, h =>
          have hr : Region.ready .any ops listed = [i] := by simpa using hst
          show wpAnyE P .any ops _ Ext qs (m + r.length + 1) listed _ w
          refine ⟨fun h0 => (by rw [hr] at h0; cases h0), fun j hj => ?_⟩
          obtain rfl : j = i := by rw [hr] at hj; simpa using hj
          unfold wpOp
          rw [ho]
          dsimp only
          rw [if_pos (hwant.trans hw)]
          exact .inl (Stp.wp hall.1 h fun v w' hv => ⟨hv.1, wpAnyE_of_wse hok hns hfin r _ _ _ (hcl' hj) hsr hv.2⟩)
      · rw [if_neg hw] at h
        have hwf : Region.wanted o (yielded ops (fr n f).tmps) = false := hwant.trans (by simpa using hw)
        match t, hst with
        | 0, hst =>
          simp only [Bool.and_eq_true] at hst
          exact key0 undef (.inr ⟨hwf, rfl⟩) hst.1 hst.2 h
        | 1, hst =>
          simp only [Bool.and_eq_true] at hst
          exact key0 undef (.inr ⟨hwf, rfl⟩) hst.1.1 hst.1.2 h
        | t + 2, hst =>
          have hr : Region.ready .any ops listed = [i] := by simpa using hst
          show wpAnyE P .any ops _ Ext qs (m + r.length + 1) listed _ w
          refine ⟨fun h0 => (by rw [hr] at h0; cases h0), fun j hj => ?_⟩
          obtain rfl : j = i := by rw [hr] at hj; simpa using hj
          unfold wpOp
          rw [ho]
          dsimp only
          rw [if_neg (by rw [hwf]; simp)]
          rw [fr_put _ _ _ _ (okOp.dst hall.1)]
          exact ⟨.inl (Ext.refl w), wpAnyE_of_wse hok hns hfin r _ _ _ (hcl' hj) hsr h⟩

theorem wpAnyE_of_ws {P : Program} {n : Nat} {ops : Array Oper} {qs : List Nat} {K : (Nat → Value) → World → Prop} (hok : okRegion n ops = true) (hns : Region.noSelect ops = true)
    (sch : List (Nat × Nat)) (listed : Array Bool) (f : Nat → Value) (w : World) (hcl : Closed .any ops listed) (hs : schOK ops qs sch listed = true) (h : ws P ops qs K sch f w) :
      wpAnyE P .any ops (fun e a w => e = .normal ∧ At n K a w) Ext qs sch.length listed (fr n f) w := by
  have := wpAnyE_of_wse (m := 0) (K0 := K) hok hns (fun listed f w _ hf hk => by
    rw [List.isEmpty_iff] at hf
    exact ⟨hf, rfl, At.mk hk⟩) sch listed f w hcl hs h
  rwa [Nat.zero_add] at this
/-- An operation that acts, the one way or the other of two. -/
def stepT (P : Program) (ops : Array Oper) (qs : List Nat) (i : Nat) (K : (Nat → Value) → World → Prop) (f : Nat → Value) (w : World) : Prop :=
  match ops[i]? with
  | none => False
  | some o => if wantF ops f o = true then Stp P o f w (fun v w' => (Ext w w' ∨ clearOf .any ops qs i = true) ∧ K (updO f o.dst v) w') else K (updO f o.dst undef) w
/-- Two operations may come up that act: each may be the first. -/
def schOK2 (ops : Array Oper) (qs : List Nat) (i j : Nat) (ri rj : List (Nat × Nat)) (listed : Array Bool) : Bool :=
  Region.ready .any ops listed == [i, j] && (schOK ops qs ri (listed.setIfInBounds i true) && (schOK ops qs rj (listed.setIfInBounds j true) && Nat.beq ri.length rj.length))
theorem stepT.wpOp {P : Program} {n : Nat} {ops : Array Oper} {qs : List Nat} {K : (Nat → Value) → World → Prop} (hok : okRegion n ops = true) (hns : Region.noSelect ops = true) {i : Nat} {r : List (Nat × Nat)} {listed : Array Bool} {f : Nat → Value} {w : World}
    (hcl : Closed .any ops (listed.setIfInBounds i true)) (hs : schOK ops qs r (listed.setIfInBounds i true) = true) (h : stepT P ops qs i (ws P ops qs K r) f w) :
    wpOp P ops (fun e a w => e = .normal ∧ At n K a w) i (fun a' w' => (Ext w w' ∨ clearOf .any ops qs i = true) ∧ wpAnyE P .any ops (fun e a w => e = .normal ∧ At n K a w) Ext qs r.length (listed.setIfInBounds i true) a' w') (fr n f) w := by
  unfold stepT at h
  unfold Go.wpOp
  cases ho : ops[i]? with
  | none => rw [ho] at h; exact h.elim
  | some o =>
    rw [ho] at h
    dsimp only at h ⊢
    have hmem : o ∈ ops := Array.mem_of_getElem? ho
    have hall := List.all_eq_true.1 hok o (Array.mem_toList_iff.2 hmem)
    simp only [Bool.and_eq_true] at hall
    have hwant := wantF_fr n ops f o hall.2
    by_cases hw : wantF ops f o = true
    · rw [if_pos hw] at h
      rw [if_pos (hwant.trans hw)]
      exact .inl (Stp.wp hall.1 h fun v w' hv => ⟨hv.1, wpAnyE_of_ws hok hns r _ _ _ hcl hs hv.2⟩)
    · rw [if_neg hw] at h
      have hwf : Region.wanted o (yielded ops (fr n f).tmps) = false := hwant.trans (by simpa using hw)
      rw [if_neg (by rw [hwf]; simp)]
      rw [fr_put _ _ _ _ (okOp.dst hall.1)]
      exact ⟨.inl (Ext.refl w), wpAnyE_of_ws hok hns r _ _ _ hcl hs h⟩
theorem wpAnyE_of_ws2 {P : Program} {n : Nat} {ops : Array Oper} {qs : List Nat} {K : (Nat → Value) → World → Prop} (hok : okRegion n ops = true) (hns : Region.noSelect ops = true) {i j : Nat} {ri rj : List (Nat × Nat)}
    (sch : List (Nat × Nat)) (listed : Array Bool) (f : Nat → Value) (w : World) (hcl : Closed .any ops listed) (hs : schOKe ops qs (schOK2 ops qs i j ri rj) sch listed = true)
    (h : ws P ops qs (fun f w => stepT P ops qs i (ws P ops qs K ri) f w ∧ stepT P ops qs j (ws P ops qs K rj) f w) sch f w) :
      wpAnyE P .any ops (fun e a w => e = .normal ∧ At n K a w) Ext qs (ri.length + 1 + sch.length) listed (fr n f) w := by
  refine wpAnyE_of_wse (K0 := K) hok hns (fun listed f w hcl hf hk => ?_) sch listed f w hcl hs h
  simp only [schOK2, Bool.and_eq_true] at hf
  obtain ⟨hr, hsi, hsj, hl⟩ := hf
  have hr' : Region.ready .any ops listed = [i, j] := by simpa using hr
  have hl' : ri.length = rj.length := Nat.eq_of_beq_eq_true hl
  refine ⟨fun h0 => (by rw [hr'] at h0; cases h0), fun k hk' => ?_⟩
  have hcl' : Closed .any ops (listed.setIfInBounds k true) := by
    obtain ⟨_, o', ho', hall'⟩ := mem_ready.1 hk'
    exact hcl.set ho' hall'
  rw [hr'] at hk'
  simp only [List.mem_cons, List.not_mem_nil, or_false] at hk'
  rcases hk' with rfl | rfl
  · exact stepT.wpOp hok hns hcl' hsi hk.1
  · rw [hl']; exact stepT.wpOp hok hns hcl' hsj hk.2

theorem wp_reg_draw {P : Program} {n : Nat} {id : Nat} {l : List Oper} {Q : Exit → Act → World → Prop} {f : Nat → Value} {w : World} (qs : List Nat) (sch : List (Nat × Nat))
    (hm : P.follows .mixedOrders = true) (hok : okRegion n l.toArray = true) (hns : Region.noSelect l.toArray = true) (hlen : sch.length = l.toArray.size) (hs : schOK l.toArray qs sch (Array.replicate l.toArray.size false) = true)
    (h : ws P l.toArray qs (fun f w => Q .normal (fr n f) w) sch f w.drew) : (Code.region id l.toArray true).wp P Q (fr n f) w := by
  have h1 := wpAnyE_of_ws hok hns sch _ f _ (Closed.none _ _ _) hs h
  rw [hlen] at h1
  refine wp_mono (wp_region_any hm (wpAny_of_E _ _ _ _ h1)) ?_
  rintro e a w' ⟨rfl, f', rfl, hk⟩
  exact hk


/-! ### Inside a fence that lets every function in: an activation's own code (none), or a round's of a range over a function (some l) -/
def Fn : Option Nat → Fence
  | none => Fence.wide
  | some l => Fence.wide.inRound l
theorem okRegion.noDefer {n : Nat} {ops : Array Oper} (h : okRegion n ops = true) : noDefer ops.toList = true := by
  refine List.all_eq_true.2 fun o ho => ?_
  have h1 := List.all_eq_true.1 h o ho
  simp only [okOp, Bool.and_eq_true] at h1
  exact h1.1.2.2.1
theorem Fn.round (ro : Option Nat) : (Fn ro).round = ro := by cases ro <;> rfl
theorem Fn.fn (ro : Option Nat) (f : FuncId) : (Fn ro).fn f := by cases ro <;> trivial
theorem Fn.depth (ro : Option Nat) : (Fn ro).depth = none := by cases ro <;> rfl
theorem Fn.calls {ro : Option Nat} {m : Nat} {P : Program} {f : FuncId} {args : Array Value} {w : World} {R : Ending → World → Prop} (h : Calls P f args w R) : CallsIn (Fn ro) m P f args w R := by
  have h1 : CallsIn Fence.wide m P f args w R := callsIn_wide.2 h
  cases ro with
  | none => exact h1
  | some l => exact h1.inRound l
theorem Fn.rows {ro : Option Nat} {m : Nat} {P : Program} {row : String} {args : Array Value} {w : World} {R : Value → World → Prop} (h : Rows P row args w R) : RowsIn (Fn ro) m P row args w R := by
  have h1 : RowsIn Fence.wide m P row args w R := fun c cs _ => let ⟨v, w', r, s⟩ := h c cs; ⟨v, w', r, stepsIn_wide.2 s⟩
  cases ro with
  | none => exact h1
  | some l => exact h1
theorem semAt_fn (ro : Option Nat) (ρ : Operand → Value) (o : Oper) (h : notDefer o.op = true) : Oper.semAt (Fn ro).round ρ o = execOp ρ o := by
  rw [Fn.round]
  cases ro with
  | none => exact Oper.semAt_none _ _
  | some l => exact Oper.semAt_some l ρ o (notDefer_spec h)
theorem oper_in {ro : Option Nat} {m : Nat} {P : Program} {o : Oper} {a : Act} {w : World} {K : Act → World → Prop} {Q : Exit → Act → World → Prop} (hd : notDefer o.op = true) (h : o.wp P a w K Q) : o.wpIn (Fn ro) m P a w K Q := by
  unfold Oper.wp at h
  unfold Oper.wpIn
  refine ⟨fun f _ => Fn.fn ro f, ?_⟩
  rw [semAt_fn ro _ o hd]
  have hdep : (Fn ro).depth.isSome = true → 1 ≤ m := fun e => by rw [Fn.depth] at e; cases e
  generalize (execOp a.eval o).run P w = r at *
  cases r with
  | ok x w' =>
    cases x <;> simp only [Oper.upon, Oper.uponIn] at h ⊢ <;>
      first
        | exact h
        | exact ⟨hdep, Fn.calls h⟩
        | exact ⟨hdep, Fn.rows h⟩
        | exact h.elim
  | halt x w' => cases x <;> simp only [Oper.upon, Oper.uponIn] at h ⊢ <;> exact h
theorem op_in {ro : Option Nat} {m : Nat} {P : Program} {ops : Array Oper} {Q : Exit → Act → World → Prop} (hl : ¬ LetsOut Q) (hd : noDefer ops.toList = true) {i : Nat} {K : Act → World → Prop} {a : Act} {w : World} (h : wpOp P ops Q i K a w) : wpOpIn (Fn ro) m P ops Q i K a w := by
  unfold wpOp at h
  unfold wpOpIn
  cases ho : ops[i]? with
  | none => rw [ho] at h; exact h
  | some o =>
    rw [ho] at h
    dsimp only at h ⊢
    have hn : notDefer o.op = true := List.all_eq_true.1 hd o (Array.mem_toList_iff.2 (Array.mem_of_getElem? ho))
    split
    · rename_i hw; rw [if_pos hw] at h; exact oper_in hn (h.resolve_right (fun e => hl e.2))
    · rename_i hw; rw [if_neg hw] at h; exact ⟨fun f _ => Fn.fn ro f, h⟩
theorem ops_in {ro : Option Nat} {m : Nat} {P : Program} {ops : Array Oper} {Q : Exit → Act → World → Prop} (hl : ¬ LetsOut Q) (hd : noDefer ops.toList = true) : ∀ (l : List Nat) (a : Act) (w : World), wpOps P ops Q l a w → wpOpsIn (Fn ro) m P ops Q l a w
  | [], _, _, h => h
  | i :: r, a, w, h => by
    rw [wpOps_cons] at h
    rw [wpOpsIn_cons]
    exact op_in hl hd (wpOp_mono (fun a w h => ops_in hl hd r a w h) h)
theorem any_in {ro : Option Nat} {m : Nat} {P : Program} {md : Region.Mode} {ops : Array Oper} {Q : Exit → Act → World → Prop} (hl : ¬ LetsOut Q) (hd : noDefer ops.toList = true) : ∀ (fuel : Nat) (listed : Array Bool) (a : Act) (w : World), wpAny P md ops Q fuel listed a w → wpAnyIn (Fn ro) m P md ops Q fuel listed a w
  | 0, _, _, _, h => h
  | fuel + 1, _, a, w, h => ⟨h.1, fun i hi => op_in hl hd (wpOp_mono (fun a w h => any_in hl hd fuel _ a w h) (h.2 i hi))⟩
theorem no_out {n : Nat} {K : (Nat → Value) → World → Prop} : ¬ LetsOut (fun e a w => e = .normal ∧ At n K a w) := by
  rintro ⟨a, w, h, _⟩; cases h
theorem StpR.wpIn {ro : Option Nat} {m : Nat} {P : Program} {o : Oper} {n : Nat} {f : Nat → Value} {w : World} {R : Value → World → Prop} {K : Act → World → Prop} {Q : Exit → Act → World → Prop}
    (ho : okOp n o = true) (h : StpR P o f w R) (hk : ∀ v w', R v w' → K (fr n (updO f o.dst v)) w') : o.wpIn (Fn ro) m P (fr n f) w K Q := by
  have hnd : notDefer o.op = true := by
    simp only [okOp, Bool.and_eq_true] at ho
    exact ho.2.2.1
  rcases h with h | ⟨l, g, tmps, assign, body, h1, h2⟩
  · exact oper_in hnd (Stp.wp ho h hk)
  · unfold Oper.wpIn
    refine ⟨fun f _ => Fn.fn ro f, ?_⟩
    rw [semAt_fn ro _ o hnd, execOp_fr n f o ho, h1]
    simp only [Oper.uponIn]
    refine ⟨fun e => (by rw [Fn.depth] at e; cases e), ?_⟩
    have h3 : RoundIn Fence.wide (m - 1) P l g tmps assign body w (fun | .returned v, w'' => K ((fr n f).put o.dst v) w'' | .panicked chain, w'' => Q (.panic chain) (fr n f) w'' | .outgrown, _ => LetsOut Q) := by
      refine ⟨h2.1, fun c cs _ => ?_⟩
      obtain ⟨e, w', ⟨v, rfl, hv⟩, hs⟩ := h2.2 c cs (room_wide _)
      refine ⟨.returned v, w', ?_, hs⟩
      show K ((fr n f).put o.dst v) w'
      rw [fr_put _ _ _ _ (okOp.dst ho)]
      exact hk _ _ hv
    cases ro with
    | none => exact h3
    | some l' => exact h3
theorem wpOpsIn_of_wl {ro : Option Nat} {m : Nat} {P : Program} {n : Nat} {ops : Array Oper} {K : (Nat → Value) → World → Prop} {Q : Exit → Act → World → Prop}
    (hok : okRegion n ops = true) (hQ : ∀ f w, K f w → Q .normal (fr n f) w) (l : List Oper) :
    ∀ k, (∀ j, l[j]? = ops[k + j]?) → ∀ f w, wl P ops K l f w → wpOpsIn (Fn ro) m P ops Q (List.range' k l.length) (fr n f) w := by
  induction l with
  | nil => intro k _ f w h; exact hQ f w h
  | cons o l ih =>
    intro k hl f w h
    have h0 : ops[k]? = some o := by simpa using (hl 0).symm
    have hmem : o ∈ ops := Array.mem_of_getElem? h0
    have hall := List.all_eq_true.1 hok o (Array.mem_toList_iff.2 hmem)
    simp only [Bool.and_eq_true] at hall
    have ih' := ih (k + 1) (fun j => by have := hl (j + 1); simpa [Nat.add_assoc, Nat.add_comm 1 j] using this)
    simp only [List.length_cons, List.range'_succ, wpOpsIn, h0]
    rw [wantF_fr n ops f o hall.2]
    unfold wl at h
    by_cases hw : wantF ops f o = true
    · rw [if_pos hw] at h ⊢
      exact StpR.wpIn hall.1 h fun v w' hv => ih' _ _ hv
    · rw [if_neg hw] at h ⊢
      rw [fr_put _ _ _ _ (okOp.dst hall.1)]
      exact ⟨fun f _ => Fn.fn ro f, ih' _ _ h⟩
theorem wpIn_reg {ro : Option Nat} {m : Nat} {P : Program} {n : Nat} {id : Nat} {l : List Oper} {Q : Exit → Act → World → Prop} {f : Nat → Value} {w : World}
    (hok : okRegion n l.toArray = true) (h : wl P l.toArray (fun f w => Q .normal (fr n f) w) l f w) : (Code.region id l.toArray false).wpIn (Fn ro) m P Q (fr n f) w := by
  refine wpIn_region ?_
  have := wpOpsIn_of_wl (ro := ro) (m := m) (Q := Q) hok (fun _ _ h => h) l 0 (by simp) f w h
  rw [List.range_eq_range']
  simpa using this
theorem wpIn_reg_draw {ro : Option Nat} {m : Nat} {P : Program} {n : Nat} {id : Nat} {l : List Oper} {Q : Exit → Act → World → Prop} {f : Nat → Value} {w : World} (qs : List Nat) (sch : List (Nat × Nat))
    (hm : P.follows .mixedOrders = true) (hok : okRegion n l.toArray = true) (hns : Region.noSelect l.toArray = true) (hlen : sch.length = l.toArray.size) (hs : schOK l.toArray qs sch (Array.replicate l.toArray.size false) = true)
    (h : ws P l.toArray qs (fun f w => Q .normal (fr n f) w) sch f w.drew) : (Code.region id l.toArray true).wpIn (Fn ro) m P Q (fr n f) w := by
  have h1 := wpAnyE_of_ws hok hns sch _ f _ (Closed.none _ _ _) hs h
  rw [hlen] at h1
  have h2 := any_in (ro := ro) (m := m) no_out (okRegion.noDefer hok) _ _ _ _ (wpAny_of_E _ _ _ _ h1)
  refine Code.wpIn_mono ?_ (wpIn_region_any (id := id) hm h2)
  rintro e a w' ⟨rfl, f', rfl, hk⟩
  exact hk
theorem wpIn_reg_draw2 {ro : Option Nat} {m : Nat} {P : Program} {n : Nat} {id : Nat} {l : List Oper} {Q : Exit → Act → World → Prop} {f : Nat → Value} {w : World} (qs : List Nat) (sch : List (Nat × Nat)) (i j : Nat) (ri rj : List (Nat × Nat))
    (hm : P.follows .mixedOrders = true) (hok : okRegion n l.toArray = true) (hns : Region.noSelect l.toArray = true) (hlen : ri.length + 1 + sch.length = l.toArray.size) (hs : schOKe l.toArray qs (schOK2 l.toArray qs i j ri rj) sch (Array.replicate l.toArray.size false) = true)
    (h : ws P l.toArray qs (fun f w => stepT P l.toArray qs i (ws P l.toArray qs (fun f w => Q .normal (fr n f) w) ri) f w ∧ stepT P l.toArray qs j (ws P l.toArray qs (fun f w => Q .normal (fr n f) w) rj) f w) sch f w.drew) :
    (Code.region id l.toArray true).wpIn (Fn ro) m P Q (fr n f) w := by
  have h1 := wpAnyE_of_ws2 hok hns sch _ f _ (Closed.none _ _ _) hs h
  rw [hlen] at h1
  have h2 := any_in (ro := ro) (m := m) no_out (okRegion.noDefer hok) _ _ _ _ (wpAny_of_E _ _ _ _ h1)
  refine Code.wpIn_mono ?_ (wpIn_region_any (id := id) hm h2)
  rintro e a w' ⟨rfl, f', rfl, hk⟩
  exact hk

end Gk

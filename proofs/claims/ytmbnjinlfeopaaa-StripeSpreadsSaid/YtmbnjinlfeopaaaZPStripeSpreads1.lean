/- Parts Ga, Gb, Gc, Gd, Ge, Gf, Gg, Gh, R, K, S, Ma, Fa, F0, F1, Gj, Mb, Gi, Fb, Mc, Md, Mp, Mv, Gk, one behind the other. What is proved: said at the head of each part. No condition beside those said there. -/
import Derived.Test.YtmbnjinlfeopaaaRows
import Derived.Orders
import Derived.Deep.Draws
import Derived.Laws.World
import Derived.KernelRfl
import Derived.OrdersIn
import Derived.TacticsIn
import Derived.RangeFuncCalls
import Derived.Deep.LoopGhost
import Derived.Tactics
import Derived.Sort.LoopGhostIn
import Derived.RangeFuncLeaves
import Derived.RangeFuncNested
import Derived.RangeFuncRecord
import Derived.Laws.Sem
import Derived.OwnWalk
import Derived.RangeFuncWrites
import Derived.Laws.IdiomCopy
import Derived.WalkKit
import Derived.ProofKit
import Derived.OpenShut
import Derived.ChangeOld
import Derived.Below
import Derived.Test.YtmbnjinlfeopaaaProg
import Derived.MapKept
import Derived.Lib.AppendZerosOnto
import Derived.Laws.CopyRow
import Derived.Laws.Cells
import Derived.Lib.SlBytesConst
theorem Gk.bsi {α β : Type} {o : Option α} {f : α → Option β} {b : β} (h : o.bind f = some b) : ∃ a, o = some a ∧ f a = some b := Option.bind_eq_some_iff.1 h
theorem Gk.osi {α : Type} {a b : α} (h : some a = some b) : a = b := Option.some.inj h
theorem Gk.obs {α β : Type} (a : α) (f : α → Option β) : (some a).bind f = f a := rfl
set_option maxRecDepth 100000
set_option maxHeartbeats 8000000
set_option linter.unusedVariables false
set_option linter.unusedSimpArgs false
/- Frames as functions from slots to values, single steps of operations, and regions (in whatever order): the words on which all walks of this work rest. No condition. -/
namespace Gk
open Go
theorem alloc_new (w : World) (o : Obj) : (w.alloc o).heap[w.heap.size]? = some o := by
  show (w.heap.push o)[w.heap.size]? = _
  simp
theorem alloc_old (w : World) (o : Obj) (k : Nat) (h : k < w.heap.size) : (w.alloc o).heap[k]? = w.heap[k]? := by
  show (w.heap.push o)[k]? = _
  rw [Array.getElem?_push, if_neg (by omega)]
def upd (f : Nat → Value) (d : Nat) (v : Value) : Nat → Value := fun t => cond (Nat.beq t d) v (f t)
def updO (f : Nat → Value) : Option Nat → Value → Nat → Value
  | some d, v => upd f d v
  | none, _ => f
def ev (f : Nat → Value) : Operand → Value
  | .tmp t => f t
  | .const v => v
  | .global g => .pointer (some ⟨g, 0, none⟩)
  | .func g => .func (.func g) #[] #[]
def dec : Value → List Deferred
  | .pointer (some a) => [{ target := .collected a.block, args := #[] }]
  | .agg vs => match vs.toList with
    | [.pointer (some a), .pointer (some b)] => [{ target := .collected a.block, args := #[] }, { target := .collected b.block, args := #[] }]
    | _ => []
  | _ => []
def fr (n : Nat) (f : Nat → Value) : Act := ⟨((List.range n).map f).toArray, dec (f n)⟩
def okD (n : Nat) : Option Nat → Bool
  | some d => Nat.blt d n
  | none => true
def argsF : List Value → Nat → Value
  | [], _ => undef
  | v :: r, t => cond (Nat.beq t 0) v (argsF r (t - 1))
theorem upd_eq (f : Nat → Value) (d : Nat) (v : Value) : upd f d v d = v := by simp [upd]
theorem upd_ne (f : Nat → Value) {d t : Nat} (v : Value) (h : t ≠ d) : upd f d v t = f t := by
  have : Nat.beq t d = false := by
    cases h' : Nat.beq t d
    · rfl
    · exact absurd (Nat.eq_of_beq_eq_true h') h
  simp [upd, this]
theorem fr_get (n : Nat) (f : Nat → Value) (t : Nat) (h : t < n) : (fr n f).tmps[t]? = some (f t) := by
  simp [fr, h]
theorem fr_none (n : Nat) (f : Nat → Value) (t : Nat) (h : n ≤ t) : (fr n f).tmps[t]? = none := by
  simp [fr, h]
theorem fr_size (n : Nat) (f : Nat → Value) : (fr n f).tmps.size = n := by simp [fr]
theorem fr_put (n : Nat) (f : Nat → Value) (dst : Option Nat) (v : Value) (hd : okD n dst = true) : (fr n f).put dst v = fr n (updO f dst v) := by
  cases dst with
  | none => rfl
  | some d =>
    have : (fr n f).tmps.setIfInBounds d v = (fr n (upd f d v)).tmps := by
      apply Array.ext_getElem?
      intro i
      rw [Array.getElem?_setIfInBounds]
      by_cases hi : i < n
      · rw [fr_get n _ i hi, fr_get n _ i hi, fr_size]
        by_cases h : d = i
        · subst h; simp [upd_eq, hi]
        · rw [if_neg h, upd_ne f v (Ne.symm h)]
      · rw [fr_none n _ i (by omega), fr_none n _ i (by omega), fr_size]
        by_cases h : d = i
        · subst h; simp [hi]
        · rw [if_neg h]
    have hn : upd f d v n = f n := upd_ne f v (by have : d < n := by simpa [okD] using hd
                                                  omega)
    simp only [Act.put, updO, this]
    simp only [fr, hn]
def okO (n : Nat) : Operand → Bool
  | .tmp t => Nat.blt t n
  | _ => true
theorem fr_eval (n : Nat) (f : Nat → Value) (x : Operand) (h : okO n x = true) : (fr n f).eval x = ev f x := by
  cases x with
  | tmp t =>
    have ht : t < n := by simpa [okO] using h
    simp [Act.eval, ev, Array.getD_eq_getD_getElem?, fr_get n f t ht]
  | _ => rfl
def notSelect : Op → Bool
  | .select .. => false
  | _ => true
def notDefer : Op → Bool
  | .defer _ => false
  | _ => true
theorem notDefer_spec {x : Op} (h : notDefer x = true) : ∀ c, x ≠ .defer c := by
  intro c e; rw [e] at h; cases h
def okOp (n : Nat) (o : Oper) : Bool := o.op.operands.toList.all (okO n) && (notSelect o.op && (notDefer o.op && okD n o.dst))
theorem okOp.dst {n : Nat} {o : Oper} (h : okOp n o = true) : okD n o.dst = true := by
  simp only [okOp, Bool.and_eq_true] at h
  exact h.2.2.2
theorem execOp_fr (n : Nat) (f : Nat → Value) (o : Oper) (h : okOp n o = true) : execOp (fr n f).eval o = execOp (ev f) o := by
  simp only [okOp, Bool.and_eq_true] at h
  refine execOp_congr o (fun cs b e => ?_) (fun x hx => fr_eval n f x ?_)
  · rw [e] at h; simp [notSelect] at h
  · exact List.all_eq_true.1 h.1 x (Array.mem_toList_iff.2 hx)
def Got (P : Program) (R : Value → World → Prop) : Result Next → Prop
  | .ok (.value v) w' => R v w'
  | .ok .skip w' => R undef w'
  | .ok (.enter g args) w' => Calls P g args w' fun e w'' => ∃ v, e = .returned v ∧ R v w''
  | _ => False
def Stp (P : Program) (o : Oper) (f : Nat → Value) (w : World) (R : Value → World → Prop) : Prop :=
  Got P R ((execOp (ev f) o).run P w)
theorem Got.mono {P : Program} {R R' : Value → World → Prop} {r : Result Next} (h : Got P R r) (hr : ∀ v w, R v w → R' v w) : Got P R' r := by
  cases r with
  | ok n w' =>
    cases n <;> simp only [Got] at h ⊢ <;> first
      | exact hr _ _ h
      | exact h.mono (fun e w'' ⟨v, he, hv⟩ => ⟨v, he, hr _ _ hv⟩)
  | halt x w' => exact h
theorem Stp.mono {P : Program} {o : Oper} {f : Nat → Value} {w : World} {R R' : Value → World → Prop} (h : Stp P o f w R) (hr : ∀ v w, R v w → R' v w) : Stp P o f w R' :=
  Got.mono h hr
theorem Stp.wp {P : Program} {o : Oper} {n : Nat} {f : Nat → Value} {w : World} {R : Value → World → Prop} {K : Act → World → Prop} {Q : Exit → Act → World → Prop}
    (ho : okOp n o = true) (h : Stp P o f w R) (hk : ∀ v w', R v w' → K (fr n (updO f o.dst v)) w') : o.wp P (fr n f) w K Q := by
  unfold Oper.wp
  rw [execOp_fr n f o ho]
  unfold Stp at h
  generalize (execOp (ev f) o).run P w = r at *
  cases r with
  | ok x w' =>
    cases x <;> simp only [Got] at h <;> simp only [Oper.upon]
    case value v => rw [fr_put _ _ _ _ (okOp.dst ho)]; exact hk _ _ h
    case skip => rw [fr_put _ _ _ _ (okOp.dst ho)]; exact hk _ _ h
    case enter g args =>
      refine h.mono fun e w'' ⟨v, he, hv⟩ => ?_
      subst he
      dsimp only
      rw [fr_put _ _ _ _ (okOp.dst ho)]
      exact hk _ _ hv
  | halt x w' => exact h.elim
def StpR (P : Program) (o : Oper) (f : Nat → Value) (w : World) (R : Value → World → Prop) : Prop :=
  Stp P o f w R ∨ ∃ l g tmps assign body, (execOp (ev f) o).run P w = .ok (.round l g tmps assign body) w ∧ RoundIn Fence.wide 0 P l g tmps assign body w fun e w'' => ∃ v, e = .returned v ∧ R v w''
theorem StpR.mono {P : Program} {o : Oper} {f : Nat → Value} {w : World} {R R' : Value → World → Prop} (h : StpR P o f w R) (hr : ∀ v w, R v w → R' v w) : StpR P o f w R' := by
  rcases h with h | ⟨l, g, tmps, assign, body, h1, h2⟩
  · exact .inl (h.mono hr)
  · exact .inr ⟨l, g, tmps, assign, body, h1, h2.mono fun e w'' ⟨v, he, hv⟩ => ⟨v, he, hr _ _ hv⟩⟩
def wantF (ops : Array Oper) (f : Nat → Value) (o : Oper) : Bool :=
  match o.guard with
  | none => true
  | some (j, want) =>
    (match (ops[j]?).bind (·.dst) with
     | some d => (match f d with | .bool b => some b | _ => none)
     | none => none) == some want
def okGuard (n : Nat) (ops : Array Oper) (o : Oper) : Bool :=
  match o.guard with
  | none => true
  | some (j, _) => match (ops[j]?).bind (·.dst) with
    | some d => Nat.blt d n
    | none => true
theorem wantF_fr (n : Nat) (ops : Array Oper) (f : Nat → Value) (o : Oper) (h : okGuard n ops o = true) :
    Region.wanted o (yielded ops (fr n f).tmps) = wantF ops f o := by
  unfold Region.wanted wantF okGuard at *
  cases hg : o.guard with
  | none => rfl
  | some jw =>
    obtain ⟨j, want⟩ := jw
    simp only [hg] at h ⊢
    unfold yielded
    cases hd : (ops[j]?).bind (·.dst) with
    | none => rfl
    | some d =>
      simp only [hd] at h
      have hlt : d < n := by simpa using h
      simp only [obs, fr_get n f d hlt]
      cases f d <;> rfl
def wl (P : Program) (ops : Array Oper) (K : (Nat → Value) → World → Prop) : List Oper → (Nat → Value) → World → Prop
  | [], f, w => K f w
  | o :: r, f, w => if wantF ops f o = true then StpR P o f w (fun v w' => wl P ops K r (updO f o.dst v) w') else wl P ops K r (updO f o.dst undef) w
def At (n : Nat) (K : (Nat → Value) → World → Prop) (a : Act) (w : World) : Prop := ∃ f, a = fr n f ∧ K f w
theorem At.mk {n : Nat} {K : (Nat → Value) → World → Prop} {f : Nat → Value} {w : World} (h : K f w) : At n K (fr n f) w := ⟨f, rfl, h⟩
def okRegion (n : Nat) (ops : Array Oper) : Bool := ops.toList.all fun o => okOp n o && okGuard n ops o
def noDefer (l : List Oper) : Bool := l.all fun o => notDefer o.op
section
variable {P : Program} {ops : Array Oper} {Q : Exit → Act → World → Prop} {md : Region.Mode} {E : World → World → Prop}
def YieldsE (P : Program) (ops : Array Oper) (E : World → World → Prop) (o : Oper) (v : Value) (a : Act) (w : World) : Prop :=
  (Region.wanted o (yielded ops a.tmps) = true ∧ ∀ w', E w w' → (execOp a.eval o).run P w' = .ok (.value v) w') ∨
  (Region.wanted o (yielded ops a.tmps) = false ∧ v = undef)
theorem YieldsE.wpOp {i : Nat} {o : Oper} {v : Value} {a : Act} {w : World} (hE : E w w) (hi : ops[i]? = some o) (hy : YieldsE P ops E o v a w)
    {K : Act → World → Prop} (h : K (a.put o.dst v) w) : wpOp P ops Q i K a w := by
  unfold Go.wpOp
  simp only [hi]
  rcases hy with ⟨hw, hv⟩ | ⟨hw, rfl⟩
  · simp only [hw, if_true, Oper.wp, hv w hE, Oper.upon]; exact .inl h
  · simp only [hw, Bool.false_eq_true, if_false]; exact h
theorem YieldsE.of_same {o : Oper} {v : Value} {a a' : Act} {w w1 : World} (hE : ∀ w2, E w1 w2 → E w w2) (hy : YieldsE P ops E o v a w) (he : execOp a'.eval o = execOp a.eval o)
    (hw : Region.wanted o (yielded ops a'.tmps) = Region.wanted o (yielded ops a.tmps)) : YieldsE P ops E o v a' w1 := by
  unfold YieldsE at *
  rw [he, hw]
  exact hy.imp (fun h => ⟨h.1, fun w' h' => h.2 w' (hE w' h')⟩) id
def reaches (md : Region.Mode) (ops : Array Oper) : Nat → Nat → Nat → Bool
  | 0, _, _ => false
  | d + 1, j, q => ((ops[j]?).map (·.after.any fun e => Region.binds md e && (Nat.beq e.on q || reaches md ops d e.on q))).getD false
def waits (md : Region.Mode) (ops : Array Oper) (j q : Nat) : Bool := (List.range 10).any fun d => reaches md ops d j q
def clearOf (md : Region.Mode) (ops : Array Oper) (qs : List Nat) (j : Nat) : Bool :=
  qs.all fun q => waits md ops j q || waits md ops q j
def Closed (md : Region.Mode) (ops : Array Oper) (listed : Array Bool) : Prop := ∀ k ok, ops[k]? = some ok → listed.getD k false = true → ∀ e ∈ ok.after, Region.binds md e = true → listed.getD e.on false = true
theorem reaches_listed {md : Region.Mode} {ops : Array Oper} {listed : Array Bool} (hc : Closed md ops listed) {i : Nat} : ∀ (d j : Nat) (oj : Oper), ops[j]? = some oj → (∀ e ∈ oj.after, Region.binds md e = true → listed.getD e.on false = true) → reaches md ops d j i = true → listed.getD i false = true
  | 0, _, _, _, _, h => by cases h
  | d + 1, j, oj, hj, hall, h => by
    unfold reaches at h
    rw [hj] at h
    simp only [Option.map_some, Option.getD_some] at h
    obtain ⟨e, he, h⟩ := (Array.any_eq_true'.1 h)
    simp only [Bool.and_eq_true, Bool.or_eq_true] at h
    obtain ⟨hb, h | h⟩ := h
    · rw [← Nat.eq_of_beq_eq_true h]; exact hall e he hb
    · cases ho : ops[e.on]? with
      | none =>
        cases d with
        | zero => cases h
        | succ d => unfold reaches at h; rw [ho] at h; cases h
      | some ok => exact reaches_listed hc d e.on ok ho (hc e.on ok ho (hall e he hb)) h
theorem waits_listed {md : Region.Mode} {ops : Array Oper} {listed : Array Bool} (hc : Closed md ops listed) {i j : Nat} {oj : Oper} (hj : ops[j]? = some oj) (hall : ∀ e ∈ oj.after, Region.binds md e = true → listed.getD e.on false = true) (hi : listed.getD i true = false) : waits md ops j i = false := by
  cases h : waits md ops j i with
  | false => rfl
  | true =>
    obtain ⟨d, _, hd⟩ := List.any_eq_true.1 h
    have h1 := reaches_listed hc d j oj hj hall hd
    rcases Nat.lt_or_ge i listed.size with h' | h'
    · simp [h'] at hi h1; rw [hi] at h1; cases h1
    · simp [Array.getElem?_eq_none h'] at h1
theorem getD_set_ne' {l : Array Bool} {j k : Nat} (h : j ≠ k) : (l.setIfInBounds j true).getD k false = l.getD k false := by
  simp [Array.getD_eq_getD_getElem?, Array.getElem?_setIfInBounds, h]
theorem Closed.set {md : Region.Mode} {ops : Array Oper} {listed : Array Bool} (hc : Closed md ops listed) {j : Nat} {oj : Oper} (hj : ops[j]? = some oj) (hall : ∀ e ∈ oj.after, Region.binds md e = true → listed.getD e.on false = true) : Closed md ops (listed.setIfInBounds j true) := by
  have mono : ∀ k, listed.getD k false = true → (listed.setIfInBounds j true).getD k false = true := by
    intro k hk
    by_cases hkj : j = k
    · subst hkj
      rcases Nat.lt_or_ge j listed.size with h' | h'
      · simp [h']
      · simp [Array.getElem?_eq_none h'] at hk
    · rw [getD_set_ne' hkj]; exact hk
  intro k ok hk hl e he hb
  by_cases hkj : j = k
  · subst hkj
    rw [hj] at hk; cases hk
    exact mono _ (hall e he hb)
  · rw [getD_set_ne' hkj] at hl
    exact mono _ (hc k ok hk hl e he hb)
theorem Closed.none (md : Region.Mode) (ops : Array Oper) (n : Nat) : Closed md ops (Array.replicate n false) := by
  intro k ok _ hl
  rcases Nat.lt_or_ge k n with h | h
  · simp [h] at hl
  · simp [h] at hl
def wpAnyE (P : Program) (md : Region.Mode) (ops : Array Oper) (Q : Exit → Act → World → Prop) (E : World → World → Prop) (qs : List Nat) : Nat → Array Bool → Act → World → Prop
  | 0, listed, a, w => Region.ready md ops listed = [] ∧ Q .normal a w
  | fuel + 1, listed, a, w =>
    (Region.ready md ops listed = [] → Q .normal a w) ∧
    ∀ i ∈ Region.ready md ops listed, wpOp P ops Q i (fun a' w' => (E w w' ∨ clearOf md ops qs i = true) ∧ wpAnyE P md ops Q E qs fuel (listed.setIfInBounds i true) a' w') a w
theorem wpAny_of_E {qs : List Nat} : ∀ (fuel : Nat) (listed : Array Bool) (a : Act) (w : World), wpAnyE P md ops Q E qs fuel listed a w → wpAny P md ops Q fuel listed a w
  | 0, _, _, _, h => h
  | fuel + 1, _, _, _, h => ⟨h.1, fun i hi => wpOp_mono (fun a' w' h' => wpAny_of_E fuel _ a' w' h'.2) (h.2 i hi)⟩
theorem wpOp_putE {j : Nat} {oi oj : Oper} {v : Value} (hj : ops[j]? = some oj) (hap : oi.apart ops oj = true)
    (hsi : ∀ cs b, oi.op ≠ .select cs b) (hsj : ∀ cs b, oj.op ≠ .select cs b)
    (hQ : ∀ c a w, Q (.panic c) (a.put oi.dst v) w → Q (.panic c) a w) (hE : ∀ w1 w2 w3, E w1 w2 → E w2 w3 → E w1 w3)
    {K : Act → World → Prop} {a : Act} {w : World} (hy : YieldsE P ops E oi v a w)
    (h : wpOp P ops Q j (fun a' w' => E w w' ∧ K a' w') (a.put oi.dst v) w) :
    wpOp P ops Q j (fun a' w' => YieldsE P ops E oi v a' w' ∧ E w w' ∧ K (a'.put oi.dst v) w') a w := by
  obtain ⟨h1, h2, h3⟩ := Oper.apart_spec hap
  have keep : ∀ (a : Act) (w1 w2 : World), E w1 w2 → YieldsE P ops E oi v a w1 → ∀ u, YieldsE P ops E oi v (a.put oj.dst u) w2 := fun a w1 w2 e hy u =>
    hy.of_same (fun w3 h => hE _ _ _ e h) (execOp_put oi hsi a oj.dst u h3) (wanted_put oi a oj.dst u h3)
  have keepD : ∀ d (w1 : World), YieldsE P ops E oi v a w1 → YieldsE P ops E oi v { a with defers := d :: a.defers } w1 := fun d w1 hy => hy
  unfold wpOp at *
  simp only [hj] at *
  rw [wanted_put oj a oi.dst v h1] at h
  split
  · rename_i hw
    simp only [hw, if_true] at h
    rcases h with h | ⟨hasks, hlets⟩
    case inr => exact .inr ⟨by unfold Oper.asks at *; rw [execOp_put oj hsj a oi.dst v h1] at hasks; exact hasks, hlets⟩
    refine .inl ?_
    unfold Oper.wp at *
    rw [execOp_put oj hsj a oi.dst v h1] at h
    generalize (execOp a.eval oj).run P w = r at *
    cases r with
    | ok n w' =>
      cases n <;> simp only [Oper.upon] at h ⊢
      case value u => exact ⟨keep a _ _ h.1 hy u, h.1, by rw [← Act.put_comm a v u h2]; exact h.2⟩
      case skip => exact ⟨keep a _ _ h.1 hy _, h.1, by rw [← Act.put_comm a v undef h2]; exact h.2⟩
      case defer d =>
        refine ⟨keep _ _ _ h.1 (keepD d _ hy) _, h.1, ?_⟩
        rw [← Act.put_comm _ v undef h2, ← Act.put_defers]
        exact h.2
      case enter f args =>
        refine Calls.mono h fun e w'' he => ?_
        cases e with
        | returned u => exact ⟨keep a _ _ he.1 hy u, he.1, by rw [← Act.put_comm a v u h2]; exact he.2⟩
        | panicked c => exact hQ _ _ _ he
        | outgrown => exact he
      case row row args => exact Rows.mono h fun u w'' he => ⟨keep a _ _ he.1 hy u, he.1, by rw [← Act.put_comm a v u h2]; exact he.2⟩
    | halt x w' =>
      cases x <;> simp only [Oper.upon] at h ⊢
      case panic u => exact hQ _ _ _ h
  · rename_i hw
    simp only [hw] at h
    exact ⟨keep a _ _ h.1 hy _, h.1, by rw [← Act.put_comm a v undef h2]; exact h.2⟩
theorem not_after {listed : Array Bool} {i : Nat} {oj : Oper} (hi : listed.getD i true = false) (hall : ∀ e ∈ oj.after, Region.binds md e = true → listed.getD e.on false = true) :
    ∀ e ∈ oj.after, Region.binds md e = true → e.on ≠ i := fun e he hb heq => by
  have h1 := hall e he hb
  rw [heq] at h1
  rcases Nat.lt_or_ge i listed.size with h' | h'
  · simp [h'] at hi h1; rw [hi] at h1; cases h1
  · simp [Array.getElem?_eq_none h'] at h1
theorem wpAnyE_first {qs : List Nat} {i : Nat} {oi : Oper} {v : Value} (hq : i ∈ qs) (hi : ops[i]? = some oi) (hsel : ∀ (j : Nat) (o : Oper) cs b, ops[j]? = some o → o.op ≠ .select cs b)
    (hQ : ∀ c a w, Q (.panic c) (a.put oi.dst v) w → Q (.panic c) a w) (hr0 : ∀ w, E w w) (hE : ∀ w1 w2 w3, E w1 w2 → E w2 w3 → E w1 w3) :
    ∀ (fuel : Nat) (listed : Array Bool) (a : Act) (w : World), Closed md ops listed →
      (∀ j oj, ops[j]? = some oj → j ≠ i → listed.getD j true = false → (∀ e ∈ oj.after, Region.binds md e = true → e.on ≠ i) → oi.apart ops oj = true) →
      i ∈ Region.ready md ops listed → YieldsE P ops E oi v a w →
      wpAnyE P md ops Q E qs fuel (listed.setIfInBounds i true) (a.put oi.dst v) w → wpAnyE P md ops Q E qs (fuel + 1) listed a w := by
  intro fuel
  induction fuel with
  | zero =>
    intro listed a w _ _ hr hy H
    refine ⟨fun h => (by rw [h] at hr; cases hr), fun j hj => ?_⟩
    by_cases hji : j = i
    · subst hji; exact hy.wpOp (hr0 w) hi ⟨.inl (hr0 w), H⟩
    · have := ready_mono hj hji
      rw [H.1] at this
      cases this
  | succ fuel ih =>
    intro listed a w hcl hfree hr hy H
    refine ⟨fun h => (by rw [h] at hr; cases hr), fun j hj => ?_⟩
    by_cases hji : j = i
    · subst hji; exact hy.wpOp (hr0 w) hi ⟨.inl (hr0 w), H⟩
    · have h1 := H.2 j (ready_mono hj hji)
      obtain ⟨hjun, oj, hoj, hall⟩ := mem_ready.1 hj
      obtain ⟨hiun, oi', hoi', halli⟩ := mem_ready.1 hr
      obtain rfl : oi' = oi := by rw [hi] at hoi'; exact (Option.some.inj hoi').symm
      have hnot := not_after hiun hall
      have hnoti := not_after hjun halli
      have hno : clearOf md ops qs j = false := by
        unfold clearOf
        rw [List.all_eq_false]
        refine ⟨i, hq, ?_⟩
        rw [waits_listed hcl hoj hall hiun, waits_listed hcl hoi' halli hjun]
        simp
      have h1' := wpOp_mono (K' := fun a' w' => E w w' ∧ wpAnyE P md ops Q E qs fuel ((listed.setIfInBounds i true).setIfInBounds j true) a' w') (fun a' w' h => ⟨h.1.resolve_right (by rw [hno]; simp), h.2⟩) h1
      have h2 := wpOp_putE hoj (hfree j oj hoj hji hjun hnot) (fun cs b => hsel i oi' cs b hi) (fun cs b => hsel j oj cs b hoj) hQ hE hy h1'
      have hfree' : ∀ k ok, ops[k]? = some ok → k ≠ i → (listed.setIfInBounds j true).getD k true = false →
          (∀ e ∈ ok.after, Region.binds md e = true → e.on ≠ i) → oi'.apart ops ok = true := fun k ok hk hki hun hno => by
        refine hfree k ok hk hki ?_ hno
        by_cases hjk : j = k
        · subst hjk; exact hjun
        · rw [getD_set_ne true hjk] at hun; exact hun
      refine wpOp_mono (fun a' w' h3 => ⟨.inl h3.2.1, ih (listed.setIfInBounds j true) a' w' (hcl.set hoj hall) hfree' (ready_mono hr (Ne.symm hji)) h3.1 ?_⟩) h2
      rw [Array.setIfInBounds_comm _ _ hji]
      exact h3.2.2
theorem wpAnyE_free {qs : List Nat} {i : Nat} {oi : Oper} {v : Value} (hi : ops[i]? = some oi) (hsel : ∀ (j : Nat) (o : Oper) cs b, ops[j]? = some o → o.op ≠ .select cs b)
    (hQ : ∀ c a w, Q (.panic c) (a.put oi.dst v) w → Q (.panic c) a w) (hr0 : ∀ w, E w w) :
    ∀ (fuel : Nat) (listed : Array Bool) (a : Act) (w : World),
      (∀ j oj, ops[j]? = some oj → j ≠ i → listed.getD j true = false → (∀ e ∈ oj.after, Region.binds md e = true → e.on ≠ i) → oi.apart ops oj = true) →
      i ∈ Region.ready md ops listed → Yields P ops oi v a →
      wpAnyE P md ops Q E qs fuel (listed.setIfInBounds i true) (a.put oi.dst v) w → wpAnyE P md ops Q E qs (fuel + 1) listed a w := by
  intro fuel
  induction fuel with
  | zero =>
    intro listed a w _ hr hy H
    refine ⟨fun h => (by rw [h] at hr; cases hr), fun j hj => ?_⟩
    by_cases hji : j = i
    · subst hji; exact hy.wpOp hi ⟨.inl (hr0 w), H⟩
    · have := ready_mono hj hji
      rw [H.1] at this
      cases this
  | succ fuel ih =>
    intro listed a w hfree hr hy H
    refine ⟨fun h => (by rw [h] at hr; cases hr), fun j hj => ?_⟩
    by_cases hji : j = i
    · subst hji; exact hy.wpOp hi ⟨.inl (hr0 w), H⟩
    · have h1 := H.2 j (ready_mono hj hji)
      obtain ⟨hjun, oj, hoj, hall⟩ := mem_ready.1 hj
      obtain ⟨hiun, -⟩ := mem_ready.1 hr
      have hnot := not_after hiun hall
      have h2 := wpOp_put hoj (hfree j oj hoj hji hjun hnot) (fun cs b => hsel i oi cs b hi) (fun cs b => hsel j oj cs b hoj) hQ hy h1
      have hfree' : ∀ k ok, ops[k]? = some ok → k ≠ i → (listed.setIfInBounds j true).getD k true = false →
          (∀ e ∈ ok.after, Region.binds md e = true → e.on ≠ i) → oi.apart ops ok = true := fun k ok hk hki hun hno => by
        refine hfree k ok hk hki ?_ hno
        by_cases hjk : j = k
        · subst hjk; exact hjun
        · rw [getD_set_ne true hjk] at hun; exact hun
      refine wpOp_mono (fun a' w' h3 => ⟨h3.2.1, ih (listed.setIfInBounds j true) a' w' hfree' (ready_mono hr (Ne.symm hji)) h3.1 ?_⟩) h2
      rw [Array.setIfInBounds_comm _ _ hji]
      exact h3.2.2
end
structure Ext (w w' : World) : Prop where
  os : w'.os = w.os
  output : w'.output = w.output
  size : w.heap.size ≤ w'.heap.size
  blk : ∀ k, k < w.heap.size → w'.heap[k]? = w.heap[k]?
theorem Ext.refl (w : World) : Ext w w := ⟨rfl, rfl, Nat.le_refl _, fun _ _ => rfl⟩
theorem Ext.trans {a b c : World} (h : Ext a b) (k : Ext b c) : Ext a c :=
  ⟨k.os.trans h.os, k.output.trans h.output, Nat.le_trans h.size k.size, fun i hi => (k.blk i (Nat.lt_of_lt_of_le hi h.size)).trans (h.blk i hi)⟩
theorem Ext.drew (w : World) : Ext w w.drew := ⟨rfl, rfl, Nat.le_refl _, fun _ _ => rfl⟩
def Qa (P : Program) (o : Oper) (f : Nat → Value) (v : Value) : Prop := ∀ w, (execOp (ev f) o).run P w = .ok (.value v) w
def Qt (P : Program) (o : Oper) (f : Nat → Value) (w : World) (v : Value) : Prop := ∀ w', Ext w w' → (execOp (ev f) o).run P w' = .ok (.value v) w'
theorem Qa.qt {P : Program} {o : Oper} {f : Nat → Value} {v : Value} (h : Qa P o f v) (w : World) : Qt P o f w v := fun w' _ => h w'
theorem Qt.stp {P : Program} {o : Oper} {f : Nat → Value} {w : World} {v : Value} {R : Value → World → Prop} (h : Qt P o f w v) (hr : R v w) : Stp P o f w R := by
  unfold Stp; rw [h w (Ext.refl w)]; exact hr
def ws (P : Program) (ops : Array Oper) (qs : List Nat) (K : (Nat → Value) → World → Prop) : List (Nat × Nat) → (Nat → Value) → World → Prop
  | [], f, w => K f w
  | (i, t) :: r, f, w =>
    match ops[i]? with
    | none => False
    | some o =>
      if wantF ops f o = true then
        (match t with
         | 0 => ∃ v, Qa P o f v ∧ ws P ops qs K r (updO f o.dst v) w
         | 1 => ∃ v, Qt P o f w v ∧ ws P ops qs K r (updO f o.dst v) w
         | _ => Stp P o f w (fun v w' => (Ext w w' ∨ clearOf .any ops qs i = true) ∧ ws P ops qs K r (updO f o.dst v) w'))
      else ws P ops qs K r (updO f o.dst undef) w
def schOKe (ops : Array Oper) (qs : List Nat) (fin : Array Bool → Bool) : List (Nat × Nat) → Array Bool → Bool
  | [], listed => fin listed
  | (i, t) :: r, listed =>
    (match t with
     | 0 => (Region.ready .any ops listed).contains i && Region.free .any ops listed i
     | 1 => (Region.ready .any ops listed).contains i && Region.free .any ops listed i && qs.contains i
     | _ => Region.ready .any ops listed == [i]) && schOKe ops qs fin r (listed.setIfInBounds i true)
def schOK (ops : Array Oper) (qs : List Nat) : List (Nat × Nat) → Array Bool → Bool := schOKe ops qs (fun listed => (Region.ready .any ops listed).isEmpty)
theorem wpAnyE_of_wse {P : Program} {n : Nat} {ops : Array Oper} {qs : List Nat} {K0 K : (Nat → Value) → World → Prop} (hok : okRegion n ops = true) (hns : Region.noSelect ops = true) {fin : Array Bool → Bool} {m : Nat}
    (hfin : ∀ (listed : Array Bool) (f : Nat → Value) (w : World), Closed .any ops listed → fin listed = true → K f w → wpAnyE P .any ops (fun e a w => e = .normal ∧ At n K0 a w) Ext qs m listed (fr n f) w) :
    ∀ (sch : List (Nat × Nat)) (listed : Array Bool) (f : Nat → Value) (w : World), Closed .any ops listed → schOKe ops qs fin sch listed = true → ws P ops qs K sch f w →
      wpAnyE P .any ops (fun e a w => e = .normal ∧ At n K0 a w) Ext qs (m + sch.length) listed (fr n f) w
  | [], listed, f, w, hcl, hs, h => hfin listed f w hcl hs h
  | (i, t) :: r, listed, f, w, hcl, hs, h => by
    simp only [schOKe, Bool.and_eq_true] at hs
    obtain ⟨hst, hsr⟩ := hs
    unfold ws at h
    cases ho : ops[i]? with
    | none => rw [ho] at h; exact h.elim
    | some o =>
      rw [ho] at h
      dsimp only at h
      have hmem : o ∈ ops := Array.mem_of_getElem? ho
      have hall := List.all_eq_true.1 hok o (Array.mem_toList_iff.2 hmem)
      simp only [Bool.and_eq_true] at hall
      have hwant := wantF_fr n ops f o hall.2
      have hcl' : i ∈ Region.ready .any ops listed → Closed .any ops (listed.setIfInBounds i true) := fun hi => by
        obtain ⟨_, o', ho', hall'⟩ := mem_ready.1 hi
        exact hcl.set ho' hall'
      have key0 : ∀ v, (Region.wanted o (yielded ops (fr n f).tmps) = true ∧ ∀ w, (execOp (fr n f).eval o).run P w = .ok (.value v) w) ∨ (Region.wanted o (yielded ops (fr n f).tmps) = false ∧ v = undef) →
          (Region.ready .any ops listed).contains i = true → Region.free .any ops listed i = true → ws P ops qs K r (updO f o.dst v) w →
          wpAnyE P .any ops (fun e a w => e = .normal ∧ At n K0 a w) Ext qs (m + r.length + 1) listed (fr n f) w := fun v hy hr hf hk =>
        wpAnyE_free ho (Region.noSelect_spec hns) (fun _ _ _ h => by cases h.1) Ext.refl _ listed _ w (Region.free_spec ho hf) (by simpa using hr) hy
          (by rw [fr_put _ _ _ _ (okOp.dst hall.1)]; exact wpAnyE_of_wse hok hns hfin r _ _ _ (hcl' (by simpa using hr)) hsr hk)
      by_cases hw : wantF ops f o = true
      · rw [if_pos hw] at h
        match t, hst, h with
        | 0, hst, ⟨v, hv, hk⟩ =>
          simp only [Bool.and_eq_true] at hst
          exact key0 v (.inl ⟨hwant.trans hw, fun w => by rw [execOp_fr n f o hall.1]; exact hv w⟩) hst.1 hst.2 hk
        | 1, hst, ⟨v, hv, hk⟩ =>
          simp only [Bool.and_eq_true] at hst
          refine wpAnyE_first (by simpa using hst.2) ho (Region.noSelect_spec hns) (fun _ _ _ h => by cases h.1) Ext.refl (fun _ _ _ => Ext.trans) _ listed _ w hcl (Region.free_spec ho hst.1.2) (by simpa using hst.1.1)
            (.inl ⟨hwant.trans hw, fun w' hw' => by rw [execOp_fr n f o hall.1]; exact hv w' hw'⟩) ?_
          rw [fr_put _ _ _ _ (okOp.dst hall.1)]; exact wpAnyE_of_wse hok hns hfin r _ _ _ (hcl' (by simpa using hst.1.1)) hsr hk
        | t + 2, hst, h =>
          have hr : Region.ready .any ops listed = [i] := by simpa using hst
          show wpAnyE P .any ops _ Ext qs (m + r.length + 1) listed _ w
          refine ⟨fun h0 => (by rw [hr] at h0; cases h0), fun j hj => ?_⟩
          obtain rfl : j = i := by rw [hr] at hj; simpa using hj
          unfold wpOp
          rw [ho]
          dsimp only
          rw [if_pos (hwant.trans hw)]
          exact .inl (Stp.wp hall.1 h fun v w' hv => ⟨hv.1, wpAnyE_of_wse hok hns hfin r _ _ _ (hcl' hj) hsr hv.2⟩)
      · rw [if_neg hw] at h
        have hwf : Region.wanted o (yielded ops (fr n f).tmps) = false := hwant.trans (by simpa using hw)
        match t, hst with
        | 0, hst =>
          simp only [Bool.and_eq_true] at hst
          exact key0 undef (.inr ⟨hwf, rfl⟩) hst.1 hst.2 h
        | 1, hst =>
          simp only [Bool.and_eq_true] at hst
          exact key0 undef (.inr ⟨hwf, rfl⟩) hst.1.1 hst.1.2 h
        | t + 2, hst =>
          have hr : Region.ready .any ops listed = [i] := by simpa using hst
          show wpAnyE P .any ops _ Ext qs (m + r.length + 1) listed _ w
          refine ⟨fun h0 => (by rw [hr] at h0; cases h0), fun j hj => ?_⟩
          obtain rfl : j = i := by rw [hr] at hj; simpa using hj
          unfold wpOp
          rw [ho]
          dsimp only
          rw [if_neg (by rw [hwf]; simp)]
          rw [fr_put _ _ _ _ (okOp.dst hall.1)]
          exact ⟨.inl (Ext.refl w), wpAnyE_of_wse hok hns hfin r _ _ _ (hcl' hj) hsr h⟩
theorem wpAnyE_of_ws {P : Program} {n : Nat} {ops : Array Oper} {qs : List Nat} {K : (Nat → Value) → World → Prop} (hok : okRegion n ops = true) (hns : Region.noSelect ops = true)
    (sch : List (Nat × Nat)) (listed : Array Bool) (f : Nat → Value) (w : World) (hcl : Closed .any ops listed) (hs : schOK ops qs sch listed = true) (h : ws P ops qs K sch f w) :
      wpAnyE P .any ops (fun e a w => e = .normal ∧ At n K a w) Ext qs sch.length listed (fr n f) w := by
  have := wpAnyE_of_wse (m := 0) (K0 := K) hok hns (fun listed f w _ hf hk => by
    rw [List.isEmpty_iff] at hf
    exact ⟨hf, rfl, At.mk hk⟩) sch listed f w hcl hs h
  rwa [Nat.zero_add] at this
def stepT (P : Program) (ops : Array Oper) (qs : List Nat) (i : Nat) (K : (Nat → Value) → World → Prop) (f : Nat → Value) (w : World) : Prop :=
  match ops[i]? with
  | none => False
  | some o => if wantF ops f o = true then Stp P o f w (fun v w' => (Ext w w' ∨ clearOf .any ops qs i = true) ∧ K (updO f o.dst v) w') else K (updO f o.dst undef) w
def schOK2 (ops : Array Oper) (qs : List Nat) (i j : Nat) (ri rj : List (Nat × Nat)) (listed : Array Bool) : Bool :=
  Region.ready .any ops listed == [i, j] && (schOK ops qs ri (listed.setIfInBounds i true) && (schOK ops qs rj (listed.setIfInBounds j true) && Nat.beq ri.length rj.length))
theorem stepT.wpOp {P : Program} {n : Nat} {ops : Array Oper} {qs : List Nat} {K : (Nat → Value) → World → Prop} (hok : okRegion n ops = true) (hns : Region.noSelect ops = true) {i : Nat} {r : List (Nat × Nat)} {listed : Array Bool} {f : Nat → Value} {w : World}
    (hcl : Closed .any ops (listed.setIfInBounds i true)) (hs : schOK ops qs r (listed.setIfInBounds i true) = true) (h : stepT P ops qs i (ws P ops qs K r) f w) :
    wpOp P ops (fun e a w => e = .normal ∧ At n K a w) i (fun a' w' => (Ext w w' ∨ clearOf .any ops qs i = true) ∧ wpAnyE P .any ops (fun e a w => e = .normal ∧ At n K a w) Ext qs r.length (listed.setIfInBounds i true) a' w') (fr n f) w := by
  unfold stepT at h
  unfold Go.wpOp
  cases ho : ops[i]? with
  | none => rw [ho] at h; exact h.elim
  | some o =>
    rw [ho] at h
    dsimp only at h ⊢
    have hmem : o ∈ ops := Array.mem_of_getElem? ho
    have hall := List.all_eq_true.1 hok o (Array.mem_toList_iff.2 hmem)
    simp only [Bool.and_eq_true] at hall
    have hwant := wantF_fr n ops f o hall.2
    by_cases hw : wantF ops f o = true
    · rw [if_pos hw] at h
      rw [if_pos (hwant.trans hw)]
      exact .inl (Stp.wp hall.1 h fun v w' hv => ⟨hv.1, wpAnyE_of_ws hok hns r _ _ _ hcl hs hv.2⟩)
    · rw [if_neg hw] at h
      have hwf : Region.wanted o (yielded ops (fr n f).tmps) = false := hwant.trans (by simpa using hw)
      rw [if_neg (by rw [hwf]; simp)]
      rw [fr_put _ _ _ _ (okOp.dst hall.1)]
      exact ⟨.inl (Ext.refl w), wpAnyE_of_ws hok hns r _ _ _ hcl hs h⟩
theorem wpAnyE_of_ws2 {P : Program} {n : Nat} {ops : Array Oper} {qs : List Nat} {K : (Nat → Value) → World → Prop} (hok : okRegion n ops = true) (hns : Region.noSelect ops = true) {i j : Nat} {ri rj : List (Nat × Nat)}
    (sch : List (Nat × Nat)) (listed : Array Bool) (f : Nat → Value) (w : World) (hcl : Closed .any ops listed) (hs : schOKe ops qs (schOK2 ops qs i j ri rj) sch listed = true)
    (h : ws P ops qs (fun f w => stepT P ops qs i (ws P ops qs K ri) f w ∧ stepT P ops qs j (ws P ops qs K rj) f w) sch f w) :
      wpAnyE P .any ops (fun e a w => e = .normal ∧ At n K a w) Ext qs (ri.length + 1 + sch.length) listed (fr n f) w := by
  refine wpAnyE_of_wse (K0 := K) hok hns (fun listed f w hcl hf hk => ?_) sch listed f w hcl hs h
  simp only [schOK2, Bool.and_eq_true] at hf
  obtain ⟨hr, hsi, hsj, hl⟩ := hf
  have hr' : Region.ready .any ops listed = [i, j] := by simpa using hr
  have hl' : ri.length = rj.length := Nat.eq_of_beq_eq_true hl
  refine ⟨fun h0 => (by rw [hr'] at h0; cases h0), fun k hk' => ?_⟩
  have hcl' : Closed .any ops (listed.setIfInBounds k true) := by
    obtain ⟨_, o', ho', hall'⟩ := mem_ready.1 hk'
    exact hcl.set ho' hall'
  rw [hr'] at hk'
  simp only [List.mem_cons, List.not_mem_nil, or_false] at hk'
  rcases hk' with rfl | rfl
  · exact stepT.wpOp hok hns hcl' hsi hk.1
  · rw [hl']; exact stepT.wpOp hok hns hcl' hsj hk.2
def Fn : Option Nat → Fence
  | none => Fence.wide
  | some l => Fence.wide.inRound l
theorem okRegion.noDefer {n : Nat} {ops : Array Oper} (h : okRegion n ops = true) : noDefer ops.toList = true := by
  refine List.all_eq_true.2 fun o ho => ?_
  have h1 := List.all_eq_true.1 h o ho
  simp only [okOp, Bool.and_eq_true] at h1
  exact h1.1.2.2.1
theorem Fn.round (ro : Option Nat) : (Fn ro).round = ro := by cases ro <;> rfl
theorem Fn.fn (ro : Option Nat) (f : FuncId) : (Fn ro).fn f := by cases ro <;> trivial
theorem Fn.depth (ro : Option Nat) : (Fn ro).depth = none := by cases ro <;> rfl
theorem Fn.calls {ro : Option Nat} {m : Nat} {P : Program} {f : FuncId} {args : Array Value} {w : World} {R : Ending → World → Prop} (h : Calls P f args w R) : CallsIn (Fn ro) m P f args w R := by
  have h1 : CallsIn Fence.wide m P f args w R := callsIn_wide.2 h
  cases ro with
  | none => exact h1
  | some l => exact h1.inRound l
theorem Fn.rows {ro : Option Nat} {m : Nat} {P : Program} {row : String} {args : Array Value} {w : World} {R : Value → World → Prop} (h : Rows P row args w R) : RowsIn (Fn ro) m P row args w R := by
  have h1 : RowsIn Fence.wide m P row args w R := fun c cs _ => let ⟨v, w', r, s⟩ := h c cs; ⟨v, w', r, stepsIn_wide.2 s⟩
  cases ro with
  | none => exact h1
  | some l => exact h1
theorem semAt_fn (ro : Option Nat) (ρ : Operand → Value) (o : Oper) (h : notDefer o.op = true) : Oper.semAt (Fn ro).round ρ o = execOp ρ o := by
  rw [Fn.round]
  cases ro with
  | none => exact Oper.semAt_none _ _
  | some l => exact Oper.semAt_some l ρ o (notDefer_spec h)
theorem oper_in {ro : Option Nat} {m : Nat} {P : Program} {o : Oper} {a : Act} {w : World} {K : Act → World → Prop} {Q : Exit → Act → World → Prop} (hd : notDefer o.op = true) (h : o.wp P a w K Q) : o.wpIn (Fn ro) m P a w K Q := by
  unfold Oper.wp at h
  unfold Oper.wpIn
  refine ⟨fun f _ => Fn.fn ro f, ?_⟩
  rw [semAt_fn ro _ o hd]
  have hdep : (Fn ro).depth.isSome = true → 1 ≤ m := fun e => by rw [Fn.depth] at e; cases e
  generalize (execOp a.eval o).run P w = r at *
  cases r with
  | ok x w' =>
    cases x <;> simp only [Oper.upon, Oper.uponIn] at h ⊢ <;>
      first
        | exact h
        | exact ⟨hdep, Fn.calls h⟩
        | exact ⟨hdep, Fn.rows h⟩
        | exact h.elim
  | halt x w' => cases x <;> simp only [Oper.upon, Oper.uponIn] at h ⊢ <;> exact h
theorem op_in {ro : Option Nat} {m : Nat} {P : Program} {ops : Array Oper} {Q : Exit → Act → World → Prop} (hl : ¬ LetsOut Q) (hd : noDefer ops.toList = true) {i : Nat} {K : Act → World → Prop} {a : Act} {w : World} (h : wpOp P ops Q i K a w) : wpOpIn (Fn ro) m P ops Q i K a w := by
  unfold wpOp at h
  unfold wpOpIn
  cases ho : ops[i]? with
  | none => rw [ho] at h; exact h
  | some o =>
    rw [ho] at h
    dsimp only at h ⊢
    have hn : notDefer o.op = true := List.all_eq_true.1 hd o (Array.mem_toList_iff.2 (Array.mem_of_getElem? ho))
    split
    · rename_i hw; rw [if_pos hw] at h; exact oper_in hn (h.resolve_right (fun e => hl e.2))
    · rename_i hw; rw [if_neg hw] at h; exact ⟨fun f _ => Fn.fn ro f, h⟩
theorem any_in {ro : Option Nat} {m : Nat} {P : Program} {md : Region.Mode} {ops : Array Oper} {Q : Exit → Act → World → Prop} (hl : ¬ LetsOut Q) (hd : noDefer ops.toList = true) : ∀ (fuel : Nat) (listed : Array Bool) (a : Act) (w : World), wpAny P md ops Q fuel listed a w → wpAnyIn (Fn ro) m P md ops Q fuel listed a w
  | 0, _, _, _, h => h
  | fuel + 1, _, a, w, h => ⟨h.1, fun i hi => op_in hl hd (wpOp_mono (fun a w h => any_in hl hd fuel _ a w h) (h.2 i hi))⟩
theorem no_out {n : Nat} {K : (Nat → Value) → World → Prop} : ¬ LetsOut (fun e a w => e = .normal ∧ At n K a w) := by
  rintro ⟨a, w, h, _⟩; cases h
theorem StpR.wpIn {ro : Option Nat} {m : Nat} {P : Program} {o : Oper} {n : Nat} {f : Nat → Value} {w : World} {R : Value → World → Prop} {K : Act → World → Prop} {Q : Exit → Act → World → Prop}
    (ho : okOp n o = true) (h : StpR P o f w R) (hk : ∀ v w', R v w' → K (fr n (updO f o.dst v)) w') : o.wpIn (Fn ro) m P (fr n f) w K Q := by
  have hnd : notDefer o.op = true := by
    simp only [okOp, Bool.and_eq_true] at ho
    exact ho.2.2.1
  rcases h with h | ⟨l, g, tmps, assign, body, h1, h2⟩
  · exact oper_in hnd (Stp.wp ho h hk)
  · unfold Oper.wpIn
    refine ⟨fun f _ => Fn.fn ro f, ?_⟩
    rw [semAt_fn ro _ o hnd, execOp_fr n f o ho, h1]
    simp only [Oper.uponIn]
    refine ⟨fun e => (by rw [Fn.depth] at e; cases e), ?_⟩
    have h3 : RoundIn Fence.wide (m - 1) P l g tmps assign body w (fun | .returned v, w'' => K ((fr n f).put o.dst v) w'' | .panicked chain, w'' => Q (.panic chain) (fr n f) w'' | .outgrown, _ => LetsOut Q) := by
      refine ⟨h2.1, fun c cs _ => ?_⟩
      obtain ⟨e, w', ⟨v, rfl, hv⟩, hs⟩ := h2.2 c cs (room_wide _)
      refine ⟨.returned v, w', ?_, hs⟩
      show K ((fr n f).put o.dst v) w'
      rw [fr_put _ _ _ _ (okOp.dst ho)]
      exact hk _ _ hv
    cases ro with
    | none => exact h3
    | some l' => exact h3
theorem wpOpsIn_of_wl {ro : Option Nat} {m : Nat} {P : Program} {n : Nat} {ops : Array Oper} {K : (Nat → Value) → World → Prop} {Q : Exit → Act → World → Prop}
    (hok : okRegion n ops = true) (hQ : ∀ f w, K f w → Q .normal (fr n f) w) (l : List Oper) :
    ∀ k, (∀ j, l[j]? = ops[k + j]?) → ∀ f w, wl P ops K l f w → wpOpsIn (Fn ro) m P ops Q (List.range' k l.length) (fr n f) w := by
  induction l with
  | nil => intro k _ f w h; exact hQ f w h
  | cons o l ih =>
    intro k hl f w h
    have h0 : ops[k]? = some o := by simpa using (hl 0).symm
    have hmem : o ∈ ops := Array.mem_of_getElem? h0
    have hall := List.all_eq_true.1 hok o (Array.mem_toList_iff.2 hmem)
    simp only [Bool.and_eq_true] at hall
    have ih' := ih (k + 1) (fun j => by have := hl (j + 1); simpa [Nat.add_assoc, Nat.add_comm 1 j] using this)
    simp only [List.length_cons, List.range'_succ, wpOpsIn, h0]
    rw [wantF_fr n ops f o hall.2]
    unfold wl at h
    by_cases hw : wantF ops f o = true
    · rw [if_pos hw] at h ⊢
      exact StpR.wpIn hall.1 h fun v w' hv => ih' _ _ hv
    · rw [if_neg hw] at h ⊢
      rw [fr_put _ _ _ _ (okOp.dst hall.1)]
      exact ⟨fun f _ => Fn.fn ro f, ih' _ _ h⟩
theorem wpIn_reg {ro : Option Nat} {m : Nat} {P : Program} {n : Nat} {id : Nat} {l : List Oper} {Q : Exit → Act → World → Prop} {f : Nat → Value} {w : World}
    (hok : okRegion n l.toArray = true) (h : wl P l.toArray (fun f w => Q .normal (fr n f) w) l f w) : (Code.region id l.toArray false).wpIn (Fn ro) m P Q (fr n f) w := by
  refine wpIn_region ?_
  have := wpOpsIn_of_wl (ro := ro) (m := m) (Q := Q) hok (fun _ _ h => h) l 0 (by simp) f w h
  rw [List.range_eq_range']
  simpa using this
theorem wpIn_reg_draw {ro : Option Nat} {m : Nat} {P : Program} {n : Nat} {id : Nat} {l : List Oper} {Q : Exit → Act → World → Prop} {f : Nat → Value} {w : World} (qs : List Nat) (sch : List (Nat × Nat))
    (hm : P.follows .mixedOrders = true) (hok : okRegion n l.toArray = true) (hns : Region.noSelect l.toArray = true) (hlen : sch.length = l.toArray.size) (hs : schOK l.toArray qs sch (Array.replicate l.toArray.size false) = true)
    (h : ws P l.toArray qs (fun f w => Q .normal (fr n f) w) sch f w.drew) : (Code.region id l.toArray true).wpIn (Fn ro) m P Q (fr n f) w := by
  have h1 := wpAnyE_of_ws hok hns sch _ f _ (Closed.none _ _ _) hs h
  rw [hlen] at h1
  have h2 := any_in (ro := ro) (m := m) no_out (okRegion.noDefer hok) _ _ _ _ (wpAny_of_E _ _ _ _ h1)
  refine Code.wpIn_mono ?_ (wpIn_region_any (id := id) hm h2)
  rintro e a w' ⟨rfl, f', rfl, hk⟩
  exact hk
theorem wpIn_reg_draw2 {ro : Option Nat} {m : Nat} {P : Program} {n : Nat} {id : Nat} {l : List Oper} {Q : Exit → Act → World → Prop} {f : Nat → Value} {w : World} (qs : List Nat) (sch : List (Nat × Nat)) (i j : Nat) (ri rj : List (Nat × Nat))
    (hm : P.follows .mixedOrders = true) (hok : okRegion n l.toArray = true) (hns : Region.noSelect l.toArray = true) (hlen : ri.length + 1 + sch.length = l.toArray.size) (hs : schOKe l.toArray qs (schOK2 l.toArray qs i j ri rj) sch (Array.replicate l.toArray.size false) = true)
    (h : ws P l.toArray qs (fun f w => stepT P l.toArray qs i (ws P l.toArray qs (fun f w => Q .normal (fr n f) w) ri) f w ∧ stepT P l.toArray qs j (ws P l.toArray qs (fun f w => Q .normal (fr n f) w) rj) f w) sch f w.drew) :
    (Code.region id l.toArray true).wpIn (Fn ro) m P Q (fr n f) w := by
  have h1 := wpAnyE_of_ws2 hok hns sch _ f _ (Closed.none _ _ _) hs h
  rw [hlen] at h1
  have h2 := any_in (ro := ro) (m := m) no_out (okRegion.noDefer hok) _ _ _ _ (wpAny_of_E _ _ _ _ h1)
  refine Code.wpIn_mono ?_ (wpIn_region_any (id := id) hm h2)
  rintro e a w' ⟨rfl, f', rfl, hk⟩
  exact hk
end Gk

/- The walk through code, over frames as functions: sequences, tests, blocks, loops, entering and leaving a function. No condition. -/
namespace Gk
open Go
def W {ro : Option Nat} (P : Program) (n : Nat) (c : Code) (Q : Exit → (Nat → Value) → World → Prop) (f : Nat → Value) (w : World) : Prop :=
  c.wpIn (Fn ro) 0 P (fun e a w => ∃ f', a = fr n f' ∧ Q e f' w) (fr n f) w
@[reducible] def Th (N : (Nat → Value) → World → Prop) (Q : Exit → (Nat → Value) → World → Prop) : Exit → (Nat → Value) → World → Prop
  | .normal, f, w => N f w
  | e, f, w => Q e f w
/-- What is asked inside block 'id'. -/
@[reducible] def Bk (id : Nat) (Q : Exit → (Nat → Value) → World → Prop) : Exit → (Nat → Value) → World → Prop
  | .exit id', f, w => cond (Nat.beq id' id) (Q .normal f w) (Q (.exit id') f w)
  | e, f, w => Q e f w
section
variable {ro : Option Nat} {P : Program} {n : Nat} {Q Q' : Exit → (Nat → Value) → World → Prop} {f : Nat → Value} {w : World}
theorem W.mono {c : Code} (h : W (ro := ro) P n c Q f w) (hq : ∀ e f w, Q e f w → Q' e f w) : W (ro := ro) P n c Q' f w :=
  wpIn_mono h fun e a w ⟨f', ha, q⟩ => ⟨f', ha, hq _ _ _ q⟩
theorem W_seq {x y : Code} (h : W (ro := ro) P n x (Th (W (ro := ro) P n y Q) Q) f w) : W (ro := ro) P n (.seq x y) Q f w := by
  refine wpIn_seq (wpIn_mono h ?_)
  rintro e a w' ⟨f', rfl, q⟩
  cases e <;> first | exact q | exact ⟨f', rfl, q⟩
theorem W_reg {id : Nat} {l : List Oper} (hok : okRegion n l.toArray = true) (h : wl P l.toArray (Q .normal) l f w) : W (ro := ro) P n (.region id l.toArray false) Q f w := by
  refine wpIn_reg hok ?_
  have : (fun (f : Nat → Value) w => ∃ f', fr n f = fr n f' ∧ Q .normal f' w) = fun f w => ∃ f', fr n f = fr n f' ∧ Q .normal f' w := rfl
  exact wl_mono (fun f w q => ⟨f, rfl, q⟩) l f w h
where
  wl_mono {P : Program} {ops : Array Oper} {K K' : (Nat → Value) → World → Prop} (hk : ∀ f w, K f w → K' f w) : ∀ (l : List Oper) (f : Nat → Value) (w : World), wl P ops K l f w → wl P ops K' l f w
    | [], _, _, h => hk _ _ h
    | o :: r, f, w, h => by
      unfold wl at h ⊢
      split
      · rename_i hw; rw [if_pos hw] at h; exact h.mono fun v w' h' => wl_mono hk r _ _ h'
      · rename_i hw; rw [if_neg hw] at h; exact wl_mono hk r _ _ h
theorem ws_mono {ops : Array Oper} {qs : List Nat} {K K' : (Nat → Value) → World → Prop} (hk : ∀ f w, K f w → K' f w) : ∀ (l : List (Nat × Nat)) (f : Nat → Value) (w : World), ws P ops qs K l f w → ws P ops qs K' l f w
  | [], _, _, h => hk _ _ h
  | (i, t) :: r, f, w, h => by
    unfold ws at h ⊢
    cases ho : ops[i]? with
    | none => rw [ho] at h; exact h.elim
    | some o =>
      rw [ho] at h
      dsimp only at h ⊢
      by_cases hw : wantF ops f o = true
      · rw [if_pos hw] at h ⊢
        match t, h with
        | 0, ⟨v, hv, h'⟩ => exact ⟨v, hv, ws_mono hk r _ _ h'⟩
        | 1, ⟨v, hv, h'⟩ => exact ⟨v, hv, ws_mono hk r _ _ h'⟩
        | t + 2, h => exact Stp.mono h fun v w' h' => ⟨h'.1, ws_mono hk r _ _ h'.2⟩
      · rw [if_neg hw] at h ⊢
        exact ws_mono hk r _ _ h
theorem W_draw {id : Nat} {l : List Oper} (qs : List Nat) (sch : List (Nat × Nat)) (hm : P.follows .mixedOrders = true) (hok : okRegion n l.toArray = true) (hns : Region.noSelect l.toArray = true)
    (hlen : sch.length = l.toArray.size) (hs : schOK l.toArray qs sch (Array.replicate l.toArray.size false) = true)
    (h : ws P l.toArray qs (Q .normal) sch f w.drew) : W (ro := ro) P n (.region id l.toArray true) Q f w :=
  wpIn_reg_draw qs sch hm hok hns hlen hs (ws_mono (fun f _ q => ⟨f, rfl, q⟩) _ _ _ h)
theorem stepT_of_ws {ops : Array Oper} {qs : List Nat} {K K' : (Nat → Value) → World → Prop} (hk : ∀ f w, K f w → K' f w) {i : Nat} {r : List (Nat × Nat)} (h : ws P ops qs K ((i, 2) :: r) f w) : stepT P ops qs i (ws P ops qs K' r) f w := by
  unfold ws at h
  unfold stepT
  cases ho : ops[i]? with
  | none => rw [ho] at h; exact h
  | some o =>
    rw [ho] at h
    dsimp only at h ⊢
    by_cases hw : wantF ops f o = true
    · rw [if_pos hw] at h ⊢
      exact Stp.mono h fun v w' h' => ⟨h'.1, ws_mono hk r _ _ h'.2⟩
    · rw [if_neg hw] at h ⊢
      exact ws_mono hk r _ _ h
theorem W_draw2 {id : Nat} {l : List Oper} (qs : List Nat) (sch : List (Nat × Nat)) (i j : Nat) (ri rj : List (Nat × Nat)) (hm : P.follows .mixedOrders = true) (hok : okRegion n l.toArray = true) (hns : Region.noSelect l.toArray = true)
    (hlen : ri.length + 1 + sch.length = l.toArray.size) (hs : schOKe l.toArray qs (schOK2 l.toArray qs i j ri rj) sch (Array.replicate l.toArray.size false) = true)
    (h : ws P l.toArray qs (fun f w => ws P l.toArray qs (Q .normal) ((i, 2) :: ri) f w ∧ ws P l.toArray qs (Q .normal) ((j, 2) :: rj) f w) sch f w.drew) : W (ro := ro) P n (.region id l.toArray true) Q f w :=
  wpIn_reg_draw2 qs sch i j ri rj hm hok hns hlen hs (ws_mono (fun f _ q => ⟨stepT_of_ws (fun f _ q => ⟨f, rfl, q⟩) q.1, stepT_of_ws (fun f _ q => ⟨f, rfl, q⟩) q.2⟩) _ _ _ h)
theorem W_skip (h : Q .normal f w) : W (ro := ro) P n .skip Q f w := wpIn_skip ⟨f, rfl, h⟩
theorem W_exit {id : Nat} (h : Q (.exit id) f w) : W (ro := ro) P n (.exit id) Q f w := wpIn_exit ⟨f, rfl, h⟩
theorem W_ret (h : Q .ret f w) : W (ro := ro) P n .ret Q f w := wpIn_ret ⟨f, rfl, h⟩
theorem W_cond {c : Operand} {x y : Code} (b : Bool) (ho : okO n c = true) (hc : ev f c = .bool b) (ht : b = true → W (ro := ro) P n x Q f w) (hf : b = false → W (ro := ro) P n y Q f w) : W (ro := ro) P n (.cond c x y) Q f w :=
  wpIn_cond_split (t := b) (by rw [fr_eval n f c ho]; exact hc) ht hf
theorem W_block {id : Nat} {c : Code} (h : W (ro := ro) P n c (Bk id Q) f w) : W (ro := ro) P n (.block id c) Q f w := by
  refine wpIn_block (wpIn_mono h ?_)
  rintro e a w' ⟨f', rfl, q⟩
  cases e with
  | exit id' =>
    simp only [Exit.inBlock, Bk] at *
    by_cases hid : id' = id
    · rw [if_pos hid]
      subst hid
      have : Nat.beq id' id' = true := by simp
      rw [this] at q
      exact ⟨f', rfl, q⟩
    · rw [if_neg hid]
      have : Nat.beq id' id = false := by
        cases h' : Nat.beq id' id
        · rfl
        · exact absurd (Nat.eq_of_beq_eq_true h') hid
      rw [this] at q
      exact ⟨f', rfl, q⟩
  | _ => exact ⟨f', rfl, q⟩
theorem W_mid (A : (Nat → Value) → World → Prop) {x : Code} (h : W (ro := ro) P n x (Th A Q) f w) (hy : ∀ f w, A f w → Q .normal f w) : W (ro := ro) P n x Q f w :=
  h.mono fun e f w q => by cases e <;> first | exact hy _ _ q | exact q
theorem W_th {y : Code} (h : W (ro := ro) P n y Q f w) : Th (W (ro := ro) P n y Q) Q' .normal f w := h
theorem th_x {N : (Nat → Value) → World → Prop} {id : Nat} (h : Q (.exit id) f w) : Th N Q (.exit id) f w := h
theorem th_r {N : (Nat → Value) → World → Prop} (h : Q .ret f w) : Th N Q .ret f w := h
theorem bk_n {id : Nat} (h : Q .normal f w) : Bk id Q .normal f w := h
theorem bk_r {id : Nat} (h : Q .ret f w) : Bk id Q .ret f w := h
theorem bk_x {id : Nat} (h : Q .normal f w) : Bk id Q (.exit id) f w := by
  show cond (Nat.beq id id) _ _
  have : Nat.beq id id = true := by simp
  rw [this]; exact h
def iterN {S X : Type} (body : S → Option (S ⊕ X)) : Nat → S → Option X
  | 0, _ => none
  | k + 1, s => match body s with
    | none => none
    | some (.inl s') => iterN body k s'
    | some (.inr x) => some x
theorem iterN_mono {S X : Type} (body : S → Option (S ⊕ X)) : ∀ (k : Nat) (s : S) (x : X), iterN body k s = some x → ∀ m, k ≤ m → iterN body m s = some x
  | 0, _, _, h, _, _ => by simp [iterN] at h
  | k + 1, s, x, h, m, hm => by
    obtain ⟨m, rfl⟩ : ∃ j, m = j + 1 := ⟨m - 1, by omega⟩
    unfold iterN at h ⊢
    cases hb : body s with
    | none => rw [hb] at h; cases h
    | some r =>
      rw [hb] at h
      cases r with
      | inl s' => exact iterN_mono body k s' x h m (by omega)
      | inr y => exact h
noncomputable def iterC {S X : Type} (body : S → Option (S ⊕ X)) (s : S) : Option X :=
  @dite _ (∃ k x, iterN body k s = some x) (Classical.propDecidable _) (fun h => some (Classical.choose (Classical.choose_spec h))) (fun _ => none)
theorem iterC_some {S X : Type} {body : S → Option (S ⊕ X)} {s : S} {x : X} : iterC body s = some x ↔ ∃ k, iterN body k s = some x := by
  unfold iterC
  constructor
  · intro h
    split at h
    · rename_i h'
      exact ⟨_, by rw [← h]; exact Classical.choose_spec (Classical.choose_spec h')⟩
    · cases h
  · rintro ⟨k, hk⟩
    have h' : ∃ k x, iterN body k s = some x := ⟨k, x, hk⟩
    rw [dif_pos h']
    have h2 := Classical.choose_spec (Classical.choose_spec h')
    have h3 := iterN_mono body _ _ _ h2 (max (Classical.choose h') k) (by omega)
    have h4 := iterN_mono body _ _ _ hk (max (Classical.choose h') k) (by omega)
    rw [h3] at h4
    exact h4
theorem iterC_step {S X : Type} (body : S → Option (S ⊕ X)) (s : S) :
    iterC body s = (body s).bind fun | .inl s' => iterC body s' | .inr x => some x := by
  apply Option.ext
  intro x
  rw [iterC_some]
  constructor
  · rintro ⟨k, hk⟩
    cases k with
    | zero => simp [iterN] at hk
    | succ k =>
      unfold iterN at hk
      cases hb : body s with
      | none => rw [hb] at hk; cases hk
      | some r =>
        rw [hb] at hk
        cases r with
        | inl s' => simp only [obs]; exact iterC_some.2 ⟨k, hk⟩
        | inr y => simpa using hk
  · intro h
    cases hb : body s with
    | none => rw [hb] at h; cases h
    | some r =>
      rw [hb] at h
      cases r with
      | inl s' =>
        simp only [obs] at h
        obtain ⟨k, hk⟩ := iterC_some.1 h
        exact ⟨k + 1, by unfold iterN; rw [hb]; exact hk⟩
      | inr y => exact ⟨1, by unfold iterN; rw [hb]; simpa using h⟩
theorem W_loop {S X : Type} {body : S → Option (S ⊕ X)} (Inv : S → (Nat → Value) → World → Prop) {x : X} {s0 : S} {c : Code} (H : iterC body s0 = some x) (h0 : Inv s0 f w)
    (round : ∀ s r f w, Inv s f w → body s = some r → (∀ y, r = .inr y → y = x) → W (ro := ro) P n c (Th (fun f' w' => ∃ s', r = .inl s' ∧ Inv s' f' w') Q) f w) : W (ro := ro) P n (.loop c) Q f w := by
  obtain ⟨k, hk⟩ := iterC_some.1 H
  refine wpIn_loop_ghost (fun k a w => ∃ s f, a = fr n f ∧ Inv s f w ∧ iterN body k s = some x) k ⟨s0, f, rfl, h0, hk⟩ ?_
  rintro k a w ⟨s, f, rfl, hI, hk⟩
  cases k with
  | zero => simp [iterN] at hk
  | succ k =>
    cases hb : body s with
    | none => unfold iterN at hk; rw [hb] at hk; cases hk
    | some r =>
      have hr : ∀ y, r = .inr y → y = x := by
        rintro y rfl
        unfold iterN at hk
        rw [hb] at hk
        simpa using hk
      refine wpIn_mono (round s r f w hI hb hr) ?_
      rintro e a' w' ⟨f', rfl, q⟩
      cases e with
      | normal =>
        obtain ⟨s', rfl, hI'⟩ := q
        refine ⟨k, by omega, s', f', rfl, hI', ?_⟩
        unfold iterN at hk
        rw [hb] at hk
        exact hk
      | _ => exact ⟨f', rfl, q⟩
theorem W_loopG (Inv : Nat → (Nat → Value) → World → Prop) (k : Nat) {c : Code} (h0 : Inv k f w)
    (round : ∀ k f w, Inv k f w → W (ro := ro) P n c (Th (fun f' w' => ∃ k', k' < k ∧ Inv k' f' w') Q) f w) : W (ro := ro) P n (.loop c) Q f w := by
  refine wpIn_loop_ghost (fun k a w => ∃ f, a = fr n f ∧ Inv k f w) k ⟨f, rfl, h0⟩ ?_
  rintro k a w ⟨f, rfl, hI⟩
  refine wpIn_mono (round k f w hI) ?_
  rintro e a' w' ⟨f', rfl, q⟩
  cases e with
  | normal =>
    obtain ⟨k', hk, hI'⟩ := q
    exact ⟨k', hk, f', rfl, hI'⟩
  | _ => exact ⟨f', rfl, q⟩
theorem argsF_get : ∀ (l : List Value) (t : Nat), argsF l t = (l[t]?).getD undef
  | [], t => by simp [argsF]
  | v :: r, t => by
    unfold argsF
    cases t with
    | zero => rfl
    | succ t =>
      have : Nat.beq (t + 1) 0 = false := rfl
      rw [this]
      simp [argsF_get r t]
theorem frame_args (l : List Value) (n : Nat) (h : l.length ≤ n) : ({ tmps := l.toArray ++ Array.replicate (n - l.toArray.size) undef, defers := [] } : Act) = fr n (argsF l) := by
  have : l.toArray ++ Array.replicate (n - l.toArray.size) undef = (fr n (argsF l)).tmps := by
    apply Array.ext_getElem?
    intro i
    rw [Array.getElem?_append]
    by_cases hi : i < n
    · rw [fr_get n _ i hi, argsF_get]
      by_cases h1 : i < l.length
      · rw [if_pos (by simpa using h1)]; simp [h1]
      · rw [if_neg (by simpa using h1), Array.getElem?_replicate, if_pos (by simp; omega)]
        simp [List.getElem?_eq_none (Nat.le_of_not_lt h1)]
    · rw [fr_none n _ i (by omega), if_neg (by simp; omega), Array.getElem?_replicate, if_neg (by simp; omega)]
  have hd : dec (argsF l n) = [] := by
    rw [argsF_get, List.getElem?_eq_none h]; rfl
  rw [this]
  simp only [fr, hd]
abbrev mk2 (D D' : Nat) : Value := .agg #[.pointer (some ⟨D, 0, none⟩), .pointer (some ⟨D', 0, none⟩)]
def Rt (P : Program) (fn : Func) (n : Nat) (R : Ending → World → Prop) : Exit → (Nat → Value) → World → Prop
  | .normal, f, w | .ret, f, w =>
    (dec (f n) = [] ∧ ∃ v, (results fn (fr n f).tmps).run P w = .ok v w ∧ R (.returned v) w) ∨
    (∃ D, f n = .pointer (some ⟨D, 0, none⟩) ∧ w.heap[D]? = some (.deferred (some [])) ∧ ∃ v, (results fn (fr n f).tmps).run P (w.putObj D (.deferred none)) = .ok v (w.putObj D (.deferred none)) ∧ R (.returned v) (w.putObj D (.deferred none))) ∨
    (∃ D D', f n = mk2 D D' ∧ D ≠ D' ∧ w.heap[D]? = some (.deferred (some [])) ∧ w.heap[D']? = some (.deferred (some [])) ∧ ∃ v, (results fn (fr n f).tmps).run P ((w.putObj D (.deferred none)).putObj D' (.deferred none)) = .ok v ((w.putObj D (.deferred none)).putObj D' (.deferred none)) ∧ R (.returned v) ((w.putObj D (.deferred none)).putObj D' (.deferred none)))
  | _, _, _ => False
theorem calls_W {g : FuncId} {fn : Func} {c : Code} {l : List Value} {R : Ending → World → Prop} (hf : P.funcs[g]? = some fn) (hb : fn.body = some c) (hn : fn.ntmps = n) (hl : Nat.ble l.length n = true)
    (h : W (ro := none) P n c (Rt P fn n R) (argsF l) w) : Calls P g l.toArray w R := by
  refine (callsIn_wide (n := 0)).1 (callsIn_of_wp_marks hf hb trivial ?_ rfl)
  rw [hn, frame_args l n (Nat.le_of_ble_eq_true hl)]
  refine wpIn_mono h ?_
  rintro e a w' ⟨f', rfl, q⟩
  have key : Rt P fn n R .ret f' w' → LeavesInM Fence.wide 0 P fn (fr n f').tmps R (fr n f').defers .returning w' := by
    rintro (⟨h0, v, hv, hR⟩ | ⟨D, hD, hK, v, hv, hR⟩ | ⟨D, D', hD, hne, hK, hK', v, hv, hR⟩)
    · show LeavesInM Fence.wide 0 P fn (fr n f').tmps R (dec (f' n)) .returning w'
      rw [h0]
      exact ⟨v, hv, hR⟩
    · show LeavesInM Fence.wide 0 P fn (fr n f').tmps R (dec (f' n)) .returning w'
      rw [hD]
      exact ⟨by simp, .inl ⟨D, _, rfl, run_takeDeferred hK, ⟨v, hv, hR⟩⟩⟩
    · show LeavesInM Fence.wide 0 P fn (fr n f').tmps R (dec (f' n)) .returning w'
      rw [hD]
      have hK2 : (w'.putObj D (.deferred none)).heap[D']? = some (.deferred (some [])) := (World.putObj_heap_other (Ne.symm hne)).trans hK'
      exact ⟨by simp, .inl ⟨D, _, rfl, run_takeDeferred hK, by simp, .inl ⟨D', _, rfl, run_takeDeferred hK2, ⟨v, hv, hR⟩⟩⟩⟩
  cases e <;> first | exact q.elim | exact key q
theorem fr_getD (n : Nat) (f : Nat → Value) (t : Nat) (h : Nat.blt t n = true) : (fr n f).tmps.getD t undef = f t := by
  rw [Array.getD_eq_getD_getElem?, fr_get n f t (by simpa using h)]; rfl
theorem rt0 {fn : Func} {R : Ending → World → Prop} (hr : fn.results = #[]) (hm : f n = undef) (h : R (.returned (.tuple #[])) w) : Rt P fn n R .ret f w :=
  .inl ⟨by rw [hm]; rfl, _, results_none hr _ _ _, h⟩
theorem rt1 {fn : Func} {R : Ending → World → Prop} {t : Nat} (v : Value) (hr : fn.results = #[.tmp t]) (ht : Nat.blt t n = true) (hv : f t = v) (hm : f n = undef) (h : R (.returned v) w) : Rt P fn n R .ret f w :=
  .inl ⟨by rw [hm]; rfl, v, by rw [results_tmp hr, fr_getD n f t ht, hv], h⟩
theorem rt2 {fn : Func} {R : Ending → World → Prop} {t u : Nat} (v1 v2 : Value) (hr : fn.results = #[.tmp t, .tmp u]) (ht : Nat.blt t n = true) (hu : Nat.blt u n = true) (hv1 : f t = v1) (hv2 : f u = v2)
    (hm : f n = undef) (h : R (.returned (.tuple #[v1, v2])) w) : Rt P fn n R .ret f w :=
  .inl ⟨by rw [hm]; rfl, _, by rw [results_tmp2 hr, fr_getD n f t ht, fr_getD n f u hu, hv1, hv2], h⟩
theorem rtn {fn : Func} {R : Ending → World → Prop} (h : Rt P fn n R .ret f w) : Rt P fn n R .normal f w := h
end
section
variable {P : Program} {ops : Array Oper} {K : (Nat → Value) → World → Prop} {r : List Oper} {o : Oper} {f : Nat → Value} {w : World}
theorem wl_nil (h : K f w) : wl P ops K [] f w := h
theorem wl_stp (hw : wantF ops f o = true) (h : Stp P o f w fun v w' => wl P ops K r (updO f o.dst v) w') : wl P ops K (o :: r) f w := by
  unfold wl; rw [if_pos hw]; exact .inl h
theorem wl_yield {l : Nat} {g : FuncId} {tmps : Array Value} {assign body : Code} (hw : wantF ops f o = true) (hy : (execOp (ev f) o).run P w = .ok (.round l g tmps assign body) w)
    (h : RoundIn Fence.wide 0 P l g tmps assign body w fun e w' => ∃ v, e = .returned v ∧ wl P ops K r (updO f o.dst v) w') : wl P ops K (o :: r) f w := by
  unfold wl; rw [if_pos hw]; exact .inr ⟨l, g, tmps, assign, body, hy, h⟩
theorem wl_skip (hw : wantF ops f o = false) (h : wl P ops K r (updO f o.dst undef) w) : wl P ops K (o :: r) f w := by
  unfold wl; rw [if_neg (by rw [hw]; simp)]; exact h
theorem wl_q {v : Value} (hw : wantF ops f o = true) (hq : Qt P o f w v) (h : wl P ops K r (updO f o.dst v) w) : wl P ops K (o :: r) f w :=
  wl_stp hw (hq.stp h)
theorem wl_a {v : Value} (hw : wantF ops f o = true) (hq : Qa P o f v) (h : wl P ops K r (updO f o.dst v) w) : wl P ops K (o :: r) f w :=
  wl_stp hw ((hq.qt w).stp h)
end
section
variable {P : Program} {ops : Array Oper} {qs : List Nat} {K : (Nat → Value) → World → Prop} {r : List (Nat × Nat)} {i : Nat} {o : Oper} {f : Nat → Value} {w : World}
theorem ws_nil (h : K f w) : ws P ops qs K [] f w := h
theorem ws_a {v : Value} (ho : ops[i]? = some o) (hw : wantF ops f o = true) (hq : Qa P o f v) (h : ws P ops qs K r (updO f o.dst v) w) : ws P ops qs K ((i, 0) :: r) f w := by
  unfold ws; rw [ho]; dsimp only; rw [if_pos hw]; exact ⟨v, hq, h⟩
theorem ws_q {v : Value} (ho : ops[i]? = some o) (hw : wantF ops f o = true) (hq : Qt P o f w v) (h : ws P ops qs K r (updO f o.dst v) w) : ws P ops qs K ((i, 1) :: r) f w := by
  unfold ws; rw [ho]; dsimp only; rw [if_pos hw]; exact ⟨v, hq, h⟩
theorem ws_stp (ho : ops[i]? = some o) (hw : wantF ops f o = true) (h : Stp P o f w fun v w' => (Ext w w' ∨ clearOf .any ops qs i = true) ∧ ws P ops qs K r (updO f o.dst v) w') : ws P ops qs K ((i, 2) :: r) f w := by
  unfold ws; rw [ho]; dsimp only; rw [if_pos hw]; exact h
theorem ws_skip {t : Nat} (ho : ops[i]? = some o) (hw : wantF ops f o = false) (h : ws P ops qs K r (updO f o.dst undef) w) : ws P ops qs K ((i, t) :: r) f w := by
  unfold ws; rw [ho]; dsimp only; rw [if_neg (by rw [hw]; simp)]; exact h
end
end Gk

/- What the operations that only compute come to: numbers, tests, tuples. No condition. -/
namespace Gk
open Go
def u8 (x : UInt8) : Value := .int .u8 (x.toNat : Int)
def u32 (x : UInt32) : Value := .int .u32 (x.toNat : Int)
def u64 (x : UInt64) : Value := .int .u64 (x.toNat : Int)
def i64 (x : Int) : Value := .int .i64 x
def str (l : List UInt8) : Value := .string ⟨l.toArray⟩
def wI (x : Int) : Int := IntKind.i64.wrap x
theorem wI_of {x : Int} (h : -9223372036854775808 ≤ x) (h' : x ≤ 9223372036854775807) : wI x = x := by
  simp only [wI, IntKind.wrap, IntKind.signed, IntKind.bits]
  simp
  omega
section
variable {P : Program} {o : Oper} {f : Nat → Value}
theorem q_move {x : Operand} {v : Value} (ho : o.op = .move x) (hx : ev f x = v) : Qa P o f v := by
  intro w; simp [execOp, ho, hx]
theorem q_assign {x : Operand} {v : Value} (ho : o.op = .assign x) (hx : ev f x = v) : Qa P o f v := by
  intro w; simp [execOp, ho, hx]
theorem q_pick_t {c a b : Operand} {v : Value} (ho : o.op = .pick c a b) (hc : ev f c = .bool true) (ha : ev f a = v) : Qa P o f v := by
  intro w; simp [execOp, ho, hc, ha, asBool]
theorem q_pick_f {c a b : Operand} {v : Value} (ho : o.op = .pick c a b) (hc : ev f c = .bool false) (hb : ev f b = v) : Qa P o f v := by
  intro w; simp [execOp, ho, hc, hb, asBool]
theorem q_extract {x : Operand} {i : Nat} {vs : Array Value} {v : Value} (ho : o.op = .extract x i) (hx : ev f x = .tuple vs) (hv : vs[i]? = some v) : Qa P o f v := by
  intro w; simp [execOp, ho, hx, Instr.extract, hv]
theorem q_not {t : TypeId} {x : Operand} {b : Bool} (ho : o.op = .unOp .not t x) (hx : ev f x = .bool b) : Qa P o f (.bool !b) := by
  intro w; simp [execOp, ho, hx, Op.unary]
section
variable {x y : Operand} {t t' : TypeId} {a b : Int}
theorem q_addI (ho : o.op = .binOp .add t x y t') (hx : ev f x = i64 a) (hy : ev f y = i64 b) : Qa P o f (i64 (wI (a + b))) := by
  intro w; simp [execOp, ho, hx, hy, i64, eqGuard, binOp, Op.intArith, wI]
theorem q_subI (ho : o.op = .binOp .sub t x y t') (hx : ev f x = i64 a) (hy : ev f y = i64 b) : Qa P o f (i64 (wI (a - b))) := by
  intro w; simp [execOp, ho, hx, hy, i64, eqGuard, binOp, Op.intArith, wI]
theorem q_mulI (ho : o.op = .binOp .mul t x y t') (hx : ev f x = i64 a) (hy : ev f y = i64 b) : Qa P o f (i64 (wI (a * b))) := by
  intro w; simp [execOp, ho, hx, hy, i64, eqGuard, binOp, Op.intArith, wI]
theorem q_ltI (ho : o.op = .binOp .lss t x y t') (hx : ev f x = i64 a) (hy : ev f y = i64 b) : Qa P o f (.bool (decide (a < b))) := by
  intro w; simp [execOp, ho, hx, hy, i64, eqGuard, binOp, Op.intCmp]
theorem q_leI (ho : o.op = .binOp .leq t x y t') (hx : ev f x = i64 a) (hy : ev f y = i64 b) : Qa P o f (.bool (decide (a ≤ b))) := by
  intro w; simp [execOp, ho, hx, hy, i64, eqGuard, binOp, Op.intCmp]
theorem q_gtI (ho : o.op = .binOp .gtr t x y t') (hx : ev f x = i64 a) (hy : ev f y = i64 b) : Qa P o f (.bool (decide (b < a))) := by
  intro w; simp [execOp, ho, hx, hy, i64, eqGuard, binOp, Op.intCmp]
theorem q_geI (ho : o.op = .binOp .geq t x y t') (hx : ev f x = i64 a) (hy : ev f y = i64 b) : Qa P o f (.bool (decide (b ≤ a))) := by
  intro w; simp [execOp, ho, hx, hy, i64, eqGuard, binOp, Op.intCmp]
theorem q_eqI (ho : o.op = .binOp .eql t x y t') (hx : ev f x = i64 a) (hy : ev f y = i64 b) : Qa P o f (.bool (decide (a = b))) := by
  intro w; simp [execOp, ho, hx, hy, i64, eqGuard, binOp, Op.intCmp]; rfl
theorem q_neI (ho : o.op = .binOp .neq t x y t') (hx : ev f x = i64 a) (hy : ev f y = i64 b) : Qa P o f (.bool (!decide (a = b))) := by
  intro w; simp [execOp, ho, hx, hy, i64, eqGuard, binOp, Op.intCmp]; rfl
end
theorem wrap_u8 (n : Int) : IntKind.u8.wrap n = n % 256 := by
  simp [IntKind.wrap, IntKind.signed, IntKind.bits]
theorem bv_u8 (a : UInt8) : BitVec.ofInt IntKind.u8.bits (a.toNat : Int) = a.toBitVec := by
  apply BitVec.eq_of_toNat_eq
  simp [IntKind.bits]
theorem back_u8 (r : UInt8) : IntKind.u8.wrap ((r.toBitVec.toNat : Nat) : Int) = (r.toNat : Int) := by
  rw [wrap_u8]
  have := r.toNat_lt
  have h : r.toBitVec.toNat = r.toNat := rfl
  rw [h]
  omega
section
variable {x y : Operand} {t t' : TypeId} {a b : UInt8}
theorem q_xor8 (ho : o.op = .binOp .xor t x y t') (hx : ev f x = u8 a) (hy : ev f y = u8 b) : Qa P o f (u8 (a ^^^ b)) := by
  intro w
  have h := back_u8 (a ^^^ b)
  rw [UInt8.toBitVec_xor, ← bv_u8, ← bv_u8] at h
  unfold execOp; rw [ho]; dsimp only; rw [hx, hy]; exact congrArg (fun n : Int => (Result.ok (Next.value (Value.int .u8 n)) w : Result Next)) h
theorem q_and8 (ho : o.op = .binOp .and t x y t') (hx : ev f x = u8 a) (hy : ev f y = u8 b) : Qa P o f (u8 (a &&& b)) := by
  intro w
  have h := back_u8 (a &&& b)
  rw [UInt8.toBitVec_and, ← bv_u8, ← bv_u8] at h
  unfold execOp; rw [ho]; dsimp only; rw [hx, hy]; exact congrArg (fun n : Int => (Result.ok (Next.value (Value.int .u8 n)) w : Result Next)) h
theorem q_or8 (ho : o.op = .binOp .or t x y t') (hx : ev f x = u8 a) (hy : ev f y = u8 b) : Qa P o f (u8 (a ||| b)) := by
  intro w
  have h := back_u8 (a ||| b)
  rw [UInt8.toBitVec_or, ← bv_u8, ← bv_u8] at h
  unfold execOp; rw [ho]; dsimp only; rw [hx, hy]; exact congrArg (fun n : Int => (Result.ok (Next.value (Value.int .u8 n)) w : Result Next)) h
theorem q_add8 (ho : o.op = .binOp .add t x y t') (hx : ev f x = u8 a) (hy : ev f y = u8 b) : Qa P o f (u8 (a + b)) := by
  intro w
  have h : IntKind.u8.wrap ((a.toNat : Int) + (b.toNat : Int)) = ((a + b).toNat : Int) := by
    rw [wrap_u8, UInt8.toNat_add]; omega
  unfold execOp; rw [ho]; dsimp only; rw [hx, hy]; exact congrArg (fun n : Int => (Result.ok (Next.value (Value.int .u8 n)) w : Result Next)) h
theorem q_rem8 (ho : o.op = .binOp .rem t x y t') (hx : ev f x = u8 a) (hy : ev f y = u8 b) (h0 : b ≠ 0) : Qa P o f (u8 (a % b)) := by
  intro w
  have h : ((a.toNat : Int).tmod (b.toNat : Int)) = ((a % b).toNat : Int) := by
    rw [UInt8.toNat_mod, ← Int.ofNat_tmod]
  have h1 : ¬ ((b.toNat : Int) = 0) := fun e => h0 (UInt8.toNat_inj.1 (by simpa using e))
  unfold execOp; rw [ho]; dsimp only; rw [hx, hy]
  simp only [u8, eqGuard, binOp, Op.intDiv, if_neg h1, h]
  rfl
theorem eqd_u8 (a b : UInt8) : ((a.toNat : Int) == (b.toNat : Int)) = decide (a = b) := by
  by_cases h : a = b
  · subst h; simp
  · have : ¬ ((a.toNat : Int) = (b.toNat : Int)) := fun e => h (UInt8.toNat_inj.1 (by exact_mod_cast e))
    simp [h, this]
theorem q_eq8 (ho : o.op = .binOp .eql t x y t') (hx : ev f x = u8 a) (hy : ev f y = u8 b) : Qa P o f (.bool (decide (a = b))) := by
  intro w
  have h := eqd_u8 a b
  simp only [execOp, ho, hx, hy, u8, eqGuard, binOp, Op.intCmp]
  simp only [Sem.run_bind, Sem.run_pure, Result.andThen_ok, h, ne_eq, not_true_eq_false, if_false, bne]
  simp [h]
theorem q_ne8 (ho : o.op = .binOp .neq t x y t') (hx : ev f x = u8 a) (hy : ev f y = u8 b) : Qa P o f (.bool (!decide (a = b))) := by
  intro w
  have h := eqd_u8 a b
  simp only [execOp, ho, hx, hy, u8, eqGuard, binOp, Op.intCmp]
  simp only [Sem.run_bind, Sem.run_pure, Result.andThen_ok, h, ne_eq, not_true_eq_false, if_false, bne]
  simp [h]
end
theorem wrap_u32 (n : Int) : IntKind.u32.wrap n = n % 4294967296 := by
  simp [IntKind.wrap, IntKind.signed, IntKind.bits]
theorem bv_u32 (a : UInt32) : BitVec.ofInt IntKind.u32.bits (a.toNat : Int) = a.toBitVec := by
  apply BitVec.eq_of_toNat_eq
  simp [IntKind.bits]
theorem back_u32 (r : UInt32) : IntKind.u32.wrap ((r.toBitVec.toNat : Nat) : Int) = (r.toNat : Int) := by
  rw [wrap_u32]
  have := r.toNat_lt
  have h : r.toBitVec.toNat = r.toNat := rfl
  rw [h]
  omega
section
variable {x y : Operand} {t t' : TypeId} {a b : UInt32}
theorem q_xor32 (ho : o.op = .binOp .xor t x y t') (hx : ev f x = u32 a) (hy : ev f y = u32 b) : Qa P o f (u32 (a ^^^ b)) := by
  intro w
  have h := back_u32 (a ^^^ b)
  rw [UInt32.toBitVec_xor, ← bv_u32, ← bv_u32] at h
  unfold execOp; rw [ho]; dsimp only; rw [hx, hy]; exact congrArg (fun n : Int => (Result.ok (Next.value (Value.int .u32 n)) w : Result Next)) h
theorem q_and32 (ho : o.op = .binOp .and t x y t') (hx : ev f x = u32 a) (hy : ev f y = u32 b) : Qa P o f (u32 (a &&& b)) := by
  intro w
  have h := back_u32 (a &&& b)
  rw [UInt32.toBitVec_and, ← bv_u32, ← bv_u32] at h
  unfold execOp; rw [ho]; dsimp only; rw [hx, hy]; exact congrArg (fun n : Int => (Result.ok (Next.value (Value.int .u32 n)) w : Result Next)) h
theorem q_or32 (ho : o.op = .binOp .or t x y t') (hx : ev f x = u32 a) (hy : ev f y = u32 b) : Qa P o f (u32 (a ||| b)) := by
  intro w
  have h := back_u32 (a ||| b)
  rw [UInt32.toBitVec_or, ← bv_u32, ← bv_u32] at h
  unfold execOp; rw [ho]; dsimp only; rw [hx, hy]; exact congrArg (fun n : Int => (Result.ok (Next.value (Value.int .u32 n)) w : Result Next)) h
theorem q_add32 (ho : o.op = .binOp .add t x y t') (hx : ev f x = u32 a) (hy : ev f y = u32 b) : Qa P o f (u32 (a + b)) := by
  intro w
  have h : IntKind.u32.wrap ((a.toNat : Int) + (b.toNat : Int)) = ((a + b).toNat : Int) := by
    rw [wrap_u32, UInt32.toNat_add]; omega
  unfold execOp; rw [ho]; dsimp only; rw [hx, hy]; exact congrArg (fun n : Int => (Result.ok (Next.value (Value.int .u32 n)) w : Result Next)) h
theorem eqd_u32 (a b : UInt32) : ((a.toNat : Int) == (b.toNat : Int)) = decide (a = b) := by
  by_cases h : a = b
  · subst h; simp
  · have : ¬ ((a.toNat : Int) = (b.toNat : Int)) := fun e => h (UInt32.toNat_inj.1 (by exact_mod_cast e))
    simp [h, this]
theorem q_ne32 (ho : o.op = .binOp .neq t x y t') (hx : ev f x = u32 a) (hy : ev f y = u32 b) : Qa P o f (.bool (!decide (a = b))) := by
  intro w
  have h := eqd_u32 a b
  simp only [execOp, ho, hx, hy, u32, eqGuard, binOp, Op.intCmp]
  simp only [Sem.run_bind, Sem.run_pure, Result.andThen_ok, h, ne_eq, not_true_eq_false, if_false, bne]
  simp [h]
end
theorem wrap_u64 (n : Int) : IntKind.u64.wrap n = n % 18446744073709551616 := by
  simp [IntKind.wrap, IntKind.signed, IntKind.bits]
theorem bv_u64 (a : UInt64) : BitVec.ofInt IntKind.u64.bits (a.toNat : Int) = a.toBitVec := by
  apply BitVec.eq_of_toNat_eq
  simp [IntKind.bits]
theorem back_u64 (r : UInt64) : IntKind.u64.wrap ((r.toBitVec.toNat : Nat) : Int) = (r.toNat : Int) := by
  rw [wrap_u64]
  have := r.toNat_lt
  have h : r.toBitVec.toNat = r.toNat := rfl
  rw [h]
  omega
section
variable {x y : Operand} {t t' : TypeId} {a b : UInt64}
theorem q_or64 (ho : o.op = .binOp .or t x y t') (hx : ev f x = u64 a) (hy : ev f y = u64 b) : Qa P o f (u64 (a ||| b)) := by
  intro w
  have h := back_u64 (a ||| b)
  rw [UInt64.toBitVec_or, ← bv_u64, ← bv_u64] at h
  unfold execOp; rw [ho]; dsimp only; rw [hx, hy]; exact congrArg (fun n : Int => (Result.ok (Next.value (Value.int .u64 n)) w : Result Next)) h
theorem q_add64 (ho : o.op = .binOp .add t x y t') (hx : ev f x = u64 a) (hy : ev f y = u64 b) : Qa P o f (u64 (a + b)) := by
  intro w
  have h : IntKind.u64.wrap ((a.toNat : Int) + (b.toNat : Int)) = ((a + b).toNat : Int) := by
    rw [wrap_u64, UInt64.toNat_add]; omega
  unfold execOp; rw [ho]; dsimp only; rw [hx, hy]; exact congrArg (fun n : Int => (Result.ok (Next.value (Value.int .u64 n)) w : Result Next)) h
theorem q_mul64 (ho : o.op = .binOp .mul t x y t') (hx : ev f x = u64 a) (hy : ev f y = u64 b) : Qa P o f (u64 (a * b)) := by
  intro w
  have h : IntKind.u64.wrap ((a.toNat : Int) * (b.toNat : Int)) = ((a * b).toNat : Int) := by
    rw [wrap_u64, UInt64.toNat_mul]; simp
  unfold execOp; rw [ho]; dsimp only; rw [hx, hy]; exact congrArg (fun n : Int => (Result.ok (Next.value (Value.int .u64 n)) w : Result Next)) h
theorem q_rem64 (ho : o.op = .binOp .rem t x y t') (hx : ev f x = u64 a) (hy : ev f y = u64 b) (h0 : b ≠ 0) : Qa P o f (u64 (a % b)) := by
  intro w
  have h : ((a.toNat : Int).tmod (b.toNat : Int)) = ((a % b).toNat : Int) := by
    rw [UInt64.toNat_mod, ← Int.ofNat_tmod]
  have h1 : ¬ ((b.toNat : Int) = 0) := fun e => h0 (UInt64.toNat_inj.1 (by simpa using e))
  unfold execOp; rw [ho]; dsimp only; rw [hx, hy]
  simp only [u64, eqGuard, binOp, Op.intDiv, if_neg h1, h]
  rfl
theorem q_quo64 (ho : o.op = .binOp .quo t x y t') (hx : ev f x = u64 a) (hy : ev f y = u64 b) (h0 : b ≠ 0) : Qa P o f (u64 (a / b)) := by
  intro w
  have h : IntKind.u64.wrap ((a.toNat : Int).tdiv (b.toNat : Int)) = ((a / b).toNat : Int) := by
    have := (a / b).toNat_lt
    rw [UInt64.toNat_div] at *
    rw [← Int.ofNat_tdiv, wrap_u64]
    generalize a.toNat / b.toNat = q at *
    omega
  have h1 : ¬ ((b.toNat : Int) = 0) := fun e => h0 (UInt64.toNat_inj.1 (by simpa using e))
  unfold execOp; rw [ho]; dsimp only; rw [hx, hy]
  simp only [u64, eqGuard, binOp, Op.intDiv, if_neg h1, h]
  rfl
theorem q_gt64 (ho : o.op = .binOp .gtr t x y t') (hx : ev f x = u64 a) (hy : ev f y = u64 b) : Qa P o f (.bool (decide (b < a))) := by
  intro w; simp [execOp, ho, hx, hy, u64, eqGuard, binOp, Op.intCmp, UInt64.lt_iff_toNat_lt]
theorem eqd_u64 (a b : UInt64) : ((a.toNat : Int) == (b.toNat : Int)) = decide (a = b) := by
  by_cases h : a = b
  · subst h; simp
  · have : ¬ ((a.toNat : Int) = (b.toNat : Int)) := fun e => h (UInt64.toNat_inj.1 (by exact_mod_cast e))
    simp [h, this]
theorem q_ne64 (ho : o.op = .binOp .neq t x y t') (hx : ev f x = u64 a) (hy : ev f y = u64 b) : Qa P o f (.bool (!decide (a = b))) := by
  intro w
  have h := eqd_u64 a b
  simp only [execOp, ho, hx, hy, u64, eqGuard, binOp, Op.intCmp]
  simp only [Sem.run_bind, Sem.run_pure, Result.andThen_ok, h, ne_eq, not_true_eq_false, if_false, bne]
  simp [h]
end
end
end Gk

/- Slices in memory: such as are read, and such as are owned; what becomes of them. No condition. -/
namespace Gk
open Go
def oB : Value → Option Nat
  | .slice (some a) _ (_ + 1) => some a.block
  | .pointer (some a) => some a.block
  | .map (some g) => some g
  | _ => none
abbrev bp (g : Nat) : Value := .pointer (some ⟨g, 0, none⟩)
theorem oB_pos {a : Addr} {n cap : Nat} (h : 0 < cap) : oB (.slice (some a) n cap) = some a.block := by
  cases cap with
  | zero => omega
  | succ c => rfl
theorem oB_zero (p : Option Addr) (n : Nat) : oB (.slice p n 0) = none := by cases p <;> rfl
def Hs (v : Value) (k : Nat) : Prop := oB v = some k ∨ ∃ vs, v = .tuple vs ∧ ∃ u ∈ vs.toList, oB u = some k
theorem hs_sl {a : Option Addr} {n c k : Nat} (h : Hs (.slice a n c) k) : oB (.slice a n c) = some k := h.elim id (fun ⟨_, e, _⟩ => by cases e)
theorem hs_ptr {a : Option Addr} {k : Nat} (h : Hs (.pointer a) k) : oB (.pointer a) = some k := h.elim id (fun ⟨_, e, _⟩ => by cases e)
theorem hs_map {a : Option Nat} {k : Nat} (h : Hs (.map a) k) : oB (.map a) = some k := h.elim id (fun ⟨_, e, _⟩ => by cases e)
theorem hs_bp {g k : Nat} (h : Hs (bp g) k) : g = k := Option.some.inj (hs_ptr h)
theorem hs_bp' (g : Nat) : Hs (bp g) g := .inl rfl
theorem hs_tup {vs : Array Value} {k : Nat} (h : Hs (.tuple vs) k) : ∃ u ∈ vs.toList, oB u = some k := h.elim (fun e => by cases e) (fun ⟨_, e, h⟩ => by cases e; exact h)
theorem nh_nil {k : Nat} : ¬ Hs (.slice none 0 0) k := fun h => by have := hs_sl h; cases this
def Av : List Value → Nat → Prop
  | [], _ => True
  | u :: r, b => ¬ Hs u b ∧ Av r b
def Gr (w w' : World) (v : Value) : Prop := ∃ row, w.grownBy w' row ∧ ∀ k, row = some k → Hs v k
theorem Gr.of {w w' : World} {v : Value} (h : w.grownBy w' (oB v)) : Gr w w' v := ⟨_, h, fun _ e => .inl e⟩
theorem Gr.refl (w : World) (v : Value) : Gr w w v := ⟨none, World.grownBy.refl w none, fun _ e => by cases e⟩
theorem Gr.size {w w' : World} {v : Value} (h : Gr w w' v) : w.heap.size ≤ w'.heap.size := by obtain ⟨_, h, _⟩ := h; exact h.size
theorem Gr.block {w w' : World} {v : Value} (h : Gr w w' v) {k : Nat} (hk : k < w.heap.size) (hn : ¬ Hs v k) : w'.heap[k]? = w.heap[k]? := by
  obtain ⟨row, h, hr⟩ := h
  exact h.block k hk (fun e => hn (hr k e.symm))
def Sl (w : World) (L : List Value) (v : Value) (us : List Value) : Prop :=
  ∃ p cap, v = .slice p us.length cap ∧ us.length ≤ cap ∧ (us ≠ [] → ∃ b off, p = some ⟨b, off, none⟩ ∧ Av L b ∧ ∀ i (h : i < us.length), w.cell? ⟨b, off + i, none⟩ = some us[i])
theorem cells_of_cell? {w : World} {a : Addr} {u : Value} (h : w.cell? a = some u) : ∃ o : Obj, w.heap[a.block]? = some o ∧ o.isCells = true := by
  unfold World.cell? at h
  split at h
  · rename_i c e f hc; exact ⟨_, hc, rfl⟩
  · cases h
structure Lift (w w' : World) (L L' : List Value) : Prop where
  blk : ∀ k o, w.heap[k]? = some o → o.isCells = true → Av L k → w'.heap[k]? = some o
  av : ∀ k, k < w.heap.size → Av L k → Av L' k
theorem Sl.lift {w w' : World} {L L' : List Value} {v : Value} {us : List Value} (h : Sl w L v us) (g : Lift w w' L L') : Sl w' L' v us := by
  obtain ⟨p, cap, hv, hc, hne⟩ := h
  refine ⟨p, cap, hv, hc, fun hn => ?_⟩
  obtain ⟨b, off, hp, ha, hr⟩ := hne hn
  have h0 : 0 < us.length := List.length_pos_iff.2 hn
  have hb := World.block_lt_of_cell? w _ (hr 0 h0)
  obtain ⟨o, ho, hc⟩ := cells_of_cell? (hr 0 h0)
  refine ⟨b, off, hp, g.av b hb ha, fun i hi => ?_⟩
  rw [World.cell?_of_block (w := w) ((g.blk b o ho hc ha).trans ho.symm)]
  exact hr i hi
def Stab {α : Type} (R : World → List Value → Value → α → Prop) : Prop :=
  ∀ w w' L L' v x, Lift w w' L L' → R w L v x → R w' L' v x
def Sc {α : Type} (enc : α → Value) (_ : World) (_ : List Value) (v : Value) (x : α) : Prop := v = enc x
theorem Sc.stab {α : Type} (enc : α → Value) : Stab (Sc enc) := fun _ _ _ _ _ _ _ h => h
def SlK {α : Type} (R : World → List Value → Value → α → Prop) (w : World) (L : List Value) (v : Value) (l : List α) : Prop :=
  ∃ us, Sl w L v us ∧ us.length = l.length ∧ ∀ i (h : i < us.length) (h' : i < l.length), R w L us[i] l[i]
theorem SlK.stab {α : Type} {R : World → List Value → Value → α → Prop} (h : Stab R) : Stab (SlK R) :=
  fun w w' L L' v x g ⟨us, hs, hl, he⟩ => ⟨us, hs.lift g, hl, fun i h1 h2 => h _ _ _ _ _ _ g (he i h1 h2)⟩
def By := SlK (Sc u8)
def W64 := SlK (Sc u64)
def Rw := SlK By
theorem By.lift {w w' : World} {L L' : List Value} {v : Value} {l : List UInt8} (h : By w L v l) (g : Lift w w' L L') : By w' L' v l := SlK.stab (Sc.stab _) _ _ _ _ _ _ g h
theorem W64.lift {w w' : World} {L L' : List Value} {v : Value} {l : List UInt64} (h : W64 w L v l) (g : Lift w w' L L') : W64 w' L' v l := SlK.stab (Sc.stab _) _ _ _ _ _ _ g h
theorem Rw.lift {w w' : World} {L L' : List Value} {v : Value} {l : List (List UInt8)} (h : Rw w L v l) (g : Lift w w' L L') : Rw w' L' v l := SlK.stab (SlK.stab (Sc.stab _)) _ _ _ _ _ _ g h
theorem lt_of_get {w : World} {k : Nat} {o : Obj} (h : w.heap[k]? = some o) : k < w.heap.size := (Array.getElem?_eq_some_iff.1 h).1
theorem Lift.ext {w w' : World} (h : Ext w w') (L : List Value) : Lift w w' L L := ⟨fun k _ ho _ _ => (h.blk k (lt_of_get ho)).trans ho, fun _ _ h => h⟩
theorem Lift.sub {w : World} {L L' : List Value} (h : ∀ k, Av L k → Av L' k) : Lift w w L L' := ⟨fun _ _ h _ _ => h, fun k _ => h k⟩
theorem av_append {L M : List Value} {k : Nat} : Av (L ++ M) k ↔ Av L k ∧ Av M k := by
  induction L with
  | nil => simp [Av]
  | cons u r ih => simp [Av, ih, and_assoc]
def Nx (w : World) (v v' : Value) : Prop := ∀ k, Hs v' k → Hs v k ∨ w.heap.size ≤ k
def Nw (w : World) (v : Value) : Prop := ∀ k, Hs v k → w.heap.size ≤ k
def Nq (u v : Value) : Prop := ∀ k, Hs u k → ¬ Hs v k
theorem Nq.symm {u v : Value} (h : Nq u v) : Nq v u := fun k hv hu => h k hu hv
theorem Nx.refl (w : World) (v : Value) : Nx w v v := fun _ h => .inl h
theorem Nw.nx {w : World} {v : Value} (h : Nw w v) (u : Value) : Nx w u v := fun k hk => .inr (h k hk)
theorem Nw.mk (w : World) (n c : Nat) : Nw w (.slice (some ⟨w.heap.size, 0, none⟩) n c) := by
  intro k hk
  have hk := hs_sl hk
  cases c with
  | zero => rw [oB_zero] at hk; cases hk
  | succ c => have := Option.some.inj hk; exact Nat.le_of_eq this
theorem Nw.nil (w : World) : Nw w (.slice none 0 0) := fun k hk => by have := hs_sl hk; cases this
theorem Nq.nil (v : Value) : Nq (.slice none 0 0) v := fun k hk => by have := hs_sl hk; cases this
theorem Lift.own {w w' : World} {v v' : Value} (L1 L2 : List Value) (hg : Gr w w' v) (hn : Nx w v v') : Lift w w' (L1 ++ v :: L2) (L1 ++ v' :: L2) := by
  refine ⟨fun k o ho hc ha => ?_, fun k hk ha => ?_⟩
  · obtain ⟨h1, h2, h3⟩ := av_append.1 ha
    exact (hg.block (lt_of_get ho) h2).trans ho
  · obtain ⟨h1, h2, h3⟩ := av_append.1 ha
    refine av_append.2 ⟨h1, fun e => ?_, h3⟩
    rcases hn k e with h | h
    · exact h2 h
    · omega
theorem Lift.new {w w' : World} {v : Value} (L : List Value) (hg : w.grownBy w' none) (hn : Nw w v) : Lift w w' L (v :: L) :=
  ⟨fun k o ho _ _ => (hg.block k (lt_of_get ho) (by simp)).trans ho, fun k hk ha => ⟨fun e => by have := hn k e; omega, ha⟩⟩
theorem Lift.call {w w' : World} {v : Value} (L : List Value) (hg : Ext w w') (hn : Nw w v) : Lift w w' L (v :: L) :=
  ⟨fun k o ho _ _ => (hg.blk k (lt_of_get ho)).trans ho, fun k hk ha => ⟨fun e => by have := hn k e; omega, ha⟩⟩
theorem grown_ext {w w' : World} (h : w.grownBy w' none) : Ext w w' := ⟨h.os, h.output, h.size, fun k hk => h.block k hk (by simp)⟩
theorem Ext.grown {w0 w w' : World} {v : Value} (h : Ext w0 w) (hg : Gr w w' v) (hn : Nw w0 v) : Ext w0 w' := by
  obtain ⟨row, hg, hr⟩ := hg
  exact ⟨hg.os.trans h.os, hg.output.trans h.output, Nat.le_trans h.size hg.size, fun k hk =>
    (hg.block k (Nat.lt_of_lt_of_le hk h.size) (fun e => by have := hn k (hr k e.symm); omega)).trans (h.blk k hk)⟩
theorem Nw.ext {w0 w : World} {v : Value} (h : Ext w0 w) (hn : Nw w v) : Nw w0 v := fun k hk => Nat.le_trans h.size (hn k hk)
theorem Nw.nxt {w0 w : World} {v v' : Value} (h : Ext w0 w) (h0 : Nw w0 v) (hn : Nx w v v') : Nw w0 v' := fun k hk => (hn k hk).elim (h0 k) (Nat.le_trans h.size)
def Ow (w : World) (e : TypeId) (v : Value) (us : List Value) : Prop :=
  (∃ p, v = .slice p 0 0 ∧ us = []) ∨ ∃ g cap, v = .slice (some ⟨g, 0, none⟩) us.length cap ∧ 0 < cap ∧ w.ownsRow 0 e 1 (.slice (some ⟨g, 0, none⟩) us.length cap) us.length us
theorem row_spec {w : World} {e : TypeId} {g n cap : Nat} {us : List Value} (h : w.ownsRow 0 e 1 (.slice (some ⟨g, 0, none⟩) n cap) n us) :
    ∃ cur, w.heap[g]? = some (.cells cur e (0, 0)) ∧ n ≤ cap ∧ cap ≤ maxLen ∧ cur.size = cap * 1 ∧ cur.toList.take (n * 1) = us := by
  rcases h.2 with ⟨h', _⟩ | ⟨g', cap', cur, hv, _, hg, hc, hm, hs, ht⟩
  · cases h'
  · simp only [Value.slice.injEq, Option.some.injEq, Addr.mk.injEq, and_true, true_and] at hv
    obtain ⟨rfl, rfl⟩ := hv
    exact ⟨cur, hg, hc, hm, hs, ht⟩
theorem Ow.lt {w : World} {e : TypeId} {v : Value} {us : List Value} (h : Ow w e v us) : ∀ k, Hs v k → k < w.heap.size := by
  intro k hk
  rcases h with ⟨p, rfl, _⟩ | ⟨g, cap, rfl, hc, h⟩ <;> have hk := hs_sl hk
  · rw [oB_zero] at hk; cases hk
  · rw [oB_pos hc] at hk
    exact (World.ownsRow.lt h k hk).2
theorem Ow.nil (w : World) (e : TypeId) : Ow w e (.slice none 0 0) [] := .inl ⟨none, rfl, rfl⟩
theorem Ow.mk {w : World} {e : TypeId} {g n cap : Nat} {us : List Value} (hn : n = us.length) (h : w.ownsRow 0 e 1 (.slice (some ⟨g, 0, none⟩) n cap) n us) : Ow w e (.slice (some ⟨g, 0, none⟩) n cap) us := by
  subst hn
  obtain ⟨cur, hg, hc, _⟩ := row_spec h
  by_cases h0 : 0 < cap
  · exact .inr ⟨g, cap, rfl, h0, h⟩
  · obtain rfl : cap = 0 := by omega
    have : us = [] := List.eq_nil_of_length_eq_zero (by omega)
    subst this
    exact .inl ⟨_, rfl, rfl⟩
theorem Ow.kept {w w' : World} {row : Option Nat} {e : TypeId} {v : Value} {us : List Value} (h : Ow w e v us) (hg : w.grownBy w' row) (hne : ∀ k, oB v = some k → row ≠ some k) : Ow w' e v us := by
  rcases h with h | ⟨g, cap, rfl, hc, h⟩
  · exact .inl h
  · refine .inr ⟨g, cap, rfl, hc, World.ownsRow.kept h hg (.inr (fun e => hne g (oB_pos hc) e.symm))⟩
theorem Ow.ext {w w' : World} {e : TypeId} {v : Value} {us : List Value} (h : Ow w e v us) (hx : Ext w w') : Ow w' e v us := by
  rcases h with h | ⟨g, cap, rfl, hc, h⟩
  · exact .inl h
  · obtain ⟨cur, hg, h1, h2, h3, h4⟩ := row_spec h
    exact .inr ⟨g, cap, rfl, hc, h.1, .inr ⟨g, cap, cur, rfl, Nat.zero_le _, by rw [hx.blk g (Array.getElem?_eq_some_iff.1 hg).1]; exact hg, h1, h2, h3, h4⟩⟩
theorem Ow.sl {w : World} {e : TypeId} {v : Value} {us : List Value} (L : List Value) (h : Ow w e v us) (ha : ∀ k, Hs v k → Av L k) : Sl w L v us := by
  rcases h with ⟨p, rfl, rfl⟩ | ⟨g, cap, rfl, hc, h⟩
  · exact ⟨p, 0, rfl, Nat.le_refl _, fun hn => absurd rfl hn⟩
  · obtain ⟨cur, hg, h1, h2, h3, h4⟩ := row_spec h
    refine ⟨_, cap, rfl, h1, fun _ => ⟨g, 0, rfl, ha g (.inl (oB_pos hc)), fun i hi => ?_⟩⟩
    have := World.ownsRow.cellAt h i (by omega)
    rw [Nat.zero_add, this]
    simp
theorem Ow.other {w w' : World} {e : TypeId} {u v : Value} {us : List Value} (h : Ow w e u us) (hg : Gr w w' v) (hq : Nq u v) : Ow w' e u us := by
  obtain ⟨row, hg, hr⟩ := hg
  exact h.kept hg (fun k hk e => hq k (.inl hk) (hr k e))
theorem Nq.nxt {w : World} {e : TypeId} {u v v' : Value} {us : List Value} (hq : Nq u v) (h : Ow w e u us) (hn : Nx w v v') : Nq u v' := fun k hu hv => by
  rcases hn k hv with h1 | h1
  · exact hq k hu h1
  · have := h.lt k hu; omega
theorem Nq.new {w : World} {e : TypeId} {u v' : Value} {us : List Value} (h : Ow w e u us) (hn : Nw w v') : Nq u v' := fun k hu hv => by
  have := h.lt k hu; have := hn k hv; omega
def OwK {α : Type} (R : World → List Value → Value → α → Prop) (w : World) (L : List Value) (e : TypeId) (v : Value) (l : List α) : Prop :=
  ∃ us, Ow w e v us ∧ us.length = l.length ∧ ∀ i (h : i < us.length) (h' : i < l.length), R w L us[i] l[i]
theorem OwK.lt {α : Type} {R : World → List Value → Value → α → Prop} {w : World} {L : List Value} {e : TypeId} {v : Value} {l : List α} (h : OwK R w L e v l) : ∀ k, Hs v k → k < w.heap.size := by
  obtain ⟨us, h, _⟩ := h; exact h.lt
theorem OwK.nil {α : Type} (R : World → List Value → Value → α → Prop) (w : World) (L : List Value) (e : TypeId) : OwK R w L e (.slice none 0 0) ([] : List α) := ⟨[], Ow.nil w e, rfl, fun i h => by simp at h⟩
theorem OwK.ext {α : Type} {R : World → List Value → Value → α → Prop} (hR : Stab R) {w w' : World} {L : List Value} {e : TypeId} {v : Value} {l : List α} (h : OwK R w L e v l) (hx : Ext w w') : OwK R w' L e v l := by
  obtain ⟨us, h, hl, he⟩ := h
  exact ⟨us, h.ext hx, hl, fun i h1 h2 => hR _ _ _ _ _ _ (Lift.ext hx L) (he i h1 h2)⟩
theorem OwK.other {α : Type} {R : World → List Value → Value → α → Prop} (hR : Stab R) {w w' : World} {L L' : List Value} {e : TypeId} {u v : Value} {l : List α} (h : OwK R w L e u l) (hg : Gr w w' v) (hq : Nq u v) (g : Lift w w' L L') : OwK R w' L' e u l := by
  obtain ⟨us, h, hl, he⟩ := h
  exact ⟨us, h.other hg hq, hl, fun i h1 h2 => hR _ _ _ _ _ _ g (he i h1 h2)⟩
theorem OwK.extL {α : Type} {R : World → List Value → Value → α → Prop} (hR : Stab R) {w w' : World} {L L' : List Value} {e : TypeId} {u : Value} {l : List α} (h : OwK R w L e u l) (hx : Ext w w') (g : Lift w w' L L') : OwK R w' L' e u l := by
  obtain ⟨us, h, hl, he⟩ := h
  exact ⟨us, h.ext hx, hl, fun i h1 h2 => hR _ _ _ _ _ _ g (he i h1 h2)⟩
theorem OwK.slk {α : Type} {R : World → List Value → Value → α → Prop} (hR : Stab R) {w : World} {L : List Value} (L' : List Value) {e : TypeId} {v : Value} {l : List α} (h : OwK R w L e v l) (ha : ∀ k, Hs v k → Av L' k) (hs : ∀ k, Av L k → Av L' k) : SlK R w L' v l := by
  obtain ⟨us, h, hl, he⟩ := h
  exact ⟨us, h.sl L' ha, hl, fun i h1 h2 => hR _ _ _ _ _ _ (Lift.sub hs) (he i h1 h2)⟩
theorem OwK.rd {α : Type} {R : World → List Value → Value → α → Prop} (hR : Stab R) {w : World} {L : List Value} {e : TypeId} {v : Value} {l : List α} (h : OwK R w L e v l) : SlK R w [] v l :=
  h.slk hR [] (fun _ _ => trivial) (fun _ _ => trivial)
theorem OwK.nq {α : Type} {R : World → List Value → Value → α → Prop} {w : World} {L : List Value} {e : TypeId} {u v' : Value} {l : List α} (h : OwK R w L e u l) (hn : Nw w v') : Nq u v' := by
  obtain ⟨us, h, _⟩ := h; exact Nq.new h hn
theorem OwK.nxt {α : Type} {R : World → List Value → Value → α → Prop} {w : World} {L : List Value} {e : TypeId} {u v v' : Value} {l : List α} (h : OwK R w L e u l) (hq : Nq u v) (hn : Nx w v v') : Nq u v' := by
  obtain ⟨us, h, _⟩ := h; exact Nq.nxt hq h hn
def Blk (w : World) (g : Nat) (T : TypeId) (cs : Array Value) : Prop := w.heap[g]? = some (.cells cs T (0, 0))
theorem Blk.lt {w : World} {g : Nat} {T : TypeId} {cs : Array Value} (h : Blk w g T cs) : g < w.heap.size := (Array.getElem?_eq_some_iff.1 h).1
theorem Blk.ltB {w : World} {g : Nat} {T : TypeId} {cs : Array Value} (h : Blk w g T cs) : ∀ k, Hs (bp g) k → k < w.heap.size := fun k e => by
  have e' := hs_bp e
  subst e'; exact h.lt
theorem Blk.ext {w w' : World} {g : Nat} {T : TypeId} {cs : Array Value} (h : Blk w g T cs) (x : Ext w w') : Blk w' g T cs := by
  unfold Blk; rw [x.blk g h.lt]; exact h
theorem Blk.nq {w : World} {g : Nat} {T : TypeId} {cs : Array Value} {v : Value} (h : Blk w g T cs) (hn : Nw w v) : Nq (bp g) v := fun k hu hv => by
  have := h.ltB k hu; have := hn k hv; omega
theorem Blk.nxt {w : World} {g : Nat} {T : TypeId} {cs : Array Value} {v v' : Value} (h : Blk w g T cs) (hq : Nq (bp g) v) (hn : Nx w v v') : Nq (bp g) v' := fun k hu hv => by
  rcases hn k hv with h1 | h1
  · exact hq k hu h1
  · have := h.ltB k hu; omega
theorem Blk.other {w w' : World} {g : Nat} {T : TypeId} {cs : Array Value} {v : Value} (h : Blk w g T cs) (hg : Gr w w' v) (hq : Nq (bp g) v) : Blk w' g T cs := by
  unfold Blk; rw [hg.block h.lt (hq g (hs_bp' g))]; exact h
def Tn (B : Nat) (w w' : World) : Prop := ∃ row, w.grownBy w' row ∧ ∀ r, row = some r → B ≤ r ∧ ∃ o : Obj, w.heap[r]? = some o ∧ o.isCells = false
theorem Tn.keep {B : Nat} {w w' : World} (h : Tn B w w') {k : Nat} {o : Obj} (ho : w.heap[k]? = some o) (hc : o.isCells = true) : w'.heap[k]? = some o := by
  obtain ⟨row, hg, hr⟩ := h
  refine (hg.block k (lt_of_get ho) (fun e => ?_)).trans ho
  obtain ⟨_, o', ho', hc'⟩ := hr k e.symm
  rw [ho] at ho'; cases ho'; rw [hc] at hc'; cases hc'
theorem Tn.lift {B : Nat} {w w' : World} (h : Tn B w w') (L : List Value) : Lift w w' L L := ⟨fun _ _ ho hc _ => h.keep ho hc, fun _ _ h => h⟩
theorem Blk.tn {B : Nat} {w w' : World} {g : Nat} {T : TypeId} {cs : Array Value} (h : Blk w g T cs) (t : Tn B w w') : Blk w' g T cs := t.keep h rfl
theorem Ow.tn {B : Nat} {w w' : World} {e : TypeId} {v : Value} {us : List Value} (h : Ow w e v us) (t : Tn B w w') : Ow w' e v us := by
  rcases h with h | ⟨g, cap, rfl, hc, h⟩
  · exact .inl h
  · obtain ⟨cur, hg, h1, h2, h3, h4⟩ := row_spec h
    exact .inr ⟨g, cap, rfl, hc, h.1, .inr ⟨g, cap, cur, rfl, Nat.zero_le _, t.keep hg rfl, h1, h2, h3, h4⟩⟩
theorem OwK.tn {α : Type} {R : World → List Value → Value → α → Prop} (hR : Stab R) {B : Nat} {w w' : World} {L : List Value} {e : TypeId} {u : Value} {l : List α} (h : OwK R w L e u l) (t : Tn B w w') : OwK R w' L e u l := by
  obtain ⟨us, h, hl, he⟩ := h
  exact ⟨us, h.tn t, hl, fun i h1 h2 => hR _ _ _ _ _ _ (t.lift L) (he i h1 h2)⟩
theorem Ext.tn {B : Nat} {w0 w w' : World} (h : Ext w0 w) (t : Tn B w w') (hB : w0.heap.size ≤ B) : Ext w0 w' := by
  obtain ⟨row, hg, hr⟩ := t
  exact ⟨hg.os.trans h.os, hg.output.trans h.output, Nat.le_trans h.size hg.size, fun k hk =>
    (hg.block k (Nat.lt_of_lt_of_le hk h.size) (fun e => by have := (hr k e.symm).1; omega)).trans (h.blk k hk)⟩
theorem _root_.Go.KeepsFrom.ext {B : Nat} {W w w' : World} (h : KeepsFrom B W w) (x : Ext w w') : KeepsFrom B W w' := h.trans ⟨x.size, fun k o _ ho _ => (x.blk k (lt_of_get ho)).trans ho⟩
def Cl (w : World) (v : Value) : Prop := ∀ k, Hs v k → ∃ o : Obj, w.heap[k]? = some o ∧ o.isCells = true
theorem _root_.Go.KeepsFrom.own {B : Nat} {W w w' : World} {v : Value} (h : KeepsFrom B W w) (hg : Gr w w' v) (hc : Cl w v) : KeepsFrom B W w' := h.trans ⟨hg.size, fun k o _ ho hn => by
  refine (hg.block (lt_of_get ho) (fun e => ?_)).trans ho
  obtain ⟨o', ho', hc'⟩ := hc k e
  rw [ho] at ho'; cases ho'; rw [hn] at hc'; cases hc'⟩
theorem Blk.cl {w : World} {g : Nat} {T : TypeId} {cs : Array Value} (h : Blk w g T cs) : Cl w (bp g) := fun k e => by
  have e' := hs_bp e
  subst e'; exact ⟨_, h, rfl⟩
theorem OwK.cl {α : Type} {R : World → List Value → Value → α → Prop} {w : World} {L : List Value} {e : TypeId} {v : Value} {l : List α} (h : OwK R w L e v l) : Cl w v := fun k hk => by
  obtain ⟨us, h, _⟩ := h
  rcases h with ⟨p, rfl, _⟩ | ⟨g, cap, rfl, hc, h⟩ <;> have hk := hs_sl hk
  · rw [oB_zero] at hk; cases hk
  · rw [oB_pos hc] at hk
    obtain ⟨cur, hg, _⟩ := row_spec h
    cases hk
    exact ⟨_, hg, rfl⟩
structure TyS (P : Program) (t e : TypeId) (z : Value) (bytes : Nat) : Prop where
  sl : P.underlying t = some (.slice e)
  info : (P.info? e).map (fun i => (i.zero, i.size, i.bytes)) = some (some z, 1, bytes)
  cell : z.cells = #[z]
  agg : ∀ w, (isAgg e).run P w = .ok false w
  fit : bytes ≤ 24
end Gk

/- What the operations on memory come to: lengths, elements, cuts, make, stores, append, copy, literals, texts, calls. No condition. -/
namespace Gk
open Go
def idx {α : Type} (l : List α) (i : Int) : Option α := if 0 ≤ i then l[i.toNat]? else none
def put {α : Type} (l : List α) (i : Int) (x : α) : Option (List α) := if 0 ≤ i ∧ i < l.length then some (l.set i.toNat x) else none
def subL {α : Type} (l : List α) (lo hi : Int) : Option (List α) := if 0 ≤ lo ∧ lo ≤ hi ∧ hi ≤ l.length then some ((l.take hi.toNat).drop lo.toNat) else none
def most : Nat := 5000000000000
def makeL {α : Type} (n : Int) (z : α) : Option (List α) := if 0 ≤ n ∧ n ≤ most then some (List.replicate n.toNat z) else none
def appL {α : Type} (l m : List α) : Option (List α) := if l.length + m.length ≤ most then some (l ++ m) else none
def copyL {α : Type} (l : List α) (off : Int) (m : List α) : List α := l.take off.toNat ++ (m.take (l.length - off.toNat) ++ l.drop (off.toNat + min m.length (l.length - off.toNat)))
def divI (a b : Int) : Option Int := if b = 0 then none else some (wI (a.tdiv b))
def remI (a b : Int) : Option Int := if b = 0 then none else some (a.tmod b)
theorem idx_some {α : Type} {l : List α} {i : Int} {x : α} : idx l i = some x ↔ 0 ≤ i ∧ ∃ h : i.toNat < l.length, l[i.toNat] = x := by
  unfold idx
  by_cases h : 0 ≤ i
  · rw [if_pos h, List.getElem?_eq_some_iff]; simp [h]
  · rw [if_neg h]; simp [h]
theorem put_some {α : Type} {l m : List α} {i : Int} {x : α} : put l i x = some m ↔ (0 ≤ i ∧ i < l.length) ∧ l.set i.toNat x = m := by
  unfold put
  by_cases h : 0 ≤ i ∧ i < l.length
  · rw [if_pos h]; simp [h]
  · rw [if_neg h]; simp [h]
theorem put_of {α : Type} {l : List α} {i : Int} {x : α} (y : α) (h : idx l i = some x) : put l i y = some (l.set i.toNat y) := by
  obtain ⟨h0, h1, _⟩ := idx_some.1 h
  exact put_some.2 ⟨⟨h0, by omega⟩, rfl⟩
def adr (v : Value) (i : Nat) : Value := match v with | .slice (some a) _ _ => .pointer (some (a.add i)) | _ => undef
def subV (v : Value) (lo hi : Nat) : Value := match v with | .slice a _ cap => .slice (if cap = lo then a else a.map (·.add lo)) (hi - lo) (cap - lo) | v => v
def subW (v : Value) (lo hi mx : Nat) : Value := match v with | .slice a _ _ => .slice (if mx = lo then a else a.map (·.add lo)) (hi - lo) (mx - lo) | v => v
theorem add_off (b off i : Nat) : (⟨b, off, none⟩ : Addr).add i = ⟨b, off + i, none⟩ := by unfold Addr.add; split <;> simp_all
section
variable {P : Program} {o : Oper} {f : Nat → Value} {w : World} {L : List Value}
theorem exec_builtin {b : Builtin} {xs : Array Operand} {ats : Array TypeId} (ρ : Operand → Value) (ho : o.op = .call ⟨.builtin b, xs, ats⟩) :
    execOp ρ o = builtin b ats o.type (xs.map fun | .const _ => true | _ => false) (xs.map ρ) := by
  unfold execOp; rw [ho]; rfl
theorem SlK.shape {α : Type} {R : World → List Value → Value → α → Prop} {v : Value} {l : List α} (h : SlK R w L v l) : ∃ p cap, v = .slice p l.length cap ∧ l.length ≤ cap := by
  obtain ⟨us, ⟨p, cap, hv, hc, _⟩, hl, _⟩ := h
  exact ⟨p, cap, by rw [hv, hl], by omega⟩
theorem q_len {α : Type} {R : World → List Value → Value → α → Prop} {v : Value} {l : List α} {x : Operand} {t e : TypeId}
    (ho : o.op = .call ⟨.builtin .len, #[x], #[t]⟩) (ht : P.underlying t = some (.slice e)) (hx : ev f x = v) (h : SlK R w L v l) : Qa P o f (i64 l.length) := by
  intro w'
  obtain ⟨p, cap, rfl, _⟩ := h.shape
  rw [exec_builtin _ ho]
  simp [builtin, Builtin.len_, run_underlying ht, hx, goInt, i64]
theorem q_len_nil {x : Operand} {t e : TypeId} (ho : o.op = .call ⟨.builtin .len, #[x], #[t]⟩) (ht : P.underlying t = some (.slice e)) (hx : ev f x = .slice none 0 0) : Qa P o f (i64 0) := by
  intro w'
  rw [exec_builtin _ ho]
  simp [builtin, Builtin.len_, run_underlying ht, hx, goInt, i64]
theorem ty_size {t e : TypeId} {z : Value} {bytes : Nat} (T : TyS P t e z bytes) (w : World) : (Go.sizeOf e).run P w = .ok 1 w := by
  obtain ⟨i, hi, h1, h2, h3⟩ := info_parts T.info
  simp [Go.sizeOf, typeInfo, hi, h2]
theorem q_adr {α : Type} {R : World → List Value → Value → α → Prop} {v z : Value} {l : List α} {x y : Operand} {t e : TypeId} {bytes : Nat} {i : Int} {a : α}
    (ho : o.op = .indexAddr t x y) (T : TyS P t e z bytes) (hx : ev f x = v) (hy : ev f y = i64 i) (h : SlK R w L v l) (hi : idx l i = some a) : Qa P o f (adr v i.toNat) := by
  intro w'
  obtain ⟨us, ⟨p, cap, hv, hc, hne⟩, hl, _⟩ := h
  obtain ⟨h0, h1, _⟩ := idx_some.1 hi
  have hn : us ≠ [] := fun e => by subst e; simp at hl; omega
  obtain ⟨b, off, rfl, _⟩ := hne hn
  subst hv
  have hlt : i < (us.length : Int) := by omega
  simp [execOp, ho, hx, hy, i64, Instr.indexAt, asIntOf, run_underlying T.sl, ty_size T, h0, hlt, adr]
theorem q_load {α : Type} {R : World → List Value → Value → α → Prop} {v z : Value} {l : List α} {x : Operand} {t e : TypeId} {bytes : Nat} {i : Int} {a : α}
    (ho : o.op = .load e x) (T : TyS P t e z bytes) (hx : ev f x = adr v i.toNat) (h : SlK R w L v l) (hi : idx l i = some a) : ∃ u, Qt P o f w u ∧ R w L u a := by
  obtain ⟨us, ⟨p, cap, hv, hc, hne⟩, hl, he⟩ := h
  obtain ⟨h0, h1, h2⟩ := idx_some.1 hi
  have hn : us ≠ [] := fun e => by subst e; simp at hl; omega
  obtain ⟨b, off, rfl, _, hr⟩ := hne hn
  subst hv
  have hu : i.toNat < us.length := by omega
  refine ⟨us[i.toNat], fun w' hx' => ?_, h2 ▸ he _ hu h1⟩
  have hc := hr _ hu
  have hc' : w'.cell? ⟨b, off + i.toNat, none⟩ = some us[i.toNat] := by
    rw [World.cell?_of_block (w := w) (hx'.blk b (World.block_lt_of_cell? w _ hc))]; exact hc
  simp [execOp, ho, hx, adr, Instr.loadAt, Instr.sureAddr, loadVar, T.agg, add_off, load, Sem.run, hc']
theorem q_loadS {α : Type} {enc : α → Value} {v z : Value} {l : List α} {x : Operand} {t e : TypeId} {bytes : Nat} {i : Int} {a : α}
    (ho : o.op = .load e x) (T : TyS P t e z bytes) (hx : ev f x = adr v i.toNat) (h : SlK (Sc enc) w L v l) (hi : idx l i = some a) : Qt P o f w (enc a) := by
  obtain ⟨u, hq, hu⟩ := q_load ho T hx h hi
  rw [← show u = enc a from hu]
  exact hq
theorem Qt.ext {w' : World} {v : Value} (h : Qt P o f w v) (hx : Ext w w') : Qt P o f w' v := fun w'' h' => h w'' (hx.trans h')
theorem run_bound {x : Value} {y : Nat} {c : BoundsCode} {i : Int} (hx : x = i64 i) (h0 : 0 ≤ i) (h1 : i ≤ y) (w : World) : (Instr.sliceBound x y c).run P w = .ok i.toNat w := by
  subst hx; simp [Instr.sliceBound, i64, asIntOf, h0, h1]
theorem subL_some {α : Type} {l m : List α} {lo hi : Int} : subL l lo hi = some m ↔ (0 ≤ lo ∧ lo ≤ hi ∧ hi ≤ l.length) ∧ (l.take hi.toNat).drop lo.toNat = m := by
  unfold subL
  by_cases h : 0 ≤ lo ∧ lo ≤ hi ∧ hi ≤ l.length
  · rw [if_pos h]; simp [h]
  · rw [if_neg h]; simp [h]
theorem Sl.cut {v : Value} {us : List Value} (h : Sl w L v us) (lo hi : Nat) (h1 : lo ≤ hi) (h2 : hi ≤ us.length) : Sl w L (subV v lo hi) ((us.take hi).drop lo) := by
  obtain ⟨p, cap, rfl, hc, hne⟩ := h
  have hlen : ((us.take hi).drop lo).length = hi - lo := by simp; omega
  refine ⟨_, cap - lo, by unfold subV; rw [hlen], by rw [hlen]; omega, fun hn => ?_⟩
  have h0 : 0 < hi - lo := by rw [← hlen]; exact List.length_pos_iff.2 hn
  obtain ⟨b, off, rfl, ha, hr⟩ := hne (fun e => by subst e; simp at h2; omega)
  refine ⟨b, off + lo, ?_, ha, fun i hi' => ?_⟩
  · rw [if_neg (by omega)]; simp [add_off]
  · rw [hlen] at hi'
    have := hr (lo + i) (by omega)
    rw [Nat.add_assoc, this]
    simp
theorem SlK.cut {α : Type} {R : World → List Value → Value → α → Prop} {v : Value} {l m : List α} (h : SlK R w L v l) {lo hi : Int} (hs : subL l lo hi = some m) : SlK R w L (subV v lo.toNat hi.toNat) m := by
  obtain ⟨us, hu, hl, he⟩ := h
  obtain ⟨⟨h0, h1, h2⟩, rfl⟩ := subL_some.1 hs
  refine ⟨_, hu.cut lo.toNat hi.toNat (by omega) (by omega), by simp [hl], fun i a b => ?_⟩
  simp only [List.getElem_drop, List.getElem_take]
  exact he _ _ _
theorem q_slice {α : Type} {R : World → List Value → Value → α → Prop} {v z : Value} {l m : List α} {x : Operand} {t e : TypeId} {bytes : Nat} {lo hi : Option Operand} {a b : Int}
    (ho : o.op = .slice t x lo hi none) (T : TyS P t e z bytes) (hx : ev f x = v) (h : SlK R w L v l)
    (hlo : match lo with | none => a = 0 | some y => ev f y = i64 a) (hhi : match hi with | none => b = (l.length : Int) | some y => ev f y = i64 b) (hs : subL l a b = some m) : Qa P o f (subV v a.toNat b.toNat) := by
  intro w'
  obtain ⟨p, cap, rfl, hc⟩ := h.shape
  obtain ⟨⟨h0, h1, h2⟩, _⟩ := subL_some.1 hs
  have hb : ∀ c w, (Instr.sliceBound (i64 b) cap c).run P w = .ok b.toNat w := fun c w => run_bound rfl (by omega) (by omega) w
  have ha : ∀ c w, (Instr.sliceBound (i64 a) b.toNat c).run P w = .ok a.toNat w := fun c w => run_bound rfl (by omega) (by omega) w
  have ha' : b = (l.length : Int) → ∀ c w, (Instr.sliceBound (i64 a) l.length c).run P w = .ok a.toNat w := fun e c w => run_bound rfl (by omega) (by omega) w
  cases lo with
  | none =>
    cases hi with
    | none =>
      dsimp only at hlo hhi; subst hlo; subst hhi
      simp [execOp, ho, hx, Instr.sliceAt, run_underlying T.sl, Instr.slice, Instr.sliceBounds, ty_size T, subV]
    | some y =>
      dsimp only at hlo hhi; subst hlo
      simp [execOp, ho, hx, hhi, Instr.sliceAt, run_underlying T.sl, Instr.slice, Instr.sliceBounds, ty_size T, hb, subV]
  | some y =>
    cases hi with
    | none =>
      dsimp only at hlo hhi
      have := ha' hhi
      subst hhi
      simp [execOp, ho, hx, hlo, Instr.sliceAt, run_underlying T.sl, Instr.slice, Instr.sliceBounds, ty_size T, this, subV]
    | some y' =>
      dsimp only at hlo hhi
      simp [execOp, ho, hx, hlo, hhi, Instr.sliceAt, run_underlying T.sl, Instr.slice, Instr.sliceBounds, ty_size T, ha, hb, subV]
end
end Gk

/- What the operations that make or write memory come to: make, stores, append, copy, literals; texts; calls. No condition. -/
namespace Gk
open Go
section
variable {P : Program} {o : Oper} {f : Nat → Value} {w : World} {L : List Value}
theorem stp_of_run {R : Value → World → Prop} {v : Value} {w' : World} (h : (execOp (ev f) o).run P w = .ok (.value v) w') (hr : R v w') : Stp P o f w R := by
  unfold Stp; rw [h]; exact hr
theorem stp_of_skip {R : Value → World → Prop} {w' : World} (h : (execOp (ev f) o).run P w = .ok .skip w') (hr : R undef w') : Stp P o f w R := by
  unfold Stp; rw [h]; exact hr
theorem mem_most {n bytes : Nat} (h : n ≤ most) (hb : bytes ≤ 24) : n * bytes ≤ 140737488355328 ∧ bytes * n ≤ 281474976710656 ∧ n ≤ maxLen := by
  have h1 : n * bytes ≤ 5000000000000 * 24 := Nat.mul_le_mul h hb
  refine ⟨by omega, by rw [Nat.mul_comm]; omega, ?_⟩
  simp only [maxLen]; simp only [most] at h; omega
theorem stp_make {α : Type} {R : World → List Value → Value → α → Prop} {x y : Operand} {t e : TypeId} {z : Value} {bytes : Nat} {n : Int} {a : α} {l : List α}
    (ho : o.op = .makeSlice t x y) (T : TyS P t e z bytes) (hx : ev f x = i64 n) (hy : ev f y = i64 n) (hl : makeL n a = some l) (hz : ∀ w L, R w L z a)
    {K : Value → World → Prop} (hk : ∀ v w', OwK R w' (v :: L) e v l → Nw w v → w.grownBy w' none → Lift w w' L (v :: L) → K v w') : Stp P o f w K := by
  obtain ⟨i, hi, h1, h2, h3⟩ := info_parts T.info
  unfold makeL at hl
  split at hl
  · rename_i hn
    obtain ⟨hn0, hn1⟩ := hn
    obtain ⟨m, rfl⟩ := Int.eq_ofNat_of_zero_le hn0
    have hm : m ≤ most := by omega
    obtain ⟨b1, b2, b3⟩ := mem_most hm T.fit
    obtain ⟨w', hr, hown, hg⟩ := run_make_full (P := P) w 0 t e i z 1 T.sl hi h1 h2 .i64 .i64 m (by rw [h3]; exact b2) b3 (Nat.zero_le _)
    have hcs : (madeCells z.cells (m * 1)).toList = List.replicate m z := by rw [T.cell, Nat.mul_one, toList_madeCells_one]
    rw [hcs] at hown
    have hv : Nw w (.slice (some ⟨w.heap.size, 0, none⟩) m m) := Nw.mk _ _ _
    refine stp_of_run (w' := w') (v := .slice (some ⟨w.heap.size, 0, none⟩) m m) (by simp [execOp, ho, hx, hy, i64, hr]) (hk _ _ ?_ hv hg (Lift.new L hg hv))
    simp only [Int.toNat_natCast, Option.some.injEq] at hl
    subst hl
    refine ⟨List.replicate m z, Ow.mk (by simp) (by simpa using hown), by simp, fun i a1 a2 => by simpa using hz w' _⟩
  · cases hl
theorem stp_store {α : Type} {R : World → List Value → Value → α → Prop} (hR : Stab R) {x y : Operand} {t e : TypeId} {z v u : Value} {bytes : Nat} {i : Int} {a : α} {l l' : List α} (L1 L2 : List Value)
    (ho : o.op = .store e x y) (T : TyS P t e z bytes) (hx : ev f x = adr v i.toNat) (hy : ev f y = u) (h : OwK R w (L1 ++ v :: L2) e v l) (hp : put l i a = some l') (hu : R w (L1 ++ v :: L2) u a) (hc : u.oneCell' = true)
    {K : Value → World → Prop} (hk : ∀ w', OwK R w' (L1 ++ v :: L2) e v l' → Gr w w' v → Lift w w' (L1 ++ v :: L2) (L1 ++ v :: L2) → K undef w') : Stp P o f w K := by
  obtain ⟨i', hi, h1, h2, h3⟩ := info_parts T.info
  obtain ⟨us, hown, hl, he⟩ := h
  obtain ⟨⟨h0, hlt⟩, rfl⟩ := put_some.1 hp
  rcases hown with ⟨_, _, rfl⟩ | ⟨g, cap, hv, hpos, hown⟩
  · simp at hl; omega
  · subst hv
    obtain ⟨hst, hgr0⟩ := World.ownsRow.stored hown i.toNat u
    have hgr : Gr w (w.setCell ⟨g, i.toNat, none⟩ u) (.slice (some ⟨g, 0, none⟩) us.length cap) := Gr.of (by rw [oB_pos hpos]; exact hgr0)
    have hcell := World.ownsRow.cellAt hown i.toNat (by omega)
    have hfr := World.ownsRow.frozenAt hown i.toNat
    have hlift : Lift w (w.setCell ⟨g, i.toNat, none⟩ u) (L1 ++ .slice (some ⟨g, 0, none⟩) us.length cap :: L2) (L1 ++ .slice (some ⟨g, 0, none⟩) us.length cap :: L2) := Lift.own L1 L2 hgr (Nx.refl _ _)
    refine stp_of_skip (w' := w.setCell ⟨g, i.toNat, none⟩ u) ?_ (hk _ ?_ hgr hlift)
    · have hcs : u.cells = #[u] := by cases u <;> simp_all [Value.cells, Value.oneCell']
      have hcl : w.cell? ⟨g, 0 + i.toNat, none⟩ = some (us[i.toNat]'(by omega)) := by rw [Nat.zero_add, hcell]; simp
      simp only [execOp, ho, hx, hy, adr, Instr.storeAt, Instr.sureAddr, storeVar, hcs, add_off, Sem.run_bind, Sem.run_pure, Result.andThen_ok]
      simp [Go.sizeOf, typeInfo, hi, h2, storeCells, add_off, store, Addr.add]
      cases u <;> simp_all [Sem.run, Value.oneCell']
    · refine ⟨us.set i.toNat u, Ow.mk (by simp) (by simpa using hst), by simp [hl], fun j a1 a2 => ?_⟩
      simp only [List.getElem_set]
      split
      · exact hR _ _ _ _ _ _ hlift hu
      · exact hR _ _ _ _ _ _ hlift (he j (by simpa using a1) (by simpa using a2))
theorem appL_some {α : Type} {l m r : List α} : appL l m = some r ↔ l.length + m.length ≤ most ∧ l ++ m = r := by
  unfold appL
  by_cases h : l.length + m.length ≤ most
  · rw [if_pos h]; simp [h]
  · rw [if_neg h]; simp [h]
theorem run_app {t ty e : TypeId} {z v x : Value} {bytes : Nat} {us ns : List Value} (T : TyS P t e z bytes) (h : Ow w e v us) (hx : Sl w [] x ns) (h1 : ∀ u ∈ ns, u.oneCell' = true) (hm : us.length + ns.length ≤ most) :
    ∃ v' w', (Builtin.append_ #[t, t] ty #[v, x]).run P w = .ok v' w' ∧ Ow w' e v' (us ++ ns) ∧ Gr w w' v ∧ Nx w v v' ∧ Ow w' e v us := by
  obtain ⟨i, hi, i1, i2, i3⟩ := info_parts T.info
  obtain ⟨p, cap, rfl, hcap, hne⟩ := hx
  have same : ns = [] → ∃ v' w', (Builtin.append_ #[t, t] ty #[v, .slice p ns.length cap]).run P w = .ok v' w' ∧ Ow w' e v' (us ++ ns) ∧ Gr w w' v ∧ Nx w v v' ∧ Ow w' e v us := by
    intro hn
    subst hn
    refine ⟨v, w, ?_, by simpa using h, Gr.refl w v, Nx.refl w v, h⟩
    have hl0 : ∀ (a : Addr), (loadCells a 0).run P w = .ok #[] w := fun a => by simp [loadCells, loadCellsFrom]
    rcases h with ⟨pv, rfl, rfl⟩ | ⟨g, cap', rfl, hc0, h⟩
    · have hst : ∀ a : Addr, (storeCells a []).run P w = .ok () w := fun a => by simp [storeCells]
      cases pv <;> cases p <;> simp [Builtin.append_, run_underlying T.sl, Go.sizeOf, typeInfo, hi, Builtin.lenOf, Builtin.firstCells, hl0, hst]
    · obtain ⟨cur, hg, hc, _⟩ := row_spec h
      have hst : ∀ a : Addr, (storeCells a []).run P w = .ok () w := fun a => by simp [storeCells]
      cases p <;> simp [Builtin.append_, run_underlying T.sl, Go.sizeOf, typeInfo, hi, Builtin.lenOf, Builtin.firstCells, hl0, hc, hst]
  by_cases hn : ns = []
  · exact same hn
  · obtain ⟨b, off, rfl, _, hr⟩ := hne hn
    have hpos : 0 < ns.length := List.length_pos_iff.2 hn
    have hnews : ∀ j u, ns[j]? = some u → w.cell? ((⟨b, off, none⟩ : Addr).add j) = some u := fun j u hj => by
      obtain ⟨hj', rfl⟩ := List.getElem?_eq_some_iff.1 hj
      rw [add_off]; exact hr j hj'
    obtain ⟨b1, b2, b3⟩ := mem_most hm T.fit
    have h63 : ((us.length + ns.length : Nat) : Int) ≤ 9223372036854775807 := by simp only [most] at hm; omega
    have made : ∀ (old : Nat), (w.drew.alloc (.cells (us.toArray ++ ns.toArray ++ Builtin.zeroCells z.cells (grownCap w (us.length + ns.length) old e - (us.length + ns.length))) e)).ownsRow 0 e 1
          (.slice (some ⟨w.heap.size, 0, none⟩) (us.length + ns.length) (grownCap w (us.length + ns.length) old e)) (us.length + ns.length) (us ++ ns) := fun old => by
      have hge := grownCap_ge w (us.length + ns.length) old e
      refine ⟨by simp, .inr ⟨w.heap.size, _, _, rfl, Nat.zero_le _, heap_alloc_new w.drew _, hge, grownCap_le_maxLen w _ old e b3, ?_, ?_⟩⟩
      · simp only [Array.size_append, List.size_toArray, size_zeroCells, T.cell]
        simp; omega
      · simp only [Array.toList_append, List.append_assoc]
        rw [← List.append_assoc]
        exact List.take_left' (by simp)
    have hlen : (us ++ ns).length = us.length + ns.length := by simp
    have hnxn : ∀ (v : Value) (n c : Nat), Nx w v (.slice (some ⟨w.heap.size, 0, none⟩) n c) := fun v n c => (Nw.mk w n c).nx v
    rcases h with ⟨pv, rfl, rfl⟩ | ⟨g, cap', rfl, hc0, h⟩
    · cases pv with
      | some av =>
        have hr := run_append_grow (P := P) w t ty e i z T.sl hi i1 av 0 0 [] (by simp) (fun j u hj => by simp at hj) ⟨b, off, none⟩ ns.length cap ns (by rw [i2]; simp) hnews (by omega) (by simpa using h63) (by rw [i3]; exact growslice_fits (by omega) (by simpa using b1))
        have hmk := made 0
        exact ⟨_, _, hr, Ow.mk (by simp) hmk, Gr.of ⟨rfl, rfl, rfl, by simp, fun k hk _ => alloc_old w.drew _ k hk⟩, hnxn _ _ _, .inl ⟨_, rfl, rfl⟩⟩
      | none =>
      have hr := run_append_nil (P := P) w t ty e i z T.sl hi i1 ⟨b, off, none⟩ ns.length cap ns (by rw [i2]; simp) hnews hpos (by simpa using h63) (by rw [i3]; simp only [List.length_nil, Nat.zero_add] at b1; omega)
      have hmk := made 0
      simp only [List.length_nil, Nat.zero_add, List.nil_append, Array.empty_append] at hmk ⊢
      exact ⟨_, _, hr, Ow.mk rfl hmk, Gr.of ⟨rfl, rfl, rfl, by simp, fun k hk _ => alloc_old w.drew _ k hk⟩, hnxn _ _ _, .inl ⟨_, rfl, rfl⟩⟩
    · obtain ⟨cur, hg, hc, hcm, hcs, htake⟩ := row_spec h
      by_cases hroom : us.length + ns.length ≤ cap'
      · have hfit : us.length * i.size + ns.length ≤ cur.size := by rw [hcs, i2]; omega
        have hr := run_append_room (P := P) w t ty e i T.sl hi g us.length cap' cur hg ⟨b, off, none⟩ ns.length cap ns (by rw [i2]; simp) hnews h1 hroom hfit
        refine ⟨_, _, hr, Ow.mk hlen.symm ⟨by simp, .inr ⟨g, cap', _, rfl, Nat.zero_le _, setRow_heap w g cur _ e _ hg, hroom, hcm, ?_, ?_⟩⟩,
          Gr.of ⟨rfl, rfl, rfl, by simp, fun k _ hk => setRow_other w g k _ (fun e => hk (by rw [oB_pos hc0, e]))⟩, fun k hk => .inl (.inl (by have := hs_sl hk; rw [oB_pos hc0] at *; exact this)),
          .inr ⟨g, cap', rfl, hc0, by simp, .inr ⟨g, cap', _, rfl, Nat.zero_le _, setRow_heap w g cur _ e _ hg, hc, hcm, ?_, ?_⟩⟩⟩
        · simp only [List.size_toArray, List.length_append, List.length_take, List.length_drop, Array.length_toList, i2]
          omega
        · rw [i2, htake]
          exact List.take_left' (by simp)
        · simp only [List.size_toArray, List.length_append, List.length_take, List.length_drop, Array.length_toList, i2]
          omega
        · rw [i2, htake, List.append_assoc]
          exact List.take_left' (by simp)
      · have holds : ∀ j u, us[j]? = some u → w.cell? ((⟨g, 0, none⟩ : Addr).add j) = some u := World.ownsRow.cells h (g := g) rfl
        have hr := run_append_grow (P := P) w t ty e i z T.sl hi i1 ⟨g, 0, none⟩ us.length cap' us (by rw [i2]; simp) holds ⟨b, off, none⟩ ns.length cap ns (by rw [i2]; simp) hnews (by omega) h63 (by rw [i3]; exact growslice_fits (by omega) b1)
        exact ⟨_, _, hr, Ow.mk hlen.symm (made cap'), Gr.of ⟨rfl, rfl, rfl, by simp, fun k hk _ => alloc_old w.drew _ k hk⟩, hnxn _ _ _,
          Ow.kept (row := none) (.inr ⟨g, cap', rfl, hc0, h⟩) ⟨rfl, rfl, rfl, by simp, fun k hk _ => alloc_old w.drew _ k hk⟩ (fun _ _ e => by cases e)⟩
theorem stp_append2 {α : Type} {R : World → List Value → Value → α → Prop} (hR : Stab R) {s x : Operand} {t e : TypeId} {z v u : Value} {bytes : Nat} {l m r : List α} (L1 L2 : List Value)
    (ho : o.op = .call ⟨.builtin .append, #[s, x], #[t, t]⟩) (T : TyS P t e z bytes) (hs : ev f s = v) (hx : ev f x = u) (h : OwK R w (L1 ++ v :: L2) e v l) {Lu : List Value} (hu : SlK R w Lu u m) (hLu : ∀ u x, R w Lu u x → R w (L1 ++ v :: L2) u x) (hm : appL l m = some r) (h1 : ∀ w L u x, R w L u x → u.oneCell' = true)
    {K : Value → World → Prop} (hk : ∀ v' w', OwK R w' (L1 ++ v' :: L2) e v' r → Gr w w' v → Nx w v v' → Lift w w' (L1 ++ v :: L2) (L1 ++ v' :: L2) → OwK R w' (L1 ++ v' :: L2) e v l → K v' w') : Stp P o f w K := by
  obtain ⟨us, hown, hl, he⟩ := h
  obtain ⟨ns, hsl, hl', he0⟩ := hu
  have he' : ∀ i (h : i < ns.length) (h' : i < m.length), R w (L1 ++ v :: L2) ns[i] m[i] := fun i a b => hLu _ _ (he0 i a b)
  obtain ⟨hmost, rfl⟩ := appL_some.1 hm
  have hsl0 : Sl w [] u ns := hsl.lift (Lift.sub (fun _ _ => trivial))
  obtain ⟨v', w', hr, h2, h3, h4, h5⟩ := run_app (ty := o.type) T hown hsl0 (fun a ha => by
    obtain ⟨j, hj, rfl⟩ := List.getElem_of_mem ha
    exact h1 _ _ _ _ (he' j hj (by omega))) (by omega)
  have hlift := Lift.own L1 L2 h3 h4
  refine stp_of_run (v := v') (w' := w') ?_ (hk _ _ ⟨us ++ ns, h2, by simp [hl, hl'], fun i a1 a2 => ?_⟩ h3 h4 hlift ⟨us, h5, hl, fun i a1 a2 => hR _ _ _ _ _ _ hlift (he i a1 a2)⟩)
  · rw [exec_builtin _ ho]
    simp [builtin, hs, hx, hr]
  · by_cases hi : i < us.length
    · rw [List.getElem_append_left hi, List.getElem_append_left (by omega)]
      exact hR _ _ _ _ _ _ hlift (he i hi (by omega))
    · rw [List.getElem_append_right (by omega), List.getElem_append_right (by omega)]
      have := he' (i - us.length) (by simp at a1; omega) (by simp at a2; omega)
      simp only [hl] at this ⊢
      exact hR _ _ _ _ _ _ hlift this
theorem stp_append {α : Type} {R : World → List Value → Value → α → Prop} (hR : Stab R) {s x : Operand} {t e : TypeId} {z v u : Value} {bytes : Nat} {l m r : List α} (L1 L2 : List Value)
    (ho : o.op = .call ⟨.builtin .append, #[s, x], #[t, t]⟩) (T : TyS P t e z bytes) (hs : ev f s = v) (hx : ev f x = u) (h : OwK R w (L1 ++ v :: L2) e v l) {Lu : List Value} (hu : SlK R w Lu u m) (hLu : ∀ u x, R w Lu u x → R w (L1 ++ v :: L2) u x) (hm : appL l m = some r) (h1 : ∀ w L u x, R w L u x → u.oneCell' = true)
    {K : Value → World → Prop} (hk : ∀ v' w', OwK R w' (L1 ++ v' :: L2) e v' r → Gr w w' v → Nx w v v' → Lift w w' (L1 ++ v :: L2) (L1 ++ v' :: L2) → K v' w') : Stp P o f w K := by
  refine stp_append2 hR L1 L2 ho T hs hx h hu hLu hm h1 fun v' w' a b c d _ => hk v' w' a b c d
theorem fill_seq (us : List Value) : ∀ (k : Nat) (cells : List Value), k + us.length ≤ cells.length → (∀ u ∈ us, u.cells = #[u]) →
    Instr.fill (fun i => some (i * 1, 1)) cells.toArray ((us.zipIdx k).map fun p => (p.2, p.1)) = some (cells.take k ++ us ++ cells.drop (k + us.length)).toArray := by
  induction us with
  | nil => intro k cells hk _; simp [Instr.fill]
  | cons u us ih =>
    intro k cells hk hu
    have hc := hu u (by simp)
    simp only [List.length_cons] at hk
    simp only [List.zipIdx_cons, List.map_cons, Instr.fill, Nat.mul_one, hc]
    rw [if_neg (by simp; omega)]
    have hset : ((#[u] : Array Value).zipIdx.foldl (fun cs (c, j) => cs.setIfInBounds (k + j) c) cells.toArray) = (cells.set k u).toArray := by simp [Array.zipIdx]
    rw [hset]
    have := ih (k + 1) (cells.set k u) (by simp; omega) (fun x hx => hu x (by simp [hx]))
    simp only [Nat.mul_one] at this
    rw [this]
    congr 2
    rw [list_seg_step]
    · simp [Nat.add_assoc, Nat.add_comm 1]
    · simpa using hk
def Parts (f : Nat → Value) : List (Nat × Operand) → Nat → List Value → Prop
  | [], _, [] => True
  | (i, x) :: r, k, u :: us => i = k ∧ ev f x = u ∧ Parts f r (k + 1) us
  | _, _, _ => False
theorem Parts.eq {f : Nat → Value} : ∀ (l : List (Nat × Operand)) (k : Nat) (us : List Value), Parts f l k us → (l.map fun (i, x) => (i, ev f x)) = (us.zipIdx k).map fun p => (p.2, p.1)
  | [], _, [], _ => rfl
  | (i, x) :: r, k, u :: us, h => by
    obtain ⟨rfl, rfl, h⟩ := h
    simp [Parts.eq r (i + 1) us h]
theorem stp_lit {α : Type} {R : World → List Value → Value → α → Prop} {t e : TypeId} {z : Value} {bytes : Nat} {n : Nat} {parts : List (Nat × Operand)} (us : List Value) (l : List α)
    (ho : o.op = .buildSlice t n parts.toArray) (T : TyS P t e z bytes) (hn : Nat.ble n 16777216 = true) (hp : Parts f parts 0 us) (hl : us.length = n) (hc : ∀ u ∈ us, u.cells = #[u]) (hl' : us.length = l.length)
    (hu : ∀ w' L', Lift w w' L L' → ∀ i (h : i < us.length) (h' : i < l.length), R w' L' us[i] l[i])
    {K : Value → World → Prop} (hk : ∀ v w', OwK R w' (v :: L) e v l → Nw w v → w.grownBy w' none → Lift w w' L (v :: L) → K v w') : Stp P o f w K := by
  obtain ⟨i, hi, i1, i2, i3⟩ := info_parts T.info
  have hn' : n ≤ 16777216 := Nat.le_of_ble_eq_true hn
  have hlim : ¬ (16777216 < n) := by omega
  have hparts : (parts.toArray.map fun (i, x) => (i, ev f x)).toList = (us.zipIdx 0).map fun p => (p.2, p.1) := by
    rw [← Parts.eq parts 0 us hp]; simp
  have hrun : (Instr.buildSlice t n (parts.toArray.map fun (i, x) => (i, ev f x))).run P w = .ok (.slice (some ⟨w.heap.size, 0, none⟩) n n) (w.alloc (.cells us.toArray e)) := by
    have hfill : ∀ cells : List Value, cells.length = n → Instr.fill (fun i => some (i, 1)) cells.toArray ((us.zipIdx 0).map fun p => (p.2, p.1)) = some us.toArray := fun cells hcl => by
      have := fill_seq us 0 cells (by omega) hc
      simp only [Nat.mul_one] at this
      rw [this]
      simp [List.drop_eq_nil_of_le (show cells.length ≤ us.length by omega)]
    unfold Instr.buildSlice
    simp only [Sem.run_bind, run_underlying T.sl, Result.andThen_ok, ty_size T, Nat.mul_one, hparts]
    rw [if_neg hlim]
    by_cases h0 : n = 0
    · subst h0
      have hus : us = [] := List.eq_nil_of_length_eq_zero hl
      subst hus
      have hr0 : Array.range 0 = #[] := rfl
      simp [newRow, newObj, Sem.run, Instr.fill, hr0]
    · have hz : (zeroValue e).run P w = .ok z w := by simp [zeroValue, typeInfo, hi, i1]
      have hf2 := hfill ((List.range n).map (fun i => (#[z])[i % 1]!)) (by simp)
      have hf3 : Instr.fill (fun i => some (i, 1)) (Array.map (fun i => (#[z])[i % 1]!) (Array.range n)) ((us.zipIdx 0).map fun p => (p.2, p.1)) = some us.toArray := by
        rw [← hf2]; congr 1
        apply Array.ext'
        simp
      have hf4 : Instr.fill (fun i => some (i, 1)) (Array.map (fun x => (#[z])[x % (#[z] : Array Value).size]!) (Array.range n)) ((us.zipIdx 0).map fun p => (p.2, p.1)) = some us.toArray := hf3
      simp only [h0, if_false, Sem.run_bind, hz, T.cell, Result.andThen_ok, Sem.run_pure, hf4]
      simp [newRow, newObj, Sem.run]
  have hv : Nw w (.slice (some ⟨w.heap.size, 0, none⟩) n n) := Nw.mk _ _ _
  have hg := World.grownBy_alloc w (.cells us.toArray e) none
  refine stp_of_run (v := .slice (some ⟨w.heap.size, 0, none⟩) n n) (w' := w.alloc (.cells us.toArray e)) ?_ (hk _ _ ⟨us, ?_, hl', hu _ _ (Lift.new L hg hv)⟩ hv hg (Lift.new L hg hv))
  · simp only [execOp, ho, Sem.run_bind, hrun, Result.andThen_ok, Sem.run_pure]
  · have := World.ownsRow_lit (e := e) (size := 1) w us.toArray n (Nat.zero_le _) (by simp only [maxLen]; omega) (by simp [hl])
    exact Ow.mk hl.symm (by simpa using this)
def Rl {α : Type} (R : Value → α → Prop) (us : List Value) (l : List α) : Prop := us.length = l.length ∧ ∀ i (h : i < us.length) (h' : i < l.length), R us[i] l[i]
theorem Rl.take {α : Type} {R : Value → α → Prop} {us : List Value} {l : List α} (h : Rl R us l) (n : Nat) : Rl R (us.take n) (l.take n) :=
  ⟨by simp [h.1], fun i a b => by simp only [List.getElem_take]; exact h.2 i _ _⟩
theorem Rl.drop {α : Type} {R : Value → α → Prop} {us : List Value} {l : List α} (h : Rl R us l) (n : Nat) : Rl R (us.drop n) (l.drop n) :=
  ⟨by simp [h.1], fun i a b => by simp only [List.getElem_drop]; exact h.2 _ _ _⟩
theorem Rl.append {α : Type} {R : Value → α → Prop} {us vs : List Value} {l m : List α} (h : Rl R us l) (k : Rl R vs m) : Rl R (us ++ vs) (l ++ m) := by
  refine ⟨by simp [h.1, k.1], fun i a b => ?_⟩
  have h1 := h.1
  by_cases hi : i < us.length
  · rw [List.getElem_append_left hi, List.getElem_append_left (by omega)]; exact h.2 i _ _
  · rw [List.getElem_append_right (by omega), List.getElem_append_right (by omega)]
    have := k.2 (i - us.length) (by simp at a; omega) (by simp at b; omega)
    simp only [h1] at this ⊢
    exact this
theorem splice_take {α : Type} (cur nt : List α) (n k : Nat) (h : k + nt.length ≤ n) (hn : n ≤ cur.length) :
    (cur.take k ++ nt ++ cur.drop (k + nt.length)).take n = (cur.take n).take k ++ (nt ++ (cur.take n).drop (k + nt.length)) := by
  apply List.ext_getElem?
  intro j
  rw [List.getElem?_take]
  by_cases hj : j < n
  · rw [if_pos hj]
    by_cases hjk : j < k
    · rw [List.append_assoc, List.getElem?_append_left (by simp; omega), List.getElem?_append_left (by simp; omega)]
      rw [List.getElem?_take, if_pos hjk, List.getElem?_take, if_pos hjk, List.getElem?_take, if_pos hj]
    · have e1 : (cur.take k).length = k := by simp; omega
      have e2 : ((cur.take n).take k).length = k := by simp; omega
      rw [List.append_assoc, List.getElem?_append_right (l₁ := cur.take k) (by omega), List.getElem?_append_right (l₁ := (cur.take n).take k) (by omega), e1, e2]
      by_cases hj2 : j - k < nt.length
      · rw [List.getElem?_append_left hj2, List.getElem?_append_left hj2]
      · rw [List.getElem?_append_right (by omega), List.getElem?_append_right (by omega), List.getElem?_drop, List.getElem?_drop, List.getElem?_take, if_pos (by omega)]
  · rw [if_neg hj, List.getElem?_eq_none]
    simp; omega
theorem stp_copy {α : Type} {R : World → List Value → Value → α → Prop} (hR : Stab R) {d x : Operand} {t e : TypeId} {z v dv u : Value} {bytes : Nat} {l m : List α} {off : Int} (L1 L2 : List Value)
    (ho : o.op = .call ⟨.builtin .copy, #[d, x], #[t, t]⟩) (T : TyS P t e z bytes) (hd : ev f d = dv) (hx : ev f x = u) (h : OwK R w (L1 ++ v :: L2) e v l)
    (hdv : dv = subV v off.toNat l.length) (h0 : 0 ≤ off) (hoff : off ≤ l.length)
    {Lu : List Value} (hu : SlK R w Lu u m) (hLu : ∀ u x, R w Lu u x → R w (L1 ++ v :: L2) u x) (h1 : ∀ w L u x, R w L u x → u.oneCell' = true)
    {K : Value → World → Prop} (hk : ∀ w', OwK R w' (L1 ++ v :: L2) e v (copyL l off m) → Gr w w' v → Lift w w' (L1 ++ v :: L2) (L1 ++ v :: L2) → K (i64 (min m.length (l.length - off.toNat) : Nat)) w') : Stp P o f w K := by
  obtain ⟨us, hown, hl, he⟩ := h
  obtain ⟨ns, ⟨p, cap, hp, hcap, hne⟩, hl', he0⟩ := hu
  have he' : ∀ i (h : i < ns.length) (h' : i < m.length), R w (L1 ++ v :: L2) ns[i] m[i] := fun i a b => hLu _ _ (he0 i a b)
  obtain ⟨i, hi, i1, i2, i3⟩ := info_parts T.info
  have hsz : (P.info? e).map (·.size) = some 1 := by rw [hi]; simp [i2]
  obtain ⟨k, rfl⟩ := Int.eq_ofNat_of_zero_le h0
  simp only [Int.toNat_natCast] at *
  have hkl : k ≤ us.length := by omega
  have hmin : Nat.min ns.length (us.length - k) = min m.length (l.length - k) := by rw [hl, hl']
  by_cases hz : Nat.min ns.length (us.length - k) = 0
  · have hrun : (Builtin.copy_ #[t, t] o.type #[dv, u]).run P w = .ok (goInt 0) w := by
      rcases hown with ⟨pv, rfl, rfl⟩ | ⟨g, cap', rfl, hc0, hown⟩
      · subst hdv; subst hp
        cases pv <;> exact run_copy_none (P := P) w t t o.type e _ _ _ _ _ _ T.sl hsz (by rw [← hl]; exact hz)
      · subst hdv; subst hp
        exact run_copy_none (P := P) w t t o.type e _ _ _ _ _ _ T.sl hsz (by rw [← hl]; exact hz)
    refine stp_of_run (v := goInt 0) (w' := w) (by rw [exec_builtin _ ho]; simp [builtin, hd, hx, hrun]) ?_
    have hk' := hk w ⟨us, hown, ?_, ?_⟩ (Gr.refl w _) (Lift.sub (fun _ h => h))
    · rw [show min m.length (l.length - k) = 0 by omega] at hk'
      exact hk'
    · have h2 : min m.length (l.length - k) = 0 := by omega
      simp only [copyL, Int.toNat_natCast, List.length_append, List.length_take, List.length_drop]; omega
    · have : copyL l (k : Int) m = l := by
        unfold copyL
        simp only [Int.toNat_natCast]
        have h2 : min m.length (l.length - k) = 0 := by omega
        rw [h2]
        rcases Nat.eq_zero_or_pos (l.length - k) with h3 | h3
        · rw [h3]; simp
        · have : m.length = 0 := by omega
          rw [List.eq_nil_of_length_eq_zero this]; simp
      rw [this]
      exact he
  · have hpos : 0 < Nat.min ns.length (us.length - k) := Nat.pos_of_ne_zero hz
    have hns0 : 0 < ns.length := by have := Nat.min_le_left ns.length (us.length - k); omega
    have hus0 : 0 < us.length - k := by have := Nat.min_le_right ns.length (us.length - k); omega
    obtain ⟨b, so, rfl, _, hr⟩ := hne (List.length_pos_iff.1 hns0)
    rcases hown with ⟨pv, rfl, rfl⟩ | ⟨g, cap', rfl, hc0, hown⟩
    · simp at hus0
    · obtain ⟨cur, hg, hc, hcm, hcs, htake⟩ := row_spec hown
      have hn : (ns.take (us.length - k)).length = Nat.min ns.length (us.length - k) := by simp; exact Nat.min_comm _ _
      have hadr : dv = .slice (some ⟨g, k, none⟩) (us.length - k) (cap' - k) := by
        rw [hdv, ← hl]; simp only [subV]; rw [if_neg (by omega)]; simp [add_off]
      have hrun := run_copy_row (P := P) w t t o.type e g k (us.length - k) (cap' - k) ⟨b, so, none⟩ ns.length cap cur e (ns.take (us.length - k)) T.sl hsz hg hn
        (fun j v hj => by
          obtain ⟨hj', rfl⟩ := List.getElem?_eq_some_iff.1 hj
          rw [add_off, hr j (by simp at hj'; omega)]; simp)
        (by rw [hn, hcs]; have := Nat.min_le_right ns.length (us.length - k); omega)
        (fun a ha => by
          obtain ⟨j, hj, rfl⟩ := List.getElem_of_mem ha
          simp only [List.getElem_take]
          exact h1 _ _ _ _ (he' j (by simp at hj; omega) (by simp at hj; omega)))
      generalize hw' : w.setRow g (cur.toList.take k ++ ns.take (us.length - k) ++ cur.toList.drop (k + (ns.take (us.length - k)).length)).toArray = w' at hrun
      have hgr : Gr w w' (.slice (some ⟨g, 0, none⟩) us.length cap') := Gr.of (by rw [oB_pos hc0]; rw [← hw']; exact ⟨rfl, rfl, rfl, by simp, fun j _ hj => setRow_other w g j _ (fun e => hj (by rw [e]))⟩)
      have hlift : Lift w w' (L1 ++ .slice (some ⟨g, 0, none⟩) us.length cap' :: L2) (L1 ++ .slice (some ⟨g, 0, none⟩) us.length cap' :: L2) := Lift.own L1 L2 hgr (Nx.refl _ _)
      have hnew : (us.take k ++ (ns.take (us.length - k) ++ us.drop (k + (ns.take (us.length - k)).length))).length = us.length := by
        simp; omega
      refine stp_of_run (v := goInt (ns.take (us.length - k)).length) (w' := w') (by rw [exec_builtin _ ho]; simp [builtin, hd, hx, hadr, hp, hrun]) ?_
      have hk' := hk w' ⟨us.take k ++ (ns.take (us.length - k) ++ us.drop (k + (ns.take (us.length - k)).length)), ?_, ?_, ?_⟩ hgr hlift
      · rw [← hmin, ← hn] at hk'; exact hk'
      · refine Ow.mk hnew.symm ⟨by simpa using hnew, .inr ⟨g, cap', _, rfl, Nat.zero_le _, by rw [← hw']; exact setRow_heap w g cur _ e _ hg, hc, hcm, ?_, ?_⟩⟩
        · simp only [List.size_toArray, List.length_append, List.length_take, List.length_drop, Array.length_toList, hcs]
          omega
        · have hl1 : (ns.take (us.length - k)).length ≤ us.length - k := by simp; omega
          simp only [Nat.mul_one] at htake ⊢
          rw [splice_take cur.toList _ us.length k (by omega) (by have h9 : cur.toList.length = cur.size := Array.length_toList; simp at hcs; omega), htake]
      · simp [copyL]; omega
      · have r1 : Rl (R w' (L1 ++ .slice (some ⟨g, 0, none⟩) us.length cap' :: L2)) us l := ⟨hl, fun i h h' => hR _ _ _ _ _ _ hlift (he i h h')⟩
        have r2 : Rl (R w' (L1 ++ .slice (some ⟨g, 0, none⟩) us.length cap' :: L2)) ns m := ⟨hl', fun i h h' => hR _ _ _ _ _ _ hlift (he' i h h')⟩
        have r3 := (r1.take k).append ((r2.take (us.length - k)).append (r1.drop (k + (ns.take (us.length - k)).length)))
        have e5 : min m.length (us.length - k) = (ns.take (us.length - k)).length := by simp [hl']; exact Nat.min_comm _ _
        have e4 : copyL l (k : Int) m = l.take k ++ (m.take (us.length - k) ++ l.drop (k + (ns.take (us.length - k)).length)) := by
          unfold copyL; simp only [Int.toNat_natCast, ← hl, e5]
        rw [e4]
        exact r3.2
theorem q_str {x : Operand} {t d e : TypeId} {z v : Value} {bytes : Nat} {l : List UInt8} (ho : o.op = .convert t d x) (T : TyS P t e z bytes) (hd : P.underlying d = some .string) (he : P.underlying e = some (.int .u8)) (hx : ev f x = v) (h : By w L v l) : Qt P o f w (str l) := by
  intro w' hx'
  obtain ⟨us, ⟨p, cap, hv, hc, hne⟩, hl, hr⟩ := h
  have hus : us = l.map u8 := List.ext_getElem (by simp [hl]) fun i a1 a2 => by have := hr i a1 (by simpa using a2); simpa [Sc] using this
  subst hv
  have hrun : (convert t d (.slice p us.length cap)).run P w' = .ok (str l) w' := by
    by_cases hn : us = []
    · subst hn
      have hl0 : l = [] := List.eq_nil_of_length_eq_zero (by simpa using hl.symm)
      subst hl0
      cases p with
      | none => exact run_convert_bytes_nil w' t e T.sl he _ _ d hd
      | some a => exact run_convert_bytes_back w' t d e a cap [] T.sl he hd (fun j hj => by simp at hj)
    · obtain ⟨b, off, rfl, _, hr⟩ := hne hn
      rw [show us.length = l.length from hl]
      refine run_convert_bytes_back w' t d e _ cap l T.sl he hd fun j hj => ?_
      have hc := hr j (by omega)
      rw [add_off, World.cell?_of_block (w := w) (hx'.blk b (World.block_lt_of_cell? w _ hc)), hc]
      simp [hus, u8]
  simp [execOp, ho, hx, hrun]
theorem q_eqS {x y : Operand} {t t' : TypeId} {a b : List UInt8} (ho : o.op = .binOp .eql t x y t') (hx : ev f x = str a) (hy : ev f y = str b) : Qa P o f (.bool (decide (a = b))) := by
  intro w
  have h : (a == b) = decide (a = b) := by rw [Bool.eq_iff_iff]; simp
  simp [execOp, ho, hx, hy, str, eqGuard, binOp, Op.stringOp, h]
theorem q_neS {x y : Operand} {t t' : TypeId} {a b : List UInt8} (ho : o.op = .binOp .neq t x y t') (hx : ev f x = str a) (hy : ev f y = str b) : Qa P o f (.bool (!decide (a = b))) := by
  intro w
  have h : (a == b) = decide (a = b) := by rw [Bool.eq_iff_iff]; simp
  simp [execOp, ho, hx, hy, str, eqGuard, binOp, Op.stringOp, bne]
  simp [h]
theorem enters {g : FuncId} {fn : Func} (hf : P.funcs[g]? = some fn) (hn : (fn.name == "runtime.NumGoroutine") = false) (hb : fn.body.isNone = false) (args : Array Value) (w : World) : (callFunc g args).run P w = .ok (.enter g args) w := by
  have hn' : ¬ (fn.name = "runtime.NumGoroutine") := by intro e; rw [e] at hn; simp at hn
  have hb' : ¬ (fn.body = none) := by intro e; rw [e] at hb; simp at hb
  simp [callFunc, Sem.run_bind, program, Sem.run, hf, hn', hb']
theorem stp_call {g : FuncId} {fn : Func} {xs : Array Operand} {ats : Array TypeId} {vs : List Value} {R' : Ending → World → Prop} (hf : P.funcs[g]? = some fn) (hn : (fn.name == "runtime.NumGoroutine") = false) (hb : fn.body.isNone = false)
    (ho : o.op = .call ⟨.value (.func g), xs, ats⟩) (hx : xs.toList.map (ev f) = vs) (hc : Calls P g vs.toArray w R') {K : Value → World → Prop} (hk : ∀ e w', R' e w' → ∃ v, e = .returned v ∧ K v w') : Stp P o f w K := by
  have hxs : xs.map (ev f) = vs.toArray := by subst hx; apply Array.ext'; simp
  unfold Stp
  have : (execOp (ev f) o).run P w = .ok (.enter g vs.toArray) w := by
    have h1 := enters (P := P) hf hn hb vs.toArray w
    unfold execOp
    rw [ho]
    dsimp only
    simp only [resolve, ev, Deferred.ofValue, hxs, Sem.run_bind, Sem.run_pure, Result.andThen_ok, invoke]
    simpa using h1
  rw [this]
  exact hc.mono hk
end
end Gk

/- The walk's single steps, as the printed walks use them; further operations; the field's memory. No condition. -/
namespace Gk
open Go
section
variable {P : Program} {ops : Array Oper} {K : (Nat → Value) → World → Prop} {r : List Oper} {o : Oper} {f : Nat → Value} {w : World} {d : Nat} {v : Value}
theorem wla (hw : wantF ops f o = true) (hd : o.dst = some d) (hq : Qa P o f v) (h : wl P ops K r (upd f d v) w) : wl P ops K (o :: r) f w :=
  wl_a hw hq (by rw [hd]; exact h)
theorem wlq (hw : wantF ops f o = true) (hd : o.dst = some d) (hq : Qt P o f w v) (h : wl P ops K r (upd f d v) w) : wl P ops K (o :: r) f w :=
  wl_q hw hq (by rw [hd]; exact h)
theorem wls (hw : wantF ops f o = true) (hd : o.dst = some d) (h : Stp P o f w (fun v w' => wl P ops K r (upd f d v) w')) : wl P ops K (o :: r) f w :=
  wl_stp hw (by rw [hd]; exact h)
theorem wln (hw : wantF ops f o = true) (hd : o.dst = none) (h : Stp P o f w (fun _ w' => wl P ops K r f w')) : wl P ops K (o :: r) f w :=
  wl_stp hw (by rw [hd]; exact h)
theorem wlk (hw : wantF ops f o = false) (hd : o.dst = some d) (h : wl P ops K r (upd f d undef) w) : wl P ops K (o :: r) f w :=
  wl_skip hw (by rw [hd]; exact h)
theorem wlb {b : Bool} (hw : wantF ops f o = true) (hd : o.dst = some d) (hq : Qa P o f (.bool b)) (ht : b = true → wl P ops K r (upd f d (.bool true)) w) (hf : b = false → wl P ops K r (upd f d (.bool false)) w) : wl P ops K (o :: r) f w := by
  refine wla hw hd hq ?_
  cases b
  · exact hf rfl
  · exact ht rfl
end
section
variable {P : Program} {ops : Array Oper} {qs : List Nat} {K : (Nat → Value) → World → Prop} {r : List (Nat × Nat)} {i : Nat} {o : Oper} {f : Nat → Value} {w : World} {d : Nat} {v : Value}
theorem wsa (ho : ops[i]? = some o) (hw : wantF ops f o = true) (hd : o.dst = some d) (hq : Qa P o f v) (h : ws P ops qs K r (upd f d v) w) : ws P ops qs K ((i, 0) :: r) f w :=
  ws_a ho hw hq (by rw [hd]; exact h)
theorem wsq (ho : ops[i]? = some o) (hw : wantF ops f o = true) (hd : o.dst = some d) (hq : Qt P o f w v) (h : ws P ops qs K r (upd f d v) w) : ws P ops qs K ((i, 1) :: r) f w :=
  ws_q ho hw hq (by rw [hd]; exact h)
theorem wss (ho : ops[i]? = some o) (hw : wantF ops f o = true) (hd : o.dst = some d) (h : Stp P o f w (fun v w' => Ext w w' ∧ ws P ops qs K r (upd f d v) w')) : ws P ops qs K ((i, 2) :: r) f w :=
  ws_stp ho hw (h.mono fun v w' h => ⟨.inl h.1, by rw [hd]; exact h.2⟩)
theorem wsc (ho : ops[i]? = some o) (hc : clearOf .any ops qs i = true) (hw : wantF ops f o = true) (hd : o.dst = some d) (h : Stp P o f w (fun v w' => ws P ops qs K r (upd f d v) w')) : ws P ops qs K ((i, 2) :: r) f w :=
  ws_stp ho hw (h.mono fun v w' h => ⟨.inr hc, by rw [hd]; exact h⟩)
theorem wsn (ho : ops[i]? = some o) (hc : clearOf .any ops qs i = true) (hw : wantF ops f o = true) (hd : o.dst = none) (h : Stp P o f w (fun _ w' => ws P ops qs K r f w')) : ws P ops qs K ((i, 2) :: r) f w :=
  ws_stp ho hw (h.mono fun v w' h => ⟨.inr hc, by rw [hd]; exact h⟩)
theorem wsk {t : Nat} (ho : ops[i]? = some o) (hw : wantF ops f o = false) (hd : o.dst = some d) (h : ws P ops qs K r (upd f d undef) w) : ws P ops qs K ((i, t) :: r) f w :=
  ws_skip ho hw (by rw [hd]; exact h)
theorem wsb {b : Bool} (ho : ops[i]? = some o) (hw : wantF ops f o = true) (hd : o.dst = some d) (hq : Qa P o f (.bool b)) (ht : b = true → ws P ops qs K r (upd f d (.bool true)) w) (hf : b = false → ws P ops qs K r (upd f d (.bool false)) w) : ws P ops qs K ((i, 0) :: r) f w := by
  refine wsa ho hw hd hq ?_
  cases b
  · exact hf rfl
  · exact ht rfl
end
theorem cst8 {f : Nat → Value} (n : UInt8) {m : Int} (h : (n.toNat : Int) = m) : ev f (.const (.int .u8 m)) = u8 n := by subst h; rfl
theorem cst32 {f : Nat → Value} (n : UInt32) {m : Int} (h : (n.toNat : Int) = m) : ev f (.const (.int .u32 m)) = u32 n := by subst h; rfl
theorem cst64 {f : Nat → Value} (n : UInt64) {m : Int} (h : (n.toNat : Int) = m) : ev f (.const (.int .u64 m)) = u64 n := by subst h; rfl
section
variable {f : Nat → Value} {x1 x2 x3 x4 x5 x6 x7 x8 : Operand} {v1 v2 v3 v4 v5 v6 v7 v8 : Value}
theorem ar0 : ([] : List Operand).map (ev f) = [] := rfl
theorem ar1 (h1 : ev f x1 = v1) : [x1].map (ev f) = [v1] := by simp [*]
theorem ar2 (h1 : ev f x1 = v1) (h2 : ev f x2 = v2) : [x1, x2].map (ev f) = [v1, v2] := by simp [*]
theorem ar3 (h1 : ev f x1 = v1) (h2 : ev f x2 = v2) (h3 : ev f x3 = v3) : [x1, x2, x3].map (ev f) = [v1, v2, v3] := by simp [*]
theorem ar4 (h1 : ev f x1 = v1) (h2 : ev f x2 = v2) (h3 : ev f x3 = v3) (h4 : ev f x4 = v4) : [x1, x2, x3, x4].map (ev f) = [v1, v2, v3, v4] := by simp [*]
theorem ar5 (h1 : ev f x1 = v1) (h2 : ev f x2 = v2) (h3 : ev f x3 = v3) (h4 : ev f x4 = v4) (h5 : ev f x5 = v5) : [x1, x2, x3, x4, x5].map (ev f) = [v1, v2, v3, v4, v5] := by simp [*]
end
def Old (w : World) (L : List Value) : Prop := ∀ k, w.heap.size ≤ k → Av L k
theorem Old.nil (w : World) : Old w [] := fun _ _ => trivial
theorem Old.ext {w w' : World} {L : List Value} (h : Old w L) (hx : Ext w w') : Old w' L := fun k hk => h k (Nat.le_trans hx.size hk)
theorem Old.cons {w : World} {L : List Value} {v : Value} (h : Old w L) (hv : ∀ k, Hs v k → k < w.heap.size) : Old w (v :: L) :=
  fun k hk => ⟨fun e => by have := hv k e; omega, h k hk⟩
theorem OwK.weak {α : Type} {R : World → List Value → Value → α → Prop} (hR : Stab R) {w : World} {L L' : List Value} {e : TypeId} {u : Value} {l : List α} (h : OwK R w L e u l) (hs : ∀ k, Av L k → Av L' k) : OwK R w L' e u l := by
  obtain ⟨us, h, hl, he⟩ := h
  exact ⟨us, h, hl, fun i h1 h2 => hR _ _ _ _ _ _ (Lift.sub hs) (he i h1 h2)⟩
theorem oc_u8 : ∀ (w : World) (L : List Value) (u : Value) (x : UInt8), Sc u8 w L u x → u.oneCell' = true := fun _ _ _ _ h => h ▸ rfl
theorem oc_u64 : ∀ (w : World) (L : List Value) (u : Value) (x : UInt64), Sc u64 w L u x → u.oneCell' = true := fun _ _ _ _ h => h ▸ rfl
theorem oc_sl {α : Type} {R : World → List Value → Value → α → Prop} : ∀ (w : World) (L : List Value) (u : Value) (x : List α), SlK R w L u x → u.oneCell' = true := fun _ _ _ _ h => by
  obtain ⟨p, cap, rfl, _⟩ := h.shape; rfl
section
variable {P : Program} {o : Oper} {f : Nat → Value}
theorem q_minI {x y : Operand} {ats : Array TypeId} {a b : Int} (ho : o.op = .call ⟨.builtin .min, #[x, y], ats⟩) (hx : ev f x = i64 a) (hy : ev f y = i64 b) : Qa P o f (i64 (if b < a then b else a)) := by
  intro w; rw [exec_builtin _ ho]; simp [builtin, Builtin.min_, Builtin.min2, hx, hy, i64]
theorem q_divI {x y : Operand} {t t' : TypeId} {a b c : Int} (ho : o.op = .binOp .quo t x y t') (hx : ev f x = i64 a) (hy : ev f y = i64 b) (h : divI a b = some c) : Qa P o f (i64 c) := by
  intro w
  unfold divI at h
  split at h
  · cases h
  · rename_i hb
    obtain rfl := Option.some.inj h
    unfold execOp; rw [ho]; dsimp only; rw [hx, hy]
    simp only [i64, eqGuard, binOp, Op.intDiv, if_neg hb, wI]
    rfl
theorem q_remI {x y : Operand} {t t' : TypeId} {a b c : Int} (ho : o.op = .binOp .rem t x y t') (hx : ev f x = i64 a) (hy : ev f y = i64 b) (h : remI a b = some c) : Qa P o f (i64 c) := by
  intro w
  unfold remI at h
  split at h
  · cases h
  · rename_i hb
    obtain rfl := Option.some.inj h
    unfold execOp; rw [ho]; dsimp only; rw [hx, hy]
    simp only [i64, eqGuard, binOp, Op.intDiv, if_neg hb]
    rfl
theorem run_eqP {t e : TypeId} (d : Nat) (p : Option Addr) (ht : P.underlying t = some (.pointer e)) (w : World) : (Op.equalIn (d + 1) t (.pointer p) (.pointer none)).run P w = .ok p.isNone w := by
  cases p <;> simp [Op.equalIn, run_underlying ht]
theorem q_eqP {x y : Operand} {t t' e : TypeId} {p : Option Addr} (ho : o.op = .binOp .eql t x y t') (ht : P.underlying t = some (.pointer e)) (hx : ev f x = .pointer p) (hy : ev f y = .pointer none) : Qa P o f (.bool p.isNone) := by
  intro w
  have h : (Op.equalIn 10000 t (.pointer p) (.pointer none)).run P w = .ok p.isNone w := run_eqP (P := P) 9999 p ht w
  unfold execOp; rw [ho]; dsimp only; rw [hx, hy]
  simp only [eqGuard, binOp, Op.equal, Op.maxDepth, Sem.run_bind, Sem.run_pure, Result.andThen_ok, h, Bool.not_true, Bool.false_eq_true, if_false]
theorem q_cvt8I {x : Operand} {t t' : TypeId} {k : IntKind} {a : Int} (ho : o.op = .convert t t' x) (ht : P.underlying t = some (.int k)) (ht' : P.underlying t' = some (.int .u8)) (hx : ev f x = i64 a) : Qa P o f (u8 (UInt8.ofInt a)) := by
  intro w
  have h : IntKind.u8.wrap a = ((UInt8.ofInt a).toNat : Int) := by
    rw [wrap_u8]; simp [UInt8.ofInt]; omega
  simp [execOp, ho, hx, i64, convert, run_underlying ht, run_underlying ht', Conv.intToInt, h, u8]
theorem q_cvtI8 {x : Operand} {t t' : TypeId} {k : IntKind} {a : UInt8} (ho : o.op = .convert t t' x) (ht : P.underlying t = some (.int k)) (ht' : P.underlying t' = some (.int .i64)) (hx : ev f x = u8 a) : Qa P o f (i64 (a.toNat : Int)) := by
  intro w
  have h : IntKind.i64.wrap (a.toNat : Int) = (a.toNat : Int) := wI_of (by omega) (by have := a.toNat_lt; omega)
  simp [execOp, ho, hx, i64, convert, run_underlying ht, run_underlying ht', Conv.intToInt, h, u8]
theorem q_cvt64I {x : Operand} {t t' : TypeId} {k : IntKind} {a : Int} (ho : o.op = .convert t t' x) (ht : P.underlying t = some (.int k)) (ht' : P.underlying t' = some (.int .u64)) (hx : ev f x = i64 a) : Qa P o f (u64 (UInt64.ofInt a)) := by
  intro w
  have h : IntKind.u64.wrap a = ((UInt64.ofInt a).toNat : Int) := by
    rw [wrap_u64]; simp [UInt64.ofInt]; omega
  simp [execOp, ho, hx, i64, convert, run_underlying ht, run_underlying ht', Conv.intToInt, h, u64]
theorem q_cvtI64 {x : Operand} {t t' : TypeId} {k : IntKind} {a : UInt64} (ho : o.op = .convert t t' x) (ht : P.underlying t = some (.int k)) (ht' : P.underlying t' = some (.int .i64)) (hx : ev f x = u64 a) : Qa P o f (i64 (wI (a.toNat : Int))) := by
  intro w
  simp [execOp, ho, hx, i64, convert, run_underlying ht, run_underlying ht', Conv.intToInt, wI, u64]
theorem q_cvt864 {x : Operand} {t t' : TypeId} {k : IntKind} {a : UInt64} (ho : o.op = .convert t t' x) (ht : P.underlying t = some (.int k)) (ht' : P.underlying t' = some (.int .u8)) (hx : ev f x = u64 a) : Qa P o f (u8 a.toUInt8) := by
  intro w
  have h : IntKind.u8.wrap (a.toNat : Int) = (a.toUInt8.toNat : Int) := by
    rw [wrap_u8]; simp
  simp [execOp, ho, hx, u64, convert, run_underlying ht, run_underlying ht', Conv.intToInt, h, u8]
end
end Gk

namespace Gk
open Go Go.Proofs
section
variable {ro : Option Nat} {P : Program} {n : Nat} {ops : Array Oper} {K : (Nat → Value) → World → Prop} {r : List Oper} {o : Oper} {f : Nat → Value} {w : World} {d : Nat} {x : Operand}
theorem wa {v : Value} (h : (wantF ops f o, o.dst) = (true, some d)) (hq : Qa P o f v) (k : wl P ops K r (upd f d v) w) : wl P ops K (o :: r) f w := wla (congrArg Prod.fst h) (congrArg Prod.snd h) hq k
theorem mv (v : Value) (h : (wantF ops f o, o.dst, o.op) = (true, some d, .move x)) (hx : ev f x = v) (k : wl P ops K r (upd f d v) w) : wl P ops K (o :: r) f w := wla (congrArg (·.1) h) (congrArg (·.2.1) h) (q_move (congrArg (·.2.2) h) hx) k
theorem av (v : Value) (h : (wantF ops f o, o.dst, o.op) = (true, some d, .assign x)) (hx : ev f x = v) (k : wl P ops K r (upd f d v) w) : wl P ops K (o :: r) f w := wla (congrArg (·.1) h) (congrArg (·.2.1) h) (q_assign (congrArg (·.2.2) h) hx) k
theorem W_rg {Q : Exit → (Nat → Value) → World → Prop} {id : Nat} {l : List Oper} (h : wl P l.toArray (Q .normal) l f w) (hok : okRegion n l.toArray = true := by kernel_rfl) : W (ro := ro) P n (.region id l.toArray false) Q f w := W_reg hok h
theorem wnt {Q Q' : Exit → (Nat → Value) → World → Prop} {y : Code} (h : W (ro := ro) P n y Q f w) : wl P ops (Th (W (ro := ro) P n y Q) Q' .normal) [] f w := h
theorem sv {qs : List Nat} {i : Nat} {r : List (Nat × Nat)} (v : Value) (ho : ops[i]? = some o) (h : (wantF ops f o, o.dst, o.op) = (true, some d, .move x)) (hx : ev f x = v) (k : ws P ops qs K r (upd f d v) w) : ws P ops qs K ((i, 0) :: r) f w := wsa ho (congrArg (·.1) h) (congrArg (·.2.1) h) (q_move (congrArg (·.2.2) h) hx) k
theorem wq {v : Value} (h : (wantF ops f o, o.dst) = (true, some d)) (hq : Qt P o f w v) (k : wl P ops K r (upd f d v) w) : wl P ops K (o :: r) f w := wlq (congrArg Prod.fst h) (congrArg Prod.snd h) hq k
theorem sa {qs : List Nat} {i : Nat} {r : List (Nat × Nat)} {v : Value} (ho : ops[i]? = some o) (h : (wantF ops f o, o.dst) = (true, some d)) (hq : Qa P o f v) (k : ws P ops qs K r (upd f d v) w) : ws P ops qs K ((i, 0) :: r) f w := wsa ho (congrArg Prod.fst h) (congrArg Prod.snd h) hq k
theorem sq {qs : List Nat} {i : Nat} {r : List (Nat × Nat)} {v : Value} (ho : ops[i]? = some o) (h : (wantF ops f o, o.dst) = (true, some d)) (hq : Qt P o f w v) (k : ws P ops qs K r (upd f d v) w) : ws P ops qs K ((i, 1) :: r) f w := wsq ho (congrArg Prod.fst h) (congrArg Prod.snd h) hq k
end
theorem ifn {α : Type} {c : Prop} [Decidable c] {a b r : α} (h : decide c = false) (H : (if c then a else b) = r) : b = r := (if_neg (of_decide_eq_false h)).symm.trans H
theorem ifp {α : Type} {c : Prop} [Decidable c] {a b r : α} (h : decide c = true) (H : (if c then a else b) = r) : a = r := (if_pos (of_decide_eq_true h)).symm.trans H
theorem lt2 {a b : Nat} {v : Value} (h : a ≤ b) (m : ∀ k, Hs v k → b ≤ k) : ∀ k, Hs v k → a ≤ k := fun k hk => Nat.le_trans h (m k hk)
end Gk

/- Small words of the printed walks: tests, literals, elements that are references, the field's pointer. No condition. -/
namespace Gk
open Go
theorem ndec_t {p : Prop} [Decidable p] (h : (!decide p) = true) : ¬ p := by simpa using h
theorem ndec_f {p : Prop} [Decidable p] (h : (!decide p) = false) : p := by simpa using h
theorem SlK.nil {α : Type} (R : World → List Value → Value → α → Prop) (w : World) (L : List Value) : SlK R w L (.slice none 0 0) ([] : List α) :=
  ⟨[], ⟨none, 0, rfl, Nat.le_refl _, fun h => absurd rfl h⟩, rfl, fun i h => by simp at h⟩
theorem OwK.scal {α : Type} {enc : α → Value} {w : World} {L : List Value} {e : TypeId} {v : Value} {l : List α} (h : OwK (Sc enc) w L e v l) (L' : List Value) : OwK (Sc enc) w L' e v l := h
theorem Lift.arg {w0 w : World} {L : List Value} (h : Ext w0 w) (hL : ∀ k, k < w0.heap.size → Av L k) : Lift w0 w [] L := ⟨fun k _ ho _ _ => (h.blk k (lt_of_get ho)).trans ho, fun k hk _ => hL k hk⟩
theorem nv_nil {w0 : World} : ∀ k, k < w0.heap.size → Av [] k := fun _ _ => trivial
theorem nv_cons {w0 : World} {v : Value} {L : List Value} (h : Nw w0 v) (hL : ∀ k, k < w0.heap.size → Av L k) : ∀ k, k < w0.heap.size → Av (v :: L) k :=
  fun k hk => ⟨fun e => by have := h k e; omega, hL k hk⟩
def nz {α : Type} [DecidableEq α] [OfNat α 0] (b : α) : Option Unit := if b = 0 then none else some ()
theorem nz_ne {α : Type} [DecidableEq α] [OfNat α 0] {b : α} {u : Unit} (h : nz b = some u) : b ≠ 0 := by
  unfold nz at h; split at h
  · cases h
  · assumption
theorem copy_whole {α : Type} {R : World → List Value → Value → α → Prop} {w : World} {L : List Value} {e : TypeId} {v : Value} {l : List α} (h : OwK R w L e v l) : v = subV v (0 : Int).toNat l.length := by
  obtain ⟨us, h, hl, _⟩ := h
  rcases h with ⟨p, rfl, rfl⟩ | ⟨g, cap, rfl, _⟩
  · have : l.length = 0 := by simpa using hl.symm
    rw [this]; cases p <;> rfl
  · simp [subV, hl, Addr.add]
section
variable {P : Program} {ops : Array Oper} {K : (Nat → Value) → World → Prop} {r : List Oper} {o : Oper} {f : Nat → Value} {w w1 : World} {d : Nat}
variable {α : Type} {R : World → List Value → Value → α → Prop} {v z : Value} {L : List Value} {l : List α} {x : Operand} {t e : TypeId} {bytes : Nat} {i : Int} {a : α}
theorem wlq_load (hw : wantF ops f o = true) (hd : o.dst = some d) (ho : o.op = .load e x) (T : TyS P t e z bytes) (hx : ev f x = adr v i.toNat) (h : SlK R w1 L v l) (hi : idx l i = some a) (hE : Ext w1 w)
    (hk : ∀ u, R w1 L u a → wl P ops K r (upd f d u) w) : wl P ops K (o :: r) f w := by
  obtain ⟨u, hq, hu⟩ := q_load ho T hx h hi
  exact wlq hw hd (hq.ext hE) (hk u hu)
theorem wlq_loadO (hR : Stab R) (hw : wantF ops f o = true) (hd : o.dst = some d) (ho : o.op = .load e x) (T : TyS P t e z bytes) (hx : ev f x = adr v i.toNat) (h : OwK R w L e v l) (hi : idx l i = some a)
    (hk : ∀ u, R w L u a → wl P ops K r (upd f d u) w) : wl P ops K (o :: r) f w := by
  obtain ⟨us, hown, hl, he⟩ := h
  obtain ⟨h0, h1, h2⟩ := idx_some.1 hi
  have hs : SlK (fun _ _ u a => R w L u a) w [] v l := ⟨us, hown.sl [] (fun _ _ => trivial), hl, he⟩
  obtain ⟨u, hq, hu⟩ := q_load ho T hx hs hi
  exact wlq hw hd hq (hk u hu)
end
section
variable {P : Program} {ops : Array Oper} {qs : List Nat} {K : (Nat → Value) → World → Prop} {r : List (Nat × Nat)} {j : Nat} {o : Oper} {f : Nat → Value} {w w1 : World} {d : Nat}
variable {α : Type} {R : World → List Value → Value → α → Prop} {v z : Value} {L : List Value} {l : List α} {x : Operand} {t e : TypeId} {bytes : Nat} {i : Int} {a : α}
theorem wsq_load (hj : ops[j]? = some o) (hw : wantF ops f o = true) (hd : o.dst = some d) (ho : o.op = .load e x) (T : TyS P t e z bytes) (hx : ev f x = adr v i.toNat) (h : SlK R w1 L v l) (hi : idx l i = some a) (hE : Ext w1 w)
    (hk : ∀ u, R w1 L u a → ws P ops qs K r (upd f d u) w) : ws P ops qs K ((j, 1) :: r) f w := by
  obtain ⟨u, hq, hu⟩ := q_load ho T hx h hi
  exact wsq hj hw hd (hq.ext hE) (hk u hu)
theorem wsq_loadO (hR : Stab R) (hj : ops[j]? = some o) (hw : wantF ops f o = true) (hd : o.dst = some d) (ho : o.op = .load e x) (T : TyS P t e z bytes) (hx : ev f x = adr v i.toNat) (h : OwK R w L e v l) (hi : idx l i = some a)
    (hk : ∀ u, R w L u a → ws P ops qs K r (upd f d u) w) : ws P ops qs K ((j, 1) :: r) f w := by
  obtain ⟨us, hown, hl, he⟩ := h
  have hs : SlK (fun _ _ u a => R w L u a) w [] v l := ⟨us, hown.sl [] (fun _ _ => trivial), hl, he⟩
  obtain ⟨u, hq, hu⟩ := q_load ho T hx hs hi
  exact wsq hj hw hd hq (hk u hu)
end
theorem litS {α : Type} (enc : α → Value) {us : List Value} {l : List α} (h : us = l.map enc) {w : World} {L : List Value} : ∀ w' L', Lift w w' L L' → ∀ i (h : i < us.length) (h' : i < l.length), Sc enc w' L' us[i] l[i] := by
  subst h; intro w' _ _ i _ _; simp [Sc]
theorem litC {α : Type} (enc : α → Value) (hc : ∀ x, (enc x).cells = #[enc x]) {us : List Value} {l : List α} (h : us = l.map enc) : ∀ u ∈ us, u.cells = #[u] := by
  subst h; intro u hu; obtain ⟨x, _, rfl⟩ := List.mem_map.1 hu; exact hc x
theorem oneC_u8 (x : UInt8) : (u8 x).cells = #[u8 x] := rfl
theorem oneC_u64 (x : UInt64) : (u64 x).cells = #[u64 x] := rfl
inductive LitR {α : Type} (R : World → List Value → Value → α → Prop) (w : World) (L : List Value) : List Value → List α → Prop
  | nil : LitR R w L [] []
  | cons {u : Value} {x : α} {us : List Value} {l : List α} (h : R w L u x) (t : LitR R w L us l) : LitR R w L (u :: us) (x :: l)
theorem LitR.all {α : Type} {R : World → List Value → Value → α → Prop} (hR : Stab R) {w : World} {L : List Value} {us : List Value} {l : List α} (h : LitR R w L us l) : ∀ w' L', Lift w w' L L' → ∀ i (h : i < us.length) (h' : i < l.length), R w' L' us[i] l[i] := by
  induction h with
  | nil => intro w' _ _ i h; simp at h
  | cons h t ih =>
    intro w' L' hx i h1 h2
    cases i with
    | zero => exact hR _ _ _ _ _ _ hx h
    | succ i => exact ih w' L' hx i (by simpa using h1) (by simpa using h2)
theorem LitR.cells {α : Type} {R : World → List Value → Value → α → Prop} {w : World} {L : List Value} {us : List Value} {l : List α} (h : LitR R w L us l) (hc : ∀ u x, R w L u x → u.cells = #[u]) : ∀ u ∈ us, u.cells = #[u] := by
  induction h with
  | nil => intro u hu; simp at hu
  | cons h t ih =>
    intro u hu
    rcases List.mem_cons.1 hu with rfl | hu
    · exact hc _ _ h
    · exact ih u hu
theorem cells_sl {α : Type} {R : World → List Value → Value → α → Prop} {w : World} {L : List Value} (u : Value) (x : List α) (h : SlK R w L u x) : u.cells = #[u] := by
  obtain ⟨p, cap, rfl, _⟩ := h.shape; rfl
def fieldCells (pw : List UInt8) (lg : List Int) : Array Value := (pw.map u8 ++ lg.map i64).toArray
def FdT (pw : List UInt8) (lg : List Int) (T : TypeId) (w : World) (L : List Value) (v : Value) (b : Bool) : Prop :=
  (b = false ∧ v = .pointer none) ∨ (b = true ∧ ∃ g, v = .pointer (some ⟨g, 0, none⟩) ∧ Av L g ∧ w.heap[g]? = some (.cells (fieldCells pw lg) T (0, 0)))
theorem FdT.lift {pw : List UInt8} {lg : List Int} {T : TypeId} {w w' : World} {L L' : List Value} {v : Value} {b : Bool} (h : FdT pw lg T w L v b) (g : Lift w w' L L') : FdT pw lg T w' L' v b := by
  rcases h with h | ⟨hb, k, hv, ha, hk⟩
  · exact .inl h
  · have hlt : k < w.heap.size := (Array.getElem?_eq_some_iff.1 hk).1
    exact .inr ⟨hb, k, hv, g.av k hlt ha, g.blk k _ hk rfl ha⟩
section
variable {P : Program} {o : Oper} {f : Nat → Value} {pw : List UInt8} {lg : List Int} {T : TypeId} {w : World} {L : List Value} {v : Value} {b : Bool} {x y : Operand} {t t' e : TypeId}
theorem q_eqF (ho : o.op = .binOp .eql t x y t') (ht : P.underlying t = some (.pointer e)) (hx : ev f x = v) (hy : ev f y = .pointer none) (h : FdT pw lg T w L v b) : Qa P o f (.bool (!b)) := by
  rcases h with ⟨rfl, rfl⟩ | ⟨rfl, g, rfl, _⟩
  · exact q_eqP ho ht hx hy
  · exact q_eqP ho ht hx hy
end
def cnt (c : Int) : Option Nat := if 0 ≤ c then some c.toNat else none
theorem cnt_eq {c : Int} {m : Nat} (h : cnt c = some m) : c = (m : Int) := by
  unfold cnt at h; split at h
  · have := Option.some.inj h; omega
  · cases h
def shl8 (a : UInt8) (n : Nat) : UInt8 := UInt8.ofNat (a.toNat * 2 ^ min n 8)
def shr8 (a : UInt8) (n : Nat) : UInt8 := UInt8.ofNat (a.toNat / 2 ^ min n 8)
def shl32 (a : UInt32) (n : Nat) : UInt32 := UInt32.ofNat (a.toNat * 2 ^ min n 32)
def shr32 (a : UInt32) (n : Nat) : UInt32 := UInt32.ofNat (a.toNat / 2 ^ min n 32)
def shl64 (a : UInt64) (n : Nat) : UInt64 := UInt64.ofNat (a.toNat * 2 ^ min n 64)
def shr64 (a : UInt64) (n : Nat) : UInt64 := UInt64.ofNat (a.toNat / 2 ^ min n 64)
def shlI (a : Int) (n : Nat) : Int := wI (a * 2 ^ min n 64)
def shrI (a : Int) (n : Nat) : Int := a.fdiv (2 ^ min n 64)
section
variable {P : Program} {o : Oper} {f : Nat → Value} {x y : Operand} {t t' : TypeId} {yk : IntKind} {b : Int}
theorem run_shl {k : IntKind} (a : Int) (m : Nat) (hb : b = (m : Int)) (w : World) : (Op.shift .shl k a yk b).run P w = .ok (.int k (k.wrap (a * 2 ^ min m k.bits))) w := by
  subst hb; simp [Op.shift]; omega
theorem run_shr {k : IntKind} (a : Int) (m : Nat) (hb : b = (m : Int)) (w : World) : (Op.shift .shr k a yk b).run P w = .ok (.int k (a.fdiv (2 ^ min m k.bits))) w := by
  subst hb; simp [Op.shift]; omega
theorem q_shl8 {a : UInt8} (m : Nat) (ho : o.op = .binOp .shl t x y t') (hx : ev f x = u8 a) (hy : ev f y = .int yk b) (hb : b = (m : Int)) : Qa P o f (u8 (shl8 a m)) := by
  intro w
  have h := run_shl (P := P) (k := .u8) (yk := yk) (a.toNat : Int) m hb w
  have e : IntKind.u8.wrap ((a.toNat : Int) * 2 ^ min m IntKind.u8.bits) = ((shl8 a m).toNat : Int) := by
    rw [wrap_u8]; unfold shl8; simp [IntKind.bits]
  rw [e] at h
  unfold execOp; rw [ho]; dsimp only; rw [hx, hy]
  simp only [u8, eqGuard, binOp, Sem.run_bind, Sem.run_pure, Result.andThen_ok, Bool.not_false, if_true, h]
theorem q_shr8 {a : UInt8} (m : Nat) (ho : o.op = .binOp .shr t x y t') (hx : ev f x = u8 a) (hy : ev f y = .int yk b) (hb : b = (m : Int)) : Qa P o f (u8 (shr8 a m)) := by
  intro w
  have h := run_shr (P := P) (k := .u8) (yk := yk) (a.toNat : Int) m hb w
  have e : (a.toNat : Int).fdiv (2 ^ min m IntKind.u8.bits) = ((shr8 a m).toNat : Int) := by
    unfold shr8
    rw [Int.fdiv_eq_ediv_of_nonneg _ (by exact Int.le_of_lt (Int.pow_pos (by decide)))]
    have h1 : (a.toNat / 2 ^ min m 8) < 256 := Nat.lt_of_le_of_lt (Nat.div_le_self _ _) a.toNat_lt
    simp only [IntKind.bits, UInt8.toNat_ofNat', Nat.mod_eq_of_lt h1]
    norm_cast
  rw [e] at h
  unfold execOp; rw [ho]; dsimp only; rw [hx, hy]
  simp only [u8, eqGuard, binOp, Sem.run_bind, Sem.run_pure, Result.andThen_ok, Bool.not_false, if_true, h]
theorem q_shl32 {a : UInt32} (m : Nat) (ho : o.op = .binOp .shl t x y t') (hx : ev f x = u32 a) (hy : ev f y = .int yk b) (hb : b = (m : Int)) : Qa P o f (u32 (shl32 a m)) := by
  intro w
  have h := run_shl (P := P) (k := .u32) (yk := yk) (a.toNat : Int) m hb w
  have e : IntKind.u32.wrap ((a.toNat : Int) * 2 ^ min m IntKind.u32.bits) = ((shl32 a m).toNat : Int) := by
    rw [wrap_u32]; unfold shl32; simp [IntKind.bits]
  rw [e] at h
  unfold execOp; rw [ho]; dsimp only; rw [hx, hy]
  simp only [u32, eqGuard, binOp, Sem.run_bind, Sem.run_pure, Result.andThen_ok, Bool.not_false, if_true, h]
theorem q_shr32 {a : UInt32} (m : Nat) (ho : o.op = .binOp .shr t x y t') (hx : ev f x = u32 a) (hy : ev f y = .int yk b) (hb : b = (m : Int)) : Qa P o f (u32 (shr32 a m)) := by
  intro w
  have h := run_shr (P := P) (k := .u32) (yk := yk) (a.toNat : Int) m hb w
  have e : (a.toNat : Int).fdiv (2 ^ min m IntKind.u32.bits) = ((shr32 a m).toNat : Int) := by
    unfold shr32
    rw [Int.fdiv_eq_ediv_of_nonneg _ (by exact Int.le_of_lt (Int.pow_pos (by decide)))]
    have h1 : (a.toNat / 2 ^ min m 32) < 4294967296 := Nat.lt_of_le_of_lt (Nat.div_le_self _ _) a.toNat_lt
    simp only [IntKind.bits, UInt32.toNat_ofNat', Nat.mod_eq_of_lt h1]
    norm_cast
  rw [e] at h
  unfold execOp; rw [ho]; dsimp only; rw [hx, hy]
  simp only [u32, eqGuard, binOp, Sem.run_bind, Sem.run_pure, Result.andThen_ok, Bool.not_false, if_true, h]
theorem q_shl64 {a : UInt64} (m : Nat) (ho : o.op = .binOp .shl t x y t') (hx : ev f x = u64 a) (hy : ev f y = .int yk b) (hb : b = (m : Int)) : Qa P o f (u64 (shl64 a m)) := by
  intro w
  have h := run_shl (P := P) (k := .u64) (yk := yk) (a.toNat : Int) m hb w
  have e : IntKind.u64.wrap ((a.toNat : Int) * 2 ^ min m IntKind.u64.bits) = ((shl64 a m).toNat : Int) := by
    rw [wrap_u64]; unfold shl64; simp [IntKind.bits]
  rw [e] at h
  unfold execOp; rw [ho]; dsimp only; rw [hx, hy]
  simp only [u64, eqGuard, binOp, Sem.run_bind, Sem.run_pure, Result.andThen_ok, Bool.not_false, if_true, h]
theorem q_shr64 {a : UInt64} (m : Nat) (ho : o.op = .binOp .shr t x y t') (hx : ev f x = u64 a) (hy : ev f y = .int yk b) (hb : b = (m : Int)) : Qa P o f (u64 (shr64 a m)) := by
  intro w
  have h := run_shr (P := P) (k := .u64) (yk := yk) (a.toNat : Int) m hb w
  have e : (a.toNat : Int).fdiv (2 ^ min m IntKind.u64.bits) = ((shr64 a m).toNat : Int) := by
    unfold shr64
    rw [Int.fdiv_eq_ediv_of_nonneg _ (by exact Int.le_of_lt (Int.pow_pos (by decide)))]
    have h1 : (a.toNat / 2 ^ min m 64) < 18446744073709551616 := Nat.lt_of_le_of_lt (Nat.div_le_self _ _) a.toNat_lt
    simp only [IntKind.bits, UInt64.toNat_ofNat', Nat.mod_eq_of_lt h1]
    norm_cast
  rw [e] at h
  unfold execOp; rw [ho]; dsimp only; rw [hx, hy]
  simp only [u64, eqGuard, binOp, Sem.run_bind, Sem.run_pure, Result.andThen_ok, Bool.not_false, if_true, h]
theorem q_shlI {a : Int} (m : Nat) (ho : o.op = .binOp .shl t x y t') (hx : ev f x = i64 a) (hy : ev f y = .int yk b) (hb : b = (m : Int)) : Qa P o f (i64 (shlI a m)) := by
  intro w
  have h := run_shl (P := P) (k := .i64) (yk := yk) a m hb w
  unfold execOp; rw [ho]; dsimp only; rw [hx, hy]
  simp only [i64, eqGuard, binOp, Sem.run_bind, Sem.run_pure, Result.andThen_ok, Bool.not_false, if_true, h]
  rfl
theorem q_shrI {a : Int} (m : Nat) (ho : o.op = .binOp .shr t x y t') (hx : ev f x = i64 a) (hy : ev f y = .int yk b) (hb : b = (m : Int)) : Qa P o f (i64 (shrI a m)) := by
  intro w
  have h := run_shr (P := P) (k := .i64) (yk := yk) a m hb w
  unfold execOp; rw [ho]; dsimp only; rw [hx, hy]
  simp only [i64, eqGuard, binOp, Sem.run_bind, Sem.run_pure, Result.andThen_ok, Bool.not_false, if_true, h]
  rfl
def xorI (a b : Int) : Int := wI ((BitVec.ofInt 64 a ^^^ BitVec.ofInt 64 b).toNat : Int)
def andI (a b : Int) : Int := wI ((BitVec.ofInt 64 a &&& BitVec.ofInt 64 b).toNat : Int)
theorem q_xorI {a b : Int} (ho : o.op = .binOp .xor t x y t') (hx : ev f x = i64 a) (hy : ev f y = i64 b) : Qa P o f (i64 (xorI a b)) := by
  intro w; unfold execOp; rw [ho]; dsimp only; rw [hx, hy]; rfl
theorem q_andI {a b : Int} (ho : o.op = .binOp .and t x y t') (hx : ev f x = i64 a) (hy : ev f y = i64 b) : Qa P o f (i64 (andI a b)) := by
  intro w; unfold execOp; rw [ho]; dsimp only; rw [hx, hy]; rfl
theorem q_negI {a : Int} (ho : o.op = .unOp .neg t x) (hx : ev f x = i64 a) : Qa P o f (i64 (wI (0 - a))) := by
  intro w; unfold execOp; rw [ho]; dsimp only; rw [hx]; rfl
end
end Gk

/- From a statement's arguments to what the walks are told of them; and back. No condition. -/
namespace Gk
open Go Go.ChangeShapes Go.WideShapes Go.ChangeAt Go.RowKit
section
variable {H : Type} {enc : TypeId × Value → H} {P : Program} {W : World} {t e : TypeId} {v : Value} {d : DataW H} {p : List MemPlace} {r : Reach} {b0 : Nat}
def El {α : Type} (H : Type) (enc : TypeId × Value → H) (P : Program) (W : World) (e : TypeId) (R : World → List Value → Value → α → Prop) : Prop :=
  ∀ (fuel : Nat) (u : Value) (y : DataW H × List MemPlace), DataW.trod enc P W 0 (fun _ => true) true fuel e [u] = some y → ∃ x, R W [] u x
theorem of_wf_u8 {n : Int} (h : (Lit.int .u8 n).wf = true) : Value.int .u8 n = u8 (UInt8.ofNat n.toNat) := by
  simp [Lit.wf, IntKind.has, IntKind.min, IntKind.max, IntKind.signed, IntKind.bits] at h
  simp only [u8, Value.int.injEq, true_and]
  have : (UInt8.ofNat n.toNat).toNat = n.toNat := by simp; omega
  rw [this]; omega
theorem of_wf_i64 {n : Int} (h : (Lit.int .i64 n).wf = true) : -9223372036854775808 ≤ n ∧ n ≤ 9223372036854775807 := by
  simp [Lit.wf, IntKind.has, IntKind.min, IntKind.max, IntKind.signed, IntKind.bits] at h
  omega
theorem el_u8 (he : P.underlying e = some (.int .u8)) : El H enc P W e (Sc u8) := by
  intro fuel u y h
  obtain ⟨n, hc, _, hw⟩ := DataW.trod_int he h
  simp at hc; subst hc
  exact ⟨_, of_wf_u8 hw⟩
theorem el_sl {α : Type} {R : World → List Value → Value → α → Prop} (ht : P.underlying t = some (.slice e)) (hc : P.cellsOf e = 1) (hR : El H enc P W e R) : El H enc P W t (SlK R) := by
  intro fuel u y h
  rcases DataW.trod_slice ht h with ⟨hcs, _⟩ | ⟨a, len, cap, elems, rest, n, _, hcs, _, _, hl, _, hlen, hel, _, _⟩
  · simp at hcs; subst hcs; exact ⟨[], SlK.nil _ _ _⟩
  · simp at hcs; subst hcs
    have each : ∀ i, i < len → ∃ c x, W.cell? (a.add i) = some c ∧ R W [] c x := by
      intro i hi
      have h1 := hel i hi
      rw [hc, Nat.mul_one] at h1
      have h2 : i < elems.length := by omega
      rw [List.getElem?_eq_getElem h2, Option.bind_eq_some_iff] at h1
      obtain ⟨cs, hcs, hy⟩ := h1
      have hl1 := World.cells?_some hcs
      match cs, hl1 with
      | [c], hl1 =>
        obtain ⟨x, hx⟩ := hR _ _ _ hy
        refine ⟨c, x, ?_, hx⟩
        have := hl1.2.2 0 (by omega)
        simpa [Addr.add] using this
      | [], hl1 => exact absurd hl1.2.1 (by simp)
      | _ :: _ :: _, hl1 => exact absurd hl1.2.1 (by simp)
    by_cases h0 : len = 0
    · subst h0
      exact ⟨[], [], ⟨some a, cap, rfl, hl, fun hn => absurd rfl hn⟩, rfl, fun i hi => by simp at hi⟩
    · obtain ⟨b, off, spot⟩ := a
      have hspot : spot = none := by
        obtain ⟨c, x, hc, _⟩ := each 0 (by omega)
        simpa [Addr.add] using World.cell?_spot hc
      subst hspot
      have each' : ∀ i, i < len → ∃ c x, W.cell? ⟨b, off + i, none⟩ = some c ∧ R W [] c x := fun i hi => by
        have := each i hi
        rwa [add_off] at this
      have hch : ∃ us : List Value, ∃ l : List α, us.length = len ∧ l.length = len ∧ ∀ i (h : i < us.length) (h' : i < l.length), W.cell? ⟨b, off + i, none⟩ = some us[i] ∧ R W [] us[i] l[i] := by
        refine ⟨(List.range len).attach.map (fun i => Classical.choose (each' i.1 (List.mem_range.1 i.2))), (List.range len).attach.map (fun i => Classical.choose (Classical.choose_spec (each' i.1 (List.mem_range.1 i.2)))), by simp, by simp, fun i h1 h2 => ?_⟩
        have hi : i < len := by simpa using h1
        have hs := Classical.choose_spec (Classical.choose_spec (each' i hi))
        simp only [List.getElem_map, List.getElem_attach, List.getElem_range]
        exact hs
      obtain ⟨us, l, hu, hll, hE⟩ := hch
      refine ⟨l, us, ⟨some ⟨b, off, none⟩, cap, by rw [hu], by omega, fun _ => ⟨b, off, rfl, trivial, fun i hi => (hE i hi (by omega)).1⟩⟩, by omega, fun i h1 h2 => (hE i h1 h2).2⟩
theorem rd_i64 (ht : P.underlying t = some (.int .i64)) (hval : Value.okWide P W r b0 t v) (h : DataW.Trod enc P W 0 (fun _ => true) true t v d p) : ∃ a, v = i64 a ∧ -9223372036854775808 ≤ a ∧ a ≤ 9223372036854775807 := by
  obtain ⟨x, rfl, _, _, wx⟩ := open_int ht hval h
  exact ⟨x, rfl, of_wf_i64 wx⟩
theorem rd_sl {α : Type} {R : World → List Value → Value → α → Prop} (ht : P.underlying t = some (.slice e)) (hc : P.cellsOf e = 1) (hR : El H enc P W e R) (hval : Value.okWide P W r b0 t v)
    (h : DataW.Trod enc P W 0 (fun _ => true) true t v d p) : ∃ l, SlK R W [] v l := by
  obtain ⟨a0, len0, cap0, rfl⟩ := okWide_slice ht hval
  obtain ⟨fuel, hf⟩ := h
  exact el_sl ht hc hR fuel _ _ (by simpa [Value.cells] using hf)
theorem rd_slL {α : Type} {R : World → List Value → Value → α → Prop} (ht : P.underlying t = some (.slice e)) (hc : P.cellsOf e = 1) (hR : El H enc P W e R) (hval : Value.okWide P W r b0 t v)
    (h : DataW.Trod enc P W 0 (fun _ => true) true t v d p) : ∃ l, SlK R W [] v l ∧ l.length ≤ 9223372036854775807 := by
  obtain ⟨l, hl⟩ := rd_sl ht hc hR hval h
  refine ⟨l, hl, ?_⟩
  obtain ⟨p, cap, rfl, hcap⟩ := hl.shape
  simp only [Value.okWide, ht, Cell.okWide, Cell.ok] at hval
  cases p with
  | none =>
    have h0 : l.length = 0 := by
      cases hn : l.length with
      | zero => rfl
      | succ n => rw [hn] at hval; cases cap <;> exact hval.elim
    omega
  | some a =>
    have h2 : (cap : Int) ≤ IntKind.i64.max := hval.2.1
    have h3 : IntKind.i64.max = 9223372036854775807 := rfl
    rw [h3] at h2
    omega
theorem Ext.same {W W' : World} (h : Ext W W') {q : MemPlace} (hq : q.block < W.heap.size) : W.sameAt W' q := by
  cases q with
  | cell b o => exact World.cell?_of_block (w := W) (h.blk b hq)
  | map b => exact h.blk b hq
theorem Ext.trod {W' : World} (hl : laidOutB P = true) (hr : P.readableRec t = true) (hrow : t < P.types.size) (h : DataW.Trod enc P W 0 (fun _ => true) true t v d p) (x : Ext W W') :
    DataW.Trod enc P W' 0 (fun b => decide (b < W.heap.size)) true t v d p := by
  have hlt : ∀ q ∈ p, q.block < W.heap.size := by obtain ⟨m, hm⟩ := h; exact DataW.trod_lt m _ _ _ hm
  exact WideElems.Trod_stays hl hr hrow h (fun q hq => x.same (hlt q hq)) (fun q hq => by simpa using hlt q hq)
theorem Ext.frame {W' : World} (h : Ext W W') (may : MemPlace → Prop) : W.keptBut W' may := by
  refine ⟨h.os, h.output, fun i hi => ?_⟩
  rw [h.blk i hi]
  cases hx : W.heap[i]? with
  | none => rfl
  | some o => cases o <;> simp
end
end Gk

/- Facts of the whole translation that each statement's step asks for. No condition. -/
namespace Go.Proofs.Ytmbnjinlfeopaaa
open Go.ChangeShapes Go.WideShapes Go.ChangeAt Go.RowKit
theorem wordsSigns_app (r : List Char) : ∀ w : List Char, w.all (fun c => c != Char.ofNat 32) = true → wordsSigns (w ++ Char.ofNat 32 :: r) = w :: wordsSigns r
  | [], _ => rfl
  | c :: w, h => by
    simp only [List.all_cons, Bool.and_eq_true] at h
    have ih := wordsSigns_app r w h.2
    have hc : c ≠ Char.ofNat 32 := by simpa using h.1
    simp only [List.cons_append]
    rw [wordsSigns.eq_3 _ _ (fun h => hc h), ih]
theorem words_of {S a b c r : String} (h : S = a ++ (" " ++ (b ++ (" " ++ (c ++ (" " ++ r)))))) (ha : a.toList.all (fun c => c != Char.ofNat 32) = true) (hb : b.toList.all (fun c => c != Char.ofNat 32) = true) (hc : c.toList.all (fun c => c != Char.ofNat 32) = true) :
    wordsSigns S.toList = a.toList :: b.toList :: c.toList :: wordsSigns r.toList := by
  have sp : " ".toList = [Char.ofNat 32] := by kernel_rfl
  rw [h, String.toList_append, String.toList_append, String.toList_append, String.toList_append, String.toList_append, String.toList_append, sp]
  simp only [List.cons_append, List.nil_append]
  rw [wordsSigns_app _ _ ha, wordsSigns_app _ _ hb, wordsSigns_app _ _ hc]
theorem behind {b : List Char} {r : List (List Char)} (hs : isSumSigns b = true) : behindMainWord ("harness".toList :: b :: "cut".toList :: r) = "cut".toList :: r := by
  simp only [behindMainWord, hs, beq_self_eq_true, Bool.true_or, Bool.and_self, if_true]
theorem mayEnter_of {P : Program} {b : List Char} {r : List (List Char)} (h : wordsSigns P.initOrder.toList = "harness".toList :: b :: "cut".toList :: r) (hs : isSumSigns b = true)
    (hl : P.laysLater = false) (hr : P.bearsReflect = false) (hd : P.doorFits [] = true) : P.mayEnter = true := by
  have e1 : stripLifts liftWords ("cut".toList :: r) = ([], "cut".toList :: r) := by kernel_rfl
  unfold Program.mayEnter
  rw [h]
  have e2 := behind (r := r) hs
  rw [e2]
  show _ = true
  simp only [e1, hl, hr, hd]
  kernel_rfl
theorem liftsFinal_of {P : Program} {b : List Char} {r : List (List Char)} (h : wordsSigns P.initOrder.toList = "harness".toList :: b :: "cut".toList :: r) (hs : isSumSigns b = true) : P.liftsFinal = false := by
  have e1 : stripLifts liftWords ("cut".toList :: r) = ([], "cut".toList :: r) := by kernel_rfl
  have e2 := behind (r := r) hs
  unfold Program.liftsFinal Program.headLifts
  dsimp only
  rw [h, e2, e1]
  show _ = false
  kernel_rfl
theorem make_of {P : Program} {b : List Char} {r : List (List Char)} (h : wordsSigns P.initOrder.toList = "harness".toList :: b :: "cut".toList :: r) (hs : isSumSigns b = true) : P.make = some .cut := by
  have e2 := behind (r := r) hs
  unfold Program.make
  rw [h, e2]
  show _ = some Make.cut
  kernel_rfl
theorem io : Try.checked.prog.initOrder = "harness" ++ (" " ++ ("1c91eb3754bd12321192fcb2d13e12e7ed61dda6fc02a3713031e875fec80861" ++ (" " ++ ("cut" ++ (" " ++ "at largesse/largesselaw17.StripeSpreads"))))) := by kernel_rfl
theorem sumOk : isSumSigns "1c91eb3754bd12321192fcb2d13e12e7ed61dda6fc02a3713031e875fec80861".toList = true := by kernel_rfl
theorem words : wordsSigns Try.checked.prog.initOrder.toList = "harness".toList :: "1c91eb3754bd12321192fcb2d13e12e7ed61dda6fc02a3713031e875fec80861".toList :: "cut".toList :: wordsSigns "at largesse/largesselaw17.StripeSpreads".toList :=
  words_of io (by kernel_rfl) (by kernel_rfl) (by kernel_rfl)
theorem mayEnterT : Try.checked.prog.mayEnter = true := mayEnter_of words sumOk (by as_aux_lemma => kernel_rfl) (by as_aux_lemma => kernel_rfl) (by as_aux_lemma => kernel_rfl)
theorem liftsFinalF : Try.checked.prog.liftsFinal = false := liftsFinal_of words sumOk
theorem makeT : Try.checked.prog.make = some .cut := make_of words sumOk
theorem ownKnobs : ownKnob Try.prog.godebug = none := by kernel_rfl
theorem laidOut : laidOutB Try.prog = true := by kernel_rfl
theorem mapsRowedT : mapsRowed Try.checked.prog = true := by kernel_rfl
theorem plainKeysT : Try.checked.prog.plainKeys = true := by kernel_rfl
theorem stopsHeardT : Try.checked.prog.stopsHeard = true := by kernel_rfl
theorem andT {a b : Bool} (h : a = true) (k : b = true) : (a && b) = true := by rw [h, k]; rfl
/-- The row's closed facts, out of their parts. -/
theorem joined {f : FuncId} {fn : Func} {s : ChangeSpec} {c : OpenClaim}
    (j0 : c.wf (OpenSpec.ofChange s) = true) (j3 : fn.params.all (Try.checked.prog.readableRec ·) = true) (j4 : namedTie Try.checked.prog c.named s.vars = true)
    (j5 : (c.stops == []) = true) (j6 : (Try.checked.prog.stops == []) = true) (j7 : (c.knobs == []) = true) (j8 : (Try.checked.prog.stopKnobs == []) = true)
    (j9 : (c.inPlace == Try.checked.prog.inPlace f) = true) (j10 : (c.unfollowed == Try.checked.prog.unfollowed f) = true) (j11 : (c.recurses == Try.checked.prog.recurses f) = true) (j12 : (c.named == Try.checked.prog.varsNamed f) = true)
    (j13 : (c.maps == (fn.params.toList ++ s.plain.varTypes Try.checked.prog).any (Try.checked.prog.mapsRec ·)) = true) (j14 : (c.ifaces == (fn.params.toList ++ s.plain.varTypes Try.checked.prog).any (Try.checked.prog.ifacesRec ·)) = true)
    (j15 : (c.mapsOut == Try.checked.prog.mapsAmong fn.resultTypes.toList) = true) (j16 : (c.loops == (fn.params.toList ++ s.plain.varTypes Try.checked.prog).any (Try.checked.prog.loopsFrom ·)) = true)
    (j17 : (c.wideKeys == (fn.params.toList ++ s.plain.varTypes Try.checked.prog ++ fn.resultTypes.toList).any (Try.checked.prog.wideKeysFrom ·)) = true) (j18 : s.vars.all (Try.checked.prog.varReadable ·) = true)
    (j19 : fn.resultTypes.all (fun t => Try.checked.prog.readableRec t && decide (t < Try.checked.prog.types.size)) = true) (j20 : (c.ifacesOut == fn.resultTypes.toList.any (Try.checked.prog.ifacesRec ·)) = true)
    (j21 : (c.loopsOut == fn.resultTypes.toList.any (Try.checked.prog.loopsFrom ·)) = true) (j22 : c.plainKeys = true) (j23 : c.shortTexts.isNone = true) (j26 : c.lifted = false) (j27 : c.make = .cut)
    (j28 : (c.kinds == (if c.domain.isEmpty then [] else fn.params.toList.map fun t => match Try.checked.prog.underlying t with | some (.int k) => some k | _ => none)) = true) (j29 : (c.pinned == c.pinnedBy) = true)
    (j30 : (c.veiled == (fn.params.toList ++ s.plain.varTypes Try.checked.prog ++ fn.resultTypes.toList).any (Try.checked.prog.veiledRec ·)) = true)
    (j31 : c.veiledFits Try.checked.prog fn.params.toList (fn.params.toList ++ s.plain.varTypes Try.checked.prog ++ fn.resultTypes.toList) = true) : joinedFacts Try.checked.prog f fn s c = true := by
  have h1 : laidOutB Try.checked.prog = true := laidOut
  have h2 : (c.plainKeys == Try.checked.prog.plainKeys) = true := by rw [j22, plainKeysT]; rfl
  have h3 : (c.lifted == Try.checked.prog.liftsFinal) = true := by rw [j26, liftsFinalF]; rfl
  have h4 : (Try.checked.prog.make == some c.make) = true := by rw [j27, makeT]; rfl
  unfold joinedFacts
  exact andT (andT (andT (andT (andT (andT (andT (andT (andT (andT (andT (andT (andT (andT (andT (andT (andT (andT (andT (andT (andT (andT (andT (andT (andT (andT (andT (andT (andT (andT (andT j0 h1) mapsRowedT) j3) j4) j5) j6) j7) j8) j9) j10) j11) j12) j13) j14) j15) j16) j17) j18) j19) j20) j21) h2) j23) stopsHeardT) mayEnterT) h3) h4) j28) j29) j30) j31
end Go.Proofs.Ytmbnjinlfeopaaa

/- Facts of this seat's program: its element types; the field's type. No condition. -/
namespace Gk
open Go Go.Proofs
theorem mixed : Try.prog.follows .mixedOrders = true := by kernel_rfl
theorem T22 : TyS Try.prog 22 5 (u8 0) 1 := ⟨Try.underlying22, by kernel_rfl, rfl, Try.isAgg5, by decide⟩
theorem T28 : TyS Try.prog 28 22 (.slice none 0 0) 24 := ⟨Try.underlying28, by kernel_rfl, rfl, Try.isAgg22, by decide⟩
theorem T91 : TyS Try.prog 91 66 (u64 0) 8 := ⟨Try.underlying91, by kernel_rfl, rfl, Try.isAgg66, by decide⟩
end Gk

/- The field of 256 numbers, in plain Lean: products bit by bit, the field's laws, powers of 3, and the tables of powers. No program here; no condition. -/
namespace Gf
def dbl (a : UInt8) : UInt8 := if a.toNat < 128 then UInt8.ofNat (2 * a.toNat) else UInt8.ofNat (2 * a.toNat) ^^^ 27
def bit (b : UInt8) (i : Nat) : Bool := b.toNat.testBit i
def sel (c : Bool) (a : UInt8) : UInt8 := if c then a else 0
def dblN : Nat → UInt8 → UInt8
  | 0, a => a
  | n + 1, a => dblN n (dbl a)
def mul (a b : UInt8) : UInt8 :=
  sel (bit b 0) (dblN 0 a) ^^^ sel (bit b 1) (dblN 1 a) ^^^ sel (bit b 2) (dblN 2 a) ^^^ sel (bit b 3) (dblN 3 a) ^^^
  sel (bit b 4) (dblN 4 a) ^^^ sel (bit b 5) (dblN 5 a) ^^^ sel (bit b 6) (dblN 6 a) ^^^ sel (bit b 7) (dblN 7 a)
theorem all8 {P : UInt8 → Prop} (h : ∀ n : Fin 256, P (UInt8.ofNat n.val)) (a : UInt8) : P a := by
  have := h ⟨a.toNat, a.toNat_lt⟩
  simpa using this
theorem xor_comm (a b : UInt8) : a ^^^ b = b ^^^ a := UInt8.xor_comm a b
theorem xor_assoc (a b c : UInt8) : a ^^^ b ^^^ c = a ^^^ (b ^^^ c) := UInt8.xor_assoc a b c
theorem xor_self (a : UInt8) : a ^^^ a = 0 := UInt8.xor_self
theorem xor_zero (a : UInt8) : a ^^^ 0 = a := UInt8.xor_zero
theorem zero_xor (a : UInt8) : 0 ^^^ a = a := UInt8.zero_xor
theorem xor_cancel (a b : UInt8) : a ^^^ (a ^^^ b) = b := by rw [← xor_assoc, xor_self, zero_xor]
theorem xor_eq_zero {a b : UInt8} (h : a ^^^ b = 0) : a = b := by
  have := xor_cancel a b; rw [h, xor_zero] at this; exact this
def Add (f : UInt8 → UInt8) : Prop := ∀ x y, f (x ^^^ y) = f x ^^^ f y
theorem Add.zero {f : UInt8 → UInt8} (h : Add f) : f 0 = 0 := by
  have := h 0 0
  rw [xor_zero] at this
  rw [this, xor_self]
def bas (i : Nat) : UInt8 := UInt8.ofNat (2 ^ i)
theorem split8 (a : UInt8) : a = sel (bit a 0) (bas 0) ^^^ sel (bit a 1) (bas 1) ^^^ sel (bit a 2) (bas 2) ^^^ sel (bit a 3) (bas 3) ^^^
    sel (bit a 4) (bas 4) ^^^ sel (bit a 5) (bas 5) ^^^ sel (bit a 6) (bas 6) ^^^ sel (bit a 7) (bas 7) := by
  revert a; refine all8 ?_; decide +kernel
theorem Add.sel {f : UInt8 → UInt8} (h : Add f) (c : Bool) (a : UInt8) : f (Gf.sel c a) = Gf.sel c (f a) := by
  cases c
  · exact h.zero
  · rfl
theorem lin_ext {f g : UInt8 → UInt8} (hf : Add f) (hg : Add g) (h : ∀ i, i < 8 → f (bas i) = g (bas i)) (a : UInt8) : f a = g a := by
  rw [split8 a]
  simp only [hf _ _, hg _ _, hf.sel, hg.sel]
  rw [h 0 (by decide), h 1 (by decide), h 2 (by decide), h 3 (by decide), h 4 (by decide), h 5 (by decide), h 6 (by decide), h 7 (by decide)]
theorem bit_xor (a b : UInt8) (i : Nat) : bit (a ^^^ b) i = (bit a i ^^ bit b i) := by simp [bit, Nat.testBit_xor]
theorem sel_xor (c d : Bool) (a : UInt8) : sel (c ^^ d) a = sel c a ^^^ sel d a := by cases c <;> cases d <;> simp [sel]
theorem sel_add (c : Bool) (a b : UInt8) : sel c (a ^^^ b) = sel c a ^^^ sel c b := by cases c <;> simp [sel]
theorem dbl_bits (a : UInt8) : dbl a = sel (bit a 0) 2 ^^^ sel (bit a 1) 4 ^^^ sel (bit a 2) 8 ^^^ sel (bit a 3) 16 ^^^ sel (bit a 4) 32 ^^^ sel (bit a 5) 64 ^^^ sel (bit a 6) 128 ^^^ sel (bit a 7) 27 := by
  revert a; refine all8 ?_; decide +kernel
theorem dbl_add : Add dbl := by
  intro a b
  simp only [dbl_bits, bit_xor, sel_xor]
  ac_rfl
theorem dblN_add (n : Nat) : Add (dblN n) := by
  induction n with
  | zero => intro a b; rfl
  | succ n ih => intro a b; simp only [dblN]; rw [dbl_add, ih]
theorem add_mul (a b c : UInt8) : mul (a ^^^ b) c = mul a c ^^^ mul b c := by
  simp only [mul, dblN_add _ _ _, sel_add]
  ac_rfl
theorem mul_add (a b c : UInt8) : mul a (b ^^^ c) = mul a b ^^^ mul a c := by
  simp only [mul, bit_xor, sel_xor]
  ac_rfl
theorem addL (c : UInt8) : Add (fun a => mul a c) := fun a b => add_mul a b c
theorem addR (a : UInt8) : Add (fun b => mul a b) := fun b c => mul_add a b c
theorem mul_comm (a b : UInt8) : mul a b = mul b a := by
  refine lin_ext (addL b) (addR b) (fun i hi => ?_) a
  refine lin_ext (f := fun b => mul (bas i) b) (g := fun b => mul b (bas i)) (addR _) (addL _) (fun j hj => ?_) b
  have : (List.range 8).all (fun i => (List.range 8).all (fun j => mul (bas i) (bas j) == mul (bas j) (bas i))) = true := by decide +kernel
  have h1 := List.all_eq_true.1 (List.all_eq_true.1 this i (List.mem_range.2 hi)) j (List.mem_range.2 hj)
  exact eq_of_beq h1
theorem mul_assoc (a b c : UInt8) : mul (mul a b) c = mul a (mul b c) := by
  have e1 : ∀ a b, Add (fun c => mul a (mul b c)) := fun a b x y => by show mul a (mul b (x ^^^ y)) = _; rw [mul_add, mul_add]
  have e2 : ∀ a c, Add (fun b => mul a (mul b c)) := fun a b x y => by show mul a (mul (x ^^^ y) b) = _; rw [add_mul, mul_add]
  have e3 : ∀ a c, Add (fun b => mul (mul a b) c) := fun a b x y => by show mul (mul a (x ^^^ y)) b = _; rw [mul_add, add_mul]
  have e4 : ∀ b c, Add (fun a => mul (mul a b) c) := fun a b x y => by show mul (mul (x ^^^ y) a) b = _; rw [add_mul, add_mul]
  refine lin_ext (e4 b c) (addL _) (fun i hi => ?_) a
  refine lin_ext (e3 _ c) (e2 _ c) (fun j hj => ?_) b
  refine lin_ext (addR _) (e1 _ _) (fun k hk => ?_) c
  have : (List.range 8).all (fun i => (List.range 8).all (fun j => (List.range 8).all (fun k => mul (mul (bas i) (bas j)) (bas k) == mul (bas i) (mul (bas j) (bas k))))) = true := by decide +kernel
  have h1 := List.all_eq_true.1 (List.all_eq_true.1 (List.all_eq_true.1 this i (List.mem_range.2 hi)) j (List.mem_range.2 hj)) k (List.mem_range.2 hk)
  exact eq_of_beq h1
theorem mul_zero (a : UInt8) : mul a 0 = 0 := (addR a).zero
theorem zero_mul (a : UInt8) : mul 0 a = 0 := (addL a).zero
theorem mul_one (a : UInt8) : mul a 1 = a := by revert a; refine all8 ?_; decide +kernel
theorem one_mul (a : UInt8) : mul 1 a = a := by rw [mul_comm, mul_one]
theorem mul_left_comm (a b c : UInt8) : mul a (mul b c) = mul b (mul a c) := by rw [← mul_assoc, mul_comm a b, mul_assoc]
def pw : Nat → UInt8
  | 0 => 1
  | n + 1 => mul (pw n) 3
def pl : Nat → UInt8 → List UInt8
  | 0, _ => []
  | n + 1, x => x :: pl n (mul x 3)
def E : List UInt8 := [1, 3, 5, 15, 17, 51, 85, 255, 26, 46, 114, 150, 161, 248, 19, 53, 95, 225, 56, 72, 216, 115, 149, 164, 247, 2, 6, 10, 30, 34, 102, 170, 229, 52, 92, 228, 55, 89, 235, 38, 106, 190, 217, 112, 144, 171, 230, 49, 83, 245, 4, 12, 20, 60, 68, 204, 79, 209, 104, 184, 211, 110, 178, 205, 76, 212, 103, 169, 224, 59, 77, 215, 98, 166, 241, 8, 24, 40, 120, 136, 131, 158, 185, 208, 107, 189, 220, 127, 129, 152, 179, 206, 73, 219, 118, 154, 181, 196, 87, 249, 16, 48, 80, 240, 11, 29, 39, 105, 187, 214, 97, 163, 254, 25, 43, 125, 135, 146, 173, 236, 47, 113, 147, 174, 233, 32, 96, 160, 251, 22, 58, 78, 210, 109, 183, 194, 93, 231, 50, 86, 250, 21, 63, 65, 195, 94, 226, 61, 71, 201, 64, 192, 91, 237, 44, 116, 156, 191, 218, 117, 159, 186, 213, 100, 172, 239, 42, 126, 130, 157, 188, 223, 122, 142, 137, 128, 155, 182, 193, 88, 232, 35, 101, 175, 234, 37, 111, 177, 200, 67, 197, 84, 252, 31, 33, 99, 165, 244, 7, 9, 27, 45, 119, 153, 176, 203, 70, 202, 69, 207, 74, 222, 121, 139, 134, 145, 168, 227, 62, 66, 198, 81, 243, 14, 18, 54, 90, 238, 41, 123, 141, 140, 143, 138, 133, 148, 167, 242, 13, 23, 57, 75, 221, 124, 132, 151, 162, 253, 28, 36, 108, 180, 199, 82, 246]
theorem pl_eq : pl 255 1 = E := by decide +kernel
theorem pl_get : ∀ n i k, k < n → (pl n (pw i))[k]? = some (pw (i + k))
  | 0, _, _, h => by omega
  | n + 1, i, 0, _ => by simp [pl]
  | n + 1, i, k + 1, h => by
    have := pl_get n (i + 1) k (by omega)
    simp only [pl, List.getElem?_cons_succ]
    have e : i + (k + 1) = i + 1 + k := by omega
    rw [e, ← this]; rfl
theorem E_get (k : Nat) (h : k < 255) : E[k]? = some (pw k) := by
  have := pl_get 255 0 k h
  rw [Nat.zero_add] at this
  rw [← pl_eq]; exact this
theorem E_len : E.length = 255 := by decide +kernel
theorem E_nodup : E.Nodup := by decide +kernel
theorem E_all (a : UInt8) : a ≠ 0 → a ∈ E := by revert a; refine all8 ?_; decide +kernel
theorem pw_inj {i j : Nat} (hi : i < 255) (hj : j < 255) (h : pw i = pw j) : i = j := by
  have h1 := E_get i hi
  have h2 := E_get j hj
  rw [h, ← h2] at h1
  exact (List.getElem?_inj (by rw [E_len]; exact hi) E_nodup).1 h1
theorem pw_add (i j : Nat) : pw (i + j) = mul (pw i) (pw j) := by
  induction j with
  | zero => simp [pw, mul_one]
  | succ j ih => rw [Nat.add_succ]; simp only [pw]; rw [ih, mul_assoc]
theorem pw_255 : pw 255 = 1 := by
  have h := E_get 254 (by decide)
  have h2 : E[254]? = some 246 := by decide +kernel
  rw [h2] at h
  have h3 : pw 254 = 246 := (Option.some.inj h).symm
  show mul (pw 254) 3 = 1
  rw [h3]; decide +kernel
theorem pw_mod (n : Nat) : pw (n % 255) = pw n := by
  have h : ∀ k m, pw (255 * k + m) = pw m := by
    intro k m
    induction k with
    | zero => simp
    | succ k ih => rw [show 255 * (k + 1) + m = (255 * k + m) + 255 by omega, pw_add, pw_255, mul_one, ih]
  have := h (n / 255) (n % 255)
  rw [Nat.div_add_mod] at this
  exact this.symm
theorem pw_ne (n : Nat) : pw n ≠ 0 := by
  intro h
  have h1 := pw_add n (255 * n - n)
  rw [h, zero_mul, show n + (255 * n - n) = 255 * n by omega, ← pw_mod, Nat.mul_mod_right] at h1
  exact absurd h1 (by decide)
def lg (a : UInt8) : Nat := E.idxOf a % 255
theorem lg_lt (a : UInt8) : lg a < 255 := Nat.mod_lt _ (by decide)
theorem pw_lg {a : UInt8} (h : a ≠ 0) : pw (lg a) = a := by
  have h1 := List.idxOf_lt_length_of_mem (E_all a h)
  have h2 := E_get (E.idxOf a) (by rw [← E_len]; exact h1)
  rw [List.getElem?_eq_getElem h1, List.getElem_idxOf h1] at h2
  unfold lg
  rw [pw_mod]; exact (Option.some.inj h2).symm
theorem lg_zero : lg 0 = 0 := by decide +kernel
theorem mul_eq_zero {a b : UInt8} (h : mul a b = 0) : a = 0 ∨ b = 0 := by
  by_cases ha : a = 0
  · exact .inl ha
  · by_cases hb : b = 0
    · exact .inr hb
    · rw [← pw_lg ha, ← pw_lg hb, ← pw_add] at h; exact absurd h (pw_ne _)
theorem mul_ne {a b : UInt8} (ha : a ≠ 0) (hb : b ≠ 0) : mul a b ≠ 0 := fun h => (mul_eq_zero h).elim ha hb
theorem mul_pw {a b : UInt8} (ha : a ≠ 0) (hb : b ≠ 0) : pw (lg a + lg b) = mul a b := by rw [pw_add, pw_lg ha, pw_lg hb]
def inv (a : UInt8) : UInt8 := if a = 0 then 0 else pw (255 - lg a)
theorem mul_inv {a : UInt8} (h : a ≠ 0) : mul a (inv a) = 1 := by
  unfold inv; rw [if_neg h]
  have h1 := lg_lt a
  have : mul (pw (lg a)) (pw (255 - lg a)) = 1 := by rw [← pw_add, show lg a + (255 - lg a) = 255 by omega, pw_255]
  rwa [pw_lg h] at this
theorem inv_mul {a : UInt8} (h : a ≠ 0) : mul (inv a) a = 1 := by rw [mul_comm, mul_inv h]
theorem inv_zero : inv 0 = 0 := by simp [inv]
theorem inv_ne {a : UInt8} (h : a ≠ 0) : inv a ≠ 0 := fun e => by have := mul_inv h; rw [e, mul_zero] at this; exact absurd this (by decide)
theorem mul_cancel {a b c : UInt8} (h : a ≠ 0) (e : mul a b = mul a c) : b = c := by
  have : mul (inv a) (mul a b) = mul (inv a) (mul a c) := by rw [e]
  rwa [← mul_assoc, ← mul_assoc, inv_mul h, one_mul, one_mul] at this
theorem inv_uniq {a b : UInt8} (h : mul a b = 1) : b = inv a := by
  have ha : a ≠ 0 := fun e => by rw [e, zero_mul] at h; exact absurd h (by decide)
  exact mul_cancel ha (by rw [h, mul_inv ha])
def pow (a : UInt8) : Nat → UInt8
  | 0 => 1
  | n + 1 => mul (pow a n) a
def tabN : Nat → List UInt8 × List Int × UInt8
  | 0 => (List.replicate 510 0, List.replicate 256 0, 1)
  | n + 1 =>
    let t := tabN n
    (((t.1.set n t.2.2).set (n + 255) t.2.2), t.2.1.set t.2.2.toNat (n : Int), mul t.2.2 3)
def pwT : List UInt8 := (tabN 255).1
def lgT : List Int := (tabN 255).2.1
theorem tab_pw (n : Nat) : (tabN n).2.2 = pw n := by
  induction n with
  | zero => rfl
  | succ n ih => simp only [tabN, pw]; rw [ih]
theorem tab_len (n : Nat) : (tabN n).1.length = 510 ∧ (tabN n).2.1.length = 256 := by
  induction n with
  | zero => exact ⟨List.length_replicate, List.length_replicate⟩
  | succ n ih =>
    simp only [tabN, List.length_set]
    exact ih
theorem pwT_len : pwT.length = 510 := (tab_len 255).1
theorem lgT_len : lgT.length = 256 := (tab_len 255).2
theorem tab_get (n : Nat) (hn : n ≤ 255) : ∀ k, k < n → (tabN n).1[k]? = some (pw k) ∧ (tabN n).1[k + 255]? = some (pw k) := by
  induction n with
  | zero => intro k h; omega
  | succ n ih =>
    intro k hk
    have hl := (tab_len n).1
    simp only [tabN, tab_pw, List.getElem?_set, List.length_set]
    rw [hl]
    rw [if_neg (by omega)]
    by_cases hkn : k = n
    · subst hkn
      simp only [if_pos trivial]
      rw [if_pos (by omega), if_pos (by omega)]
      exact ⟨rfl, rfl⟩
    · obtain ⟨h1, h2⟩ := ih (by omega) k (by omega)
      rw [if_neg (fun e => hkn e.symm), if_neg (by omega), if_neg (by omega)]
      exact ⟨h1, h2⟩
theorem tab_lg (n : Nat) (hn : n ≤ 255) : ∀ k, k < n → (tabN n).2.1[(pw k).toNat]? = some (k : Int) := by
  induction n with
  | zero => intro k h; omega
  | succ n ih =>
    intro k hk
    have hl := (tab_len n).2
    simp only [tabN, tab_pw, List.getElem?_set]
    rw [hl]
    have h256 := (pw n).toNat_lt
    by_cases hkn : k = n
    · subst hkn
      rw [if_pos rfl, if_pos h256]
    · have hne : ¬ (pw n).toNat = (pw k).toNat := fun e => hkn (pw_inj (by omega) (by omega) (UInt8.toNat_inj.1 e).symm)
      rw [if_neg hne]
      exact ih (by omega) k (by omega)
theorem tab_lg0 (n : Nat) : (tabN n).2.1[0]? = some 0 := by
  induction n with
  | zero => exact List.getElem?_replicate_of_lt (by decide)
  | succ n ih =>
    simp only [tabN, tab_pw, List.getElem?_set]
    rw [if_neg (fun e => pw_ne n (UInt8.toNat_inj.1 (by simpa using e)))]
    exact ih
theorem pwT_get (k : Nat) (h : k < 510) : pwT[k]? = some (pw k) := by
  by_cases h1 : k < 255
  · exact (tab_get 255 (Nat.le_refl _) k h1).1
  · have := (tab_get 255 (Nat.le_refl _) (k - 255) (by omega)).2
    rw [show k - 255 + 255 = k by omega] at this
    have e : pw (k - 255) = pw k := by
      rw [← pw_mod k, ← pw_mod (k - 255)]; exact congrArg pw (by omega)
    rw [e] at this; exact this
theorem lgT_get (a : UInt8) : lgT[a.toNat]? = some (lg a : Int) := by
  by_cases h : a = 0
  · subst h; rw [lg_zero]; exact tab_lg0 255
  · have := tab_lg 255 (Nat.le_refl _) (lg a) (lg_lt a)
    rw [pw_lg h] at this; exact this
end Gf

/- The field's memory: its pointer, its tables, and how they are read. No condition. -/
namespace Gk
open Go Go.Proofs
def Fd (w : World) (L : List Value) (v : Value) (b : Bool) : Prop := FdT Gf.pwT Gf.lgT 51 w L v b
theorem Fd.lift {w w' : World} {L L' : List Value} {v : Value} {b : Bool} (h : Fd w L v b) (g : Lift w w' L L') : Fd w' L' v b := FdT.lift h g
def padd (v : Value) (n : Nat) : Value := match v with | .pointer (some a) => .pointer (some (a.add n)) | v => v
def grd (b : Bool) : Option Unit := if b then some () else none
theorem grd_eq {b : Bool} {u : Unit} (h : grd b = some u) : b = true := by cases b <;> simp_all [grd]
theorem fieldAt0 (a : Addr) (w : World) : (Instr.fieldAt 51 (.pointer (some a)) 0).run Try.prog w = .ok (.pointer (some (a.add 0))) w := by
  simp [Instr.fieldAt, Instr.sureAddr, fieldPlace]
theorem fieldAt1 (a : Addr) (w : World) : (Instr.fieldAt 51 (.pointer (some a)) 1).run Try.prog w = .ok (.pointer (some (a.add 510))) w := by
  simp [Instr.fieldAt, Instr.sureAddr, fieldPlace]
section
variable {o : Oper} {f : Nat → Value} {w : World} {L : List Value} {v : Value} {b : Bool} {x y : Operand} {t e : TypeId}
theorem q_nilF (ho : o.op = .nilCheck x) (hx : ev f x = v) (h : Fd w L v b) (hb : b = true) : Qa Try.prog o f v := by
  intro w'
  rcases h with ⟨h1, _⟩ | ⟨_, g, rfl, _⟩
  · rw [hb] at h1; cases h1
  · simp [execOp, ho, hx]
theorem q_fld0 (ho : o.op = .fieldAddr 51 x 0) (hx : ev f x = v) (h : Fd w L v b) (hb : b = true) : Qa Try.prog o f (padd v 0) := by
  intro w'
  rcases h with ⟨h1, _⟩ | ⟨_, g, rfl, _⟩
  · rw [hb] at h1; cases h1
  · simp [execOp, ho, hx, fieldAt0, padd]
theorem q_fld1 (ho : o.op = .fieldAddr 51 x 1) (hx : ev f x = v) (h : Fd w L v b) (hb : b = true) : Qa Try.prog o f (padd v 510) := by
  intro w'
  rcases h with ⟨h1, _⟩ | ⟨_, g, rfl, _⟩
  · rw [hb] at h1; cases h1
  · simp [execOp, ho, hx, fieldAt1, padd]
theorem q_fix {k : IntKind} {i : Int} {n off : Nat} {α : Type} {l : List α} {c : α} (ho : o.op = .indexAddr t x y) (ht : Try.prog.underlying t = some (.array n e)) (hs : ∀ w, (Go.sizeOf e).run Try.prog w = .ok 1 w) (hl : l.length = n)
    (hx : ev f x = padd v off) (hy : ev f y = .int k i) (h : Fd w L v b) (hb : b = true) (hi : idx l i = some c) : Qa Try.prog o f (padd v (off + i.toNat)) := by
  intro w'
  obtain ⟨h0, h1, _⟩ := idx_some.1 hi
  rcases h with ⟨h2, _⟩ | ⟨_, g, rfl, _⟩
  · rw [hb] at h2; cases h2
  · have h3 : i < (n : Int) := by omega
    simp [execOp, ho, hx, hy, Instr.indexAt, asIntOf, run_underlying ht, Instr.sureAddr, padd, h0, h3, hs, add_off]
theorem fieldCells_pw (pw : List UInt8) (lg : List Int) (i : Nat) (c : UInt8) (h : pw[i]? = some c) : (fieldCells pw lg)[i]? = some (u8 c) := by
  have hi : i < pw.length := (List.getElem?_eq_some_iff.1 h).1
  simp [fieldCells, List.getElem?_append, hi]
  rw [(List.getElem?_eq_some_iff.1 h).2]
theorem fieldCells_lg (pw : List UInt8) (lg : List Int) (i : Nat) (c : Int) (h : lg[i]? = some c) : (fieldCells pw lg)[pw.length + i]? = some (i64 c) := by
  simp [fieldCells, List.getElem?_append, h]
theorem q_fload (u : Value) (m : Nat) (ho : o.op = .load e x) (ha : ∀ w, (isAgg e).run Try.prog w = .ok false w) (hx : ev f x = padd v m) (h : Fd w L v b) (hb : b = true) (hc : (fieldCells Gf.pwT Gf.lgT)[m]? = some u) : Qt Try.prog o f w u := by
  intro w' hE
  rcases h with ⟨h2, _⟩ | ⟨_, g, rfl, _, hg⟩
  · rw [hb] at h2; cases h2
  · have hlt : g < w.heap.size := (Array.getElem?_eq_some_iff.1 hg).1
    have hg' : w'.heap[g]? = some (.cells (fieldCells Gf.pwT Gf.lgT) 51 (0, 0)) := by rw [hE.blk g hlt]; exact hg
    have hcell : w'.cell? ⟨g, m, none⟩ = some u := by rw [cell_of_row w' g m _ _ _ hg', hc]
    simp [execOp, ho, hx, padd, Instr.loadAt, Instr.sureAddr, loadVar, ha, add_off, load, Sem.run, hcell]
theorem q_fload0 {i : Int} {c : UInt8} (ho : o.op = .load 5 x) (hx : ev f x = padd v (0 + i.toNat)) (h : Fd w L v b) (hb : b = true) (hi : idx Gf.pwT i = some c) : Qt Try.prog o f w (u8 c) := by
  obtain ⟨h0, h1, h2⟩ := idx_some.1 hi
  exact q_fload _ _ ho Try.isAgg5 hx h hb (by rw [Nat.zero_add]; exact fieldCells_pw _ _ _ _ (List.getElem?_eq_some_iff.2 ⟨h1, h2⟩))
theorem q_fload1 {i : Int} {c : Int} (ho : o.op = .load 3 x) (hx : ev f x = padd v (510 + i.toNat)) (h : Fd w L v b) (hb : b = true) (hi : idx Gf.lgT i = some c) : Qt Try.prog o f w (i64 c) := by
  obtain ⟨h0, h1, h2⟩ := idx_some.1 hi
  refine q_fload _ _ ho Try.isAgg3 hx h hb ?_
  have := fieldCells_lg Gf.pwT Gf.lgT i.toNat c (List.getElem?_eq_some_iff.2 ⟨h1, h2⟩)
  rw [Gf.pwT_len] at this
  exact this
theorem q_fix0 {k : IntKind} {i : Int} {c : UInt8} (ho : o.op = .indexAddr 48 x y) (hx : ev f x = padd v 0) (hy : ev f y = .int k i) (h : Fd w L v b) (hb : b = true) (hi : idx Gf.pwT i = some c) : Qa Try.prog o f (padd v (0 + i.toNat)) :=
  q_fix ho Try.underlying48 Try.sizeOf5 Gf.pwT_len hx hy h hb hi
theorem q_fix1 {k : IntKind} {i : Int} {c : Int} (ho : o.op = .indexAddr 49 x y) (hx : ev f x = padd v 510) (hy : ev f y = .int k i) (h : Fd w L v b) (hb : b = true) (hi : idx Gf.lgT i = some c) : Qa Try.prog o f (padd v (510 + i.toNat)) :=
  q_fix ho Try.underlying49 Try.sizeOf3 Gf.lgT_len hx hy h hb hi
end
end Gk

/- Printed by gen.py: for each Go function a pure function, and that the Go code comes to it. No condition beside the equation that says what the pure function gives. -/
namespace Gk
open Go Go.Proofs
noncomputable def field_Add (a0a : UInt8) (a1b : UInt8) : Option UInt8 := some (a0a ^^^ a1b)
theorem field_Add_calls (a0a : UInt8) (a1b : UInt8) (r : UInt8) (w0 : World) (H : field_Add a0a a1b = some r) :
    Calls Try.prog 92 [(u8 a0a), (u8 a1b)].toArray w0 (fun e w' => e = .returned (u8 r) ∧ Ext w0 w') := by
  have hE : Ext w0 w0 := Ext.refl w0; unfold field_Add at H; refine calls_W (n := 8) Try.func92 rfl rfl rfl ?_; refine W_seq <| W_rg <| av (u8 0) rfl (cst8 (0 : UInt8) rfl) <| wnt <| W_seq <| W_rg <| mv (u8 a0a) rfl rfl <| mv (u8 a1b) rfl rfl <| ?_; refine wa rfl (q_xor8 rfl rfl rfl) <| av (u8 ((a0a ^^^ a1b))) rfl rfl <| wnt <| W_ret <| ?_; obtain rfl := osi H; refine rt1 (u8 ((a0a ^^^ a1b))) rfl rfl rfl rfl ?_; exact ⟨rfl, hE⟩
noncomputable def field_double (a0a : UInt8) : Option UInt8 :=
(if (shr8 a0a 7) = (1 : UInt8) then some ((shl8 a0a 1) ^^^ (27 : UInt8))
else some (shl8 a0a 1))
theorem field_double_calls (a0a : UInt8) (r : UInt8) (w0 : World) (H : field_double a0a = some r) :
    Calls Try.prog 39 [(u8 a0a)].toArray w0 (fun e w' => e = .returned (u8 r) ∧ Ext w0 w') := by
  have hE : Ext w0 w0 := Ext.refl w0; unfold field_double at H; refine calls_W (n := 12) Try.func39 rfl rfl rfl ?_; refine W_seq <| W_rg <| av (u8 0) rfl (cst8 (0 : UInt8) rfl) <| wnt <| W_seq <| W_rg <| mv (u8 a0a) rfl rfl <| wa rfl (q_shl8 1 rfl rfl rfl rfl) <| ?_; refine av (u8 ((shl8 a0a 1))) rfl rfl <| wnt <| W_seq <| W_seq <| W_rg <| mv (u8 a0a) rfl rfl <| wa rfl (q_shr8 7 rfl rfl rfl rfl) <| wa rfl (q_eq8 rfl rfl (cst8 (1 : UInt8) rfl)) <| ?_; refine wnt ?_; refine W_cond _ rfl rfl (fun hb1 => ?_) (fun hb1 => ?_)
  · replace H := ifp hb1 H; refine W_rg <| mv (u8 ((shl8 a0a 1))) rfl rfl <| wa rfl (q_xor8 rfl rfl (cst8 (27 : UInt8) rfl)) <| av (u8 (((shl8 a0a 1) ^^^ (27 : UInt8)))) rfl rfl <| wnt <| W_seq <| W_rg <| mv (u8 (((shl8 a0a 1) ^^^ (27 : UInt8)))) rfl rfl <| ?_; refine av (u8 (((shl8 a0a 1) ^^^ (27 : UInt8)))) rfl rfl <| wnt <| W_ret <| ?_; obtain rfl := osi H; refine rt1 (u8 (((shl8 a0a 1) ^^^ (27 : UInt8)))) rfl rfl rfl rfl ?_; exact ⟨rfl, hE⟩
  replace H := ifn hb1 H; refine W_skip <| W_th <| W_seq <| W_rg <| mv (u8 ((shl8 a0a 1))) rfl rfl <| av (u8 ((shl8 a0a 1))) rfl rfl <| wnt <| W_ret <| ?_; obtain rfl := osi H; refine rt1 (u8 ((shl8 a0a 1))) rfl rfl rfl rfl ?_; exact ⟨rfl, hE⟩
noncomputable def field_Slow (a0a : UInt8) (a1b : UInt8) : Option UInt8 :=
((iterC (fun s1 : UInt8 × UInt8 × UInt8 =>
(if s1.2.1 = (0 : UInt8) then some (.inr s1.2.2)
else
(if (s1.2.1 &&& (1 : UInt8)) = (1 : UInt8) then
((field_double s1.1).bind fun r5 => some (.inl (r5, (shr8 s1.2.1 1), (s1.2.2 ^^^ s1.1))))
else
((field_double s1.1).bind fun r7 => some (.inl (r7, (shr8 s1.2.1 1), s1.2.2)))))) (a0a, a1b, (0 : UInt8))).bind fun x1 => some x1)
theorem field_Slow_calls (a0a : UInt8) (a1b : UInt8) (r : UInt8) (w0 : World) (H : field_Slow a0a a1b = some r) :
    Calls Try.prog 21 [(u8 a0a), (u8 a1b)].toArray w0 (fun e w' => e = .returned (u8 r) ∧ Ext w0 w') := by
  have hE : Ext w0 w0 := Ext.refl w0; unfold field_Slow at H; refine calls_W (n := 19) Try.func21 rfl rfl rfl ?_; refine W_seq <| W_rg <| av (u8 0) rfl (cst8 (0 : UInt8) rfl) <| wnt <| W_seq <| W_rg <| av (u8 0) rfl (cst8 (0 : UInt8) rfl) <| wnt <| ?_; refine W_seq ?_; obtain ⟨x1, G1, H⟩ := bsi H; refine W_mid (fun f w => f 5 = (u8 x1) ∧ f 19 = undef ∧ Ext w0 w) ?_ ?_
  · refine W_block ?_; refine W_loop (fun s1 f w => f 0 = (u8 s1.1) ∧ f 1 = (u8 s1.2.1) ∧ f 5 = (u8 s1.2.2) ∧ f 19 = undef ∧ Ext w0 w) G1 ?_ ?_
    · exact ⟨rfl, rfl, rfl, rfl, hE⟩
    rintro s1 _ _ w2 ⟨s0_2, s1_2, s5_2, s19_2, hE2⟩ H1 hr1; refine W_seq <| W_seq <| W_rg <| mv (u8 s1.2.1) rfl s1_2 <| wa rfl (q_ne8 rfl rfl (cst8 (0 : UInt8) rfl)) <| wnt <| ?_; refine W_cond _ rfl rfl (fun hb3 => ?_) (fun hb3 => ?_)
    · replace H1 := (if_neg (ndec_t hb3)).symm.trans H1; refine W_skip <| W_th <| W_seq <| W_block <| W_seq <| W_seq <| W_rg <| mv (u8 s1.2.1) rfl s1_2 <| ?_; refine wa rfl (q_and8 rfl rfl (cst8 (1 : UInt8) rfl)) <| wa rfl (q_eq8 rfl rfl (cst8 (1 : UInt8) rfl)) <| wnt <| ?_; refine W_cond _ rfl rfl (fun hb4 => ?_) (fun hb4 => ?_)
      · replace H1 := ifp hb4 H1; refine W_rg <| mv (u8 s1.2.2) rfl s5_2 <| mv (u8 s1.1) rfl s0_2 <| wa rfl (q_xor8 rfl rfl rfl) <| av (u8 ((s1.2.2 ^^^ s1.1))) rfl rfl <| wnt <| W_rg <| mv (u8 s1.1) rfl s0_2 <| ?_; obtain ⟨r5, hr5, H1⟩ := bsi H1; refine wls rfl rfl (stp_call (vs := [(u8 s1.1)]) Try.func39 rfl rfl rfl (ar1 rfl) (field_double_calls s1.1  r5 _  hr5) ?_); rintro _ w5 ⟨rfl, x5⟩; refine ⟨_, rfl, ?_⟩; have e6 := hE2.trans x5; refine av (u8 r5) rfl rfl <| wl_nil <| bk_n <| W_th <| W_rg <| mv (u8 s1.2.1) rfl s1_2 <| wa rfl (q_shr8 1 rfl rfl rfl rfl) <| av (u8 ((shr8 s1.2.1 1))) rfl rfl <| ?_; refine wl_nil ?_; obtain rfl := osi H1; exact ⟨_, rfl, rfl, rfl, rfl, s19_2, e6⟩
      replace H1 := ifn hb4 H1; refine W_skip <| W_th <| W_rg <| mv (u8 s1.1) rfl s0_2 <| ?_; obtain ⟨r7, hr7, H1⟩ := bsi H1; refine wls rfl rfl (stp_call (vs := [(u8 s1.1)]) Try.func39 rfl rfl rfl (ar1 rfl) (field_double_calls s1.1  r7 _  hr7) ?_); rintro _ w7 ⟨rfl, x7⟩; refine ⟨_, rfl, ?_⟩; have e8 := hE2.trans x7; refine av (u8 r7) rfl rfl <| wl_nil <| bk_n <| W_th <| W_rg <| mv (u8 s1.2.1) rfl s1_2 <| wa rfl (q_shr8 1 rfl rfl rfl rfl) <| av (u8 ((shr8 s1.2.1 1))) rfl rfl <| ?_; refine wl_nil ?_; obtain rfl := osi H1; exact ⟨_, rfl, rfl, rfl, s5_2, s19_2, e8⟩
    replace H1 := (if_pos (ndec_f hb3)).symm.trans H1; refine W_exit <| th_x <| ?_; obtain rfl := osi H1; obtain rfl := hr1 _ rfl; refine th_x <| bk_x <| ?_; exact ⟨s5_2, s19_2, hE2⟩
  rintro _ w10 ⟨s5_10, s19_10, hE10⟩; refine W_th <| W_seq <| W_rg <| mv (u8 x1) rfl s5_10 <| av (u8 x1) rfl rfl <| wnt <| W_ret <| ?_; obtain rfl := osi H; refine rt1 (u8 x1) rfl rfl rfl s19_10 ?_; exact ⟨rfl, hE10⟩
noncomputable def ref02_Mul (a0a : UInt8) (a1b : UInt8) : Option UInt8 :=
((iterC (fun s1 : Int × Int =>
(if s1.2 < 8 then
((cnt s1.2).bind fun c4 =>
(if ((shr8 a1b c4) % (2 : UInt8)) = (1 : UInt8) then
((cnt s1.2).bind fun c6 => some (.inl ((xorI s1.1 (shlI ((a0a.toNat : Int)) c6)), (wI (s1.2 + 1)))))
else some (.inl (s1.1, (wI (s1.2 + 1))))))
else some (.inr s1.1))) (0, 0)).bind fun x1 =>
((iterC (fun s9 : Int × Int =>
(if 8 ≤ s9.2 then
((cnt s9.2).bind fun c12 =>
((remI ((shrI s9.1 c12)) 2).bind fun c13 =>
(if c13 = 1 then
((cnt ((wI (s9.2 - 8)))).bind fun c15 => some (.inl ((xorI s9.1 (shlI 283 c15)), (wI (s9.2 - 1)))))
else some (.inl (s9.1, (wI (s9.2 - 1)))))))
else some (.inr s9.1))) (x1, 14)).bind fun x9 => some (UInt8.ofInt x9)))
theorem ref02_Mul_calls (a0a : UInt8) (a1b : UInt8) (r : UInt8) (w0 : World) (H : ref02_Mul a0a a1b = some r) :
    Calls Try.prog 62 [(u8 a0a), (u8 a1b)].toArray w0 (fun e w' => e = .returned (u8 r) ∧ Ext w0 w') := by
  have hE : Ext w0 w0 := Ext.refl w0; unfold ref02_Mul at H; refine calls_W (n := 39) Try.func62 rfl rfl rfl ?_; refine W_seq <| W_rg <| av (u8 0) rfl (cst8 (0 : UInt8) rfl) <| wnt <| W_seq <| W_rg <| av (i64 0) rfl rfl <| wnt <| ?_; refine W_seq <| W_seq <| W_rg <| av (i64 0) rfl rfl <| wnt <| ?_; obtain ⟨x1, G1, H⟩ := bsi H; refine W_mid (fun f w => f 5 = (i64 x1) ∧ f 39 = undef ∧ Ext w0 w) ?_ ?_
  · refine W_block ?_; refine W_loop (fun s1 f w => f 0 = (u8 a0a) ∧ f 1 = (u8 a1b) ∧ f 5 = (i64 s1.1) ∧ f 6 = (i64 s1.2) ∧ f 39 = undef ∧ Ext w0 w) G1 ?_ ?_
    · exact ⟨rfl, rfl, rfl, rfl, rfl, hE⟩
    rintro s1 _ _ w2 ⟨s0_2, s1_2, s5_2, s6_2, s39_2, hE2⟩ H1 hr1; refine W_seq <| W_seq <| W_rg <| mv (i64 s1.2) rfl s6_2 <| wa rfl (q_ltI rfl rfl rfl) <| wnt <| ?_; refine W_cond _ rfl rfl (fun hb3 => ?_) (fun hb3 => ?_)
    · replace H1 := ifp hb3 H1; refine W_skip <| W_th <| W_seq <| W_block <| W_seq <| W_rg <| mv (u8 a1b) rfl s1_2 <| mv (i64 s1.2) rfl s6_2 <| ?_; obtain ⟨c4, hc4, H1⟩ := bsi H1; refine wa rfl (q_shr8 c4 rfl rfl rfl (cnt_eq hc4)) <| wa rfl (q_rem8 rfl rfl (cst8 (2 : UInt8) rfl) (by decide)) <| wa rfl (q_eq8 rfl rfl (cst8 (1 : UInt8) rfl)) <| wnt <| ?_; refine W_cond _ rfl rfl (fun hb5 => ?_) (fun hb5 => ?_)
      · replace H1 := ifp hb5 H1; refine W_rg <| mv (i64 s1.1) rfl s5_2 <| mv (u8 a0a) rfl s0_2 <| wa rfl (q_cvtI8 rfl rfl rfl rfl) <| mv (i64 s1.2) rfl s6_2 <| ?_; obtain ⟨c6, hc6, H1⟩ := bsi H1; refine wa rfl (q_shlI c6 rfl rfl rfl (cnt_eq hc6)) <| wa rfl (q_xorI rfl rfl rfl) <| av (i64 ((xorI s1.1 (shlI ((a0a.toNat : Int)) c6)))) rfl rfl <| wl_nil <| bk_n <| W_th <| W_rg <| mv (i64 s1.2) rfl s6_2 <| ?_; refine wa rfl (q_addI rfl rfl rfl) <| av (i64 ((wI (s1.2 + 1)))) rfl rfl <| wl_nil <| ?_; obtain rfl := osi H1; exact ⟨_, rfl, s0_2, s1_2, rfl, rfl, s39_2, hE2⟩
      replace H1 := ifn hb5 H1; refine W_skip <| bk_n <| W_th <| W_rg <| mv (i64 s1.2) rfl s6_2 <| wa rfl (q_addI rfl rfl rfl) <| av (i64 ((wI (s1.2 + 1)))) rfl rfl <| wl_nil <| ?_; obtain rfl := osi H1; exact ⟨_, rfl, s0_2, s1_2, s5_2, rfl, s39_2, hE2⟩
    replace H1 := ifn hb3 H1; refine W_exit <| th_x <| ?_; obtain rfl := osi H1; obtain rfl := hr1 _ rfl; refine th_x <| bk_x <| ?_; exact ⟨s5_2, s39_2, hE2⟩
  rintro _ w8 ⟨s5_8, s39_8, hE8⟩; refine W_th <| W_seq <| W_seq <| W_rg <| av (i64 14) rfl rfl <| wnt <| ?_; obtain ⟨x9, G9, H⟩ := bsi H; refine W_mid (fun f w => f 5 = (i64 x9) ∧ f 39 = undef ∧ Ext w0 w) ?_ ?_
  · refine W_block ?_; refine W_loop (fun s9 f w => f 5 = (i64 s9.1) ∧ f 7 = (i64 s9.2) ∧ f 39 = undef ∧ Ext w0 w) G9 ?_ ?_
    · exact ⟨s5_8, rfl, s39_8, hE8⟩
    rintro s9 _ _ w10 ⟨s5_10, s7_10, s39_10, hE10⟩ H9 hr9; refine W_seq <| W_seq <| W_rg <| mv (i64 s9.2) rfl s7_10 <| wa rfl (q_geI rfl rfl rfl) <| wnt <| ?_; refine W_cond _ rfl rfl (fun hb11 => ?_) (fun hb11 => ?_)
    · replace H9 := ifp hb11 H9; refine W_skip <| W_th <| W_seq <| W_block <| W_seq <| W_rg <| mv (i64 s9.1) rfl s5_10 <| mv (i64 s9.2) rfl s7_10 <| ?_; obtain ⟨c12, hc12, H9⟩ := bsi H9; refine wa rfl (q_shrI c12 rfl rfl rfl (cnt_eq hc12)) ?_; obtain ⟨c13, hc13, H9⟩ := bsi H9; refine wa rfl (q_remI rfl rfl rfl hc13) <| wa rfl (q_eqI rfl rfl rfl) <| wnt <| ?_; refine W_cond _ rfl rfl (fun hb14 => ?_) (fun hb14 => ?_)
      · replace H9 := ifp hb14 H9; refine W_rg <| mv (i64 s9.1) rfl s5_10 <| mv (i64 s9.2) rfl s7_10 <| wa rfl (q_subI rfl rfl rfl) <| ?_; obtain ⟨c15, hc15, H9⟩ := bsi H9; refine wa rfl (q_shlI c15 rfl rfl rfl (cnt_eq hc15)) <| wa rfl (q_xorI rfl rfl rfl) <| av (i64 ((xorI s9.1 (shlI 283 c15)))) rfl rfl <| wl_nil <| bk_n <| W_th <| W_rg <| mv (i64 s9.2) rfl s7_10 <| ?_; refine wa rfl (q_subI rfl rfl rfl) <| av (i64 ((wI (s9.2 - 1)))) rfl rfl <| wl_nil <| ?_; obtain rfl := osi H9; exact ⟨_, rfl, rfl, rfl, s39_10, hE10⟩
      replace H9 := ifn hb14 H9; refine W_skip <| bk_n <| W_th <| W_rg <| mv (i64 s9.2) rfl s7_10 <| wa rfl (q_subI rfl rfl rfl) <| av (i64 ((wI (s9.2 - 1)))) rfl rfl <| wl_nil <| ?_; obtain rfl := osi H9; exact ⟨_, rfl, s5_10, rfl, s39_10, hE10⟩
    replace H9 := ifn hb11 H9; refine W_exit <| th_x <| ?_; obtain rfl := osi H9; obtain rfl := hr9 _ rfl; refine th_x <| bk_x <| ?_; exact ⟨s5_10, s39_10, hE10⟩
  rintro _ w17 ⟨s5_17, s39_17, hE17⟩; refine W_th <| W_seq <| W_rg <| mv (i64 x9) rfl s5_17 <| wa rfl (q_cvt8I rfl rfl rfl rfl) <| av (u8 ((UInt8.ofInt x9))) rfl rfl <| wnt <| W_ret <| ?_; obtain rfl := osi H; refine rt1 (u8 ((UInt8.ofInt x9))) rfl rfl rfl s39_17 ?_; exact ⟨rfl, hE17⟩
noncomputable def ref02_Inv (a0a : UInt8) : Option UInt8 :=
((iterC (fun s1 : Int =>
(if s1 < 256 then
((ref02_Mul a0a (UInt8.ofInt s1)).bind fun r4 =>
(if r4 = (1 : UInt8) then some (.inr (.inr (UInt8.ofInt s1)))
else some (.inl (wI (s1 + 1)))))
else some (.inr (.inl ())))) 1).bind (Sum.elim (fun y1 => some (0 : UInt8)) (fun q1 => some q1)))
theorem ref02_Inv_calls (a0a : UInt8) (r : UInt8) (w0 : World) (H : ref02_Inv a0a = some r) :
    Calls Try.prog 82 [(u8 a0a)].toArray w0 (fun e w' => e = .returned (u8 r) ∧ Ext w0 w') := by
  have hE : Ext w0 w0 := Ext.refl w0; unfold ref02_Inv at H; refine calls_W (n := 15) Try.func82 rfl rfl rfl ?_; refine W_seq <| W_rg <| av (u8 0) rfl (cst8 (0 : UInt8) rfl) <| wnt <| W_seq <| W_seq <| W_rg <| av (i64 1) rfl rfl <| ?_; refine wnt ?_; obtain ⟨x1, G1, H⟩ := bsi H; refine W_mid (fun f w => ∃ y1, x1 = .inl y1 ∧ f 15 = undef ∧ Ext w0 w) ?_ ?_
  · refine W_block ?_; refine W_loop (fun s1 f w => f 0 = (u8 a0a) ∧ f 3 = (i64 s1) ∧ f 15 = undef ∧ Ext w0 w) G1 ?_ ?_
    · exact ⟨rfl, rfl, rfl, hE⟩
    rintro s1 _ _ w2 ⟨s0_2, s3_2, s15_2, hE2⟩ H1 hr1; refine W_seq <| W_seq <| W_rg <| mv (i64 s1) rfl s3_2 <| wa rfl (q_ltI rfl rfl rfl) <| wnt <| ?_; refine W_cond _ rfl rfl (fun hb3 => ?_) (fun hb3 => ?_)
    · replace H1 := ifp hb3 H1; refine W_skip <| W_th <| W_seq <| W_block <| W_seq <| W_rg <| mv (u8 a0a) rfl s0_2 <| mv (i64 s1) rfl s3_2 <| ?_; refine wa rfl (q_cvt8I rfl rfl rfl rfl) ?_; obtain ⟨r4, hr4, H1⟩ := bsi H1; refine wls rfl rfl (stp_call (vs := [(u8 a0a), (u8 ((UInt8.ofInt s1)))]) Try.func62 rfl rfl rfl (ar2 rfl rfl) (ref02_Mul_calls a0a (UInt8.ofInt s1)  r4 _  hr4) ?_); rintro _ w4 ⟨rfl, x4⟩; refine ⟨_, rfl, ?_⟩; have e5 := hE2.trans x4; refine wa rfl (q_eq8 rfl rfl (cst8 (1 : UInt8) rfl)) <| wnt <| ?_; refine W_cond _ rfl rfl (fun hb6 => ?_) (fun hb6 => ?_)
      · replace H1 := ifp hb6 H1; refine W_seq <| W_rg <| mv (i64 s1) rfl s3_2 <| wa rfl (q_cvt8I rfl rfl rfl rfl) <| av (u8 ((UInt8.ofInt s1))) rfl rfl <| wnt <| W_ret <| bk_r <| ?_; refine th_r ?_; obtain rfl := osi H1; obtain rfl := hr1 _ rfl; simp only [Sum.elim_inr] at H; refine th_r <| bk_r <| th_r <| th_r <| ?_; obtain rfl := osi H; refine rt1 (u8 ((UInt8.ofInt s1))) rfl rfl rfl s15_2 ?_; exact ⟨rfl, e5⟩
      replace H1 := ifn hb6 H1; refine W_skip <| bk_n <| W_th <| W_rg <| mv (i64 s1) rfl s3_2 <| wa rfl (q_addI rfl rfl rfl) <| av (i64 ((wI (s1 + 1)))) rfl rfl <| wl_nil <| ?_; obtain rfl := osi H1; exact ⟨_, rfl, s0_2, rfl, s15_2, e5⟩
    replace H1 := ifn hb3 H1; refine W_exit <| th_x <| ?_; obtain rfl := osi H1; obtain rfl := hr1 _ rfl; refine th_x <| bk_x <| ?_; exact ⟨_, rfl, s15_2, hE2⟩
  rintro _ w8 ⟨y1, rfl, s15_8, hE8⟩; simp only [Sum.elim_inl] at H; refine W_th <| W_seq <| W_rg <| av (u8 0) rfl (cst8 (0 : UInt8) rfl) <| wnt <| W_ret <| ?_; obtain rfl := osi H; refine rt1 (u8 0) rfl rfl rfl s15_8 ?_; exact ⟨rfl, hE8⟩
end Gk

/- Printed by gen.py: for each Go function a pure function, and that the Go code comes to it. No condition beside the equation that says what the pure function gives. -/
namespace Gk
open Go Go.Proofs
noncomputable def field_Mul (a0f : Bool) (a1a : UInt8) (a2b : UInt8) : Option UInt8 :=
(if (!a0f) = true then some (0 : UInt8)
else
(if a1a = (0 : UInt8) then some (0 : UInt8)
else
(if a2b = (0 : UInt8) then some (0 : UInt8)
else
((grd a0f).bind fun c6 =>
((idx Gf.lgT ((a1a.toNat : Int))).bind fun c7 =>
((idx Gf.lgT ((a2b.toNat : Int))).bind fun c8 =>
((idx Gf.pwT ((wI (c7 + c8)))).bind fun c9 => some c9)))))))
theorem field_Mul_calls (a0f : Bool) (a1a : UInt8) (a2b : UInt8) (p0 : Value) (r : UInt8) (w0 : World) (hp0 : Fd w0 [] p0 a0f) (H : field_Mul a0f a1a a2b = some r) :
    Calls Try.prog 68 [p0, (u8 a1a), (u8 a2b)].toArray w0 (fun e w' => e = .returned (u8 r) ∧ Ext w0 w') := by
  have hE : Ext w0 w0 := Ext.refl w0; unfold field_Mul at H; refine calls_W (n := 35) Try.func68 rfl rfl rfl ?_; refine W_seq <| W_rg <| av (u8 0) rfl (cst8 (0 : UInt8) rfl) <| wnt <| W_seq <| W_seq <| W_rg <| mv p0 rfl rfl <| ?_; refine wa rfl (q_eqF rfl rfl rfl rfl (hp0.lift (Lift.ext hE _))) ?_; refine wlb rfl rfl (q_move (v := (.bool ((!a0f)))) rfl rfl) (fun hb1 => ?_) (fun hb1 => ?_)
  · replace H := (if_pos hb1).symm.trans H; refine wlk rfl rfl <| wlk rfl rfl <| wa rfl (q_pick_t (v := (.bool true)) rfl rfl rfl) <| mv (.bool true) rfl rfl <| wlk rfl rfl <| wlk rfl rfl <| wa rfl (q_pick_t (v := (.bool true)) rfl rfl rfl) <| wnt <| ?_; refine W_cond true rfl rfl (fun _ => ?_) (fun hb => by cases hb); refine W_seq <| W_rg <| av (u8 0) rfl (cst8 (0 : UInt8) rfl) <| wnt <| W_ret <| th_r <| ?_; obtain rfl := osi H; refine rt1 (u8 0) rfl rfl rfl rfl ?_; exact ⟨rfl, hE⟩
  replace H := (if_neg (ne_true_of_eq_false hb1)).symm.trans H; refine mv (u8 a1a) rfl rfl <| wa rfl (q_eq8 rfl rfl (cst8 (0 : UInt8) rfl)) <| wa rfl (q_pick_f (v := (.bool ((decide (a1a = (0 : UInt8)))))) rfl rfl rfl) <| ?_; refine wlb rfl rfl (q_move (v := (.bool ((decide (a1a = (0 : UInt8)))))) rfl rfl) (fun hb2 => ?_) (fun hb2 => ?_)
  · replace H := ifp hb2 H; refine wlk rfl rfl <| wlk rfl rfl <| wa rfl (q_pick_t (v := (.bool true)) rfl rfl rfl) <| wnt <| ?_; refine W_cond true rfl rfl (fun _ => ?_) (fun hb => by cases hb); refine W_seq <| W_rg <| av (u8 0) rfl (cst8 (0 : UInt8) rfl) <| wnt <| W_ret <| th_r <| ?_; obtain rfl := osi H; refine rt1 (u8 0) rfl rfl rfl rfl ?_; exact ⟨rfl, hE⟩
  replace H := ifn hb2 H; refine mv (u8 a2b) rfl rfl <| wa rfl (q_eq8 rfl rfl (cst8 (0 : UInt8) rfl)) <| wa rfl (q_pick_f (v := (.bool ((decide (a2b = (0 : UInt8)))))) rfl rfl rfl) <| wnt <| ?_; refine W_cond _ rfl rfl (fun hb3 => ?_) (fun hb3 => ?_)
  · replace H := ifp hb3 H; refine W_seq <| W_rg <| av (u8 0) rfl (cst8 (0 : UInt8) rfl) <| wnt <| W_ret <| th_r <| ?_; obtain rfl := osi H; refine rt1 (u8 0) rfl rfl rfl rfl ?_; exact ⟨rfl, hE⟩
  replace H := ifn hb3 H; refine W_skip <| W_th <| W_seq <| ?_; refine W_draw [6, 12, 17] [(0, 0), (1, 0), (2, 0), (3, 0), (4, 0), (5, 0), (6, 1), (7, 0), (8, 0), (9, 0), (10, 0), (11, 0), (12, 1), (13, 0), (14, 0), (15, 0), (16, 0), (17, 1), (18, 0)] mixed (by kernel_rfl) (by kernel_rfl) (by kernel_rfl) (by kernel_rfl) ?_; have x4 := Ext.drew w0; have e5 := hE.trans x4; refine sv p0 rfl rfl rfl <| sv p0 rfl rfl rfl <| sv (u8 a1a) rfl rfl rfl <| ?_; obtain ⟨c6, hc6, H⟩ := bsi H; refine sa rfl rfl (q_nilF rfl rfl (hp0.lift (Lift.ext e5 _)) (grd_eq hc6)) <| sa rfl rfl (q_fld1 rfl rfl (hp0.lift (Lift.ext e5 _)) (grd_eq hc6)) <| ?_; obtain ⟨c7, hc7, H⟩ := bsi H; refine sa rfl rfl (q_fix1 rfl rfl rfl (hp0.lift (Lift.ext e5 _)) (grd_eq hc6) hc7) <| sq rfl rfl (q_fload1 rfl rfl (hp0.lift (Lift.ext e5 _)) (grd_eq hc6) hc7) <| sv p0 rfl rfl rfl <| sv (u8 a2b) rfl rfl rfl <| sa rfl rfl (q_nilF rfl rfl (hp0.lift (Lift.ext e5 _)) (grd_eq hc6)) <| sa rfl rfl (q_fld1 rfl rfl (hp0.lift (Lift.ext e5 _)) (grd_eq hc6)) <| ?_; obtain ⟨c8, hc8, H⟩ := bsi H; refine sa rfl rfl (q_fix1 rfl rfl rfl (hp0.lift (Lift.ext e5 _)) (grd_eq hc6) hc8) <| sq rfl rfl (q_fload1 rfl rfl (hp0.lift (Lift.ext e5 _)) (grd_eq hc6) hc8) <| sa rfl rfl (q_addI rfl rfl rfl) <| sa rfl rfl (q_nilF rfl rfl (hp0.lift (Lift.ext e5 _)) (grd_eq hc6)) <| sa rfl rfl (q_fld0 rfl rfl (hp0.lift (Lift.ext e5 _)) (grd_eq hc6)) <| ?_; obtain ⟨c9, hc9, H⟩ := bsi H; refine sa rfl rfl (q_fix0 rfl rfl rfl (hp0.lift (Lift.ext e5 _)) (grd_eq hc6) hc9) <| sq rfl rfl (q_fload0 rfl rfl (hp0.lift (Lift.ext e5 _)) (grd_eq hc6) hc9) <| sa rfl rfl (q_assign (v := (u8 c9)) rfl rfl) <| ?_; refine ws_nil ?_; refine W_th <| W_ret <| ?_; obtain rfl := osi H; refine rt1 (u8 c9) rfl rfl rfl rfl ?_; exact ⟨rfl, e5⟩
noncomputable def field_Inv (a0f : Bool) (a1a : UInt8) : Option (UInt8 × Int) :=
(if (!a0f) = true then some ((0 : UInt8), 1)
else
(if a1a = (0 : UInt8) then some ((0 : UInt8), 7)
else
((grd a0f).bind fun c5 =>
((idx Gf.lgT ((a1a.toNat : Int))).bind fun c6 =>
((idx Gf.pwT ((wI (255 - c6)))).bind fun c7 => some (c7, 0))))))
theorem field_Inv_calls (a0f : Bool) (a1a : UInt8) (p0 : Value) (r : UInt8 × Int) (w0 : World) (hp0 : Fd w0 [] p0 a0f) (H : field_Inv a0f a1a = some r) :
    Calls Try.prog 84 [p0, (u8 a1a)].toArray w0 (fun e w' => e = .returned (.tuple #[(u8 r.1), (i64 r.2)]) ∧ Ext w0 w') := by
  have hE : Ext w0 w0 := Ext.refl w0; unfold field_Inv at H; refine calls_W (n := 24) Try.func84 rfl rfl rfl ?_; refine W_seq <| W_rg <| av (u8 0) rfl (cst8 (0 : UInt8) rfl) <| av (i64 0) rfl rfl <| wnt <| W_seq <| W_block <| W_seq <| ?_; refine W_rg <| mv p0 rfl rfl <| wa rfl (q_eqF rfl rfl rfl rfl (hp0.lift (Lift.ext hE _))) <| av (.bool ((!a0f))) rfl rfl <| wnt <| ?_; refine W_cond _ rfl rfl (fun hb1 => ?_) (fun hb1 => ?_)
  · replace H := (if_pos hb1).symm.trans H; refine W_seq <| W_rg <| av (u8 0) rfl (cst8 (0 : UInt8) rfl) <| av (i64 1) rfl rfl <| wnt <| W_ret <| bk_r <| th_r <| ?_; obtain rfl := osi H; refine rt2 (u8 0) (i64 1) rfl rfl rfl rfl rfl rfl ?_; exact ⟨rfl, hE⟩
  replace H := (if_neg (ne_true_of_eq_false hb1)).symm.trans H; refine W_seq <| W_rg <| mv (u8 a1a) rfl rfl <| wa rfl (q_eq8 rfl rfl (cst8 (0 : UInt8) rfl)) <| av (.bool ((decide (a1a = (0 : UInt8))))) rfl rfl <| wnt <| ?_; refine W_cond _ rfl rfl (fun hb2 => ?_) (fun hb2 => ?_)
  · replace H := ifp hb2 H; refine W_seq <| W_rg <| av (u8 0) rfl (cst8 (0 : UInt8) rfl) <| av (i64 7) rfl rfl <| wnt <| W_ret <| bk_r <| th_r <| ?_; obtain rfl := osi H; refine rt2 (u8 0) (i64 7) rfl rfl rfl rfl rfl rfl ?_; exact ⟨rfl, hE⟩
  replace H := ifn hb2 H; refine W_skip <| bk_n <| W_th <| W_seq <| ?_; refine W_draw [6, 11] [(0, 0), (1, 0), (2, 0), (3, 0), (4, 0), (5, 0), (6, 1), (7, 0), (8, 0), (9, 0), (10, 0), (11, 1), (12, 0), (13, 0)] mixed (by kernel_rfl) (by kernel_rfl) (by kernel_rfl) (by kernel_rfl) ?_; have x3 := Ext.drew w0; have e4 := hE.trans x3; refine sv p0 rfl rfl rfl <| sv p0 rfl rfl rfl <| sv (u8 a1a) rfl rfl rfl <| ?_; obtain ⟨c5, hc5, H⟩ := bsi H; refine sa rfl rfl (q_nilF rfl rfl (hp0.lift (Lift.ext e4 _)) (grd_eq hc5)) <| sa rfl rfl (q_fld1 rfl rfl (hp0.lift (Lift.ext e4 _)) (grd_eq hc5)) <| ?_; obtain ⟨c6, hc6, H⟩ := bsi H; refine sa rfl rfl (q_fix1 rfl rfl rfl (hp0.lift (Lift.ext e4 _)) (grd_eq hc5) hc6) <| sq rfl rfl (q_fload1 rfl rfl (hp0.lift (Lift.ext e4 _)) (grd_eq hc5) hc6) <| sa rfl rfl (q_subI rfl rfl rfl) <| sa rfl rfl (q_nilF rfl rfl (hp0.lift (Lift.ext e4 _)) (grd_eq hc5)) <| sa rfl rfl (q_fld0 rfl rfl (hp0.lift (Lift.ext e4 _)) (grd_eq hc5)) <| ?_; obtain ⟨c7, hc7, H⟩ := bsi H; refine sa rfl rfl (q_fix0 rfl rfl rfl (hp0.lift (Lift.ext e4 _)) (grd_eq hc5) hc7) <| sq rfl rfl (q_fload0 rfl rfl (hp0.lift (Lift.ext e4 _)) (grd_eq hc5) hc7) <| sa rfl rfl (q_assign (v := (u8 c7)) rfl rfl) <| sa rfl rfl (q_assign (v := (i64 0)) rfl rfl) <| ?_; refine ws_nil ?_; refine W_th <| W_ret <| ?_; obtain rfl := osi H; refine rt2 (u8 c7) (i64 0) rfl rfl rfl rfl rfl rfl ?_; exact ⟨rfl, e4⟩
noncomputable def field_Div (a0f : Bool) (a1a : UInt8) (a2b : UInt8) : Option (UInt8 × Int) :=
((field_Inv a0f a2b).bind fun r1 =>
(if r1.2 = 0 then
((field_Mul a0f a1a r1.1).bind fun r4 => some (r4, 0))
else some ((0 : UInt8), r1.2)))
theorem field_Div_calls (a0f : Bool) (a1a : UInt8) (a2b : UInt8) (p0 : Value) (r : UInt8 × Int) (w0 : World) (hp0 : Fd w0 [] p0 a0f) (H : field_Div a0f a1a a2b = some r) :
    Calls Try.prog 93 [p0, (u8 a1a), (u8 a2b)].toArray w0 (fun e w' => e = .returned (.tuple #[(u8 r.1), (i64 r.2)]) ∧ Ext w0 w') := by
  have hE : Ext w0 w0 := Ext.refl w0; unfold field_Div at H; refine calls_W (n := 23) Try.func93 rfl rfl rfl ?_; refine W_seq <| W_rg <| av (u8 0) rfl (cst8 (0 : UInt8) rfl) <| av (i64 0) rfl rfl <| wnt <| W_seq <| W_rg <| mv p0 rfl rfl <| ?_; refine mv (u8 a2b) rfl rfl ?_; obtain ⟨r1, hr1, H⟩ := bsi H; refine wls rfl rfl (stp_call (vs := [p0, (u8 a2b)]) Try.func84 rfl rfl rfl (ar2 rfl rfl) (field_Inv_calls a0f a2b p0 r1 _ (hp0.lift (Lift.ext hE _)) hr1) ?_); rintro _ w1 ⟨rfl, x1⟩; refine ⟨_, rfl, ?_⟩; have e2 := hE.trans x1; refine mv (.tuple #[(u8 r1.1), (i64 r1.2)]) rfl rfl <| wa rfl (q_extract rfl rfl rfl) <| wa rfl (q_extract rfl rfl rfl) <| av (u8 r1.1) rfl rfl <| av (i64 r1.2) rfl rfl <| wnt <| W_seq <| W_seq <| ?_; refine W_rg <| mv (i64 r1.2) rfl rfl <| wa rfl (q_neI rfl rfl rfl) <| wnt <| ?_; refine W_cond _ rfl rfl (fun hb3 => ?_) (fun hb3 => ?_)
  · replace H := (if_neg (ndec_t hb3)).symm.trans H; refine W_seq <| W_rg <| mv (i64 r1.2) rfl rfl <| av (u8 0) rfl (cst8 (0 : UInt8) rfl) <| av (i64 r1.2) rfl rfl <| wnt <| W_ret <| th_r <| ?_; obtain rfl := osi H; refine rt2 (u8 0) (i64 r1.2) rfl rfl rfl rfl rfl rfl ?_; exact ⟨rfl, e2⟩
  replace H := (if_pos (ndec_f hb3)).symm.trans H; refine W_skip <| W_th <| W_seq <| W_rg <| mv p0 rfl rfl <| mv (u8 a1a) rfl rfl <| mv (u8 r1.1) rfl rfl <| ?_; obtain ⟨r4, hr4, H⟩ := bsi H; refine wls rfl rfl (stp_call (vs := [p0, (u8 a1a), (u8 r1.1)]) Try.func68 rfl rfl rfl (ar3 rfl rfl rfl) (field_Mul_calls a0f a1a r1.1 p0 r4 _ (hp0.lift (Lift.ext e2 _)) hr4) ?_); rintro _ w4 ⟨rfl, x4⟩; refine ⟨_, rfl, ?_⟩; have e5 := e2.trans x4; refine av (u8 r4) rfl rfl <| av (i64 0) rfl rfl <| wnt <| W_ret <| ?_; obtain rfl := osi H; refine rt2 (u8 r4) (i64 0) rfl rfl rfl rfl rfl rfl ?_; exact ⟨rfl, e5⟩
noncomputable def field_Sum (a0f : Bool) (a1a : List UInt8) (a2c : UInt8) (a3b : List UInt8) : Option (List UInt8) :=
(if (!a0f) = true then some ([] : List UInt8)
else
((makeL ((a1a.length : Int)) (0 : UInt8)).bind fun c2 =>
((iterC (fun s7 : List UInt8 × Int =>
(if s7.2 < (if (a3b.length : Int) < (a1a.length : Int) then (a3b.length : Int) else (a1a.length : Int)) then
((idx s7.1 s7.2).bind fun c12 =>
((idx a3b s7.2).bind fun c13 =>
((field_Mul a0f a2c c13).bind fun r14 => some (.inl ((s7.1.set (s7.2 : Int).toNat ((c12 ^^^ r14))), (wI (s7.2 + 1)))))))
else some (.inr s7.1))) ((copyL c2 0 a1a), 0)).bind fun x7 => some x7)))
theorem field_Sum_calls (a0f : Bool) (a1a : List UInt8) (a2c : UInt8) (a3b : List UInt8) (p0 : Value) (p1 : Value) (p3 : Value) (r : List UInt8) (w0 : World) (hp0 : Fd w0 [] p0 a0f) (hp1 : By w0 [] p1 a1a) (hp3 : By w0 [] p3 a3b) (H : field_Sum a0f a1a a2c a3b = some r) :
    Calls Try.prog 48 [p0, p1, (u8 a2c), p3].toArray w0 (fun e w' => ∃ u0 : Value, e = .returned u0 ∧ Ext w0 w' ∧ Nw w0 u0 ∧ OwK (Sc u8) w' [] 5 u0 r) := by
  have hE : Ext w0 w0 := Ext.refl w0; unfold field_Sum at H; refine calls_W (n := 42) Try.func48 rfl rfl rfl ?_; refine W_seq <| W_rg <| av (.slice none 0 0) rfl rfl <| wnt <| W_seq <| W_seq <| W_rg <| mv p0 rfl rfl <| ?_; refine wa rfl (q_eqF rfl rfl rfl rfl (hp0.lift (Lift.ext hE _))) <| wnt <| ?_; refine W_cond _ rfl rfl (fun hb1 => ?_) (fun hb1 => ?_)
  · replace H := (if_pos hb1).symm.trans H; refine W_seq <| W_rg <| av (.slice none 0 0) rfl rfl <| wnt <| W_ret <| th_r <| ?_; obtain rfl := osi H; refine rt1 (.slice none 0 0) rfl rfl rfl rfl ?_; exact ⟨(.slice none 0 0), rfl, hE, Nw.nil _, (OwK.nil _ _ _ _)⟩
  replace H := (if_neg (ne_true_of_eq_false hb1)).symm.trans H; refine W_skip <| W_th <| W_seq <| W_rg <| mv p1 rfl rfl <| wa rfl (q_len rfl T22.sl rfl (hp1.lift (Lift.ext hE _))) <| ?_; obtain ⟨c2, hc2, H⟩ := bsi H; refine wls rfl rfl (stp_make (L := []) (R := (Sc u8)) rfl T22 rfl rfl hc2 (fun _ _ => rfl) ?_); intro v2 w2 o2 n2 g2 l2; have x2 := grown_ext g2; have n4 := Nw.ext hE n2; have e3 := hE.trans x2; refine av v2 rfl rfl <| wnt <| W_seq <| W_rg <| mv v2 rfl rfl <| mv p1 rfl rfl <| ?_; refine wls rfl rfl (stp_copy (R := (Sc u8)) (off := 0) (dv := v2) (u := p1) (Sc.stab _) [] [] rfl T22 rfl rfl o2 (copy_whole o2) (by decide) (Int.natCast_nonneg _) (hp1.lift (Lift.ext e3 _)) (fun _ _ h => h) oc_u8 ?_); intro w5 o5 g5 l5; have e6 := e3.grown g5 n4; refine wnt <| W_seq <| W_seq <| W_rg <| mv p1 rfl rfl <| wa rfl (q_len rfl T22.sl rfl (hp1.lift (Lift.ext e6 _))) <| mv p3 rfl rfl <| wa rfl (q_len rfl T22.sl rfl (hp3.lift (Lift.ext e6 _))) <| ?_; refine wa rfl (q_minI rfl rfl rfl) <| mv (i64 0) rfl rfl <| wnt <| ?_; obtain ⟨x7, G7, H⟩ := bsi H; refine W_mid (fun f w => f 9 = v2 ∧ f 42 = undef ∧ Ext w0 w ∧ OwK (Sc u8) w [v2] 5 v2 x7 ∧ Nw w0 v2) ?_ ?_
  · refine W_block ?_; refine W_loop (fun s7 f w => f 0 = p0 ∧ f 2 = (u8 a2c) ∧ f 3 = p3 ∧ f 9 = v2 ∧ f 23 = (i64 ((if (a3b.length : Int) < (a1a.length : Int) then (a3b.length : Int) else (a1a.length : Int)))) ∧ f 24 = (i64 s7.2) ∧ f 42 = undef ∧ Ext w0 w ∧ OwK (Sc u8) w [v2] 5 v2 s7.1 ∧ Nw w0 v2) G7 ?_ ?_
    · exact ⟨rfl, rfl, rfl, rfl, rfl, rfl, rfl, e6, o5, n4⟩
    rintro s7 _ _ w8 ⟨s0_8, s2_8, s3_8, s9_8, s23_8, s24_8, s42_8, hE8, o0_8, n0_8⟩ H7 hr7; refine W_seq <| W_rg <| wa rfl (q_ltI rfl s24_8 s23_8) <| wnt <| W_seq <| ?_; refine W_cond _ rfl rfl (fun hb9 => ?_) (fun hb9 => ?_)
    · replace H7 := ifp hb9 H7; refine W_skip <| W_th <| W_seq <| W_block <| W_seq <| W_rg <| mv (i64 s7.2) rfl s24_8 <| av (i64 s7.2) rfl rfl <| ?_; refine wnt ?_; refine W_draw [3, 9] [(0, 0), (1, 0), (2, 0), (3, 1), (4, 0), (5, 0), (6, 0), (7, 0), (8, 0), (9, 1), (10, 2), (11, 0), (12, 0), (13, 2)] mixed (by kernel_rfl) (by kernel_rfl) (by kernel_rfl) (by kernel_rfl) ?_; have x10 := Ext.drew w8; replace o0_8 := o0_8.extL (Sc.stab _) x10 (Lift.ext x10 _); have e11 := hE8.trans x10; refine sv v2 rfl rfl s9_8 <| sv (i64 s7.2) rfl rfl rfl <| ?_; obtain ⟨c12, hc12, H7⟩ := bsi H7; refine sa rfl rfl (q_adr rfl T22 rfl rfl (o0_8.rd (Sc.stab _)) hc12) <| sq rfl rfl (q_loadS rfl T22 rfl (o0_8.rd (Sc.stab _)) hc12) <| sv p0 rfl rfl s0_8 <| sv (u8 a2c) rfl rfl s2_8 <| sv p3 rfl rfl s3_8 <| sv (i64 s7.2) rfl rfl rfl <| ?_; obtain ⟨c13, hc13, H7⟩ := bsi H7; refine sa rfl rfl (q_adr rfl T22 rfl rfl (hp3.lift (Lift.ext e11 _)) hc13) <| sq rfl rfl (q_loadS rfl T22 rfl (hp3.lift (Lift.ext e11 _)) hc13) <| ?_; obtain ⟨r14, hr14, H7⟩ := bsi H7; refine wss rfl rfl rfl (stp_call (vs := [p0, (u8 a2c), (u8 c13)]) Try.func68 rfl rfl rfl (ar3 rfl rfl rfl) (field_Mul_calls a0f a2c c13 p0 r14 _ (hp0.lift (Lift.ext e11 _)) hr14) ?_); rintro _ w14 ⟨rfl, x14⟩; refine ⟨_, rfl, x14, ?_⟩; replace o0_8 := o0_8.extL (Sc.stab _) x14 (Lift.ext x14 _); have e15 := e11.trans x14; refine sa rfl rfl (q_xor8 rfl rfl rfl) <| sa rfl rfl (q_adr rfl T22 rfl rfl (o0_8.rd (Sc.stab _)) hc12) <| ?_; refine wsn rfl (by kernel_rfl) rfl rfl (stp_store (R := (Sc u8)) (u := (u8 ((c12 ^^^ r14)))) (Sc.stab _) [] [] rfl T22 rfl rfl o0_8 (put_of ((c12 ^^^ r14)) hc12) rfl rfl ?_); intro w16 o16 g16 l16; have e17 := e15.grown g16 n0_8; refine ws_nil ?_; refine bk_n <| W_th <| W_rg <| wa rfl (q_addI rfl s24_8 rfl) <| mv (i64 ((wI (s7.2 + 1)))) rfl rfl <| wl_nil <| ?_; obtain rfl := osi H7; exact ⟨_, rfl, s0_8, s2_8, s3_8, s9_8, s23_8, rfl, s42_8, e17, o16, n0_8⟩
    replace H7 := ifn hb9 H7; refine W_exit <| th_x <| ?_; obtain rfl := osi H7; obtain rfl := hr7 _ rfl; refine th_x <| bk_x <| ?_; exact ⟨s9_8, s42_8, hE8, o0_8, n0_8⟩
  rintro _ w19 ⟨s9_19, s42_19, hE19, o0_19, n0_19⟩; refine W_th <| W_seq <| W_rg <| mv v2 rfl s9_19 <| av v2 rfl rfl <| wnt <| W_ret <| ?_; obtain rfl := osi H; refine rt1 v2 rfl rfl rfl s42_19 ?_; exact ⟨v2, rfl, hE19, n0_19, (o0_19.weak (Sc.stab _) (fun _ _ => trivial))⟩
end Gk

/- Pure loops: how they are shown to end, and with what. Numbers of Go as plain numbers. No condition. -/
namespace Gk
theorem iterC_inv {S X : Type} {body : S → Option (S ⊕ X)} (I : S → Prop) (m : S → Nat) (post : X → Prop)
    (step : ∀ s, I s → (∃ s', body s = some (.inl s') ∧ I s' ∧ m s' < m s) ∨ ∃ x, body s = some (.inr x) ∧ post x) (s : S) (h : I s) : ∃ x, iterC body s = some x ∧ post x := by
  generalize hk : m s = k
  induction k using Nat.strongRecOn generalizing s with
  | ind k ih =>
    rw [iterC_step]
    rcases step s h with ⟨s', hb, hI, hm⟩ | ⟨x, hb, hp⟩
    · obtain ⟨x, hx, hp⟩ := ih (m s') (by omega) s' hI rfl
      exact ⟨x, by rw [hb]; simpa using hx, hp⟩
    · exact ⟨x, by rw [hb]; rfl, hp⟩
theorem bind_of {α β : Type} {o : Option α} {g : α → Option β} {x : α} {r : Option β} (h : o = some x) (h2 : g x = r) : o.bind g = r := by rw [h]; exact h2
theorem iterC_up {σ X : Type} {body : σ × Int → Option ((σ × Int) ⊕ X)} {s0 : σ} (I : Nat → σ → Prop) (n : Nat) (post : X → Prop) (h0 : I 0 s0)
    (hstep : ∀ (i : Nat) (s : σ), i < n → I i s → ∃ s', body (s, (i : Int)) = some (.inl (s', ((i + 1 : Nat) : Int))) ∧ I (i + 1) s')
    (hend : ∀ s, I n s → ∃ x, body (s, (n : Int)) = some (.inr x) ∧ post x) : ∃ x, iterC body (s0, 0) = some x ∧ post x := by
  refine iterC_inv (fun s => ∃ i : Nat, i ≤ n ∧ s.2 = (i : Int) ∧ I i s.1) (fun s => n - s.2.toNat) post ?_ (s0, 0) ⟨0, Nat.zero_le _, rfl, h0⟩
  rintro ⟨s, _⟩ ⟨i, hi, rfl, hI⟩
  by_cases h : i < n
  · obtain ⟨s', hb, hI'⟩ := hstep i s h hI
    exact .inl ⟨_, hb, ⟨i + 1, h, rfl, hI'⟩, by simp only [Int.toNat_natCast]; omega⟩
  · obtain rfl : i = n := by omega
    exact .inr (hend s hI)
theorem iterC_range {S X : Type} {body : S → Option (S ⊕ X)} (s : Nat → S) (k : Nat) {x : X} (hs : ∀ i, i < k → body (s i) = some (.inl (s (i + 1)))) (he : body (s k) = some (.inr x)) : iterC body (s 0) = some x := by
  have : ∀ j, j ≤ k → iterC body (s (k - j)) = some x := by
    intro j
    induction j with
    | zero => intro _; rw [iterC_step, Nat.sub_zero, he]; rfl
    | succ j ih =>
      intro hj
      rw [iterC_step, hs (k - (j + 1)) (by omega)]
      have e : k - (j + 1) + 1 = k - j := by omega
      rw [e]; exact ih (by omega)
  have h := this k (Nat.le_refl _)
  rwa [Nat.sub_self] at h
theorem iterC_count {S X : Type} {body : S → Option (S ⊕ X)} {s0 : S} (s : Nat → S) (k : Nat) (x : X) (h0 : s0 = s 0) (hs : ∀ i, i < k → body (s i) = some (.inl (s (i + 1)))) (he : body (s k) = some (.inr x)) : iterC body s0 = some x := by
  rw [h0]; exact iterC_range s k hs he
theorem wI_nat {n : Nat} (h : n < 9223372036854775808) : wI (n : Int) = n := wI_of (by omega) (by omega)
theorem cnt_nat (n : Nat) : cnt (n : Int) = some n := by simp [cnt]
theorem remI_nat (a b : Nat) (h : 0 < b) : remI (a : Int) (b : Int) = some ((a % b : Nat) : Int) := by
  unfold remI; rw [if_neg (by omega)]; rw [← Int.ofNat_tmod]
theorem divI_nat (a b : Nat) (h : 0 < b) (ha : a < 9223372036854775808) : divI (a : Int) (b : Int) = some ((a / b : Nat) : Int) := by
  unfold divI; rw [if_neg (by omega), ← Int.ofNat_tdiv, wI_nat (Nat.lt_of_le_of_lt (Nat.div_le_self _ _) ha)]
theorem shrI_nat (a n : Nat) (h : n ≤ 64) : shrI (a : Int) n = ((a >>> n : Nat) : Int) := by
  unfold shrI; rw [Nat.min_eq_left h, Nat.shiftRight_eq_div_pow]
  have h2 : (2 ^ n : Int) = ((2 ^ n : Nat) : Int) := by norm_cast
  rw [h2, Int.fdiv_eq_ediv_of_nonneg _ (Int.natCast_nonneg _)]
  norm_cast
theorem shlI_nat (a n : Nat) (h : n ≤ 64) (hb : a * 2 ^ n < 9223372036854775808) : shlI (a : Int) n = ((a <<< n : Nat) : Int) := by
  unfold shlI; rw [Nat.min_eq_left h, Nat.shiftLeft_eq, ← wI_nat hb]
  norm_cast
theorem xorI_nat (a b : Nat) (ha : a < 9223372036854775808) (hb : b < 9223372036854775808) : xorI (a : Int) (b : Int) = ((a ^^^ b : Nat) : Int) := by
  unfold xorI
  have h : (BitVec.ofInt 64 (a : Int) ^^^ BitVec.ofInt 64 (b : Int)).toNat = a ^^^ b := by
    rw [BitVec.toNat_xor, BitVec.ofInt_natCast, BitVec.ofInt_natCast, BitVec.toNat_ofNat, BitVec.toNat_ofNat, Nat.mod_eq_of_lt (by omega), Nat.mod_eq_of_lt (by omega)]
  rw [h]
  exact wI_nat (Nat.xor_lt_two_pow (n := 63) ha hb)
end Gk

/- The field of 256 numbers, in plain Lean: what the program's and the document's product come to. No condition. -/
namespace Gf
theorem bit_shr (b : UInt8) : (bit (Gk.shr8 b 1) 0 = bit b 1 ∧ bit (Gk.shr8 b 1) 1 = bit b 2 ∧ bit (Gk.shr8 b 1) 2 = bit b 3 ∧ bit (Gk.shr8 b 1) 3 = bit b 4) ∧
    bit (Gk.shr8 b 1) 4 = bit b 5 ∧ bit (Gk.shr8 b 1) 5 = bit b 6 ∧ bit (Gk.shr8 b 1) 6 = bit b 7 ∧ bit (Gk.shr8 b 1) 7 = false := by
  revert b; refine all8 ?_; decide +kernel
theorem bit_and (b : UInt8) : (b &&& 1 = 1) ↔ bit b 0 = true := by
  revert b; refine all8 ?_; decide +kernel
theorem mul_step (a b : UInt8) : mul a b = sel (bit b 0) a ^^^ mul (dbl a) (Gk.shr8 b 1) := by
  obtain ⟨⟨h0, h1, h2, h3⟩, h4, h5, h6, h7⟩ := bit_shr b
  unfold mul
  rw [h0, h1, h2, h3, h4, h5, h6, h7]
  simp [dblN, sel, UInt8.xor_assoc]
def cl (a b : Nat) : Nat → Nat
  | 0 => 0
  | k + 1 => if b.testBit k then cl a b k ^^^ (a <<< k) else cl a b k
def rd : Nat → Nat → Nat
  | 0, p => p
  | j + 1, p => rd j (if p.testBit (8 + j) then p ^^^ (283 <<< j) else p)
def rds (p : Nat) : Nat → Nat
  | 0 => p
  | i + 1 => if (rds p i).testBit (14 - i) then rds p i ^^^ (283 <<< (6 - i)) else rds p i
theorem rd_xor (j : Nat) : ∀ p q, rd j (p ^^^ q) = rd j p ^^^ rd j q := by
  induction j with
  | zero => intro p q; rfl
  | succ j ih =>
    intro p q
    have h : (if (p ^^^ q).testBit (8 + j) then (p ^^^ q) ^^^ (283 <<< j) else p ^^^ q) =
        (if p.testBit (8 + j) then p ^^^ (283 <<< j) else p) ^^^ (if q.testBit (8 + j) then q ^^^ (283 <<< j) else q) := by
      rw [Nat.testBit_xor]
      generalize 283 <<< j = c
      cases p.testBit (8 + j) <;> cases q.testBit (8 + j) <;> simp
      · exact Nat.xor_assoc p q c
      · rw [Nat.xor_assoc, Nat.xor_comm q c, Nat.xor_assoc]
      · rw [Nat.xor_assoc p c, ← Nat.xor_assoc c q c, Nat.xor_comm c q, Nat.xor_assoc q c c, Nat.xor_self, Nat.xor_zero]
    simp only [rd, h, ih]
theorem rd_sel (c : Bool) (x a : Nat) (k : Nat) : rd 7 (if c then x ^^^ (a <<< k) else x) = rd 7 x ^^^ (if c then rd 7 (a <<< k) else 0) := by
  cases c
  · simp
  · simp [rd_xor]
theorem rd_dbl (a : UInt8) : (List.range 8).all (fun k => rd 7 (a.toNat <<< k) == (dblN k a).toNat) = true := by
  revert a; refine all8 ?_; decide +kernel
theorem rd_dbl' (a : UInt8) (k : Nat) (h : k < 8) : rd 7 (a.toNat <<< k) = (dblN k a).toNat := by
  have := List.all_eq_true.1 (rd_dbl a) k (List.mem_range.2 h)
  simpa using this
theorem rd0 : rd 7 0 = 0 := by decide
theorem sel_nat (c : Bool) (a : UInt8) : (sel c a).toNat = if c then a.toNat else 0 := by cases c <;> simp [sel]
theorem ref_eq (a b : UInt8) : rd 7 (cl a.toNat b.toNat 8) = (mul a b).toNat := by
  simp only [cl, rd_sel, rd0, mul, UInt8.toNat_xor, sel_nat, bit]
  rw [rd_dbl' a 0 (by decide), rd_dbl' a 1 (by decide), rd_dbl' a 2 (by decide), rd_dbl' a 3 (by decide), rd_dbl' a 4 (by decide), rd_dbl' a 5 (by decide), rd_dbl' a 6 (by decide), rd_dbl' a 7 (by decide)]
  simp only [Nat.zero_xor]
theorem cl_lt (a b : Nat) (ha : a < 256) : ∀ k, k ≤ 8 → cl a b k < 32768 := by
  intro k
  induction k with
  | zero => intro _; simp [cl]
  | succ k ih =>
    intro hk
    have h1 := ih (by omega)
    have h2 : a <<< k < 32768 := by
      rw [Nat.shiftLeft_eq]
      have : 2 ^ k ≤ 2 ^ 7 := Nat.pow_le_pow_right (by decide) (by omega)
      calc a * 2 ^ k ≤ a * 2 ^ 7 := Nat.mul_le_mul_left _ this
        _ < 32768 := by omega
    simp only [cl]
    split
    · exact Nat.xor_lt_two_pow (n := 15) h1 h2
    · exact h1
end Gf
namespace Gk
open Gf
theorem double_eq (a : UInt8) : field_double a = some (dbl a) := by
  revert a
  refine all8 ?_
  unfold field_double
  decide +kernel
theorem ofInt_nat (a : UInt8) : UInt8.ofInt (a.toNat : Int) = a := by
  revert a; refine all8 ?_; decide +kernel
theorem Slow_loop (a b o : UInt8) : iterC (fun s1 : UInt8 × UInt8 × UInt8 =>
    (if s1.2.1 = (0 : UInt8) then some (.inr s1.2.2) else
    (if (s1.2.1 &&& (1 : UInt8)) = (1 : UInt8) then ((field_double s1.1).bind fun r5 => some (.inl (r5, (shr8 s1.2.1 1), (s1.2.2 ^^^ s1.1))))
    else ((field_double s1.1).bind fun r7 => some (.inl (r7, (shr8 s1.2.1 1), s1.2.2)))))) (a, b, o) = some (o ^^^ mul a b) := by
  simp only [double_eq, Option.bind_some]
  generalize hk : b.toNat = k
  induction k using Nat.strongRecOn generalizing a b o with
  | ind k ih =>
    rw [iterC_step]
    by_cases h : b = 0
    · subst h; simp [mul_zero]
    · have hlt : (shr8 b 1).toNat < k := by
        have : b.toNat ≠ 0 := fun e => h (UInt8.toNat_inj.1 (by simpa using e))
        have := b.toNat_lt
        simp [shr8]; omega
      simp only [if_neg h]
      by_cases h1 : b &&& 1 = 1
      · simp only [if_pos h1, Option.bind_some]
        rw [ih _ hlt _ _ _ rfl, mul_step a b, (bit_and b).1 h1]
        simp [sel, UInt8.xor_assoc]
      · simp only [if_neg h1, Option.bind_some]
        have h0 : bit b 0 = false := by cases hb : bit b 0 with | false => rfl | true => exact absurd ((bit_and b).2 hb) h1
        rw [ih _ hlt _ _ _ rfl, mul_step a b, h0]
        simp [sel]
theorem Slow_eq (a b : UInt8) : field_Slow a b = some (mul a b) := by
  unfold field_Slow
  rw [Slow_loop]; simp
theorem shr_bit (b : UInt8) : (List.range 8).all (fun k => decide ((shr8 b k % 2 = 1) ↔ b.toNat.testBit k = true)) = true := by
  revert b; refine all8 ?_; decide +kernel
theorem shr_bit' (b : UInt8) (k : Nat) (h : k < 8) : (shr8 b k % 2 = 1) ↔ b.toNat.testBit k = true := by
  have := List.all_eq_true.1 (shr_bit b) k (List.mem_range.2 h)
  exact of_decide_eq_true this
theorem refMul_eq (a b : UInt8) : ref02_Mul a b = some (mul a b) := by
  unfold ref02_Mul
  have ha := a.toNat_lt
  refine bind_of (iterC_count (fun k => (((cl a.toNat b.toNat k : Nat) : Int), (k : Int))) 8 ((cl a.toNat b.toNat 8 : Nat) : Int) rfl ?_ ?_) ?_
  rotate_left 2
  · have hl := cl_lt a.toNat b.toNat ha 8 (Nat.le_refl _)
    have hr := ref_eq a b
    generalize cl a.toNat b.toNat 8 = p at hl hr ⊢
    -- seven steps
    have hP : ∀ i, rds p (i + 1) = if (rds p i).testBit (14 - i) then rds p i ^^^ (283 <<< (6 - i)) else rds p i := fun i => rfl
    have hlt : ∀ i, rds p i < 32768 := by
      intro i
      induction i with
      | zero => exact hl
      | succ i ih =>
        rw [hP]; split
        · refine Nat.xor_lt_two_pow (n := 15) ih ?_
          have : 2 ^ (6 - i) ≤ 2 ^ 6 := Nat.pow_le_pow_right (by decide) (by omega)
          rw [Nat.shiftLeft_eq]; omega
        · exact ih
    have h7 : rds p 7 = rd 7 p := rfl
    refine bind_of (iterC_count (fun i => (((rds p i : Nat) : Int), 14 - (i : Int))) 7 ((rds p 7 : Nat) : Int) (by simp [rds]) ?_ ?_) ?_
    rotate_left 2
    · simp only [h7, hr]
      rw [ofInt_nat]
    · intro i hi
      have e1 : (14 - (i : Int)) = ((14 - i : Nat) : Int) := by omega
      have e2 : wI (14 - (i : Int) - 8) = ((6 - i : Nat) : Int) := by rw [wI_of (by omega) (by omega)]; omega
      have e3 : wI (14 - (i : Int) - 1) = 14 - ((i + 1 : Nat) : Int) := by rw [wI_of (by omega) (by omega)]; omega
      simp only [e2, e3]
      rw [if_pos (by omega), e1, cnt_nat]
      simp only [Option.bind_some, cnt_nat]
      rw [shrI_nat _ _ (by omega)]
      have e4 := remI_nat (rds p i >>> (14 - i)) 2 (by decide)
      have e5 : ((2 : Nat) : Int) = 2 := rfl
      rw [e5] at e4
      rw [e4, hP]
      have e6 : (rds p i).testBit (14 - i) = decide (rds p i >>> (14 - i) % 2 = 1) := by rw [Nat.testBit_eq_decide_div_mod_eq, Nat.shiftRight_eq_div_pow]
      simp only [Option.bind_some, e6]
      by_cases hc : rds p i >>> (14 - i) % 2 = 1
      · rw [if_pos (by omega), if_pos (decide_eq_true hc)]
        have h2 : 2 ^ (6 - i) ≤ 2 ^ 6 := Nat.pow_le_pow_right (by decide) (by omega)
        have e7 := shlI_nat 283 (6 - i) (by omega) (by omega)
        have e8 : ((283 : Nat) : Int) = 283 := rfl
        rw [e8] at e7
        rw [e7, xorI_nat _ _ (by have := hlt i; omega) (by rw [Nat.shiftLeft_eq]; omega)]
      · rw [if_neg (by omega), if_neg (fun e => hc (of_decide_eq_true e))]
    · rw [if_neg (by omega)]
  · intro i hi
    rw [if_pos (by omega)]
    simp only [cnt_nat, Option.bind_some, cl]
    have e3 : wI ((i : Int) + 1) = ((i + 1 : Nat) : Int) := by rw [wI_of (by omega) (by omega)]; omega
    have h2 : 2 ^ i ≤ 2 ^ 7 := Nat.pow_le_pow_right (by decide) (by omega)
    have h3 : a.toNat * 2 ^ i ≤ a.toNat * 2 ^ 7 := Nat.mul_le_mul_left _ h2
    rw [e3]
    by_cases hc : b.toNat.testBit i = true
    · rw [if_pos ((shr_bit' b i hi).2 hc), if_pos hc, shlI_nat _ _ (by omega) (by omega), xorI_nat _ _ (by have := cl_lt a.toNat b.toNat ha i (by omega); omega) (by rw [Nat.shiftLeft_eq]; omega)]
    · rw [if_neg (fun e => hc ((shr_bit' b i hi).1 e)), if_neg hc]
  · rw [if_neg (by omega)]
end Gk

/- Blocks of cells that something points to: a box, its cells read and written. No condition. -/
namespace Gk
open Go
theorem Blk.cell {w : World} {g : Nat} {T : TypeId} {cs : Array Value} (h : Blk w g T cs) (m : Nat) : w.cell? ⟨g, m, none⟩ = cs[m]? := cell_of_row w g m _ _ _ h
theorem Blk.set {w : World} {g : Nat} {T : TypeId} {cs : Array Value} (h : Blk w g T cs) (m : Nat) (u : Value) :
    Blk (w.setCell ⟨g, m, none⟩ u) g T (cs.setIfInBounds m u) ∧ w.grownBy (w.setCell ⟨g, m, none⟩ u) (some g) :=
  ⟨heap_setCell_same w g m cs T u h, ⟨rfl, rfl, rfl, by simp, fun k _ hk => heap_setCell_other w ⟨g, m, none⟩ k u (fun e => hk (by simp [e]))⟩⟩
theorem Ext.grownB {w0 w w' : World} {g : Nat} (h : Ext w0 w) (hg : w.grownBy w' (some g)) (hn : w0.heap.size ≤ g) : Ext w0 w' :=
  ⟨hg.os.trans h.os, hg.output.trans h.output, Nat.le_trans h.size hg.size, fun k hk =>
    (hg.block k (Nat.lt_of_lt_of_le hk h.size) (fun e => by have := Option.some.inj e; omega)).trans (h.blk k hk)⟩
section
variable {P : Program} {o : Oper} {f : Nat → Value} {w : World} {x y : Operand} {t e T : TypeId} {g m : Nat} {cs : Array Value} {u v : Value}
theorem stp_box (ho : o.op = .box t x) (hx : ev f x = v) {K : Value → World → Prop}
    (hk : ∀ w', Blk w' w.heap.size t v.cells → w.grownBy w' none → K (.pointer (some ⟨w.heap.size, 0, none⟩)) w') : Stp P o f w K := by
  refine stp_of_run (w' := w.alloc (.cells v.cells t)) (v := .pointer (some ⟨w.heap.size, 0, none⟩)) ?_ (hk _ (alloc_new w _) (World.grownBy_alloc w _ none))
  simp [execOp, ho, hx, Instr.box, newVar, newRow, newObj, Sem.run]
theorem stp_storeB (ho : o.op = .store e x y) (hs : ∀ w, (Go.sizeOf e).run P w = .ok 1 w) (hx : ev f x = .pointer (some ⟨g, m, none⟩)) (hy : ev f y = u) (h : Blk w g T cs) (hm : m < cs.size) (hc : u.oneCell' = true)
    {K : Value → World → Prop} (hk : ∀ w', Blk w' g T (cs.setIfInBounds m u) → w.grownBy w' (some g) → K undef w') : Stp P o f w K := by
  obtain ⟨h1, h2⟩ := h.set m u
  refine stp_of_skip (w' := w.setCell ⟨g, m, none⟩ u) ?_ (hk _ h1 h2)
  have hcs : u.cells = #[u] := by cases u <;> simp_all [Value.cells, Value.oneCell']
  have hcl : w.cell? ⟨g, m, none⟩ = some cs[m] := by rw [h.cell m]; simp [hm]
  have hfr : w.frozen? ⟨g, m, none⟩ = false := frozen_of_row w g m cs T h
  simp only [execOp, ho, hx, hy, Instr.storeAt, Instr.sureAddr, storeVar, hcs, add_off, Sem.run_bind, Sem.run_pure, Result.andThen_ok, hs]
  simp [storeCells, add_off, store, Addr.add]
  cases u <;> simp_all [Sem.run, Value.oneCell']
theorem q_loadB (ho : o.op = .load e x) (ha : ∀ w, (isAgg e).run P w = .ok false w) (hx : ev f x = .pointer (some ⟨g, m, none⟩)) (h : Blk w g T cs) (hc : cs[m]? = some u) : Qt P o f w u := by
  intro w' hE
  have hcell : w'.cell? ⟨g, m, none⟩ = some u := by rw [(h.ext hE).cell m, hc]
  simp [execOp, ho, hx, Instr.loadAt, Instr.sureAddr, loadVar, ha, add_off, load, Sem.run, hcell]
theorem q_nilP (ho : o.op = .nilCheck x) (hx : ev f x = .pointer (some ⟨g, m, none⟩)) : Qa P o f (.pointer (some ⟨g, m, none⟩)) := by
  intro w'; simp [execOp, ho, hx]
theorem q_fldP {i k : Nat} (ho : o.op = .fieldAddr T x i) (hp : ∀ a w, (Instr.fieldAt T (.pointer (some a)) i).run P w = .ok (.pointer (some (a.add k))) w) (hx : ev f x = .pointer (some ⟨g, m, none⟩)) : Qa P o f (.pointer (some ⟨g, m + k, none⟩)) := by
  intro w'; simp [execOp, ho, hx, hp, Addr.add]
theorem q_ixP {kk : IntKind} {i : Nat} {n : Nat} (ho : o.op = .indexAddr t x y) (ht : P.underlying t = some (.array n e)) (hs : ∀ w, (Go.sizeOf e).run P w = .ok 1 w) (hx : ev f x = .pointer (some ⟨g, m, none⟩)) (hy : ev f y = .int kk (i : Int)) (hi : i < n) :
    Qa P o f (.pointer (some ⟨g, m + i, none⟩)) := by
  intro w'
  have h3 : (i : Int) < (n : Int) := by omega
  simp [execOp, ho, hx, hy, Instr.indexAt, asIntOf, run_underlying ht, Instr.sureAddr, h3, hs, add_off, Addr.add, hi]
end
end Gk

/- The field is made: its tables are those of Gf. No condition. -/
namespace Gk
open Go Go.Proofs
def zF : Array Value := fieldCells (List.replicate 510 0) (List.replicate 256 0)
theorem zeroF : (Try.prog.info? 51).map (fun i => i.zero) = some (some (.agg zF)) := by kernel_rfl
theorem build0 (w : World) : (Instr.build 51 #[]).run Try.prog w = .ok (.agg zF) w := by
  have h := zeroF
  cases hi : Try.prog.info? 51 with
  | none => rw [hi] at h; cases h
  | some i =>
    rw [hi] at h
    have hz : i.zero = some (.agg zF) := by simpa using h
    have hzr : (zeroValue 51).run Try.prog w = .ok (.agg zF) w := by
      simp [zeroValue, typeInfo, hi, hz]
    simp [Instr.build, hzr, Value.cells, Instr.fill]
theorem fc_pw (pw : List UInt8) (lg : List Int) (k : Nat) (c : UInt8) (h : k < pw.length) : (fieldCells pw lg).setIfInBounds k (u8 c) = fieldCells (pw.set k c) lg := by
  simp [fieldCells, List.set_append, h, List.map_set]
theorem fc_lg (pw : List UInt8) (lg : List Int) (k : Nat) (c : Int) : (fieldCells pw lg).setIfInBounds (pw.length + k) (i64 c) = fieldCells pw (lg.set k c) := by
  simp [fieldCells, List.set_append, List.map_set]
theorem fc_size (pw : List UInt8) (lg : List Int) : (fieldCells pw lg).size = pw.length + lg.length := by simp [fieldCells]
def newB (n : Nat) : Option (Nat ⊕ Unit) := if n < 255 then some (.inl (n + 1)) else some (.inr ())
theorem newB_some : iterC newB 0 = some () := iterC_count (fun n => n) 255 () rfl (fun i hi => by simp [newB, hi]) (by simp [newB])
def field_New : Option Bool := some true
theorem field_New_calls (r : Bool) (w0 : World) (L0 : List Value) (hL0 : Old w0 L0) (H : field_New = some r) :
    Calls Try.prog 8 [].toArray w0 (fun e w' => ∃ u0 : Value, e = .returned u0 ∧ Ext w0 w' ∧ Fd w' L0 u0 r) := by
  have hE : Ext w0 w0 := Ext.refl w0; obtain rfl := osi H; refine calls_W (n := 32) Try.func8 rfl rfl rfl ?_; refine W_seq <| W_rg <| av (.pointer none) rfl rfl <| wnt <| W_seq <| W_rg <| wa rfl (v := .agg zF) (fun w => by simp [execOp, build0]) <| ?_; refine wls rfl rfl (stp_box (v := .agg zF) rfl rfl ?_); intro w1 hb hg; have e1 := hE.trans (grown_ext hg)
  generalize hgg : w0.heap.size = g at hb
  have hgn : w0.heap.size ≤ g := Nat.le_of_eq hgg; refine av (.pointer (some ⟨g, 0, none⟩)) rfl rfl <| wnt <| W_seq <| W_rg <| av (u8 1) rfl (cst8 1 rfl) <| wnt <| W_seq <| W_seq <| ?_; refine W_rg <| mv (i64 0) rfl rfl <| wnt <| ?_; refine W_mid (fun f w => f 32 = undef ∧ f 1 = .pointer (some ⟨g, 0, none⟩) ∧ Ext w0 w ∧ Blk w g 51 (fieldCells Gf.pwT Gf.lgT)) ?_ ?_
  · refine W_block ?_; refine W_loop (fun (n : Nat) f w => f 32 = undef ∧ n ≤ 255 ∧ f 6 = i64 (n : Int) ∧ f 1 = .pointer (some ⟨g, 0, none⟩) ∧ f 2 = u8 (Gf.pw n) ∧ Ext w0 w ∧ Blk w g 51 (fieldCells (Gf.tabN n).1 (Gf.tabN n).2.1)) newB_some ?_ ?_
    · exact ⟨rfl, by decide, rfl, rfl, rfl, e1, hb⟩
    rintro n r _ w ⟨hm, hn, s6, s1, s2, e, hB⟩ hr hx; have hl := Gf.tab_len n; refine W_seq <| W_rg <| wa rfl (q_ltI rfl s6 rfl) <| wnt <| W_seq <| ?_; refine W_cond _ rfl rfl (fun hb9 => ?_) (fun hb9 => ?_)
    · have hlt : n < 255 := by have := of_decide_eq_true hb9; omega
      have hr' : some (Sum.inl (n + 1)) = some r := by rw [← hr, newB, if_pos hlt]
      obtain rfl := osi hr'; refine W_skip <| W_th <| W_seq <| W_block <| W_seq <| W_rg <| mv (i64 (n : Int)) rfl s6 <| av (i64 (n : Int)) rfl rfl <| ?_; refine wnt <| W_seq <| ?_; refine W_draw [] [(0, 0), (1, 0), (2, 0), (3, 0), (4, 0), (5, 0), (6, 0), (7, 0), (8, 0), (9, 0), (11, 0), (12, 0), (10, 2), (13, 0), (14, 2)] mixed (by kernel_rfl) (by kernel_rfl) (by kernel_rfl) (by kernel_rfl) ?_; have x1 := Ext.drew w; replace e := e.trans x1; replace hB := hB.ext x1
      have ew : wI ((n : Int) + 255) = ((n + 255 : Nat) : Int) := by rw [wI_of (by omega) (by omega)]; omega
      refine sv (.pointer (some ⟨g, 0, none⟩)) rfl rfl s1 <| sv (i64 (n : Int)) rfl rfl rfl <| sv (.pointer (some ⟨g, 0, none⟩)) rfl rfl s1 <| sv (i64 (n : Int)) rfl rfl rfl <| sa rfl rfl (q_addI rfl rfl rfl) <| ?_; rw [ew]; refine sv (u8 (Gf.pw n)) rfl rfl s2 <| sv (u8 (Gf.pw n)) rfl rfl s2 <| sa rfl rfl (q_nilP rfl rfl) <| sa rfl rfl (q_fldP rfl fieldAt0 rfl) <| sa rfl rfl (q_ixP (i := n) rfl Try.underlying48 Try.sizeOf5 rfl rfl (by omega)) <| sa rfl rfl (q_nilP rfl rfl) <| sa rfl rfl (q_fldP rfl fieldAt0 rfl) <| ?_; refine wsn rfl (by kernel_rfl) rfl rfl (stp_storeB (u := u8 (Gf.pw n)) rfl Try.sizeOf5 rfl rfl hB (by rw [fc_size, hl.1, hl.2]; omega) rfl ?_)
      intro w2 hB2 g2; rw [show 0 + 0 + n = n by omega, fc_pw _ _ _ _ (by rw [hl.1]; omega)] at hB2
      replace e := e.grownB g2 hgn; refine sa rfl rfl (q_ixP (i := n + 255) rfl Try.underlying48 Try.sizeOf5 rfl rfl (by omega)) ?_; refine wsn rfl (by kernel_rfl) rfl rfl (stp_storeB (u := u8 (Gf.pw n)) rfl Try.sizeOf5 rfl rfl hB2 (by rw [fc_size, List.length_set, hl.1, hl.2]; omega) rfl ?_)
      intro w3 hB3 g3; rw [show 0 + 0 + (n + 255) = n + 255 by omega, fc_pw _ _ _ _ (by rw [List.length_set, hl.1]; omega)] at hB3
      replace e := e.grownB g3 hgn; refine ws_nil ?_; refine W_th <| W_seq <| W_rg <| mv (.pointer (some ⟨g, 0, none⟩)) rfl s1 <| mv (u8 (Gf.pw n)) rfl s2 <| mv (i64 (n : Int)) rfl rfl <| wa rfl (q_nilP rfl rfl) <| wa rfl (q_fldP rfl fieldAt1 rfl) <| ?_; refine wa rfl (q_ixP (i := (Gf.pw n).toNat) rfl Try.underlying49 Try.sizeOf3 rfl rfl (Gf.pw n).toNat_lt) ?_; refine wln rfl rfl (stp_storeB (u := i64 (n : Int)) rfl Try.sizeOf3 rfl rfl hB3 (by rw [fc_size, List.length_set, List.length_set, hl.1, hl.2]; have := (Gf.pw n).toNat_lt; omega) rfl ?_)
      intro w4 hB4 g4; rw [show 0 + 510 + (Gf.pw n).toNat = (((Gf.tabN n).1.set n (Gf.pw n)).set (n + 255) (Gf.pw n)).length + (Gf.pw n).toNat by rw [List.length_set, List.length_set, hl.1], fc_lg] at hB4; replace e := e.grownB g4 hgn; refine wnt <| W_rg <| mv (u8 (Gf.pw n)) rfl s2 <| ?_; refine wls rfl rfl (stp_call (vs := [u8 (Gf.pw n), u8 3]) Try.func21 rfl rfl rfl (ar2 rfl (cst8 3 rfl)) (field_Slow_calls (Gf.pw n) 3 _ _ (Slow_eq _ _)) ?_); rintro _ w5 ⟨rfl, x5⟩; refine ⟨_, rfl, ?_⟩; replace e := e.trans x5; replace hB4 := hB4.ext x5; refine av (u8 (Gf.mul (Gf.pw n) 3)) rfl rfl <| wl_nil <| bk_n <| W_th <| W_rg <| wa rfl (q_addI rfl s6 rfl) <| ?_
      have ew2 : wI ((n : Int) + 1) = ((n + 1 : Nat) : Int) := by rw [wI_of (by omega) (by omega)]; omega
      rw [ew2]; refine wla rfl rfl (q_move (v := i64 ((n + 1 : Nat) : Int)) rfl rfl) ?_; refine wl_nil ?_; refine ⟨_, rfl, hm, by omega, rfl, s1, rfl, e, ?_⟩; rw [← Gf.tab_pw n] at hB4; exact hB4
    have hge : n = 255 := by have := of_decide_eq_false hb9; omega
    subst hge
    have hr' : some (Sum.inr ()) = some r := by rw [← hr]; rfl
    obtain rfl := osi hr'; refine W_exit <| th_x <| th_x <| bk_x <| ?_; exact ⟨hm, s1, e, hB⟩
  rintro _ w ⟨hm, s1, e, hB⟩; refine W_th <| W_seq <| W_rg <| mv (.pointer (some ⟨g, 0, none⟩)) rfl s1 <| av (.pointer (some ⟨g, 0, none⟩)) rfl rfl <| wnt <| W_ret <| ?_; refine rt1 (.pointer (some ⟨g, 0, none⟩)) rfl rfl rfl hm ?_; exact ⟨.pointer (some ⟨g, 0, none⟩), rfl, e, .inr ⟨rfl, g, rfl, hL0 g hgn, hB⟩⟩
end Gk

/- What the field's functions come to, in plain Lean. No condition but lengths. -/
namespace Gk
open Gf
theorem idx_nat {α : Type} (l : List α) (n : Nat) : idx l (n : Int) = l[n]? := by simp [idx]
theorem idx_lg (a : UInt8) : idx lgT (a.toNat : Int) = some (lg a : Int) := by rw [idx_nat, lgT_get]
theorem idx_pw (n : Nat) (h : n < 510) : idx pwT (n : Int) = some (pw n) := by rw [idx_nat, pwT_get n h]
theorem Mul_eq (a b : UInt8) : field_Mul true a b = some (mul a b) := by
  unfold field_Mul
  rw [if_neg (by simp)]
  by_cases ha : a = 0
  · rw [if_pos ha, ha, zero_mul]
  · by_cases hb : b = 0
    · rw [if_neg ha, if_pos hb, hb, mul_zero]
    · have h1 := lg_lt a
      have h2 := lg_lt b
      have e : wI ((lg a : Int) + (lg b : Int)) = ((lg a + lg b : Nat) : Int) := by rw [wI_of (by omega) (by omega)]; omega
      rw [if_neg ha, if_neg hb]
      simp only [grd, idx_lg, obs, e, idx_pw _ (show lg a + lg b < 510 by omega), mul_pw ha hb, if_true]
theorem Inv_eq (a : UInt8) : field_Inv true a = some (if a = 0 then (0, 7) else (inv a, 0)) := by
  unfold field_Inv
  rw [if_neg (by simp)]
  by_cases ha : a = 0
  · rw [if_pos ha, if_pos ha]
  · have h1 := lg_lt a
    have e : wI (255 - (lg a : Int)) = ((255 - lg a : Nat) : Int) := by rw [wI_of (by omega) (by omega)]; omega
    rw [if_neg ha, if_neg ha]
    simp only [grd, idx_lg, obs, e, idx_pw _ (show 255 - lg a < 510 by omega), if_true, inv, if_neg ha]
theorem Div_eq (a b : UInt8) : field_Div true a b = some (if b = 0 then (0, 7) else (mul a (inv b), 0)) := by
  unfold field_Div
  simp only [Inv_eq, obs, Mul_eq]
  by_cases hb : b = 0
  · simp [hb]
  · simp [hb]
end Gk

/- Rows of bytes, sums of rows, the document's inverses and powers, in plain Lean. No condition. -/
namespace Gk
open Gf
theorem makeL_nat {α : Type} (n : Nat) (z : α) (h : n ≤ most) : makeL (n : Int) z = some (List.replicate n z) := by
  unfold makeL; rw [if_pos ⟨by omega, by omega⟩]; simp
theorem copyL_all {α : Type} (z : α) (a : List α) : copyL (List.replicate a.length z) 0 a = a := by
  unfold copyL; simp
def sumL (a : List UInt8) (c : UInt8) (b : List UInt8) : List UInt8 := a.mapIdx fun j x => x ^^^ mul c (b.getD j 0)
def sumTo (a : List UInt8) (c : UInt8) (b : List UInt8) (i : Nat) : List UInt8 := a.mapIdx fun j x => if j < i then x ^^^ mul c (b.getD j 0) else x
theorem sumL_len (a : List UInt8) (c : UInt8) (b : List UInt8) : (sumL a c b).length = a.length := by simp [sumL]
theorem sumTo_set (a : List UInt8) (c : UInt8) (b : List UInt8) (i : Nat) (x : UInt8) (h : a[i]? = some x) (y : UInt8) (hb : b[i]? = some y) : (sumTo a c b i).set i (x ^^^ mul c y) = sumTo a c b (i + 1) := by
  apply List.ext_getElem?
  intro j
  simp only [sumTo, List.getElem?_set, List.getElem?_mapIdx, List.length_mapIdx]
  have hi := (List.getElem?_eq_some_iff.1 h).1
  by_cases hj : i = j
  · subst hj
    simp [hi, List.getD, hb]
    rw [(List.getElem?_eq_some_iff.1 h).2]
  · rw [if_neg hj]
    have : j < i + 1 ↔ j < i := by omega
    simp [this]
theorem sumTo_get (a : List UInt8) (c : UInt8) (b : List UInt8) (i : Nat) (x : UInt8) (h : a[i]? = some x) : (sumTo a c b i)[i]? = some x := by
  simp [sumTo, List.getElem?_mapIdx, h]
theorem sumTo_end (a : List UInt8) (c : UInt8) (b : List UInt8) (i : Nat) (h : b.length ≤ i ∨ a.length ≤ i) : sumTo a c b i = sumL a c b := by
  apply List.ext_getElem?
  intro j
  simp only [sumTo, sumL, List.getElem?_mapIdx]
  by_cases hj : j < i
  · simp [hj]
  · rcases h with h | h
    · have : b.getD j 0 = 0 := by simp [List.getD, List.getElem?_eq_none (show b.length ≤ j by omega)]
      simp only [hj, this, mul_zero, xor_zero, if_false]
    · simp [List.getElem?_eq_none (show a.length ≤ j by omega)]
theorem minI (a b : Nat) : (if (b : Int) < (a : Int) then (b : Int) else (a : Int)) = ((min a b : Nat) : Int) := by split <;> omega
theorem wI_succ (i : Nat) (h : i < 9223372036854775807) : wI ((i : Int) + 1) = ((i + 1 : Nat) : Int) := by rw [wI_of (by omega) (by omega)]; omega
theorem most_lt : most < 9223372036854775807 := by decide
theorem Sum_eq (a : List UInt8) (c : UInt8) (b : List UInt8) (h : a.length ≤ most) : field_Sum true a c b = some (sumL a c b) := by
  unfold field_Sum
  rw [if_neg (by simp), makeL_nat _ _ h]
  simp only [obs, minI, copyL_all]
  have hm := most_lt
  refine bind_of (x := sumL a c b) (iterC_count (fun i => (sumTo a c b i, (i : Int))) (min a.length b.length) (sumL a c b) ?_ ?_ ?_) rfl
  · refine Prod.ext ?_ rfl
    apply List.ext_getElem?
    intro j
    simp [sumTo, List.getElem?_mapIdx]
  · intro i hi
    have h1 : i < a.length := by omega
    have h2 : i < b.length := by omega
    have e1 : a[i]? = some a[i] := by simp [h1]
    have e2 : b[i]? = some b[i] := by simp [h2]
    rw [if_pos (by omega)]
    simp only [idx_nat, sumTo_get a c b i _ e1, e2, obs, Mul_eq, wI_succ i (by omega), Int.toNat_natCast]
    rw [sumTo_set a c b i _ e1 _ e2]
  · rw [if_neg (by omega)]
    simp only [sumTo_end a c b _ (show b.length ≤ min a.length b.length ∨ a.length ≤ min a.length b.length by omega)]
theorem Add_eq (a b : UInt8) : field_Add a b = some (a ^^^ b) := rfl
theorem refInv_eq (a : UInt8) : ref02_Inv a = some (inv a) := by
  unfold ref02_Inv
  simp only [refMul_eq, obs]
  have e : ∀ k : Nat, k < 256 → UInt8.ofInt (k : Int) = UInt8.ofNat k := by
    intro k hk
    have : (UInt8.ofNat k).toNat = k := by simp; omega
    rw [← this, ofInt_nat, this]
  by_cases ha : a = 0
  · refine bind_of (x := (Sum.inl () : Unit ⊕ UInt8)) (iterC_count (fun i => (1 + (i : Int))) 255 (Sum.inl ()) (by simp) ?_ ?_) ?_
    · intro i hi
      rw [if_pos (by omega)]
      rw [ha]
      simp only [zero_mul]
      rw [if_neg (by decide)]
      have : wI (1 + (i : Int) + 1) = 1 + ((i + 1 : Nat) : Int) := by rw [wI_of (by omega) (by omega)]; omega
      rw [this]
    · rw [if_neg (by omega)]
    · simp [ha, inv_zero]
  · have hn := inv_ne ha
    have hlt := (inv a).toNat_lt
    have hpos : 0 < (inv a).toNat := Nat.pos_of_ne_zero (fun e => hn (UInt8.toNat_inj.1 (by simpa using e)))
    refine bind_of (x := (Sum.inr (inv a) : Unit ⊕ UInt8)) (iterC_count (fun i => (1 + (i : Int))) ((inv a).toNat - 1) (Sum.inr (inv a)) (by simp) ?_ ?_) rfl
    · intro i hi
      rw [if_pos (by omega)]
      have e1 : (1 + (i : Int)) = ((i + 1 : Nat) : Int) := by omega
      have hne : mul a (UInt8.ofInt (1 + (i : Int))) ≠ 1 := by
        intro h
        have h2 := inv_uniq h
        rw [e1, e _ (by omega)] at h2
        have h3 := congrArg UInt8.toNat h2
        simp at h3
        omega
      rw [if_neg hne]
      have : wI (1 + (i : Int) + 1) = 1 + ((i + 1 : Nat) : Int) := by rw [wI_of (by omega) (by omega)]; omega
      rw [this]
    · rw [if_pos (by omega)]
      have e1 : (1 + (((inv a).toNat - 1 : Nat) : Int)) = ((inv a).toNat : Int) := by omega
      rw [e1, ofInt_nat, mul_inv ha, if_pos rfl]
theorem appL_nil {α : Type} (a : List α) (h : a.length ≤ most) : appL [] a = some a := by
  unfold appL; rw [if_pos (by simpa using h)]; simp
end Gk

/- Polynomials over GF(256), as lists of numbers, the lowest first. Plain. No condition. -/
namespace Gf
def co (p : List UInt8) (i : Nat) : UInt8 := p.getD i 0
theorem co_nil (i : Nat) : co [] i = 0 := by simp [co]
theorem co_zero (c : UInt8) (p : List UInt8) : co (c :: p) 0 = c := rfl
theorem co_succ (c : UInt8) (p : List UInt8) (i : Nat) : co (c :: p) (i + 1) = co p i := by simp [co]
theorem co_ge {p : List UInt8} {i : Nat} (h : p.length ≤ i) : co p i = 0 := by simp [co, List.getD_eq_getElem?_getD, List.getElem?_eq_none h]
theorem co_lt {p : List UInt8} {i : Nat} (h : i < p.length) : co p i = p[i] := by simp [co, List.getD_eq_getElem?_getD, h]
theorem co_get {p : List UInt8} {i : Nat} (h : i < p.length) : p[i]? = some (co p i) := by rw [co_lt h]; simp [h]
theorem co_rep (n i : Nat) : co (List.replicate n 0) i = 0 := by
  simp only [co, List.getD_eq_getElem?_getD, List.getElem?_replicate]; split <;> rfl
theorem co_set {p : List UInt8} {j : Nat} (h : j < p.length) (c : UInt8) (i : Nat) : co (p.set j c) i = if i = j then c else co p i := by
  simp only [co, List.getD_eq_getElem?_getD, List.getElem?_set]
  by_cases hij : j = i
  · subst hij; simp [h]
  · simp [hij, Ne.symm hij]
def evp : List UInt8 → UInt8 → UInt8
  | [], _ => 0
  | c :: p, x => c ^^^ mul (evp p x) x
end Gf

/- Interpolation over GF(256): roots, Lagrange's and Newton's way. Plain. No condition. -/
namespace Gf
theorem ev_drop : ∀ (p : List UInt8) (a : UInt8) (i : Nat), evp (p.drop i) a = co p i ^^^ mul (evp (p.drop (i + 1)) a) a
  | [], a, i => by simp [co_nil, evp, zero_mul]
  | c :: p, a, 0 => by simp [co_zero, evp]
  | c :: p, a, i + 1 => by rw [List.drop_succ_cons, List.drop_succ_cons, co_succ]; exact ev_drop p a i
def pe (xs : List UInt8) (i : Nat) (x : UInt8) : Nat → UInt8
  | 0 => 1
  | n + 1 => if n = i then pe xs i x n else mul (pe xs i x n) (x ^^^ co xs n)
theorem pe_zero (xs : List UInt8) (i j : Nat) (hij : j ≠ i) : ∀ n, j < n → pe xs i (co xs j) n = 0
  | n + 1, h => by
    unfold pe
    by_cases hj : j = n
    · subst hj; rw [if_neg hij, xor_self, mul_zero]
    · have := pe_zero xs i j hij n (by omega)
      split
      · exact this
      · rw [this, zero_mul]
theorem co_inj {xs : List UInt8} (hn : xs.Nodup) {i j : Nat} (hi : i < xs.length) (hj : j < xs.length) (h : co xs i = co xs j) : i = j := by
  rw [co_lt hi, co_lt hj] at h
  rcases Nat.lt_trichotomy i j with h1 | h1 | h1
  · exact absurd h (List.pairwise_iff_getElem.1 hn i j hi hj h1)
  · exact h1
  · exact absurd h.symm (List.pairwise_iff_getElem.1 hn j i hj hi h1)
theorem pe_ne {xs : List UInt8} (hn : xs.Nodup) {i : Nat} (hi : i < xs.length) : ∀ n, n ≤ xs.length → pe xs i (co xs i) n ≠ 0
  | 0, _ => by show (1 : UInt8) ≠ 0; decide
  | n + 1, h => by
    unfold pe
    have := pe_ne hn hi n (by omega)
    split
    · exact this
    · rename_i hne
      exact mul_ne this (fun e => hne (co_inj hn (by omega) hi (xor_eq_zero e).symm))
def wt (xs : List UInt8) (i : Nat) (x : UInt8) : UInt8 := mul (pe xs i x xs.length) (inv (pe xs i (co xs i) xs.length))
def sm (f : Nat → UInt8) : Nat → UInt8
  | 0 => 0
  | n + 1 => sm f n ^^^ f n
theorem sm_one (f : Nat → UInt8) (j : Nat) : ∀ n, (∀ i, i < n → i ≠ j → f i = 0) → sm f n = if j < n then f j else 0
  | 0, _ => rfl
  | n + 1, h => by
    unfold sm
    rw [sm_one f j n (fun i hi => h i (by omega))]
    by_cases hj : j < n
    · rw [if_pos hj, if_pos (by omega), h n (by omega) (by omega), xor_zero]
    · rw [if_neg hj, zero_xor]
      by_cases hn : n = j
      · subst hn; rw [if_pos (by omega)]
      · rw [if_neg (by omega)]; exact h n (by omega) hn
theorem mem_co {xs : List UInt8} {a : UInt8} (h : a ∈ xs) : ∃ j, j < xs.length ∧ a = co xs j := by
  obtain ⟨j, hj, rfl⟩ := List.getElem_of_mem h
  exact ⟨j, hj, (co_lt hj).symm⟩
theorem co_mem {xs : List UInt8} {j : Nat} (h : j < xs.length) : co xs j ∈ xs := by rw [co_lt h]; exact List.getElem_mem h
end Gf

/- A range over a function, in the walk's own words. No condition. -/
namespace Gk
open Go Go.RowKit
theorem fr_mark (n : Nat) (f : Nat → Value) (D : Nat) (h : f n = undef) : ({ fr n f with defers := { target := .collected D, args := #[] } :: (fr n f).defers } : Act) = fr n (upd f n (.pointer (some ⟨D, 0, none⟩))) := by
  have e1 : (fr n f).tmps = (fr n (upd f n (.pointer (some ⟨D, 0, none⟩)))).tmps := by
    apply Array.ext_getElem?
    intro i
    by_cases hi : i < n
    · rw [fr_get n _ i hi, fr_get n _ i hi, upd_ne f _ (by omega)]
    · rw [fr_none n _ i (by omega), fr_none n _ i (by omega)]
  have e2 : (fr n f).defers = [] := by show dec (f n) = []; rw [h]; rfl
  have e3 : (fr n (upd f n (.pointer (some ⟨D, 0, none⟩)))).defers = [{ target := .collected D, args := #[] }] := by
    show dec (upd f n (.pointer (some ⟨D, 0, none⟩)) n) = _
    rw [upd_eq]; rfl
  rw [e2]
  show Act.mk (fr n f).tmps _ = _
  rw [e1, ← e3]
section
variable {P : Program} {n : Nat} {Q : Exit → (Nat → Value) → World → Prop} {f : Nat → Value} {w : World}
end
section
variable {P : Program} {n : Nat} {f : Nat → Value} {w : World} {o : Oper} {t e T : TypeId} {g D : Nat} {u z : Value}
theorem stp_alloc (ho : o.op = .alloc t) (hz : ∀ w, (zeroValue t).run P w = .ok z w) {K : Value → World → Prop}
    (hk : ∀ w', Blk w' w.heap.size t z.cells → w.grownBy w' none → K (.pointer (some ⟨w.heap.size, 0, none⟩)) w') : Stp P o f w K := by
  refine stp_of_run (w' := w.alloc (.cells z.cells t)) (v := .pointer (some ⟨w.heap.size, 0, none⟩)) ?_ (hk _ (alloc_new w _) (World.grownBy_alloc w _ none))
  simp [execOp, ho, Instr.alloc, hz, newVar, newRow, newObj, Sem.run]
end
section
variable {P : Program} {n : Nat} {Q : Exit → (Nat → Value) → World → Prop} {f : Nat → Value} {w : World}
end
section
variable {P : Program} {f : Nat → Value} {o : Oper}
theorem run_eqSl {t e : TypeId} (d : Nat) (p : Option Addr) (n c : Nat) (ht : P.underlying t = some (.slice e)) (w : World) : (Op.equalIn (d + 1) t (.slice p n c) (.slice none 0 0)).run P w = .ok p.isNone w := by
  cases p <;> simp [Op.equalIn, run_underlying ht]
theorem q_eqSl {x y : Operand} {t t' e : TypeId} {p : Option Addr} {n c : Nat} (ho : o.op = .binOp .eql t x y t') (ht : P.underlying t = some (.slice e)) (hx : ev f x = .slice p n c) (hy : ev f y = .slice none 0 0) : Qa P o f (.bool p.isNone) := by
  intro w
  have h : (Op.equalIn 10000 t (.slice p n c) (.slice none 0 0)).run P w = .ok p.isNone w := run_eqSl (P := P) 9999 p n c ht w
  unfold execOp; rw [ho]; dsimp only; rw [hx, hy]
  simp only [eqGuard, binOp, Op.equal, Op.maxDepth, Sem.run_bind, Sem.run_pure, Result.andThen_ok, h, Bool.not_true, Bool.false_eq_true, if_false]
end
end Gk

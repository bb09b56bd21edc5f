/- Parts Gv, Fk, F7c, Pk, Pl, R7, Pm, Pn, Po, Gx, Gy, Gz, F31, one behind the other. What is proved: said at the head of each part. No condition beside those said there. -/
import Derived.Test.YtgbiidkinoebgaaRows
import Derived.Orders
import Derived.Deep.Draws
import Derived.Laws.World
import Derived.KernelRfl
import Derived.OrdersIn
import Derived.TacticsIn
import Derived.RangeFuncCalls
import Derived.Deep.LoopGhost
import Derived.Tactics
import Derived.Sort.LoopGhostIn
import Derived.RangeFuncLeaves
import Derived.RangeFuncNested
import Derived.RangeFuncRecord
import Derived.Laws.Sem
import Derived.OwnWalk
import Derived.RangeFuncWrites
import Derived.Laws.IdiomCopy
import Derived.WalkKit
import Derived.ProofKit
import Derived.OpenShut
import Derived.ChangeOld
import Derived.Below
import Derived.Test.YtgbiidkinoebgaaProg
import Derived.MapKept
import Derived.Lib.AppendZerosOnto
import Derived.Laws.CopyRow
import Derived.Laws.Cells
import Derived.Lib.SlBytesConst
import Derived.Lib.MakeNoZero
import Derived.Laws.Externs
import Derived.Test.YtgbiidkinoebgaaZPSealMarks1
import Derived.Test.YtgbiidkinoebgaaZPSealMarks2
import Derived.Test.YtgbiidkinoebgaaZPSealMarks3
import Derived.Test.YtgbiidkinoebgaaZPSealMarks4
/- A range over a function whose iterator may draw an order of evaluation: what a round needs then stays behind a draw, too. No condition. -/




set_option linter.unusedVariables false
set_option linter.unusedSimpArgs false
namespace Gk
open Go Go.RowKit

/-- The iterator's contract, where the caller's facts J stay behind a draw. -/
def SeqD {α : Type} (P : Program) (gf : Nat) (lb : Array Value) (encs : α → Array Value) (Kp : World → World → Prop) (S : List α → Prop) (N : Nat) (w : World) : Prop :=
  ∀ (l : Nat) (J : List α → World → Prop) (W : World), Below w.heap.size w W → (∀ pre W, J pre W → J pre W.drew) →
    (∀ pre x W1, J pre W1 → pre.length < N → YieldAt Fence.wide 0 P l (encs x) W1 fun e W' => e = .returned (.bool true) ∧ J (pre ++ [x]) W' ∧ Kp W1 W') →
    J [] W → CallsIn Fence.wide 1 P gf (#[.func (.yield l) #[] #[]] ++ lb) W fun e W' => (∃ v, e = .returned v) ∧ ∃ xs, S xs ∧ J xs W'
/-- How a round's body is left. -/
def RoundD {α : Type} (B : Nat) (Kp : World → World → Prop) (I : List α → World → Prop) (xs : List α) (W : World) : Exit → (Nat → Value) → World → Prop
  | .normal, _, W' => KeepsFrom B W W' ∧ Kp W W' ∧ I xs W'
  | _, _, _ => False
theorem Tn.alloc {B : Nat} (w : World) (o : Obj) : Tn B w (w.alloc o) := ⟨none, World.grownBy_alloc w o none, fun _ e => by cases e⟩
theorem Tn.putO {B : Nat} {w : World} {l : Nat} {o : Obj} (h : w.heap[l]? = some o) (hc : o.isCells = false) (hB : B ≤ l) (o' : Obj) : Tn B w (w.putObj l o') :=
  ⟨some l, grownBy_putObj' w l o', fun r e => by cases e; exact ⟨hB, o, h, hc⟩⟩
section
variable {P : Program} {n : Nat} {Q : Exit → (Nat → Value) → World → Prop} {f : Nat → Value} {w : World}
theorem params1 {n : Nat} {F : Nat → Value} {p : Nat} {a : Value} (hm : F n = undef) (hp : Nat.blt p n = true) :
    ({ tmps := ((#[p] : Array Tmp).zip #[a]).foldl (fun t (p, v) => t.setIfInBounds p v) (fr n F).tmps, defers := [] } : Act) = fr n (upd F p a) := by
  have h1 := fr_put n F (some p) a hp
  have e : (fr n F).defers = [] := by show dec (F n) = []; rw [hm]; rfl
  simp only [updO] at h1
  rw [← h1]
  simp [Act.put, e]
theorem W_rangeD {α : Type} {g : Operand} {p : Tmp} {assign body : Code} (hm : f n = undef) (hog : okO n g = true) {gf : Nat} {lb : Array Value} (hg : ev f g = .func (.func gf) #[] lb)
    (eg : ∀ args w, (callFunc gf args).run P w = .ok (.enter gf args) w)
    {ea : α → Value} {Kp : World → World → Prop} {S : List α → Prop} {N : Nat} (hseq : SeqD P gf lb (fun x => #[ea x]) Kp S N w)
    (hKt : ∀ {A B C : World}, Kp A B → Kp B C → Kp A C) (hKb : ∀ (W : World) (l : Nat) (o o' : Obj), w.heap.size ≤ l → W.heap[l]? = some o → o.isCells = false → Kp W (W.putObj l o')) (hp : Nat.blt p n = true)
    (I : List α → World → Prop) (hI : ∀ s W W', Tn w.heap.size W W' → I s W → I s W') (hD : ∀ s W, I s W → I s W.drew) (h0 : I [] w) (fa : α → Nat → Value)
    (hassign : ∀ (l : Nat) (x : α) (W1 : World) (K : (Nat → Value) → World → Prop), K (fa x) W1 → W (ro := some l) P n assign (Th K (fun _ _ _ => False)) (upd f p (ea x)) W1)
    (hbody : ∀ (l : Nat) (pre : List α) (x : α) (W1 : World), I pre W1 → pre.length < N → W (ro := some l) P n body (RoundD w.heap.size Kp I (pre ++ [x]) W1) (fa x) W1)
    (hdone : ∀ (D : Nat) (xs : List α) (W1 : World), w.heap.size ≤ D → S xs → I xs W1 → W1.heap[D]? = some (.deferred (some [])) → Q .normal (upd f n (bp D)) W1) :
    W (ro := none) P n (.rangeFunc g #[p] assign body) Q f w := by
  unfold W
  refine (wpIn_wide (n := 0)).2 ((wpIn_wide (n := 2)).1 ?_)
  refine wpIn_rangeFunc ?_
  intro fn hfn
  obtain ⟨rc, hrc⟩ : ∃ rc : LoopState → Loop, rc = fun st => { state := st, pending := none, fn, tmps := (fr n f).tmps, params := #[p], assign, body, defers := w.heap.size } := ⟨_, rfl⟩
  have hent := run_enterLoop_outer (P := P) (w := w) fn (fr n f).tmps #[p] assign body
  have eR : ({ state := .ready, pending := none, fn, tmps := (fr n f).tmps, params := #[p], assign, body, defers := w.heap.size } : Loop) = rc .ready := by rw [hrc]
  rw [eR] at hent
  generalize hA : w.alloc (.deferred (some [])) = WA at hent
  generalize hB : WA.alloc (.loop (rc .ready)) = WB at hent
  have sA : WA.heap.size = w.heap.size + 1 := by rw [← hA]; simp
  have sB : WB.heap.size = w.heap.size + 2 := by rw [← hB]; simp [sA]
  have tA : Tn w.heap.size w WA := by rw [← hA]; exact Tn.alloc _ _
  have tB : Tn w.heap.size WA WB := by rw [← hB]; exact Tn.alloc _ _
  have hL : WB.heap[w.heap.size + 1]? = some (.loop (rc .ready)) := by
    have := alloc_new WA (.loop (rc .ready))
    rwa [sA, hB] at this
  have hK : WB.heap[w.heap.size]? = some (.deferred (some [])) := by
    have h1 := alloc_new w (.deferred (some []))
    rw [hA] at h1
    have h2 := alloc_old WA (.loop (rc .ready)) w.heap.size (by omega)
    rw [hB] at h2
    exact h2.trans h1
  have hbel : Below w.heap.size w WB := by
    have h1 := (Below.refl w.heap.size w).alloc (Nat.le_refl _) (.deferred (some []))
    rw [hA] at h1
    have h2 := h1.alloc (by omega) (.loop (rc .ready))
    rwa [hB] at h2
  refine ⟨w.heap.size + 1, [{ target := .collected w.heap.size, args := #[] }], WB, { target := .fn (.func gf) lb, args := #[.func (.yield (w.heap.size + 1)) #[] #[]] }, WB, gf, #[.func (.yield (w.heap.size + 1)) #[] #[]] ++ lb, WB, hent, ?_, ?_, ?_, fun _ => by decide, ?_⟩
  · have hgv : (fr n f).eval g = .func (.func gf) #[] lb := by rw [fr_eval n f g hog]; exact hg
    simp only [resolve, hgv]
    simp [go_sem]
  · intro f' _; trivial
  · simp [invoke, go_sem, eg]
  refine (hseq (w.heap.size + 1) (fun pre X => I pre X ∧ X.heap[w.heap.size + 1]? = some (.loop (rc .ready)) ∧ X.heap[w.heap.size]? = some (.deferred (some []))) WB hbel (fun pre X h => ⟨hD pre X h.1, h.2.1, h.2.2⟩) ?_ ⟨hI _ _ _ tB (hI _ _ _ tA h0), hL, hK⟩).mono ?_
  · rintro pre x X ⟨hi, hl, hk⟩ hlen
    have hlt := lt_of_get hl
    have hy := run_yield (P := P) (args := #[ea x]) hl (by rw [hrc]; rfl)
    have hbr := run_beginRound (P := P) hl (by rw [hrc])
    generalize hX2 : X.putObj (w.heap.size + 1) (.loop { rc .ready with state := .busy }) = X2 at hbr
    have hl2 : X2.heap[w.heap.size + 1]? = some (.loop { rc .ready with state := .busy }) := by rw [← hX2]; exact World.putObj_heap_same hlt
    have hk2 : X2.heap[w.heap.size]? = some (.deferred (some [])) := by rw [← hX2]; exact (World.putObj_heap_other (by omega)).trans hk
    have hw2 : Kp X X2 := by rw [← hX2]; exact hKb _ _ _ _ (by omega) hl rfl
    have hi2 : I pre X2 := by rw [← hX2]; exact hI _ _ _ (Tn.putO hl rfl (by omega) _) hi
    refine ⟨_, _, _, _, hy, ?_⟩
    have hfn' : Fence.wide.fn (rc .ready).fn := trivial
    refine roundIn_of_wpIn hfn' ?_
    have hpar : ({ tmps := ((rc .ready).params.zip #[ea x]).foldl (fun t (p, v) => t.setIfInBounds p v) (rc .ready).tmps, defers := [] } : Act) = fr n (upd f p (ea x)) := by
      rw [hrc]; exact params1 hm hp
    rw [hpar]
    have hasg := hassign (w.heap.size + 1) x X (fun f' X' => ∃ X2, (Instr.beginRound (w.heap.size + 1)).run P X' = .ok () X2 ∧ body.wpIn (Fence.wide.inRound (w.heap.size + 1)) 0 P (roundPost P (w.heap.size + 1) fun e W' => e = .returned (.bool true) ∧ (I (pre ++ [x]) W' ∧ W'.heap[w.heap.size + 1]? = some (.loop (rc .ready)) ∧ W'.heap[w.heap.size]? = some (.deferred (some []))) ∧ Kp X W') (fr n f') X2) ⟨X2, hbr, ?_⟩
    · have e1 : (rc .ready).assign = assign := by rw [hrc]
      have e2 : (rc .ready).body = body := by rw [hrc]
      rw [e1, e2]
      refine wpIn_mono hasg ?_
      rintro e a X' ⟨f', rfl, q⟩
      cases e <;> exact q
    · refine wpIn_mono (hbody (w.heap.size + 1) pre x X2 hi2 hlen) ?_
      rintro e a X3 ⟨f', rfl, q⟩
      cases e <;> first | exact q.elim | skip
      obtain ⟨k3, kp3, hi3⟩ := q
      have hl3 := k3.same _ _ (by omega) hl2 rfl
      have hk3 := k3.same _ _ (Nat.le_refl _) hk2 rfl
      have her := run_endRound (P := P) none hl3
      have e3 : ({ ({ rc .ready with state := .busy } : Loop) with state := if (none : Option Code).isNone then .ready else .done, pending := none } : Loop) = rc .ready := by rw [hrc]; rfl
      rw [e3] at her
      refine ⟨_, _, her, rfl, ⟨hI _ _ _ (Tn.putO hl3 rfl (by omega) _) hi3, World.putObj_heap_same (lt_of_get hl3), (World.putObj_heap_other (by omega)).trans hk3⟩, hKt (hKt hw2 kp3) (hKb _ _ _ _ (by omega) hl3 rfl)⟩
  · rintro e X ⟨⟨v, rfl⟩, xs, hS, hi, hl, hk⟩
    have hend := run_endLoop (P := P) hl (by rw [hrc]; simp)
    have hp0 : (rc .ready).pending = none := by rw [hrc]
    rw [hp0] at hend
    refine ⟨none, _, hend, ?_⟩
    refine ⟨_, fr_mark n f w.heap.size hm, hdone w.heap.size xs _ (Nat.le_refl _) hS (hI _ _ _ (Tn.putO hl rfl (by omega) _) hi) ((World.putObj_heap_other (by omega)).trans hk)⟩
/-- Its pure form a fold. -/
theorem W_rangeDS {α α' σ : Type} {π : α' → α} {xs : List α} {fstep : σ → α → Option σ} {s0 r : σ} {g : Operand} {p : Tmp} {assign body : Code} (hfold : rangeL fstep xs s0 = some r)
    (hm : f n = undef) (hog : okO n g = true) {gf : Nat} {lb : Array Value} (hg : ev f g = .func (.func gf) #[] lb)
    (eg : ∀ args w, (callFunc gf args).run P w = .ok (.enter gf args) w)
    {ea : α' → Value} {Rd : World → Prop} {S : List α' → Prop} {N : Nat} (hN : N = xs.length) (hseq : SeqD P gf lb (fun x => #[ea x]) (Keep Rd) S N w) (hS : ∀ ys, S ys → ys.map π = xs) (hmem : ∀ x, π x ∈ xs)
    (hRdT : ∀ W W', Tn w.heap.size W W' → Rd W → Rd W') (hp : Nat.blt p n = true)
    (I : σ → World → Prop) (hI : ∀ s W W', Tn w.heap.size W W' → I s W → I s W') (hD : ∀ s W, I s W → I s W.drew) (h0 : I s0 w) (ga : α' → (Nat → Value) → Nat → Value)
    (hassign : ∀ (l : Nat) (x : α') (W1 : World) (K : (Nat → Value) → World → Prop), K (ga x (upd f p (ea x))) W1 → W (ro := some l) P n assign (Th K (fun _ _ _ => False)) (upd f p (ea x)) W1)
    (hbody : ∀ (l : Nat) (x : α') (s s' : σ) (W1 : World), I s W1 → fstep s (π x) = some s' → W (ro := some l) P n body (RoundK w.heap.size Rd (I s') W1) (ga x (upd f p (ea x))) W1)
    (hdone : ∀ (D : Nat) (W1 : World), w.heap.size ≤ D → I r W1 → W1.heap[D]? = some (.deferred (some [])) → Q .normal (upd f n (bp D)) W1) :
    W (ro := none) P n (.rangeFunc g #[p] assign body) Q f w := by
  obtain ⟨hall, hxs⟩ := rangeL_some hfold
  refine W_rangeD hm hog hg eg hseq (fun h k => h.trans k) ?_ hp (fun pre W => ∃ s, (pre.map π).foldlM fstep s0 = some s ∧ I s W) ?_ ?_ ⟨s0, rfl, h0⟩ (fun x => ga x (upd f p (ea x))) hassign ?_ ?_
  · intro W l o o' hl ho hc
    have hg := grownBy_putObj' W l o'
    exact ⟨hg.size, fun h => hRdT _ _ ⟨some l, hg, fun r e => by cases e; exact ⟨hl, o, ho, hc⟩⟩ h⟩
  · rintro pre W W' t ⟨s, hs, h⟩
    exact ⟨s, hs, hI _ _ _ t h⟩
  · rintro pre W ⟨s, hs, h⟩
    exact ⟨s, hs, hD _ _ h⟩
  · rintro l pre x W1 ⟨s, hs, h⟩ hl
    obtain ⟨s2, h2⟩ := hall ((pre ++ [x]).map π) (by simp; omega) (fun y hy => by
      obtain ⟨z, _, rfl⟩ := List.mem_map.1 hy
      exact hmem z)
    have h3 : fstep s (π x) = some s2 := by
      rw [List.map_append, foldlM_app, hs] at h2
      simpa using h2
    refine wpIn_mono (hbody l x s s2 W1 h h3) ?_
    rintro e a w' ⟨f', rfl, q⟩
    refine ⟨f', rfl, ?_⟩
    cases e <;> first | exact q.elim | exact ⟨q.1, ⟨q.1.size, fun _ => q.2.1⟩, s2, h2, q.2.2⟩
  · rintro D ys W1 hD hSy ⟨s, hs, h⟩ hK
    rw [hS ys hSy, hxs] at hs
    obtain rfl := Option.some.inj hs
    exact hdone D W1 hD h hK
end

/-! ### Pieces of a length -/
/-- The pieces, of n each, with where they begin. -/
def chunksI {α : Type} (l : List α) (n : Nat) : List (Int × List α) := (List.range ((l.length + n - 1) / n)).map fun j => (((j * n : Nat) : Int), (l.drop (j * n)).take n)
abbrev ChEl {α : Type} (l : List α) (n : Nat) := {x : Int × List α // subL3 l x.1 (x.1 + (x.2.length : Int)) (x.1 + (x.2.length : Int)) = some x.2 ∧ x ∈ chunksI l n}
theorem chunksI_lt {α : Type} {l : List α} {n j : Nat} (hn : 1 ≤ n) : j < (chunksI l n).length ↔ j * n < l.length := by
  simp only [chunksI, List.length_map, List.length_range]
  rw [Nat.lt_div_iff_mul_lt (by omega)]
  constructor
  · intro h; omega
  · intro h; omega
theorem chunksI_at {α : Type} {l : List α} {n j : Nat} (hn : 1 ≤ n) (h : j * n < l.length) : (chunksI l n)[j]? = some (((j * n : Nat) : Int), (l.drop (j * n)).take n) := by
  have := (chunksI_lt (l := l) hn).2 h
  simp only [chunksI, List.length_map, List.length_range] at this
  simp [chunksI, this]
theorem chunksI_sub {α : Type} {l : List α} {n j : Nat} (h : j * n < l.length) : subL3 l ((j * n : Nat) : Int) (((j * n : Nat) : Int) + (((l.drop (j * n)).take n).length : Int)) (((j * n : Nat) : Int) + (((l.drop (j * n)).take n).length : Int)) = some ((l.drop (j * n)).take n) := by
  refine subL3_some.2 ⟨?_, ?_⟩
  · simp only [List.length_take, List.length_drop]; omega
  · have e : (((j * n : Nat) : Int) + (((l.drop (j * n)).take n).length : Int)).toNat = j * n + ((l.drop (j * n)).take n).length := by omega
    rw [e, Int.toNat_natCast, List.drop_take, Nat.add_sub_cancel_left]
    simp [List.take_take]
end Gk

/- slices.Chunk over bytes and over rows: what it hands back, and its iterator's contract. (Printed by genXFk.py.) No condition. -/




set_option linter.unusedVariables false
set_option linter.unusedSimpArgs false
namespace Gk
open Go Go.Proofs Go.RowKit
theorem run_yieldcall1 {P : Program} {o : Oper} {f : Nat → Value} {w : World} {l : Nat} {x y : Operand} {ts : Array TypeId} {a : Value} {r : Next} (ho : o.op = .call ⟨.value x, #[y], ts⟩) (hx : ev f x = .func (.yield l) #[] #[]) (hy : ev f y = a)
    (h : (Instr.yield l #[a]).run P w = .ok r w) : (execOp (ev f) o).run P w = .ok r w := by
  simp [execOp, ho, hx, hy, resolve, invoke, Deferred.ofValue, h]
/-- slices.Chunk over []byte. -/
theorem Chunk_bytes_calls (v : Value) (hv : v.cells = #[v]) (n : Int) (hn : 1 ≤ n) (w : World) : Calls Try.prog 55 [v, i64 n].toArray w fun e w' =>
    ∃ g1 g2, e = .returned (.func (.func 75) #[] #[bp g1, bp g2]) ∧ Nw w (bp g1) ∧ Nw w (bp g2) ∧ Nq (bp g1) (bp g2) ∧ Blk w' g1 22 #[v] ∧ Blk w' g2 3 #[i64 n] ∧ Ext w w' := by
  refine calls_W (n := 9) Try.func55 rfl rfl rfl ?_
  refine W_seq ?_
  refine W_reg (by kernel_rfl) ?_
  refine wls rfl rfl (stp_box (v := v) rfl rfl ?_)
  intro w1 hb1 hg1
  rw [hv] at hb1
  refine wls rfl rfl (stp_box (v := i64 n) rfl rfl ?_)
  intro w2 hb2 hg2
  have hb1' : Blk w2 w.heap.size 22 #[v] := hb1.ext (grown_ext hg2)
  have hs1 : w.heap.size < w1.heap.size := hb1.lt
  refine wla rfl rfl (q_assign (v := .nilFunc) rfl rfl) ?_
  refine wl_nil ?_
  refine W_th ?_
  refine W_seq ?_
  refine W_seq ?_
  refine W_reg (by kernel_rfl) ?_
  refine wlq rfl rfl (q_loadB (u := i64 n) rfl Try.isAgg3 rfl hb2 rfl) ?_
  refine wla rfl rfl (q_ltI rfl rfl rfl) ?_
  refine wl_nil ?_
  refine W_th ?_
  refine W_cond false rfl ?_ (fun h => by cases h) (fun _ => ?_)
  · exact congrArg Value.bool (decide_eq_false (by omega))
  refine W_skip ?_
  refine W_th ?_
  refine W_seq ?_
  refine W_reg (by kernel_rfl) ?_
  refine wla rfl rfl (q_mkfuncN (vs := [bp w.heap.size, bp w1.heap.size]) rfl (ar2 rfl rfl)) ?_
  refine wla rfl rfl (q_assign (v := .func (.func 75) #[] [bp w.heap.size, bp w1.heap.size].toArray) rfl rfl) ?_
  refine wl_nil ?_
  refine W_th ?_
  refine W_ret ?_
  refine rt1 (.func (.func 75) #[] [bp w.heap.size, bp w1.heap.size].toArray) rfl rfl rfl rfl ?_
  refine ⟨w.heap.size, w1.heap.size, rfl, Nw.bp w, ?_, ?_, hb1', hb2, (grown_ext hg1).trans (grown_ext hg2)⟩
  · intro k hk; have := hs_bp hk; omega
  · intro k h1 h2; have := hs_bp h1; have := hs_bp h2; omega
/-- What the iterator reads. -/
def RdC_bytes (l : List (UInt8)) (n : Int) (g1 g2 : Nat) (v : Value) (w : World) : Prop := Blk w g1 22 #[v] ∧ Blk w g2 3 #[i64 n] ∧ By w [] v l
theorem RdC_bytes.tn {l : List (UInt8)} {n : Int} {g1 g2 B : Nat} {v : Value} {W W' : World} (t : Tn B W W') (h : RdC_bytes l n g1 g2 v W) : RdC_bytes l n g1 g2 v W' := ⟨h.1.tn t, h.2.1.tn t, h.2.2.lift (t.lift _)⟩
theorem RdC_bytes.ext {l : List (UInt8)} {n : Int} {g1 g2 : Nat} {v : Value} {W W' : World} (t : Ext W W') (h : RdC_bytes l n g1 g2 v W) : RdC_bytes l n g1 g2 v W' := ⟨h.1.ext t, h.2.1.ext t, h.2.2.lift (Lift.ext t _)⟩
theorem RdC_bytes.below {l : List (UInt8)} {n : Int} {g1 g2 : Nat} {v : Value} {W W' : World} (t : Below W.heap.size W W') (h : RdC_bytes l n g1 g2 v W) : RdC_bytes l n g1 g2 v W' :=
  ⟨(t.block g1 h.1.lt).trans h.1, (t.block g2 h.2.1.lt).trans h.2.1, h.2.2.lift ⟨fun k o ho _ _ => (t.block k (lt_of_get ho)).trans ho, fun _ _ _ => trivial⟩⟩
set_option maxHeartbeats 4000000 in
/-- slices.Chunk's iterator over []byte. -/
theorem chunk_bytes (l : List (UInt8)) (n : Nat) (hn : 1 ≤ n) (v : Value) (g1 g2 : Nat) (w : World) (hrd : RdC_bytes l (n : Int) g1 g2 v w) (hlen : l.length + n < 9223372036854775808) :
    SeqD Try.prog 75 #[bp g1, bp g2] (fun x : ChEl l n => #[subW v x.1.1.toNat (x.1.1 + (x.1.2.length : Int)).toNat (x.1.1 + (x.1.2.length : Int)).toNat]) (Keep (RdC_bytes l (n : Int) g1 g2 v)) (fun ys => ys.map (·.1) = chunksI l n) (chunksI l n).length w := by
  intro lp J W0 hW hJd hY h0
  have hrd0 : RdC_bytes l (n : Int) g1 g2 v W0 := hrd.below hW
  refine callsIn_wide.2 ?_
  show Calls Try.prog 75 [Value.func (.yield lp) #[] #[], bp g1, bp g2].toArray W0 _
  refine calls_W (n := 31) Try.func75 rfl rfl rfl ?_
  refine W_seq ?_
  refine W_reg (by kernel_rfl) ?_
  refine wla rfl rfl (q_assign (v := i64 0) rfl rfl) ?_
  refine wl_nil ?_
  refine W_th ?_
  refine W_block ?_
  refine W_loopG (fun k f w => f 31 = undef ∧ f 0 = .func (.yield lp) #[] #[] ∧ f 1 = bp g1 ∧ f 2 = bp g2 ∧ k ≤ (chunksI l n).length ∧ f 4 = i64 ((((chunksI l n).length - k) * n : Nat) : Int) ∧ (∃ ys : List (ChEl l n), ys.map (·.1) = (chunksI l n).take ((chunksI l n).length - k) ∧ J ys w) ∧ RdC_bytes l (n : Int) g1 g2 v w) (chunksI l n).length ?_ ?_
  · exact ⟨rfl, rfl, rfl, rfl, Nat.le_refl _, by rw [Nat.sub_self, Nat.zero_mul]; rfl, ⟨[], by simp, h0⟩, hrd0⟩
  · rintro k f w1 ⟨hm, s0, s1, s2, hk, s4, ⟨ys, hys, hJ⟩, hrd1⟩
    obtain ⟨hB1, hB2, hl1⟩ := hrd1
    generalize hj : (chunksI l n).length - k = j at *
    refine W_seq ?_
    refine W_seq ?_
    refine W_reg (by kernel_rfl) ?_
    refine wla rfl rfl (q_move (v := i64 ((j * n : Nat) : Int)) rfl s4) ?_
    refine wlq rfl rfl (q_loadB (u := v) rfl Try.isAgg22 s1 hB1 rfl) ?_
    refine wla rfl rfl (q_len rfl T22.sl rfl hl1) ?_
    refine wla rfl rfl (q_ltI rfl rfl rfl) ?_
    refine wl_nil ?_
    refine W_th ?_
    refine W_cond _ rfl rfl (fun hb => ?_) (fun hb => ?_)
    · have hlt : j * n < l.length := by have := of_decide_eq_true hb; omega
      have hjk : j < (chunksI l n).length := (chunksI_lt hn).2 hlt
      have e1 := chunksI_at hn hlt
      have e2 := chunksI_sub (n := n) hlt
      generalize hc : (l.drop (j * n)).take n = c at *
      have hcl : c.length = min n (l.length - j * n) := by rw [← hc]; simp
      refine W_skip ?_
      refine W_th ?_
      refine W_seq ?_
      refine W_block ?_
      refine W_seq ?_
      refine W_draw [0, 1] [(0, 1), (1, 1), (2, 0), (3, 0), (4, 0), (5, 0), (6, 0)] mixed (by kernel_rfl) (by kernel_rfl) (by kernel_rfl) (by kernel_rfl) ?_
      have xd := Ext.drew w1
      have hJ2 := hJd ys w1 hJ
      have hrd2 : RdC_bytes l (n : Int) g1 g2 v (World.drew w1) := RdC_bytes.ext xd ⟨hB1, hB2, hl1⟩
      generalize World.drew w1 = w2 at *
      obtain ⟨hB1', hB2', hl2⟩ := hrd2
      refine wsq rfl rfl rfl (q_loadB (u := i64 (n : Int)) rfl Try.isAgg3 s2 hB2' rfl) ?_
      refine wsq rfl rfl rfl (q_loadB (u := v) rfl Try.isAgg22 s1 hB1' rfl) ?_
      refine wsa rfl rfl rfl (q_move (v := i64 ((j * n : Nat) : Int)) rfl s4) ?_
      have hsub : subL l ((j * n : Nat) : Int) (l.length : Int) = some (l.drop (j * n)) := by
        refine subL_some.2 ⟨by omega, ?_⟩
        rw [Int.toNat_natCast, Int.toNat_natCast, List.take_of_length_le (Nat.le_refl _)]
      refine wsa rfl rfl rfl (q_slice (a := ((j * n : Nat) : Int)) (b := (l.length : Int)) rfl T22 rfl hl2 rfl rfl hsub) ?_
      refine wsa rfl rfl rfl (q_len rfl T22.sl rfl (SlK.cut hl2 hsub)) ?_
      have hmin : (if ((l.drop (j * n)).length : Int) < (n : Int) then ((l.drop (j * n)).length : Int) else (n : Int)) = (c.length : Int) := by
        rw [hcl, List.length_drop]; split <;> omega
      refine wsa rfl rfl rfl (q_minI (a := (n : Int)) (b := ((l.drop (j * n)).length : Int)) rfl rfl rfl) ?_
      rw [hmin]
      refine wsa rfl rfl rfl (q_assign (v := i64 (c.length : Int)) rfl rfl) ?_
      refine ws_nil ?_
      refine W_th ?_
      refine W_seq ?_
      refine W_reg (by kernel_rfl) ?_
      have hadd : wI (((j * n : Nat) : Int) + (c.length : Int)) = ((j * n : Nat) : Int) + (c.length : Int) := wI_of (by omega) (by omega)
      refine wla rfl rfl (q_move (v := .func (.yield lp) #[] #[]) rfl s0) ?_
      refine wlq rfl rfl (q_loadB (u := v) rfl Try.isAgg22 s1 hB1' rfl) ?_
      refine wla rfl rfl (q_move (v := i64 ((j * n : Nat) : Int)) rfl s4) ?_
      refine wla rfl rfl (q_move (v := i64 ((j * n : Nat) : Int)) rfl s4) ?_
      refine wla rfl rfl (q_move (v := i64 (c.length : Int)) rfl rfl) ?_
      refine wla rfl rfl (q_addI (a := ((j * n : Nat) : Int)) (b := (c.length : Int)) rfl rfl rfl) ?_
      refine wla rfl rfl (q_move (v := i64 ((j * n : Nat) : Int)) rfl s4) ?_
      refine wla rfl rfl (q_move (v := i64 (c.length : Int)) rfl rfl) ?_
      refine wla rfl rfl (q_addI (a := ((j * n : Nat) : Int)) (b := (c.length : Int)) rfl rfl rfl) ?_
      rw [hadd]
      refine wla rfl rfl (q_slice3 (a := ((j * n : Nat) : Int)) (b := ((j * n : Nat) : Int) + (c.length : Int)) (c := ((j * n : Nat) : Int) + (c.length : Int)) rfl T22 rfl hl2 rfl rfl rfl e2) ?_
      have hyl : ys.length < (chunksI l n).length := by
        have := congrArg List.length hys
        rw [List.length_map, List.length_take] at this
        omega
      obtain ⟨fn, tmps, assign, body, hy, hR⟩ := hY ys ⟨(((j * n : Nat) : Int), c), e2, List.mem_of_getElem? e1⟩ w2 hJ2 hyl
      refine wl_yield rfl (run_yieldcall1 rfl rfl rfl hy) (hR.mono ?_)
      rintro e w3 ⟨rfl, hJ3, hk3⟩
      refine ⟨_, rfl, ?_⟩
      refine wla rfl rfl (q_not (b := true) rfl rfl) ?_
      refine wl_nil ?_
      refine W_th ?_
      refine W_cond false rfl rfl (fun h => by cases h) (fun _ => ?_)
      refine W_skip ?_
      refine bk_n ?_
      refine W_th ?_
      refine W_reg (by kernel_rfl) ?_
      have hrd3 : RdC_bytes l (n : Int) g1 g2 v w3 := hk3.2 ⟨hB1', hB2', hl2⟩
      refine wla rfl rfl (q_move (v := i64 ((j * n : Nat) : Int)) rfl s4) ?_
      refine wlq rfl rfl (q_loadB (u := i64 (n : Int)) rfl Try.isAgg3 s2 hrd3.2.1 rfl) ?_
      refine wla rfl rfl (q_addI (a := ((j * n : Nat) : Int)) (b := (n : Int)) rfl rfl rfl) ?_
      have e3 : wI (((j * n : Nat) : Int) + (n : Int)) = (((j + 1) * n : Nat) : Int) := by
        rw [wI_of (by omega) (by omega), Nat.succ_mul]; omega
      rw [e3]
      refine wla rfl rfl (q_assign (v := i64 (((j + 1) * n : Nat) : Int)) rfl rfl) ?_
      refine wl_nil ?_
      refine ⟨k - 1, by omega, hm, s0, s1, s2, by omega, ?_, ⟨_, ?_, hJ3⟩, hrd3⟩
      · rw [show (chunksI l n).length - (k - 1) = j + 1 by omega]; rfl
      · rw [show (chunksI l n).length - (k - 1) = j + 1 by omega, List.take_add_one, e1, List.map_append, hys]; rfl
    · have hge : ¬ j * n < l.length := by have := of_decide_eq_false hb; omega
      have hjk : ¬ j < (chunksI l n).length := fun h => hge ((chunksI_lt hn).1 h)
      refine W_exit ?_
      refine th_x ?_
      refine th_x ?_
      refine bk_x ?_
      refine rtn (rt0 rfl hm ?_)
      refine ⟨⟨_, rfl⟩, ys, ?_, hJ⟩
      show ys.map (·.1) = chunksI l n
      rw [hys]
      exact List.take_of_length_le (by omega)
/-- slices.Chunk over [][]byte. -/
theorem Chunk_rows_calls (v : Value) (hv : v.cells = #[v]) (n : Int) (hn : 1 ≤ n) (w : World) : Calls Try.prog 58 [v, i64 n].toArray w fun e w' =>
    ∃ g1 g2, e = .returned (.func (.func 76) #[] #[bp g1, bp g2]) ∧ Nw w (bp g1) ∧ Nw w (bp g2) ∧ Nq (bp g1) (bp g2) ∧ Blk w' g1 55 #[v] ∧ Blk w' g2 3 #[i64 n] ∧ Ext w w' := by
  refine calls_W (n := 9) Try.func58 rfl rfl rfl ?_
  refine W_seq ?_
  refine W_reg (by kernel_rfl) ?_
  refine wls rfl rfl (stp_box (v := v) rfl rfl ?_)
  intro w1 hb1 hg1
  rw [hv] at hb1
  refine wls rfl rfl (stp_box (v := i64 n) rfl rfl ?_)
  intro w2 hb2 hg2
  have hb1' : Blk w2 w.heap.size 55 #[v] := hb1.ext (grown_ext hg2)
  have hs1 : w.heap.size < w1.heap.size := hb1.lt
  refine wla rfl rfl (q_assign (v := .nilFunc) rfl rfl) ?_
  refine wl_nil ?_
  refine W_th ?_
  refine W_seq ?_
  refine W_seq ?_
  refine W_reg (by kernel_rfl) ?_
  refine wlq rfl rfl (q_loadB (u := i64 n) rfl Try.isAgg3 rfl hb2 rfl) ?_
  refine wla rfl rfl (q_ltI rfl rfl rfl) ?_
  refine wl_nil ?_
  refine W_th ?_
  refine W_cond false rfl ?_ (fun h => by cases h) (fun _ => ?_)
  · exact congrArg Value.bool (decide_eq_false (by omega))
  refine W_skip ?_
  refine W_th ?_
  refine W_seq ?_
  refine W_reg (by kernel_rfl) ?_
  refine wla rfl rfl (q_mkfuncN (vs := [bp w.heap.size, bp w1.heap.size]) rfl (ar2 rfl rfl)) ?_
  refine wla rfl rfl (q_assign (v := .func (.func 76) #[] [bp w.heap.size, bp w1.heap.size].toArray) rfl rfl) ?_
  refine wl_nil ?_
  refine W_th ?_
  refine W_ret ?_
  refine rt1 (.func (.func 76) #[] [bp w.heap.size, bp w1.heap.size].toArray) rfl rfl rfl rfl ?_
  refine ⟨w.heap.size, w1.heap.size, rfl, Nw.bp w, ?_, ?_, hb1', hb2, (grown_ext hg1).trans (grown_ext hg2)⟩
  · intro k hk; have := hs_bp hk; omega
  · intro k h1 h2; have := hs_bp h1; have := hs_bp h2; omega
/-- What the iterator reads. -/
def RdC_rows (l : List (List UInt8)) (n : Int) (g1 g2 : Nat) (v : Value) (w : World) : Prop := Blk w g1 55 #[v] ∧ Blk w g2 3 #[i64 n] ∧ Rw w [] v l
theorem RdC_rows.tn {l : List (List UInt8)} {n : Int} {g1 g2 B : Nat} {v : Value} {W W' : World} (t : Tn B W W') (h : RdC_rows l n g1 g2 v W) : RdC_rows l n g1 g2 v W' := ⟨h.1.tn t, h.2.1.tn t, h.2.2.lift (t.lift _)⟩
theorem RdC_rows.ext {l : List (List UInt8)} {n : Int} {g1 g2 : Nat} {v : Value} {W W' : World} (t : Ext W W') (h : RdC_rows l n g1 g2 v W) : RdC_rows l n g1 g2 v W' := ⟨h.1.ext t, h.2.1.ext t, h.2.2.lift (Lift.ext t _)⟩
theorem RdC_rows.below {l : List (List UInt8)} {n : Int} {g1 g2 : Nat} {v : Value} {W W' : World} (t : Below W.heap.size W W') (h : RdC_rows l n g1 g2 v W) : RdC_rows l n g1 g2 v W' :=
  ⟨(t.block g1 h.1.lt).trans h.1, (t.block g2 h.2.1.lt).trans h.2.1, h.2.2.lift ⟨fun k o ho _ _ => (t.block k (lt_of_get ho)).trans ho, fun _ _ _ => trivial⟩⟩
set_option maxHeartbeats 4000000 in
/-- slices.Chunk's iterator over [][]byte. -/
theorem chunk_rows (l : List (List UInt8)) (n : Nat) (hn : 1 ≤ n) (v : Value) (g1 g2 : Nat) (w : World) (hrd : RdC_rows l (n : Int) g1 g2 v w) (hlen : l.length + n < 9223372036854775808) :
    SeqD Try.prog 76 #[bp g1, bp g2] (fun x : ChEl l n => #[subW v x.1.1.toNat (x.1.1 + (x.1.2.length : Int)).toNat (x.1.1 + (x.1.2.length : Int)).toNat]) (Keep (RdC_rows l (n : Int) g1 g2 v)) (fun ys => ys.map (·.1) = chunksI l n) (chunksI l n).length w := by
  intro lp J W0 hW hJd hY h0
  have hrd0 : RdC_rows l (n : Int) g1 g2 v W0 := hrd.below hW
  refine callsIn_wide.2 ?_
  show Calls Try.prog 76 [Value.func (.yield lp) #[] #[], bp g1, bp g2].toArray W0 _
  refine calls_W (n := 31) Try.func76 rfl rfl rfl ?_
  refine W_seq ?_
  refine W_reg (by kernel_rfl) ?_
  refine wla rfl rfl (q_assign (v := i64 0) rfl rfl) ?_
  refine wl_nil ?_
  refine W_th ?_
  refine W_block ?_
  refine W_loopG (fun k f w => f 31 = undef ∧ f 0 = .func (.yield lp) #[] #[] ∧ f 1 = bp g1 ∧ f 2 = bp g2 ∧ k ≤ (chunksI l n).length ∧ f 4 = i64 ((((chunksI l n).length - k) * n : Nat) : Int) ∧ (∃ ys : List (ChEl l n), ys.map (·.1) = (chunksI l n).take ((chunksI l n).length - k) ∧ J ys w) ∧ RdC_rows l (n : Int) g1 g2 v w) (chunksI l n).length ?_ ?_
  · exact ⟨rfl, rfl, rfl, rfl, Nat.le_refl _, by rw [Nat.sub_self, Nat.zero_mul]; rfl, ⟨[], by simp, h0⟩, hrd0⟩
  · rintro k f w1 ⟨hm, s0, s1, s2, hk, s4, ⟨ys, hys, hJ⟩, hrd1⟩
    obtain ⟨hB1, hB2, hl1⟩ := hrd1
    generalize hj : (chunksI l n).length - k = j at *
    refine W_seq ?_
    refine W_seq ?_
    refine W_reg (by kernel_rfl) ?_
    refine wla rfl rfl (q_move (v := i64 ((j * n : Nat) : Int)) rfl s4) ?_
    refine wlq rfl rfl (q_loadB (u := v) rfl Try.isAgg55 s1 hB1 rfl) ?_
    refine wla rfl rfl (q_len rfl T55.sl rfl hl1) ?_
    refine wla rfl rfl (q_ltI rfl rfl rfl) ?_
    refine wl_nil ?_
    refine W_th ?_
    refine W_cond _ rfl rfl (fun hb => ?_) (fun hb => ?_)
    · have hlt : j * n < l.length := by have := of_decide_eq_true hb; omega
      have hjk : j < (chunksI l n).length := (chunksI_lt hn).2 hlt
      have e1 := chunksI_at hn hlt
      have e2 := chunksI_sub (n := n) hlt
      generalize hc : (l.drop (j * n)).take n = c at *
      have hcl : c.length = min n (l.length - j * n) := by rw [← hc]; simp
      refine W_skip ?_
      refine W_th ?_
      refine W_seq ?_
      refine W_block ?_
      refine W_seq ?_
      refine W_draw [0, 1] [(0, 1), (1, 1), (2, 0), (3, 0), (4, 0), (5, 0), (6, 0)] mixed (by kernel_rfl) (by kernel_rfl) (by kernel_rfl) (by kernel_rfl) ?_
      have xd := Ext.drew w1
      have hJ2 := hJd ys w1 hJ
      have hrd2 : RdC_rows l (n : Int) g1 g2 v (World.drew w1) := RdC_rows.ext xd ⟨hB1, hB2, hl1⟩
      generalize World.drew w1 = w2 at *
      obtain ⟨hB1', hB2', hl2⟩ := hrd2
      refine wsq rfl rfl rfl (q_loadB (u := i64 (n : Int)) rfl Try.isAgg3 s2 hB2' rfl) ?_
      refine wsq rfl rfl rfl (q_loadB (u := v) rfl Try.isAgg55 s1 hB1' rfl) ?_
      refine wsa rfl rfl rfl (q_move (v := i64 ((j * n : Nat) : Int)) rfl s4) ?_
      have hsub : subL l ((j * n : Nat) : Int) (l.length : Int) = some (l.drop (j * n)) := by
        refine subL_some.2 ⟨by omega, ?_⟩
        rw [Int.toNat_natCast, Int.toNat_natCast, List.take_of_length_le (Nat.le_refl _)]
      refine wsa rfl rfl rfl (q_slice (a := ((j * n : Nat) : Int)) (b := (l.length : Int)) rfl T55 rfl hl2 rfl rfl hsub) ?_
      refine wsa rfl rfl rfl (q_len rfl T55.sl rfl (SlK.cut hl2 hsub)) ?_
      have hmin : (if ((l.drop (j * n)).length : Int) < (n : Int) then ((l.drop (j * n)).length : Int) else (n : Int)) = (c.length : Int) := by
        rw [hcl, List.length_drop]; split <;> omega
      refine wsa rfl rfl rfl (q_minI (a := (n : Int)) (b := ((l.drop (j * n)).length : Int)) rfl rfl rfl) ?_
      rw [hmin]
      refine wsa rfl rfl rfl (q_assign (v := i64 (c.length : Int)) rfl rfl) ?_
      refine ws_nil ?_
      refine W_th ?_
      refine W_seq ?_
      refine W_reg (by kernel_rfl) ?_
      have hadd : wI (((j * n : Nat) : Int) + (c.length : Int)) = ((j * n : Nat) : Int) + (c.length : Int) := wI_of (by omega) (by omega)
      refine wla rfl rfl (q_move (v := .func (.yield lp) #[] #[]) rfl s0) ?_
      refine wlq rfl rfl (q_loadB (u := v) rfl Try.isAgg55 s1 hB1' rfl) ?_
      refine wla rfl rfl (q_move (v := i64 ((j * n : Nat) : Int)) rfl s4) ?_
      refine wla rfl rfl (q_move (v := i64 ((j * n : Nat) : Int)) rfl s4) ?_
      refine wla rfl rfl (q_move (v := i64 (c.length : Int)) rfl rfl) ?_
      refine wla rfl rfl (q_addI (a := ((j * n : Nat) : Int)) (b := (c.length : Int)) rfl rfl rfl) ?_
      refine wla rfl rfl (q_move (v := i64 ((j * n : Nat) : Int)) rfl s4) ?_
      refine wla rfl rfl (q_move (v := i64 (c.length : Int)) rfl rfl) ?_
      refine wla rfl rfl (q_addI (a := ((j * n : Nat) : Int)) (b := (c.length : Int)) rfl rfl rfl) ?_
      rw [hadd]
      refine wla rfl rfl (q_slice3 (a := ((j * n : Nat) : Int)) (b := ((j * n : Nat) : Int) + (c.length : Int)) (c := ((j * n : Nat) : Int) + (c.length : Int)) rfl T55 rfl hl2 rfl rfl rfl e2) ?_
      have hyl : ys.length < (chunksI l n).length := by
        have := congrArg List.length hys
        rw [List.length_map, List.length_take] at this
        omega
      obtain ⟨fn, tmps, assign, body, hy, hR⟩ := hY ys ⟨(((j * n : Nat) : Int), c), e2, List.mem_of_getElem? e1⟩ w2 hJ2 hyl
      refine wl_yield rfl (run_yieldcall1 rfl rfl rfl hy) (hR.mono ?_)
      rintro e w3 ⟨rfl, hJ3, hk3⟩
      refine ⟨_, rfl, ?_⟩
      refine wla rfl rfl (q_not (b := true) rfl rfl) ?_
      refine wl_nil ?_
      refine W_th ?_
      refine W_cond false rfl rfl (fun h => by cases h) (fun _ => ?_)
      refine W_skip ?_
      refine bk_n ?_
      refine W_th ?_
      refine W_reg (by kernel_rfl) ?_
      have hrd3 : RdC_rows l (n : Int) g1 g2 v w3 := hk3.2 ⟨hB1', hB2', hl2⟩
      refine wla rfl rfl (q_move (v := i64 ((j * n : Nat) : Int)) rfl s4) ?_
      refine wlq rfl rfl (q_loadB (u := i64 (n : Int)) rfl Try.isAgg3 s2 hrd3.2.1 rfl) ?_
      refine wla rfl rfl (q_addI (a := ((j * n : Nat) : Int)) (b := (n : Int)) rfl rfl rfl) ?_
      have e3 : wI (((j * n : Nat) : Int) + (n : Int)) = (((j + 1) * n : Nat) : Int) := by
        rw [wI_of (by omega) (by omega), Nat.succ_mul]; omega
      rw [e3]
      refine wla rfl rfl (q_assign (v := i64 (((j + 1) * n : Nat) : Int)) rfl rfl) ?_
      refine wl_nil ?_
      refine ⟨k - 1, by omega, hm, s0, s1, s2, by omega, ?_, ⟨_, ?_, hJ3⟩, hrd3⟩
      · rw [show (chunksI l n).length - (k - 1) = j + 1 by omega]; rfl
      · rw [show (chunksI l n).length - (k - 1) = j + 1 by omega, List.take_add_one, e1, List.map_append, hys]; rfl
    · have hge : ¬ j * n < l.length := by have := of_decide_eq_false hb; omega
      have hjk : ¬ j < (chunksI l n).length := fun h => hge ((chunksI_lt hn).1 h)
      refine W_exit ?_
      refine th_x ?_
      refine th_x ?_
      refine bk_x ?_
      refine rtn (rt0 rfl hm ?_)
      refine ⟨⟨_, rfl⟩, ys, ?_, hJ⟩
      show ys.map (·.1) = chunksI l n
      rw [hys]
      exact List.take_of_length_le (by omega)
end Gk

/- Printed by gen.py: for each Go function a pure function, and that the Go code comes to it. No condition beside the equation that says what the pure function gives. -/




set_option linter.unusedVariables false
set_option linter.unusedSimpArgs false
namespace Gk
open Go Go.Proofs

/-! largesse/hash.Sum -/
noncomputable def hash_Sum (a0parts : List (List UInt8)) : Option (List UInt8) :=
((slices_Concat_sbytebyte a0parts).bind fun r1 =>
((appL r1 (([(128 : UInt8)] : List UInt8))).bind fun c6 =>
((remI ((c6.length : Int)) 64).bind fun c9 =>
((remI ((wI (120 - c9))) 64).bind fun c10 =>
((makeL c10 (0 : UInt8)).bind fun c12 =>
((appL c6 c12).bind fun c13 =>
((word_Put_uint64 c13 (shl64 ((UInt64.ofInt ((r1.length : Int)))) 3)).bind fun r16 =>
((hash_first ).bind fun r20 =>
((lenA 8 ((List.replicate 8 (0 : UInt32)))).bind fun c28 =>
((lenA 8 r20).bind fun c29 =>
((lim (r16.length + 64)).bind fun lim41 =>
((rangeL (fun (s41 : List UInt32) (y41 : Int × List UInt8) =>
((hash_block s41 y41.2).bind fun r45 => some r45)) (chunksI r16 64) r20).bind fun x41 =>
((lenA 8 x41).bind fun c49 =>
((iterC (fun s50 : List UInt8 × Int =>
(if s50.2 < 8 then
((lenA 8 x41).bind fun c53 =>
((idx x41 s50.2).bind fun c54 =>
((word_Put_uint32 s50.1 c54).bind fun r55 => some (.inl (r55, (wI (s50.2 + 1)))))))
else some (.inr s50.1))) (([] : List UInt8), 0)).bind fun x50 => some x50))))))))))))))
set_option maxRecDepth 100000 in
set_option maxHeartbeats 8000000 in
theorem hash_Sum_calls (a0parts : List (List UInt8)) (p0 : Value) (r : List UInt8) (w0 : World) (hp0 : Rw w0 [] p0 a0parts) (H : hash_Sum a0parts = some r) :
    Calls Try.prog 45 [p0].toArray w0 (fun e w' => ∃ u0 : Value, e = .returned u0 ∧ Ext w0 w' ∧ Nw w0 u0 ∧ OwK (Sc u8) w' [] 5 u0 r) := by
  have hE : Ext w0 w0 := Ext.refl w0
  unfold hash_Sum at H
  refine calls_W (n := 44) Try.func45 rfl rfl rfl ?_
  refine W_seq ?_
  refine W_reg (by kernel_rfl) ?_
  refine wla rfl rfl (q_assign (v := (.slice none 0 0)) rfl rfl) ?_
  refine wl_nil ?_
  refine W_th ?_
  refine W_seq ?_
  refine W_reg (by kernel_rfl) ?_
  refine wla rfl rfl (q_move (v := p0) rfl rfl) ?_
  obtain ⟨r1, hr1, H⟩ := Option.bind_eq_some_iff.1 H
  refine wls rfl rfl (stp_call (vs := [p0]) Try.func44 rfl rfl rfl (ar1 rfl) (slices_Concat_sbytebyte_calls a0parts p0 r1 _ (hp0.lift (Lift.ext hE _)) hr1) ?_)
  rintro _ w1 ⟨v1, rfl, x1, n1_0, o1_0⟩
  refine ⟨_, rfl, ?_⟩
  have o1 : OwK (Sc u8) w1 (v1 :: []) 5 v1 r1 := OwK.scal o1_0 _
  have n3 := Nw.ext hE n1_0
  have e2 := hE.trans x1
  refine wla rfl rfl (q_assign (v := v1) rfl rfl) ?_
  refine wl_nil ?_
  refine W_th ?_
  refine W_seq ?_
  refine W_reg (by kernel_rfl) ?_
  refine wla rfl rfl (q_move (v := v1) rfl rfl) ?_
  refine wla rfl rfl (q_len rfl T22.sl rfl (o1.rd (Sc.stab _))) ?_
  refine wla rfl rfl (q_assign (v := (i64 ((r1.length : Int)))) rfl rfl) ?_
  refine wl_nil ?_
  refine W_th ?_
  refine W_seq ?_
  refine W_reg (by kernel_rfl) ?_
  refine wla rfl rfl (q_move (v := v1) rfl rfl) ?_
  refine wls rfl rfl (stp_lit (L := [v1]) (R := (Sc u8)) [(u8 128)] ([(128 : UInt8)] : List UInt8) rfl T22 rfl (by exact ⟨rfl, (cst8 (128 : UInt8) rfl), trivial⟩) rfl (litC u8 (oneC_u8) (us := [(u8 128)]) (l := ([(128 : UInt8)] : List UInt8)) rfl) rfl (litS u8 (us := [(u8 128)]) (l := ([(128 : UInt8)] : List UInt8)) rfl) ?_)
  intro v4 w4 o4 n4 g4 l4
  have x4 := grown_ext g4
  have i4 : By w4 [v1] v4 (([(128 : UInt8)] : List UInt8)) := OwK.slk (Sc.stab _) _ o4 (fun k hk => (Old.cons (Old.nil _) o1.lt) k (n4 k hk)) (fun _ h => h.2)
  replace o1 := o1.extL (Sc.stab _) x4 (Lift.ext x4 _)
  have e5 := e2.trans x4
  obtain ⟨c6, hc6, H⟩ := Option.bind_eq_some_iff.1 H
  refine wls rfl rfl (stp_append (R := (Sc u8)) (v := v1) (u := v4) (Sc.stab _) [] [] rfl T22 rfl rfl o1 i4 (fun _ _ h => h) hc6 oc_u8 ?_)
  intro v6 w6 o6 g6 nx6 l6
  replace i4 := i4.lift l6
  have e7 := e5.grown g6 n3
  have n8 := Nw.nxt e5 n3 nx6
  refine wla rfl rfl (q_assign (v := v6) rfl rfl) ?_
  refine wl_nil ?_
  refine W_th ?_
  refine W_seq ?_
  refine W_reg (by kernel_rfl) ?_
  refine wla rfl rfl (q_move (v := v6) rfl rfl) ?_
  refine wla rfl rfl (q_move (v := v6) rfl rfl) ?_
  refine wla rfl rfl (q_len rfl T22.sl rfl (o6.rd (Sc.stab _))) ?_
  obtain ⟨c9, hc9, H⟩ := Option.bind_eq_some_iff.1 H
  refine wla rfl rfl (q_remI rfl rfl rfl hc9) ?_
  refine wla rfl rfl (q_subI rfl rfl rfl) ?_
  obtain ⟨c10, hc10, H⟩ := Option.bind_eq_some_iff.1 H
  refine wla rfl rfl (q_remI rfl rfl rfl hc10) ?_
  obtain ⟨c12, hc12, H⟩ := Option.bind_eq_some_iff.1 H
  obtain ⟨c13, hc13, H⟩ := Option.bind_eq_some_iff.1 H
  refine wls rfl rfl (stp_appz (R := (Sc u8)) (v := v6) (Sc.stab _) [] [] rfl T22 Try.underlying3 rfl rfl rfl o6 hc12 (fun _ _ => rfl) hc13 ?_)
  intro v12 w12 o12 g12 nx12 l12
  replace i4 := i4.lift l12
  have e14 := e7.grown g12 n8
  have n15 := Nw.nxt e7 n8 nx12
  refine wla rfl rfl (q_assign (v := v12) rfl rfl) ?_
  refine wl_nil ?_
  refine W_th ?_
  refine W_seq ?_
  refine W_reg (by kernel_rfl) ?_
  refine wla rfl rfl (q_move (v := v12) rfl rfl) ?_
  refine wla rfl rfl (q_move (v := (i64 ((r1.length : Int)))) rfl rfl) ?_
  refine wla rfl rfl (q_cvt64I rfl rfl rfl rfl) ?_
  refine wla rfl rfl (q_shl64 3 rfl rfl rfl rfl) ?_
  obtain ⟨r16, hr16, H⟩ := Option.bind_eq_some_iff.1 H
  refine wls rfl rfl (stp_call (vs := [v12, (u64 ((shl64 ((UInt64.ofInt ((r1.length : Int)))) 3)))]) Try.func37 rfl rfl rfl (ar2 rfl rfl) (word_Put_uint64_calls c13 (shl64 ((UInt64.ofInt ((r1.length : Int)))) 3) v12 r16 _ (o12.rd (Sc.stab _)) hr16) ?_)
  rintro _ w16 ⟨v16, rfl, x16, n16_0, o16_0⟩
  refine ⟨_, rfl, ?_⟩
  have o16 : OwK (Sc u8) w16 (v16 :: [v12]) 5 v16 r16 := OwK.scal o16_0 _
  have q17 : Nq v12 v16 := o12.nq n16_0
  replace i4 := i4.lift (Lift.call _ x16 n16_0)
  replace o12 := o12.extL (Sc.stab _) x16 (Lift.call _ x16 n16_0)
  have n19 := Nw.ext e14 n16_0
  have e18 := e14.trans x16
  refine wla rfl rfl (q_assign (v := v16) rfl rfl) ?_
  refine wl_nil ?_
  refine W_th ?_
  refine W_seq ?_
  refine W_reg (by kernel_rfl) ?_
  obtain ⟨r20, hr20, H⟩ := Option.bind_eq_some_iff.1 H
  refine wls rfl rfl (stp_call (vs := []) Try.func68 rfl rfl rfl (ar0 ) (hash_first_calls   r20 _  hr20) ?_)
  rintro _ w20 ⟨rfl, x20⟩
  refine ⟨_, rfl, ?_⟩
  replace i4 := i4.lift (Lift.ext x20 _)
  replace o16 := o16.extL (Sc.stab _) x20 (Lift.ext x20 _)
  replace o12 := o12.extL (Sc.stab _) x20 (Lift.ext x20 _)
  have e21 := e18.trans x20
  refine wls rfl rfl (stp_allocL (z := (ag u32 ((List.replicate 8 (0 : UInt32))))) (cs := (ac u32 ((List.replicate 8 (0 : UInt32))))) [v16, v12] rfl Z98 rfl ?_)
  intro g22 w22 o22 n22 g22r l22
  have x22 := grown_ext g22r
  have q23 : Nq v16 (bp g22) := o16.nq n22
  have q24 : Nq v12 (bp g22) := o12.nq n22
  replace i4 := i4.lift (Lift.call _ x22 n22)
  replace o16 := o16.extL (Sc.stab _) x22 (Lift.call _ x22 n22)
  replace o12 := o12.extL (Sc.stab _) x22 (Lift.call _ x22 n22)
  have n26 := Nw.ext e21 n22
  have e25 := e21.trans x22
  obtain ⟨c28, hc28, H⟩ := Option.bind_eq_some_iff.1 H
  obtain ⟨c29, hc29, H⟩ := Option.bind_eq_some_iff.1 H
  refine wln rfl rfl (stp_storeA [] [v16, v12] rfl A98 rfl rfl (lenA_eq hc28) (lenA_eq hc29) o22 one_u32 ?_)
  intro w27 o27 g27 l27
  replace i4 := i4.lift l27
  replace o16 := o16.other (Sc.stab _) g27 q23 l27
  replace o12 := o12.other (Sc.stab _) g27 q24 l27
  have e30 := e25.grown g27 n26
  refine wl_nil ?_
  refine W_th ?_
  refine W_seq ?_
  refine W_seq ?_
  refine W_reg (by kernel_rfl) ?_
  refine wla rfl rfl (q_move (v := v16) rfl rfl) ?_
  refine wls rfl rfl (stp_call (vs := [v16, i64 64]) Try.func55 rfl rfl rfl (ar2 rfl rfl) (Chunk_bytes_calls v16 (cells_own o16) 64 (by decide) _) ?_)
  rintro _ w31 ⟨g31a, g31b, rfl, nA31, nB31, qAB31, hA31, hB31, x31⟩
  refine ⟨_, rfl, ?_⟩
  have q32 : Nq (bp g22) (bp g31a) := o27.nq nA31
  have q33 : Nq (bp g22) (bp g31b) := o27.nq nB31
  have q34 : Nq v16 (bp g31a) := o16.nq nA31
  have q35 : Nq v16 (bp g31b) := o16.nq nB31
  have q36 : Nq v12 (bp g31a) := o12.nq nA31
  have q37 : Nq v12 (bp g31b) := o12.nq nB31
  replace i4 := i4.lift (Lift.call2 _ x31 nA31 nB31)
  replace o27 := o27.ext x31
  replace o16 := o16.extL (Sc.stab _) x31 (Lift.call2 _ x31 nA31 nB31)
  replace o12 := o12.extL (Sc.stab _) x31 (Lift.call2 _ x31 nA31 nB31)
  have n38 := Nw.ext e30 nA31
  have n39 := Nw.ext e30 nB31
  have e40 := e30.trans x31
  refine wl_nil ?_
  refine W_th ?_
  refine W_block ?_
  obtain ⟨lim41, hl41, H⟩ := Option.bind_eq_some_iff.1 H
  obtain ⟨x41, G41, H⟩ := Option.bind_eq_some_iff.1 H
  refine W_rangeDS (π := fun x : ChEl r16 64 => x.1) (xs := chunksI r16 64) (ea := fun x => subW v16 x.1.1.toNat (x.1.1 + (x.1.2.length : Int)).toNat (x.1.1 + (x.1.2.length : Int)).toNat) (Rd := RdC_bytes r16 64 g31a g31b v16) (gf := 75) (lb := #[(bp g31a), (bp g31b)]) G41 rfl rfl rfl (enters Try.func75 rfl rfl) rfl (chunk_bytes r16 64 (by decide) v16 g31a g31b _ ⟨hA31, hB31, (o16.rd (Sc.stab _))⟩ (lim_lt hl41)) (fun ys h => h) (fun x => x.2.2) (fun _ _ t h => RdC_bytes.tn t h) rfl (fun s41 w => Ext w0 w ∧ OwK (Sc u8) w [v16, (bp g22), (bp g31a), (bp g31b)] 5 v16 r16 ∧ Nw w0 v16 ∧ Blk w g22 98 (ac u32 s41) ∧ Nw w0 (bp g22) ∧ Blk w g31a 22 #[v16] ∧ Nw w0 (bp g31a) ∧ Blk w g31b 3 #[(i64 64)] ∧ Nw w0 (bp g31b) ∧ Nq v16 (bp g22) ∧ Nq v16 (bp g31a) ∧ Nq v16 (bp g31b) ∧ Nq (bp g22) (bp g31a) ∧ Nq (bp g22) (bp g31b) ∧ Nq (bp g31a) (bp g31b)) ?_ ?_ ⟨e40, (o16.weak (Sc.stab _) (fun _ h => ⟨h.2.2.2.1, h.2.2.1, h.1, h.2.1, trivial⟩)), n19, o27, n26, hA31, n38, hB31, n39, q23, q34, q35, q32, q33, qAB31⟩ (fun x f => upd (f) 6 (subW v16 x.1.1.toNat (x.1.1 + (x.1.2.length : Int)).toNat (x.1.1 + (x.1.2.length : Int)).toNat)) ?_ ?_ ?_
  · rintro s41 W W' t ⟨hE42, o0_42, n0_42, o1_42, n1_42, o2_42, n2_42, o3_42, n3_42, q0_1_42, q0_2_42, q0_3_42, q1_2_42, q1_3_42, q2_3_42⟩
    exact ⟨(hE42.tn t e40.size), (o0_42.tn (Sc.stab _) t), n0_42, (o1_42.tn t), n1_42, (o2_42.tn t), n2_42, (o3_42.tn t), n3_42, q0_1_42, q0_2_42, q0_3_42, q1_2_42, q1_3_42, q2_3_42⟩
  · rintro s41 W ⟨hE43, o0_43, n0_43, o1_43, n1_43, o2_43, n2_43, o3_43, n3_43, q0_1_43, q0_2_43, q0_3_43, q1_2_43, q1_3_43, q2_3_43⟩
    have t := Ext.drew W
    exact ⟨(hE43.trans t), (o0_43.extL (Sc.stab _) t (Lift.ext t _)), n0_43, (o1_43.ext t), n1_43, (o2_43.ext t), n2_43, (o3_43.ext t), n3_43, q0_1_43, q0_2_43, q0_3_43, q1_2_43, q1_3_43, q2_3_43⟩
  · intro l x W1 K hK
    refine W_reg (by kernel_rfl) ?_
    refine wla rfl rfl (q_assign (v := subW v16 x.1.1.toNat (x.1.1 + (x.1.2.length : Int)).toNat (x.1.1 + (x.1.2.length : Int)).toNat) rfl rfl) ?_
    refine wl_nil ?_
    exact hK
  · rintro l ⟨y41, hy41⟩ s41 sp41 w44 ⟨hE44, o0_44, n0_44, o1_44, n1_44, o2_44, n2_44, o3_44, n3_44, q0_1_44, q0_2_44, q0_3_44, q1_2_44, q1_3_44, q2_3_44⟩ H41
    have kf41 := KeepsFrom.refl w31.heap.size w44
    refine W_block ?_
    refine W_reg (by kernel_rfl) ?_
    refine wla rfl rfl (q_move (v := (subW v16 y41.1.toNat (y41.1 + (y41.2.length : Int)).toNat (y41.1 + (y41.2.length : Int)).toNat)) rfl rfl) ?_
    obtain ⟨r45, hr45, H41⟩ := Option.bind_eq_some_iff.1 H41
    refine wls rfl rfl (stp_call (vs := [(bp g22), (subW v16 y41.1.toNat (y41.1 + (y41.2.length : Int)).toNat (y41.1 + (y41.2.length : Int)).toNat)]) Try.func69 rfl rfl rfl (ar2 rfl rfl) (hash_block_calls s41 y41.2 g22 (subW v16 y41.1.toNat (y41.1 + (y41.2.length : Int)).toNat (y41.1 + (y41.2.length : Int)).toNat) r45 _ o1_44 (SlK.cut3 (L := [(bp g22)]) (OwK.slk (Sc.stab _) [(bp g22)] o0_44 (fun k hk => ⟨q0_1_44 k hk, trivial⟩) (fun _ h => ⟨h.2.1, trivial⟩)) hy41.1) hr45) ?_)
    rintro _ w45 ⟨rfl, x45, hb45_0⟩
    refine ⟨_, rfl, ?_⟩
    have lx45 := Lift.ownX [v16] [(bp g31a), (bp g31b)] x45
    have k46 := kf41.ownX x45 o1_44.cl
    replace o0_44 := o0_44.otherX (Sc.stab _) x45 q0_1_44 lx45
    replace o2_44 := o2_44.otherX x45 q1_2_44.symm
    replace o3_44 := o3_44.otherX x45 q1_3_44.symm
    have e47 := hE44.grownX x45 n1_44
    refine wl_nil ?_
    refine bk_n ?_
    obtain rfl := Option.some.inj H41
    exact ⟨k46, ⟨o2_44, o3_44, (o0_44.rd (Sc.stab _))⟩, e47, o0_44, n0_44, hb45_0, n1_44, o2_44, n2_44, o3_44, n3_44, q0_1_44, q0_2_44, q0_3_44, q1_2_44, q1_3_44, q2_3_44⟩
  · intro D41 w48 hD41 ⟨hE48, o0_48, n0_48, o1_48, n1_48, o2_48, n2_48, o3_48, n3_48, q0_1_48, q0_2_48, q0_3_48, q1_2_48, q1_3_48, q2_3_48⟩ hK41
    have hd41 := Nat.le_trans e40.size hD41
    have kd41 := KeepsFrom.refl 0 w48
    refine bk_n ?_
    refine W_th ?_
    refine W_seq ?_
    refine W_reg (by kernel_rfl) ?_
    refine wla rfl rfl (q_assign (v := (.slice none 0 0)) rfl rfl) ?_
    refine wl_nil ?_
    refine W_th ?_
    refine W_seq ?_
    refine W_seq ?_
    refine W_reg (by kernel_rfl) ?_
    obtain ⟨c49, hc49, H⟩ := Option.bind_eq_some_iff.1 H
    refine wlq rfl rfl (q_loadA (m := 0) rfl A98 rfl o1_48 (seg_self _ _) (lenA_eq hc49)) ?_
    refine wla rfl rfl (q_move (v := (i64 0)) rfl rfl) ?_
    refine wl_nil ?_
    refine W_th ?_
    obtain ⟨x50, G50, H⟩ := Option.bind_eq_some_iff.1 H
    refine W_mid (fun f w => ∃ v7_63 : Value, f 7 = v7_63 ∧ f 44 = (bp D41) ∧ Ext w0 w ∧ KeepsFrom 0 w48 w ∧ OwK (Sc u8) w [v7_63] 5 v7_63 x50 ∧ Nw w0 v7_63) ?_ ?_
    · refine W_block ?_
      refine W_loop (fun s50 f w => ∃ v7_60 : Value, f 7 = v7_60 ∧ f 35 = (ag u32 x41) ∧ f 36 = (i64 s50.2) ∧ f 44 = (bp D41) ∧ Ext w0 w ∧ KeepsFrom 0 w48 w ∧ OwK (Sc u8) w [v7_60] 5 v7_60 s50.1 ∧ Nw w0 v7_60) G50 ?_ ?_
      · exact ⟨(.slice none 0 0), rfl, rfl, rfl, rfl, hE48, kd41, (OwK.nil _ _ _ _), (Nw.nil _)⟩
      · rintro s50 _ _ w51 ⟨v7_51, s7_51, s35_51, s36_51, s44_51, hE51, k0_51, o0_51, n0_51⟩ H50 hr50
        refine W_seq ?_
        refine W_reg (by kernel_rfl) ?_
        refine wla rfl rfl (q_ltI rfl s36_51 rfl) ?_
        refine wl_nil ?_
        refine W_th ?_
        refine W_seq ?_
        refine W_cond _ rfl rfl (fun hb52 => ?_) (fun hb52 => ?_)
        · replace H50 := (if_pos (of_decide_eq_true hb52)).symm.trans H50
          refine W_skip ?_
          refine W_th ?_
          refine W_seq ?_
          refine W_block ?_
          refine W_seq ?_
          refine W_reg (by kernel_rfl) ?_
          obtain ⟨c53, hc53, H50⟩ := Option.bind_eq_some_iff.1 H50
          obtain ⟨c54, hc54, H50⟩ := Option.bind_eq_some_iff.1 H50
          refine wla rfl rfl (q_index rfl A98 (by exact s35_51) (by exact s36_51) (lenA_eq hc53) hc54) ?_
          refine wla rfl rfl (q_assign (v := (u32 c54)) rfl rfl) ?_
          refine wl_nil ?_
          refine W_th ?_
          refine W_reg (by kernel_rfl) ?_
          refine wla rfl rfl (q_move (v := v7_51) rfl s7_51) ?_
          refine wla rfl rfl (q_move (v := (u32 c54)) rfl rfl) ?_
          obtain ⟨r55, hr55, H50⟩ := Option.bind_eq_some_iff.1 H50
          refine wls rfl rfl (stp_call (vs := [v7_51, (u32 c54)]) Try.func70 rfl rfl rfl (ar2 rfl rfl) (word_Put_uint32_calls s50.1 c54 v7_51 r55 _ (o0_51.rd (Sc.stab _)) hr55) ?_)
          rintro _ w55 ⟨v55, rfl, x55, n55_0, o55_0⟩
          refine ⟨_, rfl, ?_⟩
          have o55 : OwK (Sc u8) w55 (v55 :: [v7_51]) 5 v55 r55 := OwK.scal o55_0 _
          have q56 : Nq v7_51 v55 := o0_51.nq n55_0
          replace o0_51 := o0_51.extL (Sc.stab _) x55 (Lift.call _ x55 n55_0)
          have k57 := k0_51.ext x55
          have n59 := Nw.ext hE51 n55_0
          have e58 := hE51.trans x55
          refine wla rfl rfl (q_assign (v := v55) rfl rfl) ?_
          refine wl_nil ?_
          refine bk_n ?_
          refine W_th ?_
          refine W_reg (by kernel_rfl) ?_
          refine wla rfl rfl (q_addI rfl s36_51 rfl) ?_
          refine wla rfl rfl (q_move (v := (i64 ((wI (s50.2 + 1))))) rfl rfl) ?_
          refine wl_nil ?_
          obtain rfl := Option.some.inj H50
          exact ⟨_, rfl, v55, rfl, s35_51, rfl, s44_51, e58, k57, (o55.weak (Sc.stab _) (fun _ h => ⟨h.1, trivial⟩)), n59⟩
        · replace H50 := (if_neg (of_decide_eq_false hb52)).symm.trans H50
          refine W_exit ?_
          refine th_x ?_
          obtain rfl := Option.some.inj H50
          obtain rfl := hr50 _ rfl
          refine th_x ?_
          refine bk_x ?_
          exact ⟨v7_51, s7_51, s44_51, hE51, k0_51, o0_51, n0_51⟩
    · rintro _ w61 ⟨v7_61, s7_61, s44_61, hE61, k0_61, o0_61, n0_61⟩
      refine W_th ?_
      refine W_seq ?_
      refine W_reg (by kernel_rfl) ?_
      refine wla rfl rfl (q_move (v := v7_61) rfl s7_61) ?_
      refine wla rfl rfl (q_assign (v := v7_61) rfl rfl) ?_
      refine wl_nil ?_
      refine W_th ?_
      refine W_ret ?_
      obtain rfl := Option.some.inj H
      have hk62 := k0_61.same D41 _ (Nat.zero_le _) hK41 rfl
      have t62 := Tn.put hk62 hd41 (.deferred none)
      refine rtm1 v7_61 rfl rfl rfl s44_61 hk62 ?_
      exact ⟨v7_61, rfl, (hE61.tn t62 (Nat.le_refl _)), n0_61, ((o0_61.tn (Sc.stab _) t62).weak (Sc.stab _) (fun _ _ => trivial))⟩

end Gk

/- Words and the sum of bytes (chapters 1 and 7), in plain Lean. No condition but lengths. -/


set_option linter.unusedSimpArgs false
set_option linter.unusedVariables false
namespace Gk
open Gf

theorem Bits32_eq : word_Bits_uint32 = some 32 := by
  unfold word_Bits_uint32
  rw [iterC_some.2 ⟨33, by kernel_rfl⟩]; rfl
theorem Bits64_eq : word_Bits_uint64 = some 64 := by
  unfold word_Bits_uint64
  rw [iterC_some.2 ⟨65, by kernel_rfl⟩]; rfl
/-- A word, turned down. -/
def rot (x : UInt32) (k : Nat) : UInt32 := shr32 x k ||| shl32 x (32 - k)
theorem Turn_neg (x : UInt32) (k : Nat) (h0 : 0 < k) (h1 : k < 32) : word_Turn_uint32 x (-(k : Int)) = some (rot x k) := by
  unfold word_Turn_uint32
  rw [Bits32_eq, Option.bind_some]
  have e1 : remI (-(k : Int)) 32 = some (-(k : Int)) := by
    unfold remI; rw [if_neg (by decide), Int.neg_tmod, Int.tmod_eq_emod_of_nonneg (by omega), Int.emod_eq_of_lt (by omega) (by omega)]
  rw [e1, Option.bind_some, wI_of (by omega) (by omega)]
  rw [show -(k : Int) + 32 = ((32 - k : Nat) : Int) by omega, show (32 : Int) = ((32 : Nat) : Int) by rfl, remI_nat _ _ (by omega), Nat.mod_eq_of_lt (by omega), Option.bind_some, if_neg (by omega), cnt_nat, Option.bind_some,
    wI_of (by omega) (by omega), show ((32 : Nat) : Int) - ((32 - k : Nat) : Int) = (k : Int) by omega, cnt_nat, Option.bind_some, UInt32.or_comm]; rfl
theorem turned_eq (x : UInt32) (a b c : Nat) (ha : 0 < a ∧ a < 32) (hb : 0 < b ∧ b < 32) (hc : 0 < c ∧ c < 32) : hash_turned x a b c = some ((rot x a ^^^ rot x b) ^^^ rot x c) := by
  unfold hash_turned
  rw [wI_of (by omega) (by omega), wI_of (by omega) (by omega), wI_of (by omega) (by omega), Int.zero_sub, Int.zero_sub, Int.zero_sub, Turn_neg _ _ ha.1 ha.2, Turn_neg _ _ hb.1 hb.2, Turn_neg _ _ hc.1 hc.2]; rfl
/-- Four bytes as a word. -/
def be4 (a b c d : UInt8) : UInt32 := ((shl32 a.toUInt32 24 ||| shl32 b.toUInt32 16) ||| shl32 c.toUInt32 8) ||| d.toUInt32
def be (p : List UInt8) (i : Nat) : UInt32 := be4 (co p i) (co p (i + 1)) (co p (i + 2)) (co p (i + 3))
theorem or_add (a b k : Nat) (h : b < 2 ^ k) : (a * 2 ^ k) ||| b = a * 2 ^ k + b := by
  rw [← Nat.shiftLeft_eq, Nat.shiftLeft_add_eq_or_of_lt h]
theorem be4_nat (a b c d : UInt8) : (be4 a b c d).toNat = ((a.toNat * 256 + b.toNat) * 256 + c.toNat) * 256 + d.toNat := by
  have ha := a.toNat_lt; have hb := b.toNat_lt; have hc := c.toNat_lt; have hd := d.toNat_lt
  simp only [be4, shl32, UInt32.toNat_or, UInt32.toNat_ofNat', UInt8.toNat_toUInt32]
  rw [Nat.mod_eq_of_lt (by simp; omega), Nat.mod_eq_of_lt (by simp; omega), Nat.mod_eq_of_lt (by simp; omega)]
  simp only [show min 24 32 = 24 by rfl, show min 16 32 = 16 by rfl, show min 8 32 = 8 by rfl]
  rw [or_add a.toNat (b.toNat * 2 ^ 16) 24 (by omega), show a.toNat * 2 ^ 24 + b.toNat * 2 ^ 16 = (a.toNat * 256 + b.toNat) * 2 ^ 16 by omega, or_add _ (c.toNat * 2 ^ 8) 16 (by omega),
    show (a.toNat * 256 + b.toNat) * 2 ^ 16 + c.toNat * 2 ^ 8 = ((a.toNat * 256 + b.toNat) * 256 + c.toNat) * 2 ^ 8 by omega, or_add _ d.toNat 8 (by omega)]
theorem or64 (x : UInt64) (y : UInt8) (h : x.toNat < 2 ^ 48) : (shl64 x 8 ||| y.toUInt64).toNat = x.toNat * 256 + y.toNat := by
  have hy := y.toNat_lt
  simp only [shl64, UInt64.toNat_or, UInt64.toNat_ofNat', UInt8.toNat_toUInt64, show min 8 64 = 8 by rfl]
  rw [Nat.mod_eq_of_lt (by omega), or_add _ _ 8 (by omega)]
theorem Get_eq (b : List UInt8) (h : 4 ≤ b.length) (hm : b.length ≤ most) : word_Get_uint32 b = some (be b 0, true) := by
  obtain ⟨b0, b1, b2, b3, t, rfl⟩ : ∃ b0 b1 b2 b3 t, b = b0 :: b1 :: b2 :: b3 :: t := by
    match b, h with
    | b0 :: b1 :: b2 :: b3 :: t, _ => exact ⟨b0, b1, b2, b3, t, rfl⟩
  unfold word_Get_uint32
  rw [Bits32_eq, Option.bind_some, show divI 32 8 = some 4 by decide, Option.bind_some, if_neg (by simp only [List.length_cons] at h ⊢; omega)]
  have e : subL (b0 :: b1 :: b2 :: b3 :: t) 0 4 = some [b0, b1, b2, b3] := by
    have := subL_nat (b0 :: b1 :: b2 :: b3 :: t) 0 4 (by omega) (by simp)
    simpa using this
  rw [e, Option.bind_some]
  let z : UInt64 := ((shl64 (shl64 (shl64 (shl64 0 8 ||| b0.toUInt64) 8 ||| b1.toUInt64) 8 ||| b2.toUInt64) 8) ||| b3.toUInt64)
  rw [iterC_some.2 ⟨5, show _ = some z by kernel_rfl⟩, Option.bind_some]
  have ha := b0.toNat_lt; have hb := b1.toNat_lt; have hc := b2.toNat_lt; have hd := b3.toNat_lt
  have h1 := or64 0 b0 (by decide)
  have h2 := or64 (shl64 0 8 ||| b0.toUInt64) b1 (by rw [h1]; simp; omega)
  have h3 := or64 (shl64 (shl64 0 8 ||| b0.toUInt64) 8 ||| b1.toUInt64) b2 (by rw [h2, h1]; simp; omega)
  have h4 := or64 (shl64 (shl64 (shl64 0 8 ||| b0.toUInt64) 8 ||| b1.toUInt64) 8 ||| b2.toUInt64) b3 (by rw [h3, h2, h1]; simp; omega)
  have : z.toUInt32 = be (b0 :: b1 :: b2 :: b3 :: t) 0 := by
    apply UInt32.toNat_inj.1
    show z.toUInt32.toNat = (be4 b0 b1 b2 b3).toNat
    rw [be4_nat, UInt64.toNat_toUInt32, show z.toNat = _ from h4, h3, h2, h1]
    simp only [UInt64.toNat_zero, Nat.zero_mul, Nat.zero_add]
    omega
  rw [this]

/-! ### Numbers put behind bytes -/
theorem put_loop {X : Type} {body : List UInt8 × Int → Option ((List UInt8 × Int) ⊕ List UInt8)} (F : Nat → UInt8) (n : Nat) (b : List UInt8) (hb : b.length + n ≤ most)
    (h1 : ∀ (l : List UInt8) (j : Nat), j < n → l.length + 1 ≤ most → body (l, 8 * (j : Int)) = some (.inl (l ++ [F j], 8 * (j : Int) - 8))) (h2 : ∀ l, body (l, -8) = some (.inr l)) :
    iterC body (b, 8 * (n : Int) - 8) = some (b ++ ((List.range n).map F).reverse) := by
  induction n generalizing b with
  | zero => rw [iterC_step]; simp [h2]
  | succ n ih =>
    rw [iterC_step, show 8 * ((n + 1 : Nat) : Int) - 8 = 8 * (n : Int) by omega, h1 b n (by omega) (by omega), Option.bind_some]
    simp only []
    rw [ih (b ++ [F n]) (by simp only [List.length_append, List.length_singleton]; omega) (fun l j hj hl => h1 l j (by omega) hl)]
    simp [List.range_succ]
def by4 (x : UInt32) : List UInt8 := [(shr32 x 24).toUInt8, (shr32 x 16).toUInt8, (shr32 x 8).toUInt8, x.toUInt8]
def by8 (x : UInt64) : List UInt8 := ((List.range 8).map fun j => (shr64 x (8 * j)).toUInt8).reverse
theorem by8_len (x : UInt64) : (by8 x).length = 8 := by simp [by8]
theorem Clone_eq (b : List UInt8) (h : b.length ≤ most) : slices_Clone_sbytebyte b = some b := by
  unfold slices_Clone_sbytebyte; exact appL_nil b h
theorem appL_one (l : List UInt8) (x : UInt8) (h : l.length + 1 ≤ most) : appL l [x] = some (l ++ [x]) := by
  unfold appL; rw [if_pos (by simpa using h)]
theorem shr32_zero (x : UInt32) : shr32 x 0 = x := by simp [shr32]
theorem Put32_eq (b : List UInt8) (x : UInt32) (h : b.length + 4 ≤ most) : word_Put_uint32 b x = some (b ++ by4 x) := by
  unfold word_Put_uint32
  rw [Clone_eq b (by omega), Option.bind_some, Bits32_eq, Option.bind_some, show wI (32 - 8) = 8 * ((4 : Nat) : Int) - 8 by decide]
  rw [put_loop (X := UInt8) (fun j => (shr32 x (8 * j)).toUInt8) 4 b h]
  · simp [List.range, List.range.loop, by4, shr32_zero]
  · intro l j hj hl
    rw [if_pos (by simp only []; omega)]
    simp only []
    rw [show 8 * (j : Int) = ((8 * j : Nat) : Int) by omega, cnt_nat, Option.bind_some, appL_one l _ hl, Option.bind_some, wI_of (by omega) (by omega)]
  · intro l; rw [if_neg (by simp only []; omega)]
theorem Put64_eq (b : List UInt8) (x : UInt64) (h : b.length + 8 ≤ most) : word_Put_uint64 b x = some (b ++ by8 x) := by
  unfold word_Put_uint64
  rw [Clone_eq b (by omega), Option.bind_some, Bits64_eq, Option.bind_some, show wI (64 - 8) = 8 * ((8 : Nat) : Int) - 8 by decide]
  rw [put_loop (X := UInt8) (fun j => (shr64 x (8 * j)).toUInt8) 8 b h]
  · rfl
  · intro l j hj hl
    rw [if_pos (by simp only []; omega)]
    simp only []
    rw [show 8 * (j : Int) = ((8 * j : Nat) : Int) by omega, cnt_nat, Option.bind_some, appL_one l _ hl, Option.bind_some, wI_of (by omega) (by omega)]
  · intro l; rw [if_neg (by simp only []; omega)]

/-! ### A block -/
def kL : List UInt32 := [0x428a2f98, 0x71374491, 0xb5c0fbcf, 0xe9b5dba5, 0x3956c25b, 0x59f111f1, 0x923f82a4, 0xab1c5ed5,
  0xd807aa98, 0x12835b01, 0x243185be, 0x550c7dc3, 0x72be5d74, 0x80deb1fe, 0x9bdc06a7, 0xc19bf174,
  0xe49b69c1, 0xefbe4786, 0x0fc19dc6, 0x240ca1cc, 0x2de92c6f, 0x4a7484aa, 0x5cb0a9dc, 0x76f988da,
  0x983e5152, 0xa831c66d, 0xb00327c8, 0xbf597fc7, 0xc6e00bf3, 0xd5a79147, 0x06ca6351, 0x14292967,
  0x27b70a85, 0x2e1b2138, 0x4d2c6dfc, 0x53380d13, 0x650a7354, 0x766a0abb, 0x81c2c92e, 0x92722c85,
  0xa2bfe8a1, 0xa81a664b, 0xc24b8b70, 0xc76c51a3, 0xd192e819, 0xd6990624, 0xf40e3585, 0x106aa070,
  0x19a4c116, 0x1e376c08, 0x2748774c, 0x34b0bcb5, 0x391c0cb3, 0x4ed8aa4a, 0x5b9cca4f, 0x682e6ff3,
  0x748f82ee, 0x78a5636f, 0x84c87814, 0x8cc70208, 0x90befffa, 0xa4506ceb, 0xbef9a3f7, 0xc67178f2]
def hL : List UInt32 := [0x6a09e667, 0xbb67ae85, 0x3c6ef372, 0xa54ff53a, 0x510e527f, 0x9b05688c, 0x1f83d9ab, 0x5be0cd19]
theorem constants_eq : hash_constants = some kL := by unfold hash_constants; kernel_rfl
theorem first_eq : hash_first = some hL := by unfold hash_first; kernel_rfl
def w0 (l : List UInt32) (i : Nat) : UInt32 := l.getD i 0
theorem idx_w0 {l : List UInt32} {i : Nat} (h : i < l.length) : idx l (i : Int) = some (w0 l i) := by
  rw [idx_nat, w0, List.getD_eq_getElem?_getD, List.getElem?_eq_getElem h]; rfl
theorem w0_set {l : List UInt32} {j : Nat} (h : j < l.length) (x : UInt32) (i : Nat) : w0 (l.set j x) i = if i = j then x else w0 l i := by
  simp only [w0, List.getD_eq_getElem?_getD, List.getElem?_set]
  by_cases e : i = j
  · subst e; simp [h]
  · rw [if_neg (fun c => e c.symm), if_neg e]
theorem lenA_of {α : Type} {n : Nat} {l : List α} (h : l.length = n) : lenA n l = some () := by unfold lenA; rw [if_pos h]
/-- The next word of a block's plan. -/
def nxt (p : List UInt8) (w : List UInt32) : UInt32 :=
  if w.length < 16 then be p (4 * w.length) else
    ((w0 w (w.length - 16) + w0 w (w.length - 7)) + ((rot (w0 w (w.length - 15)) 7 ^^^ rot (w0 w (w.length - 15)) 18) ^^^ shr32 (w0 w (w.length - 15)) 3)) + ((rot (w0 w (w.length - 2)) 17 ^^^ rot (w0 w (w.length - 2)) 19) ^^^ shr32 (w0 w (w.length - 2)) 10)
def sched (p : List UInt8) : Nat → List UInt32
  | 0 => []
  | n + 1 => sched p n ++ [nxt p (sched p n)]
theorem sched_len (p : List UInt8) : ∀ n, (sched p n).length = n
  | 0 => rfl
  | n + 1 => by simp [sched, sched_len p n]
/-- The words of which some are told. -/
def wTo (p : List UInt8) (i : Nat) : List UInt32 := sched p i ++ List.replicate (64 - i) 0
theorem wTo_len (p : List UInt8) (i : Nat) (h : i ≤ 64) : (wTo p i).length = 64 := by simp [wTo, sched_len]; omega
theorem wTo_get (p : List UInt8) (i j : Nat) (h : j < i) : w0 (wTo p i) j = w0 (sched p i) j := by
  simp only [w0, wTo, List.getD_eq_getElem?_getD]; rw [List.getElem?_append_left (by rw [sched_len]; exact h)]
theorem wTo_set (p : List UInt8) (i : Nat) (h : i < 64) : (wTo p i).set i (nxt p (sched p i)) = wTo p (i + 1) := by
  unfold wTo
  obtain ⟨m, hm⟩ : ∃ m, 64 - i = m + 1 := ⟨63 - i, by omega⟩
  rw [List.set_append_right _ _ (by rw [sched_len]; exact Nat.le_refl _), sched_len, Nat.sub_self, hm, List.replicate_succ, List.set_cons_zero, show 64 - (i + 1) = m by omega]
  simp [sched]
theorem drop_co (p : List UInt8) (i : Nat) : be (p.drop i) 0 = be p i := by
  simp only [be, co_drop]; rfl
theorem plan_eq (p : List UInt8) (h : p.length = 64) : hash_plan p = some (sched p 64) := by
  unfold hash_plan
  refine bind_of (iterC_count (fun i => (wTo p i, (i : Int))) 64 (wTo p 64) rfl ?_ ?_) ?_
  rotate_left 2
  · rw [lenA_of (wTo_len p 64 (by omega)), Option.bind_some, lenA_of (by simp), Option.bind_some]
    simp [wTo, lenA_of (sched_len p 64)]
  · intro i hi
    have hl := wTo_len p i (by omega)
    simp only []
    rw [if_pos (by omega)]
    by_cases h16 : i < 16
    · rw [if_pos (by omega), wI_of (by omega) (by omega), show 4 * (i : Int) = ((4 * i : Nat) : Int) by omega, subL_nat _ _ _ (by omega) (by omega), Option.bind_some, List.take_length,
        Get_eq _ (by simp; omega) (by have := h257; simp; omega), Option.bind_some, lenA_of hl, Option.bind_some, idx_w0 (by omega), Option.bind_some, drop_co, wI_succ _ (by omega), Int.toNat_natCast]
      have : be p (4 * i) = nxt p (sched p i) := by unfold nxt; rw [sched_len, if_pos h16]
      rw [this, wTo_set p i hi]
    · rw [if_neg (by omega), lenA_of hl, Option.bind_some, wI_of (by omega) (by omega), wI_of (by omega) (by omega), wI_of (by omega) (by omega), wI_of (by omega) (by omega),
        show (i : Int) - 15 = ((i - 15 : Nat) : Int) by omega, show (i : Int) - 2 = ((i - 2 : Nat) : Int) by omega, show (i : Int) - 16 = ((i - 16 : Nat) : Int) by omega, show (i : Int) - 7 = ((i - 7 : Nat) : Int) by omega,
        idx_w0 (by omega), Option.bind_some, idx_w0 (by omega), Option.bind_some, Option.bind_some, idx_w0 (by omega), Option.bind_some, idx_w0 (by omega), Option.bind_some,
        show (-7 : Int) = -((7 : Nat) : Int) by rfl, Turn_neg _ 7 (by omega) (by omega), Option.bind_some, show (-18 : Int) = -((18 : Nat) : Int) by rfl, Turn_neg _ 18 (by omega) (by omega), Option.bind_some,
        show (-17 : Int) = -((17 : Nat) : Int) by rfl, Turn_neg _ 17 (by omega) (by omega), Option.bind_some, show (-19 : Int) = -((19 : Nat) : Int) by rfl, Turn_neg _ 19 (by omega) (by omega), Option.bind_some,
        idx_w0 (by omega), Option.bind_some, wI_succ _ (by omega), Int.toNat_natCast, wTo_get _ _ _ (by omega), wTo_get _ _ _ (by omega), wTo_get _ _ _ (by omega), wTo_get _ _ _ (by omega)]
      rw [← wTo_set p i hi]
      unfold nxt; rw [sched_len, if_neg h16]
  · simp only []; rw [if_neg (by omega)]
/-- A round. -/
def rnd (k w : UInt32) (t : List UInt32) : List UInt32 :=
  let a := (((w0 t 7 + ((rot (w0 t 4) 6 ^^^ rot (w0 t 4) 11) ^^^ rot (w0 t 4) 25)) + ((w0 t 4 &&& w0 t 5) ^^^ (((4294967295 : UInt32) ^^^ w0 t 4) &&& w0 t 6))) + k) + w
  [a + (((rot (w0 t 0) 2 ^^^ rot (w0 t 0) 13) ^^^ rot (w0 t 0) 22) + (((w0 t 0 &&& w0 t 1) ^^^ (w0 t 0 &&& w0 t 2)) ^^^ (w0 t 1 &&& w0 t 2))), w0 t 0, w0 t 1, w0 t 2, w0 t 3 + a, w0 t 4, w0 t 5, w0 t 6]
def rnds (w : List UInt32) (s : List UInt32) : Nat → List UInt32
  | 0 => s
  | n + 1 => rnd (w0 kL n) (w0 w n) (rnds w s n)
theorem rnds_len (w s : List UInt32) (h : s.length = 8) : ∀ n, (rnds w s n).length = 8
  | 0 => h
  | n + 1 => rfl
def addW (s t : List UInt32) : List UInt32 := [w0 s 0 + w0 t 0, w0 s 1 + w0 t 1, w0 s 2 + w0 t 2, w0 s 3 + w0 t 3, w0 s 4 + w0 t 4, w0 s 5 + w0 t 5, w0 s 6 + w0 t 6, w0 s 7 + w0 t 7]
def blk (s : List UInt32) (p : List UInt8) : List UInt32 := addW s (rnds (sched p 64) s 64)
theorem blk_len (s : List UInt32) (p : List UInt8) : (blk s p).length = 8 := rfl
theorem eight {s : List UInt32} (h : s.length = 8) : ∃ a b c d e f g i, s = [a, b, c, d, e, f, g, i] := by
  match s, h with
  | [a, b, c, d, e, f, g, i], _ => exact ⟨a, b, c, d, e, f, g, i, rfl⟩
theorem idx_at {l : List UInt32} (i : Nat) (h : i < l.length) (k : Int) (e : k = (i : Int)) : idx l k = some (w0 l i) := by rw [e, idx_w0 h]
theorem add_loop (s t : List UInt32) (hs : s.length = 8) (ht : t.length = 8) : iterC (fun s82 : List UInt32 × Int =>
    (if s82.2 < 8 then
    ((lenA 8 s82.1).bind fun c87 =>
    ((idx s82.1 s82.2).bind fun c88 =>
    ((lenA 8 t).bind fun c89 =>
    ((idx t s82.2).bind fun c90 =>
    some (.inl ((s82.1.set (s82.2 : Int).toNat ((c88 + c90))), (wI (s82.2 + 1))))))))
    else
    some (.inr s82.1))) (s, 0) = some (addW s t) := by
  obtain ⟨a, b, c, d, e, f, g, i, rfl⟩ := eight hs
  obtain ⟨a', b', c', d', e', f', g', i', rfl⟩ := eight ht
  exact iterC_some.2 ⟨9, by kernel_rfl⟩
theorem block_eq (s : List UInt32) (p : List UInt8) (hs : s.length = 8) (hp : p.length = 64) : hash_block s p = some (blk s p) := by
  unfold hash_block
  simp only [lenA_of hs, plan_eq p hp, constants_eq, lenA_of (sched_len p 64), lenA_of (show kL.length = 64 from rfl), lenA_of (List.length_replicate), Option.bind_some]
  refine bind_of (iterC_count (fun i => (rnds (sched p 64) s i, (i : Int))) 64 (rnds (sched p 64) s 64) rfl ?_ ?_) ?_
  rotate_left 2
  · rw [add_loop s _ hs (rnds_len _ _ hs _)]; rfl
  · intro i hi
    have hl := rnds_len (sched p 64) s hs i
    simp only []
    rw [if_pos (by omega)]
    have e0 := idx_at (l := rnds (sched p 64) s i) 0 (by omega) 0 rfl
    have e1 := idx_at (l := rnds (sched p 64) s i) 1 (by omega) 1 rfl
    have e2 := idx_at (l := rnds (sched p 64) s i) 2 (by omega) 2 rfl
    have e3 := idx_at (l := rnds (sched p 64) s i) 3 (by omega) 3 rfl
    have e4 := idx_at (l := rnds (sched p 64) s i) 4 (by omega) 4 rfl
    have e5 := idx_at (l := rnds (sched p 64) s i) 5 (by omega) 5 rfl
    have e6 := idx_at (l := rnds (sched p 64) s i) 6 (by omega) 6 rfl
    have e7 := idx_at (l := rnds (sched p 64) s i) 7 (by omega) 7 rfl
    simp only [lenA_of hl, e0, e1, e2, e3, e4, e5, e6, e7, Option.bind_some, lenA_of (sched_len p 64), lenA_of (show kL.length = 64 from rfl), idx_w0 (show i < (sched p 64).length by rw [sched_len]; exact hi), idx_w0 (show i < kL.length from hi),
      show ∀ x, hash_turned x 6 11 25 = some ((rot x 6 ^^^ rot x 11) ^^^ rot x 25) from fun x => turned_eq x 6 11 25 (by decide) (by decide) (by decide),
      show ∀ x, hash_turned x 2 13 22 = some ((rot x 2 ^^^ rot x 13) ^^^ rot x 22) from fun x => turned_eq x 2 13 22 (by decide) (by decide) (by decide), wI_succ i (by omega),
      lenA_of (List.length_cons.trans (congrArg (· + 1) (show [_, _, _, _, _, _, _].length = 7 from rfl)))]
    rfl
  · simp only []; rw [if_neg (by omega)]
end Gk

/- The sum of bytes, whole, in plain Lean. No condition but lengths. -/

set_option linter.unusedSimpArgs false
set_option linter.unusedVariables false
namespace Gk
open Gf

def padN (n : Nat) : Nat := (120 - (n + 1) % 64) % 64
def padL (b : List UInt8) : List UInt8 := (b ++ [128]) ++ List.replicate (padN b.length) 0
def padded (b : List UInt8) : List UInt8 := padL b ++ by8 (UInt64.ofInt (b.length : Int) * 8)
def nbl (n : Nat) : Nat := (n + 9 + padN n) / 64
theorem nbl_eq (n : Nat) : n + 9 + padN n = 64 * nbl n := by unfold nbl padN; omega
theorem padL_len (b : List UInt8) : (padL b).length = b.length + 1 + padN b.length := by simp only [padL, List.length_append, List.length_singleton, List.length_replicate]
theorem padded_len (b : List UInt8) : (padded b).length = 64 * nbl b.length := by
  rw [← nbl_eq]; simp only [padded, List.length_append, padL_len, by8_len]; omega
def pc (m : List UInt8) (j : Nat) : List UInt8 := (m.drop (64 * j)).take 64
def shaS (m : List UInt8) : Nat → List UInt32
  | 0 => hL
  | j + 1 => blk (shaS m j) (pc m j)
theorem shaS_len (m : List UInt8) : ∀ j, (shaS m j).length = 8
  | 0 => rfl
  | j + 1 => rfl
def sha (b : List UInt8) : List UInt8 := (shaS (padded b) (nbl b.length)).flatMap by4
theorem flat4_len (x : List UInt32) : (x.flatMap by4).length = 4 * x.length := by
  induction x with
  | nil => rfl
  | cons a x ih => rw [List.flatMap_cons, List.length_append, ih, List.length_cons]; simp only [by4, List.length_cons, List.length_nil]; omega
theorem sha_len (b : List UInt8) : (sha b).length = 32 := by rw [sha, flat4_len, shaS_len]
theorem w0_take {x : List UInt32} {i : Nat} (h : i < x.length) : x.take (i + 1) = x.take i ++ [w0 x i] := by
  rw [List.take_add_one, List.getElem?_eq_getElem h, w0, List.getD_eq_getElem?_getD, List.getElem?_eq_getElem h]; rfl
theorem out_loop (x : List UInt32) (hx : x.length = 8) {body : List UInt8 × Int → Option ((List UInt8 × Int) ⊕ List UInt8)}
    (h1 : ∀ (l : List UInt8) (i : Nat), i < 8 → l.length ≤ 32 → body (l, (i : Int)) = some (.inl (l ++ by4 (w0 x i), ((i + 1 : Nat) : Int)))) (h2 : ∀ l, body (l, 8) = some (.inr l)) :
    iterC body ([], 0) = some (x.flatMap by4) := by
  refine iterC_count (fun i => ((x.take i).flatMap by4, (i : Int))) 8 _ (by simp) ?_ ?_
  · intro i hi
    rw [h1 _ i hi (by rw [flat4_len, List.length_take]; omega), w0_take (by omega)]
    simp
  · rw [show ((8 : Nat) : Int) = 8 by rfl, h2, List.take_of_length_le (by omega)]
theorem shl3 (x : UInt64) : shl64 x 3 = x * 8 := by
  apply UInt64.toNat_inj.1
  simp [shl64, UInt64.toNat_mul]
theorem hash_Sum_eq (parts : List (List UInt8)) (h : parts.flatten.length ≤ 1000000) (hl : parts.length ≤ 1000000) : hash_Sum parts = some (sha parts.flatten) := by
  have hm : (1000000 : Nat) + 200 ≤ most := by decide
  unfold hash_Sum
  rw [Concat_eq parts (by omega) (by omega), Option.bind_some]
  generalize hb : parts.flatten = b at *
  have hp : padN b.length < 64 := Nat.mod_lt _ (by decide)
  rw [appL_one b 128 (by omega), Option.bind_some, List.length_append, List.length_singleton, show (64 : Int) = ((64 : Nat) : Int) by rfl, remI_nat _ _ (by omega), Option.bind_some,
    wI_of (by omega) (by omega), show (120 : Int) - ((((b.length + 1) % 64 : Nat)) : Int) = ((120 - (b.length + 1) % 64 : Nat) : Int) by omega, remI_nat _ _ (by omega), Option.bind_some,
    makeL_nat _ _ (by omega), Option.bind_some]
  have e1 : appL (b ++ [128]) (List.replicate ((120 - (b.length + 1) % 64) % 64) 0) = some (padL b) := by
    unfold appL; rw [if_pos (by simp only [List.length_append, List.length_singleton, List.length_replicate]; omega)]; rfl
  rw [e1, Option.bind_some, shl3, Put64_eq _ _ (by rw [padL_len]; omega), Option.bind_some, first_eq, Option.bind_some, lenA_of (by simp), Option.bind_some, lenA_of (show hL.length = 8 from rfl), Option.bind_some]
  rw [show padL b ++ by8 (UInt64.ofInt (b.length : Int) * 8) = padded b from rfl]
  have hn := nbl_eq b.length
  rw [lim_of (by rw [padded_len]; omega), Option.bind_some]
  have hcm : ∀ x ∈ chunksI (padded b) 64, x.2.length = 64 := by
    intro x hx
    simp only [chunksI, List.mem_map, List.mem_range] at hx
    obtain ⟨j, hj, rfl⟩ := hx
    simp only [List.length_take, List.length_drop]
    rw [padded_len] at *
    omega
  have hr := rangeL_inv (f := fun (s41 : List UInt32) (y41 : Int × List UInt8) => (hash_block s41 y41.2).bind fun r45 => some r45) (fun s y => blk s y.2) (xs := chunksI (padded b) 64) (s0 := hL) (fun _ s => s.length = 8) rfl
    (fun k s x hk hx hs => ⟨by rw [block_eq s x.2 hs (hcm x hx)]; rfl, rfl⟩)
  rw [hr.1, Option.bind_some, lenA_of hr.2, Option.bind_some]
  have hf : (chunksI (padded b) 64).foldl (fun s y => blk s y.2) hL = shaS (padded b) (nbl b.length) := by
    unfold chunksI
    rw [show ((padded b).length + 64 - 1) / 64 = nbl b.length by rw [padded_len]; omega]
    generalize nbl b.length = n
    rw [List.foldl_map]
    induction n with
    | zero => rfl
    | succ n ih => rw [List.range_succ, List.foldl_append, ih]; simp only [List.foldl_cons, List.foldl_nil, shaS, pc, Nat.mul_comm]
  have hlen := hr.2
  rw [hf] at hlen ⊢
  rw [out_loop _ hlen]
  · rfl
  · intro l i hi hl
    simp only []
    rw [if_pos (by omega), Option.bind_some, idx_w0 (by omega), Option.bind_some, Put32_eq _ _ (by omega), Option.bind_some, wI_succ _ (by omega)]
  · intro l; rfl
end Gk

/- Printed by gen.py: for each Go function a pure function, and that the Go code comes to it. No condition beside the equation that says what the pure function gives. -/





set_option linter.unusedVariables false
set_option linter.unusedSimpArgs false
namespace Gk
open Go Go.Proofs

/-! largesse/largesseref07.turn -/
noncomputable def ref07_turn (a0x : UInt32) (a1n : Int) : Option UInt32 :=
((cnt a1n).bind fun c3 =>
((cnt ((wI (32 - a1n)))).bind fun c4 => some ((shr32 a0x c3) ||| (shl32 a0x c4))))
set_option maxRecDepth 100000 in
set_option maxHeartbeats 8000000 in
theorem ref07_turn_calls (a0x : UInt32) (a1n : Int) (r : UInt32) (w0 : World) (H : ref07_turn a0x a1n = some r) :
    Calls Try.prog 48 [(u32 a0x), (i64 a1n)].toArray w0 (fun e w' => e = .returned (u32 r) ∧ Ext w0 w') := by
  have hE : Ext w0 w0 := Ext.refl w0
  unfold ref07_turn at H
  refine calls_W (n := 13) Try.func48 rfl rfl rfl ?_
  refine W_seq ?_
  refine W_reg (by kernel_rfl) ?_
  refine wla rfl rfl (q_assign (v := (u32 0)) rfl (cst32 (0 : UInt32) rfl)) ?_
  refine wl_nil ?_
  refine W_th ?_
  refine W_seq ?_
  refine W_draw [] [(0, 0), (1, 0), (2, 0), (3, 0), (4, 0), (5, 0), (6, 0), (7, 0), (8, 0)] mixed (by kernel_rfl) (by kernel_rfl) (by kernel_rfl) (by kernel_rfl) ?_
  have x1 := Ext.drew w0
  have e2 := hE.trans x1
  refine wsa rfl rfl rfl (q_move (v := (u32 a0x)) rfl rfl) ?_
  refine wsa rfl rfl rfl (q_move (v := (i64 a1n)) rfl rfl) ?_
  obtain ⟨c3, hc3, H⟩ := Option.bind_eq_some_iff.1 H
  refine wsa rfl rfl rfl (q_shr32 c3 rfl rfl rfl (cnt_eq hc3)) ?_
  refine wsa rfl rfl rfl (q_move (v := (u32 a0x)) rfl rfl) ?_
  refine wsa rfl rfl rfl (q_move (v := (i64 a1n)) rfl rfl) ?_
  refine wsa rfl rfl rfl (q_subI rfl rfl rfl) ?_
  obtain ⟨c4, hc4, H⟩ := Option.bind_eq_some_iff.1 H
  refine wsa rfl rfl rfl (q_shl32 c4 rfl rfl rfl (cnt_eq hc4)) ?_
  refine wsa rfl rfl rfl (q_or32 rfl rfl rfl) ?_
  refine wsa rfl rfl rfl (q_assign (v := (u32 (((shr32 a0x c3) ||| (shl32 a0x c4))))) rfl rfl) ?_
  refine ws_nil ?_
  refine W_th ?_
  refine W_ret ?_
  obtain rfl := Option.some.inj H
  refine rt1 (u32 (((shr32 a0x c3) ||| (shl32 a0x c4)))) rfl rfl rfl rfl ?_
  exact ⟨rfl, e2⟩

/-! largesse/largesseref07.power -/
noncomputable def ref07_power (a0x : UInt64) (a1n : Int) : Option (List UInt64) :=
((iterC (fun s4 : Int × List UInt64 =>
(if 0 < s4.1 then
((iterC (fun s11 : List UInt64 × List UInt64 × UInt64 × Int =>
(if s11.2.2.2 < (s11.1.length : Int) then
(((if s11.2.2.2 < (s11.1.length : Int) then
((idx s11.1 s11.2.2.2).bind fun c16 => some (s11.2.2.1 + (c16 * a0x)))
else some s11.2.2.1)).bind fun x14 =>
((appL s11.2.1 (([(x14 % (65536 : UInt64))] : List UInt64))).bind fun c20 => some (.inl (s11.1, c20, (x14 / (65536 : UInt64)), (wI (s11.2.2.2 + 1))))))
else
(if (0 : UInt64) < s11.2.2.1 then
(((if s11.2.2.2 < (s11.1.length : Int) then
((idx s11.1 s11.2.2.2).bind fun c28 => some (s11.2.2.1 + (c28 * a0x)))
else some s11.2.2.1)).bind fun x26 =>
((appL s11.2.1 (([(x26 % (65536 : UInt64))] : List UInt64))).bind fun c32 => some (.inl (s11.1, c32, (x26 / (65536 : UInt64)), (wI (s11.2.2.2 + 1))))))
else some (.inr s11.2.1)))) (s4.2, ([] : List UInt64), (0 : UInt64), 0)).bind fun x11 => some (.inl ((wI (s4.1 - 1)), x11)))
else some (.inr s4.2))) (a1n, ([(1 : UInt64)] : List UInt64))).bind fun x4 => some x4)
set_option maxRecDepth 100000 in
set_option maxHeartbeats 8000000 in
theorem ref07_power_calls (a0x : UInt64) (a1n : Int) (r : List UInt64) (w0 : World) (H : ref07_power a0x a1n = some r) :
    Calls Try.prog 81 [(u64 a0x), (i64 a1n)].toArray w0 (fun e w' => ∃ u0 : Value, e = .returned u0 ∧ Ext w0 w' ∧ Nw w0 u0 ∧ OwK (Sc u64) w' [] 34 u0 r) := by
  have hE : Ext w0 w0 := Ext.refl w0
  unfold ref07_power at H
  refine calls_W (n := 46) Try.func81 rfl rfl rfl ?_
  refine W_seq ?_
  refine W_reg (by kernel_rfl) ?_
  refine wla rfl rfl (q_assign (v := (.slice none 0 0)) rfl rfl) ?_
  refine wl_nil ?_
  refine W_th ?_
  refine W_seq ?_
  refine W_reg (by kernel_rfl) ?_
  refine wls rfl rfl (stp_lit (L := []) (R := (Sc u64)) [(u64 1)] ([(1 : UInt64)] : List UInt64) rfl T71 rfl (by exact ⟨rfl, (cst64 (1 : UInt64) rfl), trivial⟩) rfl (litC u64 (oneC_u64) (us := [(u64 1)]) (l := ([(1 : UInt64)] : List UInt64)) rfl) rfl (litS u64 (us := [(u64 1)]) (l := ([(1 : UInt64)] : List UInt64)) rfl) ?_)
  intro v1 w1 o1 n1 g1 l1
  have x1 := grown_ext g1
  have n3 := Nw.ext hE n1
  have e2 := hE.trans x1
  refine wla rfl rfl (q_assign (v := v1) rfl rfl) ?_
  refine wl_nil ?_
  refine W_th ?_
  refine W_seq ?_
  obtain ⟨x4, G4, H⟩ := Option.bind_eq_some_iff.1 H
  refine W_mid (fun f w => ∃ v5_42 : Value, f 5 = v5_42 ∧ f 46 = undef ∧ Ext w0 w ∧ OwK (Sc u64) w [v5_42] 34 v5_42 x4 ∧ Nw w0 v5_42) ?_ ?_
  · refine W_block ?_
    refine W_loop (fun s4 f w => ∃ v5_40 : Value, f 0 = (u64 a0x) ∧ f 1 = (i64 s4.1) ∧ f 5 = v5_40 ∧ f 46 = undef ∧ Ext w0 w ∧ OwK (Sc u64) w [v5_40] 34 v5_40 s4.2 ∧ Nw w0 v5_40) G4 ?_ ?_
    · exact ⟨v1, rfl, rfl, rfl, rfl, e2, o1, n3⟩
    · rintro s4 _ _ w5 ⟨v5_5, s0_5, s1_5, s5_5, s46_5, hE5, o0_5, n0_5⟩ H4 hr4
      refine W_seq ?_
      refine W_seq ?_
      refine W_reg (by kernel_rfl) ?_
      refine wla rfl rfl (q_move (v := (i64 s4.1)) rfl s1_5) ?_
      refine wla rfl rfl (q_gtI rfl rfl rfl) ?_
      refine wl_nil ?_
      refine W_th ?_
      refine W_cond _ rfl rfl (fun hb6 => ?_) (fun hb6 => ?_)
      · replace H4 := (if_pos (of_decide_eq_true hb6)).symm.trans H4
        refine W_skip ?_
        refine W_th ?_
        refine W_seq ?_
        refine W_block ?_
        refine W_seq ?_
        refine W_reg (by kernel_rfl) ?_
        refine wls rfl rfl (stp_lit (L := [v5_5]) (R := (Sc u64)) [] ([] : List UInt64) rfl T71 rfl (by exact trivial) rfl (litC u64 (oneC_u64) (us := []) (l := ([] : List UInt64)) rfl) rfl (litS u64 (us := []) (l := ([] : List UInt64)) rfl) ?_)
        intro v7 w7 o7 n7 g7 l7
        have x7 := grown_ext g7
        have q8 : Nq v5_5 v7 := o0_5.nq n7
        replace o0_5 := o0_5.extL (Sc.stab _) x7 (Lift.call _ x7 n7)
        have n10 := Nw.ext hE5 n7
        have e9 := hE5.trans x7
        refine wla rfl rfl (q_assign (v := v7) rfl rfl) ?_
        refine wl_nil ?_
        refine W_th ?_
        refine W_seq ?_
        refine W_reg (by kernel_rfl) ?_
        refine wla rfl rfl (q_assign (v := (u64 0)) rfl (cst64 (0 : UInt64) rfl)) ?_
        refine wl_nil ?_
        refine W_th ?_
        refine W_seq ?_
        refine W_seq ?_
        refine W_reg (by kernel_rfl) ?_
        refine wla rfl rfl (q_assign (v := (i64 0)) rfl rfl) ?_
        refine wl_nil ?_
        refine W_th ?_
        obtain ⟨x11, G11, H4⟩ := Option.bind_eq_some_iff.1 H4
        refine W_mid (fun f w => ∃ v6_39 : Value, f 0 = (u64 a0x) ∧ f 1 = (i64 s4.1) ∧ f 6 = v6_39 ∧ f 46 = undef ∧ Ext w0 w ∧ OwK (Sc u64) w [v6_39] 34 v6_39 x11 ∧ Nw w0 v6_39) ?_ ?_
        · refine W_block ?_
          refine W_loop (fun s11 f w => ∃ v6_37 : Value, f 0 = (u64 a0x) ∧ f 1 = (i64 s4.1) ∧ f 5 = v5_5 ∧ f 6 = v6_37 ∧ f 7 = (u64 s11.2.2.1) ∧ f 8 = (i64 s11.2.2.2) ∧ f 46 = undef ∧ Ext w0 w ∧ OwK (Sc u64) w [v5_5, v6_37] 34 v5_5 s11.1 ∧ Nw w0 v5_5 ∧ OwK (Sc u64) w [v5_5, v6_37] 34 v6_37 s11.2.1 ∧ Nw w0 v6_37 ∧ Nq v5_5 v6_37) G11 ?_ ?_
          · exact ⟨v7, s0_5, s1_5, s5_5, rfl, rfl, rfl, s46_5, e9, (o0_5.weak (Sc.stab _) (fun _ h => ⟨h.2.1, h.1, trivial⟩)), n0_5, (o7.weak (Sc.stab _) (fun _ h => ⟨h.2.1, h.1, trivial⟩)), n10, q8⟩
          · rintro s11 _ _ w12 ⟨v6_12, s0_12, s1_12, s5_12, s6_12, s7_12, s8_12, s46_12, hE12, o0_12, n0_12, o1_12, n1_12, q0_1_12⟩ H11 hr11
            refine W_seq ?_
            refine W_seq ?_
            refine W_reg (by kernel_rfl) ?_
            refine wla rfl rfl (q_move (v := (i64 s11.2.2.2)) rfl s8_12) ?_
            refine wla rfl rfl (q_move (v := v5_5) rfl s5_12) ?_
            refine wla rfl rfl (q_len rfl T71.sl rfl (o0_12.rd (Sc.stab _))) ?_
            refine wla rfl rfl (q_ltI rfl rfl rfl) ?_
            refine wlb rfl rfl (q_move (v := (.bool ((decide (s11.2.2.2 < (s11.1.length : Int)))))) rfl rfl) (fun hb13 => ?_) (fun hb13 => ?_)
            · replace H11 := (if_pos (of_decide_eq_true hb13)).symm.trans H11
              refine wlk rfl rfl ?_
              refine wlk rfl rfl ?_
              refine wla rfl rfl (q_pick_t (v := (.bool true)) rfl rfl rfl) ?_
              refine wl_nil ?_
              refine W_th ?_
              refine W_cond true rfl rfl (fun _ => ?_) (fun hb => by cases hb)
              refine W_skip ?_
              refine W_th ?_
              refine W_seq ?_
              refine W_block ?_
              refine W_seq ?_
              obtain ⟨x14, H14, H11⟩ := Option.bind_eq_some_iff.1 H11
              refine W_mid (fun f w => f 0 = (u64 a0x) ∧ f 1 = (i64 s4.1) ∧ f 5 = v5_5 ∧ f 6 = v6_12 ∧ f 7 = (u64 x14) ∧ f 8 = (i64 s11.2.2.2) ∧ f 46 = undef ∧ Ext w0 w ∧ OwK (Sc u64) w [v5_5, v6_12] 34 v5_5 s11.1 ∧ Nw w0 v5_5 ∧ OwK (Sc u64) w [v5_5, v6_12] 34 v6_12 s11.2.1 ∧ Nw w0 v6_12 ∧ Nq v5_5 v6_12) ?_ ?_
              · refine W_seq ?_
                refine W_reg (by kernel_rfl) ?_
                refine wla rfl rfl (q_move (v := (i64 s11.2.2.2)) rfl s8_12) ?_
                refine wla rfl rfl (q_move (v := v5_5) rfl s5_12) ?_
                refine wla rfl rfl (q_len rfl T71.sl rfl (o0_12.rd (Sc.stab _))) ?_
                refine wla rfl rfl (q_ltI rfl rfl rfl) ?_
                refine wl_nil ?_
                refine W_th ?_
                refine W_cond _ rfl rfl (fun hb15 => ?_) (fun hb15 => ?_)
                · replace H14 := (if_pos (of_decide_eq_true hb15)).symm.trans H14
                  refine W_reg (by kernel_rfl) ?_
                  refine wla rfl rfl (q_move (v := (u64 s11.2.2.1)) rfl s7_12) ?_
                  refine wla rfl rfl (q_move (v := v5_5) rfl s5_12) ?_
                  refine wla rfl rfl (q_move (v := (i64 s11.2.2.2)) rfl s8_12) ?_
                  obtain ⟨c16, hc16, H14⟩ := Option.bind_eq_some_iff.1 H14
                  refine wla rfl rfl (q_adr rfl T71 rfl rfl (o0_12.rd (Sc.stab _)) hc16) ?_
                  refine wlq rfl rfl (q_loadS rfl T71 rfl (o0_12.rd (Sc.stab _)) hc16) ?_
                  refine wla rfl rfl (q_move (v := (u64 a0x)) rfl s0_12) ?_
                  refine wla rfl rfl (q_mul64 rfl rfl rfl) ?_
                  refine wla rfl rfl (q_add64 rfl rfl rfl) ?_
                  refine wla rfl rfl (q_assign (v := (u64 ((s11.2.2.1 + (c16 * a0x))))) rfl rfl) ?_
                  refine wl_nil ?_
                  obtain rfl := Option.some.inj H14
                  exact ⟨s0_12, s1_12, s5_12, s6_12, rfl, s8_12, s46_12, hE12, o0_12, n0_12, o1_12, n1_12, q0_1_12⟩
                · replace H14 := (if_neg (of_decide_eq_false hb15)).symm.trans H14
                  refine W_skip ?_
                  obtain rfl := Option.some.inj H14
                  exact ⟨s0_12, s1_12, s5_12, s6_12, s7_12, s8_12, s46_12, hE12, o0_12, n0_12, o1_12, n1_12, q0_1_12⟩
              · rintro _ w17 ⟨s0_17, s1_17, s5_17, s6_17, s7_17, s8_17, s46_17, hE17, o0_17, n0_17, o1_17, n1_17, q0_1_17⟩
                refine W_th ?_
                refine W_seq ?_
                refine W_reg (by kernel_rfl) ?_
                refine wla rfl rfl (q_move (v := v6_12) rfl s6_17) ?_
                refine wla rfl rfl (q_move (v := (u64 x14)) rfl s7_17) ?_
                refine wla rfl rfl (q_rem64 rfl rfl (cst64 (65536 : UInt64) rfl) (by decide)) ?_
                refine wls rfl rfl (stp_lit (L := [v5_5, v6_12]) (R := (Sc u64)) [(u64 ((x14 % (65536 : UInt64))))] ([(x14 % (65536 : UInt64))] : List UInt64) rfl T71 rfl (by exact ⟨rfl, rfl, trivial⟩) rfl (litC u64 (oneC_u64) (us := [(u64 ((x14 % (65536 : UInt64))))]) (l := ([(x14 % (65536 : UInt64))] : List UInt64)) rfl) rfl (litS u64 (us := [(u64 ((x14 % (65536 : UInt64))))]) (l := ([(x14 % (65536 : UInt64))] : List UInt64)) rfl) ?_)
                intro v18 w18 o18 n18 g18 l18
                have x18 := grown_ext g18
                have i18 : W64 w18 [v5_5, v6_12] v18 (([(x14 % (65536 : UInt64))] : List UInt64)) := OwK.slk (Sc.stab _) _ o18 (fun k hk => (Old.cons (Old.cons (Old.nil _) o1_17.lt) o0_17.lt) k (n18 k hk)) (fun _ h => h.2)
                replace o0_17 := o0_17.extL (Sc.stab _) x18 (Lift.ext x18 _)
                replace o1_17 := o1_17.extL (Sc.stab _) x18 (Lift.ext x18 _)
                have e19 := hE17.trans x18
                obtain ⟨c20, hc20, H11⟩ := Option.bind_eq_some_iff.1 H11
                refine wls rfl rfl (stp_append (R := (Sc u64)) (v := v6_12) (u := v18) (Sc.stab _) [v5_5] [] rfl T71 rfl rfl o1_17 i18 (fun _ _ h => h) hc20 oc_u64 ?_)
                intro v20 w20 o20 g20 nx20 l20
                replace i18 := i18.lift l20
                have q21 : Nq v5_5 v20 := o0_17.nxt q0_1_17 nx20
                replace o0_17 := o0_17.other (Sc.stab _) g20 q0_1_17 l20
                have e22 := e19.grown g20 n1_17
                have n23 := Nw.nxt e19 n1_17 nx20
                refine wla rfl rfl (q_assign (v := v20) rfl rfl) ?_
                refine wl_nil ?_
                refine W_th ?_
                refine W_reg (by kernel_rfl) ?_
                refine wla rfl rfl (q_move (v := (u64 x14)) rfl s7_17) ?_
                refine wla rfl rfl (q_quo64 rfl rfl (cst64 (65536 : UInt64) rfl) (by decide)) ?_
                refine wla rfl rfl (q_assign (v := (u64 ((x14 / (65536 : UInt64))))) rfl rfl) ?_
                refine wl_nil ?_
                refine bk_n ?_
                refine W_th ?_
                refine W_reg (by kernel_rfl) ?_
                refine wla rfl rfl (q_move (v := (i64 s11.2.2.2)) rfl s8_17) ?_
                refine wla rfl rfl (q_addI rfl rfl rfl) ?_
                refine wla rfl rfl (q_assign (v := (i64 ((wI (s11.2.2.2 + 1))))) rfl rfl) ?_
                refine wl_nil ?_
                obtain rfl := Option.some.inj H11
                exact ⟨_, rfl, v20, s0_17, s1_17, s5_17, rfl, rfl, rfl, s46_17, e22, o0_17, n0_17, o20, n23, q21⟩
            · replace H11 := (if_neg (of_decide_eq_false hb13)).symm.trans H11
              refine wla rfl rfl (q_move (v := (u64 s11.2.2.1)) rfl s7_12) ?_
              refine wla rfl rfl (q_gt64 rfl rfl (cst64 (0 : UInt64) rfl)) ?_
              refine wla rfl rfl (q_pick_f (v := (.bool ((decide ((0 : UInt64) < s11.2.2.1))))) rfl rfl rfl) ?_
              refine wl_nil ?_
              refine W_th ?_
              refine W_cond _ rfl rfl (fun hb25 => ?_) (fun hb25 => ?_)
              · replace H11 := (if_pos (of_decide_eq_true hb25)).symm.trans H11
                refine W_skip ?_
                refine W_th ?_
                refine W_seq ?_
                refine W_block ?_
                refine W_seq ?_
                obtain ⟨x26, H26, H11⟩ := Option.bind_eq_some_iff.1 H11
                refine W_mid (fun f w => f 0 = (u64 a0x) ∧ f 1 = (i64 s4.1) ∧ f 5 = v5_5 ∧ f 6 = v6_12 ∧ f 7 = (u64 x26) ∧ f 8 = (i64 s11.2.2.2) ∧ f 46 = undef ∧ Ext w0 w ∧ OwK (Sc u64) w [v5_5, v6_12] 34 v5_5 s11.1 ∧ Nw w0 v5_5 ∧ OwK (Sc u64) w [v5_5, v6_12] 34 v6_12 s11.2.1 ∧ Nw w0 v6_12 ∧ Nq v5_5 v6_12) ?_ ?_
                · refine W_seq ?_
                  refine W_reg (by kernel_rfl) ?_
                  refine wla rfl rfl (q_move (v := (i64 s11.2.2.2)) rfl s8_12) ?_
                  refine wla rfl rfl (q_move (v := v5_5) rfl s5_12) ?_
                  refine wla rfl rfl (q_len rfl T71.sl rfl (o0_12.rd (Sc.stab _))) ?_
                  refine wla rfl rfl (q_ltI rfl rfl rfl) ?_
                  refine wl_nil ?_
                  refine W_th ?_
                  refine W_cond _ rfl rfl (fun hb27 => ?_) (fun hb27 => ?_)
                  · replace H26 := (if_pos (of_decide_eq_true hb27)).symm.trans H26
                    refine W_reg (by kernel_rfl) ?_
                    refine wla rfl rfl (q_move (v := (u64 s11.2.2.1)) rfl s7_12) ?_
                    refine wla rfl rfl (q_move (v := v5_5) rfl s5_12) ?_
                    refine wla rfl rfl (q_move (v := (i64 s11.2.2.2)) rfl s8_12) ?_
                    obtain ⟨c28, hc28, H26⟩ := Option.bind_eq_some_iff.1 H26
                    refine wla rfl rfl (q_adr rfl T71 rfl rfl (o0_12.rd (Sc.stab _)) hc28) ?_
                    refine wlq rfl rfl (q_loadS rfl T71 rfl (o0_12.rd (Sc.stab _)) hc28) ?_
                    refine wla rfl rfl (q_move (v := (u64 a0x)) rfl s0_12) ?_
                    refine wla rfl rfl (q_mul64 rfl rfl rfl) ?_
                    refine wla rfl rfl (q_add64 rfl rfl rfl) ?_
                    refine wla rfl rfl (q_assign (v := (u64 ((s11.2.2.1 + (c28 * a0x))))) rfl rfl) ?_
                    refine wl_nil ?_
                    obtain rfl := Option.some.inj H26
                    exact ⟨s0_12, s1_12, s5_12, s6_12, rfl, s8_12, s46_12, hE12, o0_12, n0_12, o1_12, n1_12, q0_1_12⟩
                  · replace H26 := (if_neg (of_decide_eq_false hb27)).symm.trans H26
                    refine W_skip ?_
                    obtain rfl := Option.some.inj H26
                    exact ⟨s0_12, s1_12, s5_12, s6_12, s7_12, s8_12, s46_12, hE12, o0_12, n0_12, o1_12, n1_12, q0_1_12⟩
                · rintro _ w29 ⟨s0_29, s1_29, s5_29, s6_29, s7_29, s8_29, s46_29, hE29, o0_29, n0_29, o1_29, n1_29, q0_1_29⟩
                  refine W_th ?_
                  refine W_seq ?_
                  refine W_reg (by kernel_rfl) ?_
                  refine wla rfl rfl (q_move (v := v6_12) rfl s6_29) ?_
                  refine wla rfl rfl (q_move (v := (u64 x26)) rfl s7_29) ?_
                  refine wla rfl rfl (q_rem64 rfl rfl (cst64 (65536 : UInt64) rfl) (by decide)) ?_
                  refine wls rfl rfl (stp_lit (L := [v5_5, v6_12]) (R := (Sc u64)) [(u64 ((x26 % (65536 : UInt64))))] ([(x26 % (65536 : UInt64))] : List UInt64) rfl T71 rfl (by exact ⟨rfl, rfl, trivial⟩) rfl (litC u64 (oneC_u64) (us := [(u64 ((x26 % (65536 : UInt64))))]) (l := ([(x26 % (65536 : UInt64))] : List UInt64)) rfl) rfl (litS u64 (us := [(u64 ((x26 % (65536 : UInt64))))]) (l := ([(x26 % (65536 : UInt64))] : List UInt64)) rfl) ?_)
                  intro v30 w30 o30 n30 g30 l30
                  have x30 := grown_ext g30
                  have i30 : W64 w30 [v5_5, v6_12] v30 (([(x26 % (65536 : UInt64))] : List UInt64)) := OwK.slk (Sc.stab _) _ o30 (fun k hk => (Old.cons (Old.cons (Old.nil _) o1_29.lt) o0_29.lt) k (n30 k hk)) (fun _ h => h.2)
                  replace o0_29 := o0_29.extL (Sc.stab _) x30 (Lift.ext x30 _)
                  replace o1_29 := o1_29.extL (Sc.stab _) x30 (Lift.ext x30 _)
                  have e31 := hE29.trans x30
                  obtain ⟨c32, hc32, H11⟩ := Option.bind_eq_some_iff.1 H11
                  refine wls rfl rfl (stp_append (R := (Sc u64)) (v := v6_12) (u := v30) (Sc.stab _) [v5_5] [] rfl T71 rfl rfl o1_29 i30 (fun _ _ h => h) hc32 oc_u64 ?_)
                  intro v32 w32 o32 g32 nx32 l32
                  replace i30 := i30.lift l32
                  have q33 : Nq v5_5 v32 := o0_29.nxt q0_1_29 nx32
                  replace o0_29 := o0_29.other (Sc.stab _) g32 q0_1_29 l32
                  have e34 := e31.grown g32 n1_29
                  have n35 := Nw.nxt e31 n1_29 nx32
                  refine wla rfl rfl (q_assign (v := v32) rfl rfl) ?_
                  refine wl_nil ?_
                  refine W_th ?_
                  refine W_reg (by kernel_rfl) ?_
                  refine wla rfl rfl (q_move (v := (u64 x26)) rfl s7_29) ?_
                  refine wla rfl rfl (q_quo64 rfl rfl (cst64 (65536 : UInt64) rfl) (by decide)) ?_
                  refine wla rfl rfl (q_assign (v := (u64 ((x26 / (65536 : UInt64))))) rfl rfl) ?_
                  refine wl_nil ?_
                  refine bk_n ?_
                  refine W_th ?_
                  refine W_reg (by kernel_rfl) ?_
                  refine wla rfl rfl (q_move (v := (i64 s11.2.2.2)) rfl s8_29) ?_
                  refine wla rfl rfl (q_addI rfl rfl rfl) ?_
                  refine wla rfl rfl (q_assign (v := (i64 ((wI (s11.2.2.2 + 1))))) rfl rfl) ?_
                  refine wl_nil ?_
                  obtain rfl := Option.some.inj H11
                  exact ⟨_, rfl, v32, s0_29, s1_29, s5_29, rfl, rfl, rfl, s46_29, e34, o0_29, n0_29, o32, n35, q33⟩
              · replace H11 := (if_neg (of_decide_eq_false hb25)).symm.trans H11
                refine W_exit ?_
                refine th_x ?_
                obtain rfl := Option.some.inj H11
                obtain rfl := hr11 _ rfl
                refine th_x ?_
                refine bk_x ?_
                exact ⟨v6_12, s0_12, s1_12, s6_12, s46_12, hE12, (o1_12.weak (Sc.stab _) (fun _ h => ⟨h.2.1, trivial⟩)), n1_12⟩
        · rintro _ w38 ⟨v6_38, s0_38, s1_38, s6_38, s46_38, hE38, o0_38, n0_38⟩
          refine W_th ?_
          refine W_reg (by kernel_rfl) ?_
          refine wla rfl rfl (q_move (v := v6_38) rfl s6_38) ?_
          refine wla rfl rfl (q_assign (v := v6_38) rfl rfl) ?_
          refine wl_nil ?_
          refine bk_n ?_
          refine W_th ?_
          refine W_reg (by kernel_rfl) ?_
          refine wla rfl rfl (q_move (v := (i64 s4.1)) rfl s1_38) ?_
          refine wla rfl rfl (q_subI rfl rfl rfl) ?_
          refine wla rfl rfl (q_assign (v := (i64 ((wI (s4.1 - 1))))) rfl rfl) ?_
          refine wl_nil ?_
          obtain rfl := Option.some.inj H4
          exact ⟨_, rfl, v6_38, s0_38, rfl, rfl, s46_38, hE38, o0_38, n0_38⟩
      · replace H4 := (if_neg (of_decide_eq_false hb6)).symm.trans H4
        refine W_exit ?_
        refine th_x ?_
        obtain rfl := Option.some.inj H4
        obtain rfl := hr4 _ rfl
        refine th_x ?_
        refine bk_x ?_
        exact ⟨v5_5, s5_5, s46_5, hE5, o0_5, n0_5⟩
  · rintro _ w41 ⟨v5_41, s5_41, s46_41, hE41, o0_41, n0_41⟩
    refine W_th ?_
    refine W_seq ?_
    refine W_reg (by kernel_rfl) ?_
    refine wla rfl rfl (q_move (v := v5_41) rfl s5_41) ?_
    refine wla rfl rfl (q_assign (v := v5_41) rfl rfl) ?_
    refine wl_nil ?_
    refine W_th ?_
    refine W_ret ?_
    obtain rfl := Option.some.inj H
    refine rt1 v5_41 rfl rfl rfl s46_41 ?_
    exact ⟨v5_41, rfl, hE41, n0_41, (o0_41.weak (Sc.stab _) (fun _ _ => trivial))⟩

/-! largesse/largesseref07.above -/
noncomputable def ref07_above (a0x : UInt64) (a1p : UInt64) (a2n : Int) : Option Bool :=
((ref07_power a0x a2n).bind fun r1 =>
((makeL ((wI (2 * a2n))) (0 : UInt64)).bind fun c3 =>
((appL c3 (([a1p] : List UInt64))).bind fun c8 =>
((iterC (fun s11 : Int =>
(if 0 ≤ s11 then
(((if s11 < (r1.length : Int) then
((idx r1 s11).bind fun c16 => some c16)
else some (0 : UInt64))).bind fun x14 =>
(if s11 < (c8.length : Int) then
((idx c8 s11).bind fun c19 =>
(if x14 = c19 then some (.inl (wI (s11 - 1)))
else some (.inr (.inr (decide (c19 < x14))))))
else
(if x14 = (0 : UInt64) then some (.inl (wI (s11 - 1)))
else some (.inr (.inr (decide ((0 : UInt64) < x14)))))))
else some (.inr (.inl ())))) 15).bind (Sum.elim (fun y11 => some false) (fun q11 => some q11))))))
set_option maxRecDepth 100000 in
set_option maxHeartbeats 8000000 in
theorem ref07_above_calls (a0x : UInt64) (a1p : UInt64) (a2n : Int) (r : Bool) (w0 : World) (H : ref07_above a0x a1p a2n = some r) :
    Calls Try.prog 71 [(u64 a0x), (u64 a1p), (i64 a2n)].toArray w0 (fun e w' => e = .returned (.bool r) ∧ Ext w0 w') := by
  have hE : Ext w0 w0 := Ext.refl w0
  unfold ref07_above at H
  refine calls_W (n := 48) Try.func71 rfl rfl rfl ?_
  refine W_seq ?_
  refine W_reg (by kernel_rfl) ?_
  refine wla rfl rfl (q_assign (v := (.bool false)) rfl rfl) ?_
  refine wl_nil ?_
  refine W_th ?_
  refine W_seq ?_
  refine W_reg (by kernel_rfl) ?_
  refine wla rfl rfl (q_move (v := (u64 a0x)) rfl rfl) ?_
  refine wla rfl rfl (q_move (v := (i64 a2n)) rfl rfl) ?_
  obtain ⟨r1, hr1, H⟩ := Option.bind_eq_some_iff.1 H
  refine wls rfl rfl (stp_call (vs := [(u64 a0x), (i64 a2n)]) Try.func81 rfl rfl rfl (ar2 rfl rfl) (ref07_power_calls a0x a2n  r1 _  hr1) ?_)
  rintro _ w1 ⟨v1, rfl, x1, n1_0, o1_0⟩
  refine ⟨_, rfl, ?_⟩
  have i1_0 : W64 w1 [] v1 r1 := OwK.slk (Sc.stab _) _ (OwK.scal o1_0 (v1 :: [])) (fun k hk => (Old.nil _) k (n1_0 k hk)) (fun _ h => h.2)
  have e2 := hE.trans x1
  refine wla rfl rfl (q_assign (v := v1) rfl rfl) ?_
  refine wl_nil ?_
  refine W_th ?_
  refine W_seq ?_
  refine W_reg (by kernel_rfl) ?_
  refine wla rfl rfl (q_move (v := (i64 a2n)) rfl rfl) ?_
  refine wla rfl rfl (q_mulI rfl rfl rfl) ?_
  obtain ⟨c3, hc3, H⟩ := Option.bind_eq_some_iff.1 H
  refine wls rfl rfl (stp_make (L := []) (R := (Sc u64)) rfl T71 rfl rfl hc3 (fun _ _ => rfl) ?_)
  intro v3 w3 o3 n3 g3 l3
  have x3 := grown_ext g3
  replace i1_0 := i1_0.lift (Lift.call _ x3 n3)
  have n5 := Nw.ext e2 n3
  have e4 := e2.trans x3
  refine wla rfl rfl (q_assign (v := v3) rfl rfl) ?_
  refine wl_nil ?_
  refine W_th ?_
  refine W_seq ?_
  refine W_reg (by kernel_rfl) ?_
  refine wla rfl rfl (q_move (v := v3) rfl rfl) ?_
  refine wla rfl rfl (q_move (v := (u64 a1p)) rfl rfl) ?_
  refine wls rfl rfl (stp_lit (L := [v3]) (R := (Sc u64)) [(u64 a1p)] ([a1p] : List UInt64) rfl T71 rfl (by exact ⟨rfl, rfl, trivial⟩) rfl (litC u64 (oneC_u64) (us := [(u64 a1p)]) (l := ([a1p] : List UInt64)) rfl) rfl (litS u64 (us := [(u64 a1p)]) (l := ([a1p] : List UInt64)) rfl) ?_)
  intro v6 w6 o6 n6 g6 l6
  have x6 := grown_ext g6
  have i6 : W64 w6 [v3] v6 (([a1p] : List UInt64)) := OwK.slk (Sc.stab _) _ o6 (fun k hk => (Old.cons (Old.nil _) o3.lt) k (n6 k hk)) (fun _ h => h.2)
  replace i1_0 := i1_0.lift (Lift.ext x6 _)
  replace o3 := o3.extL (Sc.stab _) x6 (Lift.ext x6 _)
  have e7 := e4.trans x6
  obtain ⟨c8, hc8, H⟩ := Option.bind_eq_some_iff.1 H
  refine wls rfl rfl (stp_append (R := (Sc u64)) (v := v3) (u := v6) (Sc.stab _) [] [] rfl T71 rfl rfl o3 i6 (fun _ _ h => h) hc8 oc_u64 ?_)
  intro v8 w8 o8 g8 nx8 l8
  replace i1_0 := i1_0.lift l8
  replace i6 := i6.lift l8
  have e9 := e7.grown g8 n5
  have n10 := Nw.nxt e7 n5 nx8
  refine wla rfl rfl (q_assign (v := v8) rfl rfl) ?_
  refine wl_nil ?_
  refine W_th ?_
  refine W_seq ?_
  refine W_seq ?_
  refine W_reg (by kernel_rfl) ?_
  refine wla rfl rfl (q_assign (v := (i64 15)) rfl rfl) ?_
  refine wl_nil ?_
  refine W_th ?_
  obtain ⟨x11, G11, H⟩ := Option.bind_eq_some_iff.1 H
  refine W_mid (fun f w => ∃ y11, x11 = .inl y11 ∧ f 48 = undef ∧ Ext w0 w) ?_ ?_
  · refine W_block ?_
    refine W_loop (fun s11 f w => f 7 = v1 ∧ f 8 = v8 ∧ f 9 = (i64 s11) ∧ f 48 = undef ∧ Ext w0 w ∧ OwK (Sc u64) w [v8] 34 v8 c8 ∧ Nw w0 v8 ∧ W64 w [v8] v1 r1) G11 ?_ ?_
    · exact ⟨rfl, rfl, rfl, rfl, e9, o8, n10, i1_0⟩
    · rintro s11 _ _ w12 ⟨s7_12, s8_12, s9_12, s48_12, hE12, o0_12, n0_12, i0_12⟩ H11 hr11
      refine W_seq ?_
      refine W_seq ?_
      refine W_reg (by kernel_rfl) ?_
      refine wla rfl rfl (q_move (v := (i64 s11)) rfl s9_12) ?_
      refine wla rfl rfl (q_geI rfl rfl rfl) ?_
      refine wl_nil ?_
      refine W_th ?_
      refine W_cond _ rfl rfl (fun hb13 => ?_) (fun hb13 => ?_)
      · replace H11 := (if_pos (of_decide_eq_true hb13)).symm.trans H11
        refine W_skip ?_
        refine W_th ?_
        refine W_seq ?_
        refine W_block ?_
        refine W_seq ?_
        refine W_reg (by kernel_rfl) ?_
        refine wla rfl rfl (q_assign (v := (u64 0)) rfl (cst64 (0 : UInt64) rfl)) ?_
        refine wla rfl rfl (q_assign (v := (u64 0)) rfl (cst64 (0 : UInt64) rfl)) ?_
        refine wl_nil ?_
        refine W_th ?_
        refine W_seq ?_
        obtain ⟨x14, H14, H11⟩ := Option.bind_eq_some_iff.1 H11
        refine W_mid (fun f w => f 7 = v1 ∧ f 8 = v8 ∧ f 9 = (i64 s11) ∧ f 10 = (u64 x14) ∧ f 11 = (u64 0) ∧ f 48 = undef ∧ Ext w0 w ∧ OwK (Sc u64) w [v8] 34 v8 c8 ∧ Nw w0 v8 ∧ W64 w [v8] v1 r1) ?_ ?_
        · refine W_seq ?_
          refine W_reg (by kernel_rfl) ?_
          refine wla rfl rfl (q_move (v := (i64 s11)) rfl s9_12) ?_
          refine wla rfl rfl (q_move (v := v1) rfl s7_12) ?_
          refine wla rfl rfl (q_len rfl T71.sl rfl i0_12) ?_
          refine wla rfl rfl (q_ltI rfl rfl rfl) ?_
          refine wl_nil ?_
          refine W_th ?_
          refine W_cond _ rfl rfl (fun hb15 => ?_) (fun hb15 => ?_)
          · replace H14 := (if_pos (of_decide_eq_true hb15)).symm.trans H14
            refine W_reg (by kernel_rfl) ?_
            refine wla rfl rfl (q_move (v := v1) rfl s7_12) ?_
            refine wla rfl rfl (q_move (v := (i64 s11)) rfl s9_12) ?_
            obtain ⟨c16, hc16, H14⟩ := Option.bind_eq_some_iff.1 H14
            refine wla rfl rfl (q_adr rfl T71 rfl rfl i0_12 hc16) ?_
            refine wlq rfl rfl (q_loadS rfl T71 rfl i0_12 hc16) ?_
            refine wla rfl rfl (q_assign (v := (u64 c16)) rfl rfl) ?_
            refine wl_nil ?_
            obtain rfl := Option.some.inj H14
            exact ⟨s7_12, s8_12, s9_12, rfl, rfl, s48_12, hE12, o0_12, n0_12, i0_12⟩
          · replace H14 := (if_neg (of_decide_eq_false hb15)).symm.trans H14
            refine W_skip ?_
            obtain rfl := Option.some.inj H14
            exact ⟨s7_12, s8_12, s9_12, rfl, rfl, s48_12, hE12, o0_12, n0_12, i0_12⟩
        · rintro _ w17 ⟨s7_17, s8_17, s9_17, s10_17, s11_17, s48_17, hE17, o0_17, n0_17, i0_17⟩
          refine W_th ?_
          refine W_seq ?_
          refine W_seq ?_
          refine W_reg (by kernel_rfl) ?_
          refine wla rfl rfl (q_move (v := (i64 s11)) rfl s9_17) ?_
          refine wla rfl rfl (q_move (v := v8) rfl s8_17) ?_
          refine wla rfl rfl (q_len rfl T71.sl rfl (o0_17.rd (Sc.stab _))) ?_
          refine wla rfl rfl (q_ltI rfl rfl rfl) ?_
          refine wl_nil ?_
          refine W_th ?_
          refine W_cond _ rfl rfl (fun hb18 => ?_) (fun hb18 => ?_)
          · replace H11 := (if_pos (of_decide_eq_true hb18)).symm.trans H11
            refine W_reg (by kernel_rfl) ?_
            refine wla rfl rfl (q_move (v := v8) rfl s8_17) ?_
            refine wla rfl rfl (q_move (v := (i64 s11)) rfl s9_17) ?_
            obtain ⟨c19, hc19, H11⟩ := Option.bind_eq_some_iff.1 H11
            refine wla rfl rfl (q_adr rfl T71 rfl rfl (o0_17.rd (Sc.stab _)) hc19) ?_
            refine wlq rfl rfl (q_loadS rfl T71 rfl (o0_17.rd (Sc.stab _)) hc19) ?_
            refine wla rfl rfl (q_assign (v := (u64 c19)) rfl rfl) ?_
            refine wl_nil ?_
            refine W_th ?_
            refine W_seq ?_
            refine W_reg (by kernel_rfl) ?_
            refine wla rfl rfl (q_move (v := (u64 x14)) rfl s10_17) ?_
            refine wla rfl rfl (q_move (v := (u64 c19)) rfl rfl) ?_
            refine wla rfl rfl (q_ne64 rfl rfl rfl) ?_
            refine wl_nil ?_
            refine W_th ?_
            refine W_cond _ rfl rfl (fun hb20 => ?_) (fun hb20 => ?_)
            · replace H11 := (if_neg (ndec_t hb20)).symm.trans H11
              refine W_seq ?_
              refine W_reg (by kernel_rfl) ?_
              refine wla rfl rfl (q_move (v := (u64 x14)) rfl s10_17) ?_
              refine wla rfl rfl (q_move (v := (u64 c19)) rfl rfl) ?_
              refine wla rfl rfl (q_gt64 rfl rfl rfl) ?_
              refine wla rfl rfl (q_assign (v := (.bool ((decide (c19 < x14))))) rfl rfl) ?_
              refine wl_nil ?_
              refine W_th ?_
              refine W_ret ?_
              refine bk_r ?_
              refine th_r ?_
              obtain rfl := Option.some.inj H11
              obtain rfl := hr11 _ rfl
              simp only [Sum.elim_inr] at H
              refine th_r ?_
              refine bk_r ?_
              refine th_r ?_
              refine th_r ?_
              obtain rfl := Option.some.inj H
              refine rt1 (.bool ((decide (c19 < x14)))) rfl rfl rfl s48_17 ?_
              exact ⟨rfl, hE17⟩
            · replace H11 := (if_pos (ndec_f hb20)).symm.trans H11
              refine W_skip ?_
              refine bk_n ?_
              refine W_th ?_
              refine W_reg (by kernel_rfl) ?_
              refine wla rfl rfl (q_move (v := (i64 s11)) rfl s9_17) ?_
              refine wla rfl rfl (q_subI rfl rfl rfl) ?_
              refine wla rfl rfl (q_assign (v := (i64 ((wI (s11 - 1))))) rfl rfl) ?_
              refine wl_nil ?_
              obtain rfl := Option.some.inj H11
              exact ⟨_, rfl, s7_17, s8_17, rfl, s48_17, hE17, o0_17, n0_17, i0_17⟩
          · replace H11 := (if_neg (of_decide_eq_false hb18)).symm.trans H11
            refine W_skip ?_
            refine W_th ?_
            refine W_seq ?_
            refine W_reg (by kernel_rfl) ?_
            refine wla rfl rfl (q_move (v := (u64 x14)) rfl s10_17) ?_
            refine wla rfl rfl (q_move (v := (u64 0)) rfl s11_17) ?_
            refine wla rfl rfl (q_ne64 rfl rfl rfl) ?_
            refine wl_nil ?_
            refine W_th ?_
            refine W_cond _ rfl rfl (fun hb21 => ?_) (fun hb21 => ?_)
            · replace H11 := (if_neg (ndec_t hb21)).symm.trans H11
              refine W_seq ?_
              refine W_reg (by kernel_rfl) ?_
              refine wla rfl rfl (q_move (v := (u64 x14)) rfl s10_17) ?_
              refine wla rfl rfl (q_move (v := (u64 0)) rfl s11_17) ?_
              refine wla rfl rfl (q_gt64 rfl rfl rfl) ?_
              refine wla rfl rfl (q_assign (v := (.bool ((decide ((0 : UInt64) < x14))))) rfl rfl) ?_
              refine wl_nil ?_
              refine W_th ?_
              refine W_ret ?_
              refine bk_r ?_
              refine th_r ?_
              obtain rfl := Option.some.inj H11
              obtain rfl := hr11 _ rfl
              simp only [Sum.elim_inr] at H
              refine th_r ?_
              refine bk_r ?_
              refine th_r ?_
              refine th_r ?_
              obtain rfl := Option.some.inj H
              refine rt1 (.bool ((decide ((0 : UInt64) < x14)))) rfl rfl rfl s48_17 ?_
              exact ⟨rfl, hE17⟩
            · replace H11 := (if_pos (ndec_f hb21)).symm.trans H11
              refine W_skip ?_
              refine bk_n ?_
              refine W_th ?_
              refine W_reg (by kernel_rfl) ?_
              refine wla rfl rfl (q_move (v := (i64 s11)) rfl s9_17) ?_
              refine wla rfl rfl (q_subI rfl rfl rfl) ?_
              refine wla rfl rfl (q_assign (v := (i64 ((wI (s11 - 1))))) rfl rfl) ?_
              refine wl_nil ?_
              obtain rfl := Option.some.inj H11
              exact ⟨_, rfl, s7_17, s8_17, rfl, s48_17, hE17, o0_17, n0_17, i0_17⟩
      · replace H11 := (if_neg (of_decide_eq_false hb13)).symm.trans H11
        refine W_exit ?_
        refine th_x ?_
        obtain rfl := Option.some.inj H11
        obtain rfl := hr11 _ rfl
        refine th_x ?_
        refine bk_x ?_
        exact ⟨_, rfl, s48_12, hE12⟩
  · rintro _ w24 ⟨y11, rfl, s48_24, hE24⟩
    simp only [Sum.elim_inl] at H
    refine W_th ?_
    refine W_seq ?_
    refine W_reg (by kernel_rfl) ?_
    refine wla rfl rfl (q_assign (v := (.bool false)) rfl rfl) ?_
    refine wl_nil ?_
    refine W_th ?_
    refine W_ret ?_
    obtain rfl := Option.some.inj H
    refine rt1 (.bool false) rfl rfl rfl s48_24 ?_
    exact ⟨rfl, hE24⟩

/-! largesse/largesseref07.Fraction -/
noncomputable def ref07_Fraction (a0p : UInt64) (a1n : Int) : Option UInt32 :=
((iterC (fun s1 : UInt64 × Int =>
(if 0 ≤ s1.2 then
((cnt s1.2).bind fun c4 =>
((ref07_above (s1.1 + (shl64 ((1 : UInt64)) c4)) a0p a1n).bind fun r5 =>
(if (!r5) = true then
((cnt s1.2).bind fun c8 => some (.inl ((s1.1 + (shl64 ((1 : UInt64)) c8)), (wI (s1.2 - 1)))))
else some (.inl (s1.1, (wI (s1.2 - 1)))))))
else some (.inr s1.1))) ((0 : UInt64), 35)).bind fun x1 => some (x1.toUInt32))
set_option maxRecDepth 100000 in
set_option maxHeartbeats 8000000 in
theorem ref07_Fraction_calls (a0p : UInt64) (a1n : Int) (r : UInt32) (w0 : World) (H : ref07_Fraction a0p a1n = some r) :
    Calls Try.prog 47 [(u64 a0p), (i64 a1n)].toArray w0 (fun e w' => e = .returned (u32 r) ∧ Ext w0 w') := by
  have hE : Ext w0 w0 := Ext.refl w0
  unfold ref07_Fraction at H
  refine calls_W (n := 25) Try.func47 rfl rfl rfl ?_
  refine W_seq ?_
  refine W_reg (by kernel_rfl) ?_
  refine wla rfl rfl (q_assign (v := (u32 0)) rfl (cst32 (0 : UInt32) rfl)) ?_
  refine wl_nil ?_
  refine W_th ?_
  refine W_seq ?_
  refine W_reg (by kernel_rfl) ?_
  refine wla rfl rfl (q_assign (v := (u64 0)) rfl (cst64 (0 : UInt64) rfl)) ?_
  refine wl_nil ?_
  refine W_th ?_
  refine W_seq ?_
  refine W_seq ?_
  refine W_reg (by kernel_rfl) ?_
  refine wla rfl rfl (q_assign (v := (i64 35)) rfl rfl) ?_
  refine wl_nil ?_
  refine W_th ?_
  obtain ⟨x1, G1, H⟩ := Option.bind_eq_some_iff.1 H
  refine W_mid (fun f w => f 5 = (u64 x1) ∧ f 25 = undef ∧ Ext w0 w) ?_ ?_
  · refine W_block ?_
    refine W_loop (fun s1 f w => f 0 = (u64 a0p) ∧ f 1 = (i64 a1n) ∧ f 5 = (u64 s1.1) ∧ f 6 = (i64 s1.2) ∧ f 25 = undef ∧ Ext w0 w) G1 ?_ ?_
    · exact ⟨rfl, rfl, rfl, rfl, rfl, hE⟩
    · rintro s1 _ _ w2 ⟨s0_2, s1_2, s5_2, s6_2, s25_2, hE2⟩ H1 hr1
      refine W_seq ?_
      refine W_seq ?_
      refine W_reg (by kernel_rfl) ?_
      refine wla rfl rfl (q_move (v := (i64 s1.2)) rfl s6_2) ?_
      refine wla rfl rfl (q_geI rfl rfl rfl) ?_
      refine wl_nil ?_
      refine W_th ?_
      refine W_cond _ rfl rfl (fun hb3 => ?_) (fun hb3 => ?_)
      · replace H1 := (if_pos (of_decide_eq_true hb3)).symm.trans H1
        refine W_skip ?_
        refine W_th ?_
        refine W_seq ?_
        refine W_block ?_
        refine W_seq ?_
        refine W_reg (by kernel_rfl) ?_
        refine wla rfl rfl (q_move (v := (u64 s1.1)) rfl s5_2) ?_
        refine wla rfl rfl (q_move (v := (i64 s1.2)) rfl s6_2) ?_
        obtain ⟨c4, hc4, H1⟩ := Option.bind_eq_some_iff.1 H1
        refine wla rfl rfl (q_shl64 c4 rfl (cst64 (1 : UInt64) rfl) rfl (cnt_eq hc4)) ?_
        refine wla rfl rfl (q_add64 rfl rfl rfl) ?_
        refine wla rfl rfl (q_move (v := (u64 a0p)) rfl s0_2) ?_
        refine wla rfl rfl (q_move (v := (i64 a1n)) rfl s1_2) ?_
        obtain ⟨r5, hr5, H1⟩ := Option.bind_eq_some_iff.1 H1
        refine wls rfl rfl (stp_call (vs := [(u64 ((s1.1 + (shl64 ((1 : UInt64)) c4)))), (u64 a0p), (i64 a1n)]) Try.func71 rfl rfl rfl (ar3 rfl rfl rfl) (ref07_above_calls (s1.1 + (shl64 ((1 : UInt64)) c4)) a0p a1n  r5 _  hr5) ?_)
        rintro _ w5 ⟨rfl, x5⟩
        refine ⟨_, rfl, ?_⟩
        have e6 := hE2.trans x5
        refine wla rfl rfl (q_not rfl rfl) ?_
        refine wl_nil ?_
        refine W_th ?_
        refine W_cond _ rfl rfl (fun hb7 => ?_) (fun hb7 => ?_)
        · replace H1 := (if_pos hb7).symm.trans H1
          refine W_reg (by kernel_rfl) ?_
          refine wla rfl rfl (q_move (v := (u64 s1.1)) rfl s5_2) ?_
          refine wla rfl rfl (q_move (v := (i64 s1.2)) rfl s6_2) ?_
          obtain ⟨c8, hc8, H1⟩ := Option.bind_eq_some_iff.1 H1
          refine wla rfl rfl (q_shl64 c8 rfl (cst64 (1 : UInt64) rfl) rfl (cnt_eq hc8)) ?_
          refine wla rfl rfl (q_add64 rfl rfl rfl) ?_
          refine wla rfl rfl (q_assign (v := (u64 ((s1.1 + (shl64 ((1 : UInt64)) c8))))) rfl rfl) ?_
          refine wl_nil ?_
          refine bk_n ?_
          refine W_th ?_
          refine W_reg (by kernel_rfl) ?_
          refine wla rfl rfl (q_move (v := (i64 s1.2)) rfl s6_2) ?_
          refine wla rfl rfl (q_subI rfl rfl rfl) ?_
          refine wla rfl rfl (q_assign (v := (i64 ((wI (s1.2 - 1))))) rfl rfl) ?_
          refine wl_nil ?_
          obtain rfl := Option.some.inj H1
          exact ⟨_, rfl, s0_2, s1_2, rfl, rfl, s25_2, e6⟩
        · replace H1 := (if_neg (ne_true_of_eq_false hb7)).symm.trans H1
          refine W_skip ?_
          refine bk_n ?_
          refine W_th ?_
          refine W_reg (by kernel_rfl) ?_
          refine wla rfl rfl (q_move (v := (i64 s1.2)) rfl s6_2) ?_
          refine wla rfl rfl (q_subI rfl rfl rfl) ?_
          refine wla rfl rfl (q_assign (v := (i64 ((wI (s1.2 - 1))))) rfl rfl) ?_
          refine wl_nil ?_
          obtain rfl := Option.some.inj H1
          exact ⟨_, rfl, s0_2, s1_2, s5_2, rfl, s25_2, e6⟩
      · replace H1 := (if_neg (of_decide_eq_false hb3)).symm.trans H1
        refine W_exit ?_
        refine th_x ?_
        obtain rfl := Option.some.inj H1
        obtain rfl := hr1 _ rfl
        refine th_x ?_
        refine bk_x ?_
        exact ⟨s5_2, s25_2, hE2⟩
  · rintro _ w10 ⟨s5_10, s25_10, hE10⟩
    refine W_th ?_
    refine W_seq ?_
    refine W_reg (by kernel_rfl) ?_
    refine wla rfl rfl (q_move (v := (u64 x1)) rfl s5_10) ?_
    refine wla rfl rfl (q_cvt3264 rfl rfl rfl rfl) ?_
    refine wla rfl rfl (q_assign (v := (u32 ((x1.toUInt32)))) rfl rfl) ?_
    refine wl_nil ?_
    refine W_th ?_
    refine W_ret ?_
    obtain rfl := Option.some.inj H
    refine rt1 (u32 ((x1.toUInt32))) rfl rfl rfl s25_10 ?_
    exact ⟨rfl, hE10⟩

/-! largesse/largesseref07.Primes -/
noncomputable def ref07_Primes (a0n : Int) : Option (List UInt64) :=
((iterC (fun s4 : List UInt64 × UInt64 =>
(if (s4.1.length : Int) < a0n then
((iterC (fun s7 : Bool × Int =>
(if s7.2 < (s4.1.length : Int) then
((idx s4.1 s7.2).bind fun c10 =>
(if s7.1 = true then
((nz c10).bind fun c12 => some (.inl ((!decide ((s4.2 % c10) = (0 : UInt64))), (wI (s7.2 + 1)))))
else some (.inl (false, (wI (s7.2 + 1))))))
else some (.inr s7.1))) (true, 0)).bind fun x7 =>
(if x7 = true then
((appL s4.1 (([s4.2] : List UInt64))).bind fun c18 => some (.inl (c18, (s4.2 + (1 : UInt64)))))
else some (.inl (s4.1, (s4.2 + (1 : UInt64))))))
else some (.inr s4.1))) (([] : List UInt64), (2 : UInt64))).bind fun x4 => some x4)
set_option maxRecDepth 100000 in
set_option maxHeartbeats 8000000 in
theorem ref07_Primes_calls (a0n : Int) (r : List UInt64) (w0 : World) (H : ref07_Primes a0n = some r) :
    Calls Try.prog 46 [(i64 a0n)].toArray w0 (fun e w' => ∃ u0 : Value, e = .returned u0 ∧ Ext w0 w' ∧ Nw w0 u0 ∧ OwK (Sc u64) w' [] 34 u0 r) := by
  have hE : Ext w0 w0 := Ext.refl w0
  unfold ref07_Primes at H
  refine calls_W (n := 35) Try.func46 rfl rfl rfl ?_
  refine W_seq ?_
  refine W_reg (by kernel_rfl) ?_
  refine wla rfl rfl (q_assign (v := (.slice none 0 0)) rfl rfl) ?_
  refine wl_nil ?_
  refine W_th ?_
  refine W_seq ?_
  refine W_reg (by kernel_rfl) ?_
  refine wls rfl rfl (stp_lit (L := []) (R := (Sc u64)) [] ([] : List UInt64) rfl T71 rfl (by exact trivial) rfl (litC u64 (oneC_u64) (us := []) (l := ([] : List UInt64)) rfl) rfl (litS u64 (us := []) (l := ([] : List UInt64)) rfl) ?_)
  intro v1 w1 o1 n1 g1 l1
  have x1 := grown_ext g1
  have n3 := Nw.ext hE n1
  have e2 := hE.trans x1
  refine wla rfl rfl (q_assign (v := v1) rfl rfl) ?_
  refine wl_nil ?_
  refine W_th ?_
  refine W_seq ?_
  refine W_seq ?_
  refine W_reg (by kernel_rfl) ?_
  refine wla rfl rfl (q_assign (v := (u64 2)) rfl (cst64 (2 : UInt64) rfl)) ?_
  refine wl_nil ?_
  refine W_th ?_
  obtain ⟨x4, G4, H⟩ := Option.bind_eq_some_iff.1 H
  refine W_mid (fun f w => ∃ v3_24 : Value, f 3 = v3_24 ∧ f 35 = undef ∧ Ext w0 w ∧ OwK (Sc u64) w [v3_24] 34 v3_24 x4 ∧ Nw w0 v3_24) ?_ ?_
  · refine W_block ?_
    refine W_loop (fun s4 f w => ∃ v3_22 : Value, f 0 = (i64 a0n) ∧ f 3 = v3_22 ∧ f 4 = (u64 s4.2) ∧ f 35 = undef ∧ Ext w0 w ∧ OwK (Sc u64) w [v3_22] 34 v3_22 s4.1 ∧ Nw w0 v3_22) G4 ?_ ?_
    · exact ⟨v1, rfl, rfl, rfl, rfl, e2, o1, n3⟩
    · rintro s4 _ _ w5 ⟨v3_5, s0_5, s3_5, s4_5, s35_5, hE5, o0_5, n0_5⟩ H4 hr4
      refine W_seq ?_
      refine W_seq ?_
      refine W_reg (by kernel_rfl) ?_
      refine wla rfl rfl (q_move (v := v3_5) rfl s3_5) ?_
      refine wla rfl rfl (q_len rfl T71.sl rfl (o0_5.rd (Sc.stab _))) ?_
      refine wla rfl rfl (q_move (v := (i64 a0n)) rfl s0_5) ?_
      refine wla rfl rfl (q_ltI rfl rfl rfl) ?_
      refine wl_nil ?_
      refine W_th ?_
      refine W_cond _ rfl rfl (fun hb6 => ?_) (fun hb6 => ?_)
      · replace H4 := (if_pos (of_decide_eq_true hb6)).symm.trans H4
        refine W_skip ?_
        refine W_th ?_
        refine W_seq ?_
        refine W_block ?_
        refine W_seq ?_
        refine W_reg (by kernel_rfl) ?_
        refine wla rfl rfl (q_assign (v := (.bool true)) rfl rfl) ?_
        refine wl_nil ?_
        refine W_th ?_
        refine W_seq ?_
        refine W_seq ?_
        refine W_reg (by kernel_rfl) ?_
        refine wla rfl rfl (q_move (v := v3_5) rfl s3_5) ?_
        refine wla rfl rfl (q_len rfl T71.sl rfl (o0_5.rd (Sc.stab _))) ?_
        refine wla rfl rfl (q_move (v := (i64 0)) rfl rfl) ?_
        refine wl_nil ?_
        refine W_th ?_
        obtain ⟨x7, G7, H4⟩ := Option.bind_eq_some_iff.1 H4
        refine W_mid (fun f w => f 0 = (i64 a0n) ∧ f 3 = v3_5 ∧ f 4 = (u64 s4.2) ∧ f 5 = (.bool x7) ∧ f 35 = undef ∧ Ext w0 w ∧ OwK (Sc u64) w [v3_5] 34 v3_5 s4.1 ∧ Nw w0 v3_5) ?_ ?_
        · refine W_block ?_
          refine W_loop (fun s7 f w => f 0 = (i64 a0n) ∧ f 3 = v3_5 ∧ f 4 = (u64 s4.2) ∧ f 5 = (.bool s7.1) ∧ f 15 = v3_5 ∧ f 16 = (i64 ((s4.1.length : Int))) ∧ f 17 = (i64 s7.2) ∧ f 35 = undef ∧ Ext w0 w ∧ OwK (Sc u64) w [v3_5] 34 v3_5 s4.1 ∧ Nw w0 v3_5) G7 ?_ ?_
          · exact ⟨s0_5, s3_5, s4_5, rfl, rfl, rfl, rfl, s35_5, hE5, o0_5, n0_5⟩
          · rintro s7 _ _ w8 ⟨s0_8, s3_8, s4_8, s5_8, s15_8, s16_8, s17_8, s35_8, hE8, o0_8, n0_8⟩ H7 hr7
            refine W_seq ?_
            refine W_reg (by kernel_rfl) ?_
            refine wla rfl rfl (q_ltI rfl s17_8 s16_8) ?_
            refine wl_nil ?_
            refine W_th ?_
            refine W_seq ?_
            refine W_cond _ rfl rfl (fun hb9 => ?_) (fun hb9 => ?_)
            · replace H7 := (if_pos (of_decide_eq_true hb9)).symm.trans H7
              refine W_skip ?_
              refine W_th ?_
              refine W_seq ?_
              refine W_block ?_
              refine W_seq ?_
              refine W_reg (by kernel_rfl) ?_
              obtain ⟨c10, hc10, H7⟩ := Option.bind_eq_some_iff.1 H7
              refine wla rfl rfl (q_adr rfl T71 s15_8 s17_8 (o0_8.rd (Sc.stab _)) hc10) ?_
              refine wlq rfl rfl (q_loadS rfl T71 rfl (o0_8.rd (Sc.stab _)) hc10) ?_
              refine wla rfl rfl (q_assign (v := (u64 c10)) rfl rfl) ?_
              refine wl_nil ?_
              refine W_th ?_
              refine W_reg (by kernel_rfl) ?_
              refine wla rfl rfl (q_move (v := (.bool s7.1)) rfl s5_8) ?_
              refine wlb rfl rfl (q_move (v := (.bool s7.1)) rfl rfl) (fun hb11 => ?_) (fun hb11 => ?_)
              · replace H7 := (if_pos hb11).symm.trans H7
                refine wla rfl rfl (q_move (v := (u64 s4.2)) rfl s4_8) ?_
                refine wla rfl rfl (q_move (v := (u64 c10)) rfl rfl) ?_
                obtain ⟨c12, hc12, H7⟩ := Option.bind_eq_some_iff.1 H7
                refine wla rfl rfl (q_rem64 rfl rfl rfl (nz_ne hc12)) ?_
                refine wla rfl rfl (q_ne64 rfl rfl (cst64 (0 : UInt64) rfl)) ?_
                refine wla rfl rfl (q_pick_t (v := (.bool ((!decide ((s4.2 % c10) = (0 : UInt64)))))) rfl rfl rfl) ?_
                refine wla rfl rfl (q_assign (v := (.bool ((!decide ((s4.2 % c10) = (0 : UInt64)))))) rfl rfl) ?_
                refine wl_nil ?_
                refine bk_n ?_
                refine W_th ?_
                refine W_reg (by kernel_rfl) ?_
                refine wla rfl rfl (q_addI rfl s17_8 rfl) ?_
                refine wla rfl rfl (q_move (v := (i64 ((wI (s7.2 + 1))))) rfl rfl) ?_
                refine wl_nil ?_
                obtain rfl := Option.some.inj H7
                exact ⟨_, rfl, s0_8, s3_8, s4_8, rfl, s15_8, s16_8, rfl, s35_8, hE8, o0_8, n0_8⟩
              · replace H7 := (if_neg (ne_true_of_eq_false hb11)).symm.trans H7
                refine wlk rfl rfl ?_
                refine wlk rfl rfl ?_
                refine wlk rfl rfl ?_
                refine wlk rfl rfl ?_
                refine wla rfl rfl (q_pick_f (v := (.bool false)) rfl rfl rfl) ?_
                refine wla rfl rfl (q_assign (v := (.bool false)) rfl rfl) ?_
                refine wl_nil ?_
                refine bk_n ?_
                refine W_th ?_
                refine W_reg (by kernel_rfl) ?_
                refine wla rfl rfl (q_addI rfl s17_8 rfl) ?_
                refine wla rfl rfl (q_move (v := (i64 ((wI (s7.2 + 1))))) rfl rfl) ?_
                refine wl_nil ?_
                obtain rfl := Option.some.inj H7
                exact ⟨_, rfl, s0_8, s3_8, s4_8, rfl, s15_8, s16_8, rfl, s35_8, hE8, o0_8, n0_8⟩
            · replace H7 := (if_neg (of_decide_eq_false hb9)).symm.trans H7
              refine W_exit ?_
              refine th_x ?_
              obtain rfl := Option.some.inj H7
              obtain rfl := hr7 _ rfl
              refine th_x ?_
              refine bk_x ?_
              exact ⟨s0_8, s3_8, s4_8, s5_8, s35_8, hE8, o0_8, n0_8⟩
        · rintro _ w14 ⟨s0_14, s3_14, s4_14, s5_14, s35_14, hE14, o0_14, n0_14⟩
          refine W_th ?_
          refine W_seq ?_
          refine W_reg (by kernel_rfl) ?_
          refine wla rfl rfl (q_move (v := (.bool x7)) rfl s5_14) ?_
          refine wl_nil ?_
          refine W_th ?_
          refine W_cond _ rfl rfl (fun hb15 => ?_) (fun hb15 => ?_)
          · replace H4 := (if_pos hb15).symm.trans H4
            refine W_reg (by kernel_rfl) ?_
            refine wla rfl rfl (q_move (v := v3_5) rfl s3_14) ?_
            refine wla rfl rfl (q_move (v := (u64 s4.2)) rfl s4_14) ?_
            refine wls rfl rfl (stp_lit (L := [v3_5]) (R := (Sc u64)) [(u64 s4.2)] ([s4.2] : List UInt64) rfl T71 rfl (by exact ⟨rfl, rfl, trivial⟩) rfl (litC u64 (oneC_u64) (us := [(u64 s4.2)]) (l := ([s4.2] : List UInt64)) rfl) rfl (litS u64 (us := [(u64 s4.2)]) (l := ([s4.2] : List UInt64)) rfl) ?_)
            intro v16 w16 o16 n16 g16 l16
            have x16 := grown_ext g16
            have i16 : W64 w16 [v3_5] v16 (([s4.2] : List UInt64)) := OwK.slk (Sc.stab _) _ o16 (fun k hk => (Old.cons (Old.nil _) o0_14.lt) k (n16 k hk)) (fun _ h => h.2)
            replace o0_14 := o0_14.extL (Sc.stab _) x16 (Lift.ext x16 _)
            have e17 := hE14.trans x16
            obtain ⟨c18, hc18, H4⟩ := Option.bind_eq_some_iff.1 H4
            refine wls rfl rfl (stp_append (R := (Sc u64)) (v := v3_5) (u := v16) (Sc.stab _) [] [] rfl T71 rfl rfl o0_14 i16 (fun _ _ h => h) hc18 oc_u64 ?_)
            intro v18 w18 o18 g18 nx18 l18
            replace i16 := i16.lift l18
            have e19 := e17.grown g18 n0_14
            have n20 := Nw.nxt e17 n0_14 nx18
            refine wla rfl rfl (q_assign (v := v18) rfl rfl) ?_
            refine wl_nil ?_
            refine bk_n ?_
            refine W_th ?_
            refine W_reg (by kernel_rfl) ?_
            refine wla rfl rfl (q_move (v := (u64 s4.2)) rfl s4_14) ?_
            refine wla rfl rfl (q_add64 rfl rfl (cst64 (1 : UInt64) rfl)) ?_
            refine wla rfl rfl (q_assign (v := (u64 ((s4.2 + (1 : UInt64))))) rfl rfl) ?_
            refine wl_nil ?_
            obtain rfl := Option.some.inj H4
            exact ⟨_, rfl, v18, s0_14, rfl, rfl, s35_14, e19, o18, n20⟩
          · replace H4 := (if_neg (ne_true_of_eq_false hb15)).symm.trans H4
            refine W_skip ?_
            refine bk_n ?_
            refine W_th ?_
            refine W_reg (by kernel_rfl) ?_
            refine wla rfl rfl (q_move (v := (u64 s4.2)) rfl s4_14) ?_
            refine wla rfl rfl (q_add64 rfl rfl (cst64 (1 : UInt64) rfl)) ?_
            refine wla rfl rfl (q_assign (v := (u64 ((s4.2 + (1 : UInt64))))) rfl rfl) ?_
            refine wl_nil ?_
            obtain rfl := Option.some.inj H4
            exact ⟨_, rfl, v3_5, s0_14, s3_14, rfl, s35_14, hE14, o0_14, n0_14⟩
      · replace H4 := (if_neg (of_decide_eq_false hb6)).symm.trans H4
        refine W_exit ?_
        refine th_x ?_
        obtain rfl := Option.some.inj H4
        obtain rfl := hr4 _ rfl
        refine th_x ?_
        refine bk_x ?_
        exact ⟨v3_5, s3_5, s35_5, hE5, o0_5, n0_5⟩
  · rintro _ w23 ⟨v3_23, s3_23, s35_23, hE23, o0_23, n0_23⟩
    refine W_th ?_
    refine W_seq ?_
    refine W_reg (by kernel_rfl) ?_
    refine wla rfl rfl (q_move (v := v3_23) rfl s3_23) ?_
    refine wla rfl rfl (q_assign (v := v3_23) rfl rfl) ?_
    refine wl_nil ?_
    refine W_th ?_
    refine W_ret ?_
    obtain rfl := Option.some.inj H
    refine rt1 v3_23 rfl rfl rfl s35_23 ?_
    exact ⟨v3_23, rfl, hE23, n0_23, (o0_23.weak (Sc.stab _) (fun _ _ => trivial))⟩

/-! largesse/largesseref07.Sum -/
noncomputable def ref07_Sum (a0b : List UInt8) : Option (List UInt8) :=
((lenA 64 ((List.replicate 64 (0 : UInt32)))).bind fun c9 =>
((lenA 8 ((List.replicate 8 (0 : UInt32)))).bind fun c12 =>
((ref07_Primes 64).bind fun r14 =>
((iterC (fun s16 : List UInt32 × List UInt32 × Int =>
(if s16.2.2 < (r14.length : Int) then
((idx r14 s16.2.2).bind fun c19 =>
((ref07_Fraction c19 3).bind fun r20 =>
((lenA 64 s16.1).bind fun c22 =>
((idx s16.1 s16.2.2).bind fun c23 =>
(if s16.2.2 < 8 then
((ref07_Fraction c19 2).bind fun r27 =>
((lenA 8 s16.2.1).bind fun c29 =>
((idx s16.2.1 s16.2.2).bind fun c30 => some (.inl ((s16.1.set (s16.2.2 : Int).toNat r20), (s16.2.1.set (s16.2.2 : Int).toNat r27), (wI (s16.2.2 + 1)))))))
else some (.inl ((s16.1.set (s16.2.2 : Int).toNat r20), s16.2.1, (wI (s16.2.2 + 1)))))))))
else some (.inr (s16.1, s16.2.1)))) ((List.replicate 64 (0 : UInt32)), (List.replicate 8 (0 : UInt32)), 0)).bind fun x16 =>
((appL (([] : List UInt8)) a0b).bind fun c40 =>
((appL c40 (([(128 : UInt8)] : List UInt8))).bind fun c47 =>
((iterC (fun s52 : List UInt8 =>
((remI ((s52.length : Int)) 64).bind fun c54 =>
(if c54 = 56 then some (.inr s52)
else
((appL s52 (([(0 : UInt8)] : List UInt8))).bind fun c58 => some (.inl c58))))) c47).bind fun x52 =>
((iterC (fun s65 : List UInt8 × Int =>
(if 0 ≤ s65.2 then
((cnt s65.2).bind fun c68 =>
((appL s65.1 (([(((shr64 (((UInt64.ofInt ((a0b.length : Int))) * (8 : UInt64))) c68)).toUInt8)] : List UInt8))).bind fun c71 => some (.inl (c71, (wI (s65.2 - 8))))))
else some (.inr s65.1))) (x52, 56)).bind fun x65 =>
((iterC (fun s78 : List UInt32 × Int =>
(if s78.2 < (x65.length : Int) then
((lenA 64 ((List.replicate 64 (0 : UInt32)))).bind fun c88 =>
((lenA 8 s78.1).bind fun c90 =>
((lenA 8 ((List.replicate 8 (0 : UInt32)))).bind fun c99 =>
((iterC (fun s101 : List UInt32 × List UInt32 × Int =>
(if s101.2.2 < 64 then
(((if s101.2.2 < 16 then
((idx x65 ((wI (s78.2 + (wI (4 * s101.2.2)))))).bind fun c108 =>
((idx x65 ((wI ((wI (s78.2 + (wI (4 * s101.2.2)))) + 1)))).bind fun c109 =>
((idx x65 ((wI ((wI (s78.2 + (wI (4 * s101.2.2)))) + 2)))).bind fun c110 =>
((idx x65 ((wI ((wI (s78.2 + (wI (4 * s101.2.2)))) + 3)))).bind fun c111 =>
((lenA 64 s101.1).bind fun c112 =>
((idx s101.1 s101.2.2).bind fun c113 => some (s101.1.set (s101.2.2 : Int).toNat (((((shl32 ((c108.toUInt32)) 24) ||| (shl32 ((c109.toUInt32)) 16)) ||| (shl32 ((c110.toUInt32)) 8)) ||| (c111.toUInt32))))))))))
else
((lenA 64 s101.1).bind fun c118 =>
((idx s101.1 ((wI (s101.2.2 - 2)))).bind fun c119 =>
((idx s101.1 ((wI (s101.2.2 - 7)))).bind fun c120 =>
((idx s101.1 ((wI (s101.2.2 - 15)))).bind fun c121 =>
((idx s101.1 ((wI (s101.2.2 - 16)))).bind fun c122 =>
((ref07_turn c119 17).bind fun r123 =>
((ref07_turn c119 19).bind fun r125 =>
((ref07_turn c121 7).bind fun r127 =>
((ref07_turn c121 18).bind fun r129 =>
((idx s101.1 s101.2.2).bind fun c131 => some (s101.1.set (s101.2.2 : Int).toNat ((((((r123 ^^^ r125) ^^^ (shr32 c119 10)) + c120) + ((r127 ^^^ r129) ^^^ (shr32 c121 3))) + c122))))))))))))))).bind fun x104 =>
((lenA 8 s101.2.1).bind fun c137 =>
((idx s101.2.1 7).bind fun c138 =>
((idx s101.2.1 4).bind fun c139 =>
((idx s101.2.1 5).bind fun c140 =>
((idx s101.2.1 6).bind fun c141 =>
((lenA 64 x16.1).bind fun c142 =>
((idx x16.1 s101.2.2).bind fun c143 =>
((lenA 64 x104).bind fun c144 =>
((idx x104 s101.2.2).bind fun c145 =>
((ref07_turn c139 6).bind fun r146 =>
((ref07_turn c139 11).bind fun r148 =>
((ref07_turn c139 25).bind fun r150 =>
((lenA 8 s101.2.1).bind fun c154 =>
((idx s101.2.1 0).bind fun c155 =>
((idx s101.2.1 1).bind fun c156 =>
((idx s101.2.1 2).bind fun c157 =>
((ref07_turn c155 2).bind fun r158 =>
((ref07_turn c155 13).bind fun r160 =>
((ref07_turn c155 22).bind fun r162 =>
((lenA 8 s101.2.1).bind fun c164 =>
((idx s101.2.1 0).bind fun c165 =>
((idx s101.2.1 1).bind fun c166 =>
((idx s101.2.1 2).bind fun c167 =>
((idx s101.2.1 3).bind fun c168 =>
((idx s101.2.1 4).bind fun c169 =>
((idx s101.2.1 5).bind fun c170 =>
((idx s101.2.1 6).bind fun c171 =>
((lenA 8 (([(((((c138 + ((r146 ^^^ r148) ^^^ r150)) + ((c139 &&& c140) ^^^ (((4294967295 : UInt32) ^^^ c139) &&& c141))) + c143) + c145) + (((r158 ^^^ r160) ^^^ r162) + (((c155 &&& c156) ^^^ (c155 &&& c157)) ^^^ (c156 &&& c157)))), c165, c166, c167, (c168 + ((((c138 + ((r146 ^^^ r148) ^^^ r150)) + ((c139 &&& c140) ^^^ (((4294967295 : UInt32) ^^^ c139) &&& c141))) + c143) + c145)), c169, c170, c171] : List UInt32))).bind fun c173 => some (.inl (x104, ([(((((c138 + ((r146 ^^^ r148) ^^^ r150)) + ((c139 &&& c140) ^^^ (((4294967295 : UInt32) ^^^ c139) &&& c141))) + c143) + c145) + (((r158 ^^^ r160) ^^^ r162) + (((c155 &&& c156) ^^^ (c155 &&& c157)) ^^^ (c156 &&& c157)))), c165, c166, c167, (c168 + ((((c138 + ((r146 ^^^ r148) ^^^ r150)) + ((c139 &&& c140) ^^^ (((4294967295 : UInt32) ^^^ c139) &&& c141))) + c143) + c145)), c169, c170, c171] : List UInt32), (wI (s101.2.2 + 1)))))))))))))))))))))))))))))))))
else some (.inr s101.2.1))) ((List.replicate 64 (0 : UInt32)), s78.1, 0)).bind fun x101 =>
((iterC (fun s178 : List UInt32 × Int =>
(if s178.2 < 8 then
((lenA 8 s178.1).bind fun c183 =>
((idx s178.1 s178.2).bind fun c184 =>
((lenA 8 x101).bind fun c185 =>
((idx x101 s178.2).bind fun c186 => some (.inl ((s178.1.set (s178.2 : Int).toNat ((c184 + c186))), (wI (s178.2 + 1))))))))
else some (.inr s178.1))) (s78.1, 0)).bind fun x178 => some (.inl (x178, (wI (s78.2 + 64)))))))))
else some (.inr s78.1))) (x16.2, 0)).bind fun x78 =>
((lenA 8 x78).bind fun c199 =>
((iterC (fun s200 : List UInt8 × Int =>
(if s200.2 < 8 then
((lenA 8 x78).bind fun c203 =>
((idx x78 s200.2).bind fun c204 =>
((appL s200.1 (([(((shr32 c204 24)).toUInt8), (((shr32 c204 16)).toUInt8), (((shr32 c204 8)).toUInt8), (c204.toUInt8)] : List UInt8))).bind fun c207 => some (.inl (c207, (wI (s200.2 + 1)))))))
else some (.inr s200.1))) (([] : List UInt8), 0)).bind fun x200 => some x200)))))))))))
set_option maxRecDepth 100000 in
set_option maxHeartbeats 8000000 in
theorem ref07_Sum_calls (a0b : List UInt8) (p0 : Value) (r : List UInt8) (w0 : World) (hp0 : By w0 [] p0 a0b) (H : ref07_Sum a0b = some r) :
    Calls Try.prog 23 [p0].toArray w0 (fun e w' => ∃ u0 : Value, e = .returned u0 ∧ Ext w0 w' ∧ Nw w0 u0 ∧ OwK (Sc u8) w' [] 5 u0 r) := by
  have hE : Ext w0 w0 := Ext.refl w0
  unfold ref07_Sum at H
  refine calls_W (n := 288) Try.func23 rfl rfl rfl ?_
  refine W_seq ?_
  refine W_reg (by kernel_rfl) ?_
  refine wla rfl rfl (q_assign (v := (.slice none 0 0)) rfl rfl) ?_
  refine wl_nil ?_
  refine W_th ?_
  refine W_seq ?_
  refine W_reg (by kernel_rfl) ?_
  refine wla rfl rfl (q_buildA0 (l := ([] : List UInt32)) (us := []) (z := (0 : UInt32)) rfl A69 Z69 (by exact trivial) rfl rfl cel_u32) ?_
  refine wla rfl rfl (q_buildA0 (l := ([] : List UInt32)) (us := []) (z := (0 : UInt32)) rfl A70 Z70 (by exact trivial) rfl rfl cel_u32) ?_
  refine wls rfl rfl (stp_allocL (z := (ag u32 ((List.replicate 64 (0 : UInt32))))) (cs := (ac u32 ((List.replicate 64 (0 : UInt32))))) [] rfl Z69 rfl ?_)
  intro g1 w1 o1 n1 g1r l1
  have x1 := grown_ext g1r
  have n3 := Nw.ext hE n1
  have e2 := hE.trans x1
  refine wls rfl rfl (stp_allocL (z := (ag u32 ((List.replicate 8 (0 : UInt32))))) (cs := (ac u32 ((List.replicate 8 (0 : UInt32))))) [(bp g1)] rfl Z70 rfl ?_)
  intro g4 w4 o4 n4 g4r l4
  have x4 := grown_ext g4r
  have q5 : Nq (bp g1) (bp g4) := o1.nq n4
  replace o1 := o1.ext x4
  have n7 := Nw.ext e2 n4
  have e6 := e2.trans x4
  obtain ⟨c9, hc9, H⟩ := Option.bind_eq_some_iff.1 H
  refine wln rfl rfl (stp_storeA [(bp g4)] [] rfl A69 rfl rfl (lenA_eq hc9) (lenA_eq hc9) o1 one_u32 ?_)
  intro w8 o8 g8 l8
  replace o4 := o4.other g8 q5.symm
  have e10 := e6.grown g8 n3
  obtain ⟨c12, hc12, H⟩ := Option.bind_eq_some_iff.1 H
  refine wln rfl rfl (stp_storeA [] [(bp g1)] rfl A70 rfl rfl (lenA_eq hc12) (lenA_eq hc12) o4 one_u32 ?_)
  intro w11 o11 g11 l11
  replace o8 := o8.other g11 q5
  have e13 := e10.grown g11 n7
  refine wl_nil ?_
  refine W_th ?_
  refine W_seq ?_
  refine W_seq ?_
  refine W_reg (by kernel_rfl) ?_
  obtain ⟨r14, hr14, H⟩ := Option.bind_eq_some_iff.1 H
  refine wls rfl rfl (stp_call (vs := [(i64 64)]) Try.func46 rfl rfl rfl (ar1 rfl) (ref07_Primes_calls 64  r14 _  hr14) ?_)
  rintro _ w14 ⟨v14, rfl, x14, n14_0, o14_0⟩
  refine ⟨_, rfl, ?_⟩
  have i14_0 : W64 w14 [(bp g4), (bp g1)] v14 r14 := OwK.slk (Sc.stab _) _ (OwK.scal o14_0 (v14 :: [(bp g4), (bp g1)])) (fun k hk => (Old.cons (Old.cons (Old.nil _) o8.ltB) o11.ltB) k (n14_0 k hk)) (fun _ h => h.2)
  replace o11 := o11.ext x14
  replace o8 := o8.ext x14
  have e15 := e13.trans x14
  refine wla rfl rfl (q_len rfl T71.sl rfl i14_0) ?_
  refine wla rfl rfl (q_move (v := (i64 0)) rfl rfl) ?_
  refine wl_nil ?_
  refine W_th ?_
  obtain ⟨x16, G16, H⟩ := Option.bind_eq_some_iff.1 H
  refine W_mid (fun f w => f 0 = p0 ∧ f 3 = (bp g1) ∧ f 4 = (bp g4) ∧ f 288 = undef ∧ Ext w0 w ∧ Blk w g1 69 (ac u32 x16.1) ∧ Nw w0 (bp g1) ∧ Blk w g4 70 (ac u32 x16.2) ∧ Nw w0 (bp g4) ∧ Nq (bp g1) (bp g4)) ?_ ?_
  · refine W_block ?_
    refine W_loop (fun s16 f w => f 0 = p0 ∧ f 3 = (bp g1) ∧ f 4 = (bp g4) ∧ f 21 = v14 ∧ f 22 = (i64 ((r14.length : Int))) ∧ f 23 = (i64 s16.2.2) ∧ f 288 = undef ∧ Ext w0 w ∧ Blk w g1 69 (ac u32 s16.1) ∧ Nw w0 (bp g1) ∧ Blk w g4 70 (ac u32 s16.2.1) ∧ Nw w0 (bp g4) ∧ Nq (bp g1) (bp g4) ∧ W64 w [(bp g1), (bp g4)] v14 r14) G16 ?_ ?_
    · exact ⟨rfl, rfl, rfl, rfl, rfl, rfl, rfl, e15, o8, n3, o11, n7, q5, (i14_0.lift (Lift.sub (fun _ h => ⟨h.2.1, h.1, trivial⟩)))⟩
    · rintro s16 _ _ w17 ⟨s0_17, s3_17, s4_17, s21_17, s22_17, s23_17, s288_17, hE17, o0_17, n0_17, o1_17, n1_17, q0_1_17, i0_17⟩ H16 hr16
      refine W_seq ?_
      refine W_reg (by kernel_rfl) ?_
      refine wla rfl rfl (q_ltI rfl s23_17 s22_17) ?_
      refine wl_nil ?_
      refine W_th ?_
      refine W_seq ?_
      refine W_cond _ rfl rfl (fun hb18 => ?_) (fun hb18 => ?_)
      · replace H16 := (if_pos (of_decide_eq_true hb18)).symm.trans H16
        refine W_skip ?_
        refine W_th ?_
        refine W_seq ?_
        refine W_block ?_
        refine W_seq ?_
        refine W_reg (by kernel_rfl) ?_
        refine wla rfl rfl (q_move (v := (i64 s16.2.2)) rfl s23_17) ?_
        obtain ⟨c19, hc19, H16⟩ := Option.bind_eq_some_iff.1 H16
        refine wla rfl rfl (q_adr rfl T71 s21_17 s23_17 i0_17 hc19) ?_
        refine wlq rfl rfl (q_loadS rfl T71 rfl i0_17 hc19) ?_
        refine wla rfl rfl (q_assign (v := (i64 s16.2.2)) rfl rfl) ?_
        refine wla rfl rfl (q_assign (v := (u64 c19)) rfl rfl) ?_
        refine wl_nil ?_
        refine W_th ?_
        refine W_seq ?_
        refine W_reg (by kernel_rfl) ?_
        refine wla rfl rfl (q_move (v := (i64 s16.2.2)) rfl rfl) ?_
        refine wla rfl rfl (q_move (v := (u64 c19)) rfl rfl) ?_
        obtain ⟨r20, hr20, H16⟩ := Option.bind_eq_some_iff.1 H16
        refine wls rfl rfl (stp_call (vs := [(u64 c19), (i64 3)]) Try.func47 rfl rfl rfl (ar2 rfl rfl) (ref07_Fraction_calls c19 3  r20 _  hr20) ?_)
        rintro _ w20 ⟨rfl, x20⟩
        refine ⟨_, rfl, ?_⟩
        replace i0_17 := i0_17.lift (Lift.ext x20 _)
        replace o0_17 := o0_17.ext x20
        replace o1_17 := o1_17.ext x20
        have e21 := hE17.trans x20
        obtain ⟨c22, hc22, H16⟩ := Option.bind_eq_some_iff.1 H16
        obtain ⟨c23, hc23, H16⟩ := Option.bind_eq_some_iff.1 H16
        refine wla rfl rfl (q_ixA (m := 0) rfl A69 (by exact s3_17) rfl (lenA_eq hc22) hc23) ?_
        refine wln rfl rfl (stp_storeX (b := r20) [] [(bp g4)] rfl A69 rfl rfl o0_17 hc23 (one_u32 _) ?_)
        intro w24 o24 g24 l24
        replace i0_17 := i0_17.lift l24
        replace o1_17 := o1_17.other g24 q0_1_17.symm
        have e25 := e21.grown g24 n0_17
        refine wl_nil ?_
        refine W_th ?_
        refine W_seq ?_
        refine W_reg (by kernel_rfl) ?_
        refine wla rfl rfl (q_move (v := (i64 s16.2.2)) rfl rfl) ?_
        refine wla rfl rfl (q_ltI rfl rfl rfl) ?_
        refine wl_nil ?_
        refine W_th ?_
        refine W_cond _ rfl rfl (fun hb26 => ?_) (fun hb26 => ?_)
        · replace H16 := (if_pos (of_decide_eq_true hb26)).symm.trans H16
          refine W_reg (by kernel_rfl) ?_
          refine wla rfl rfl (q_move (v := (i64 s16.2.2)) rfl rfl) ?_
          refine wla rfl rfl (q_move (v := (u64 c19)) rfl rfl) ?_
          obtain ⟨r27, hr27, H16⟩ := Option.bind_eq_some_iff.1 H16
          refine wls rfl rfl (stp_call (vs := [(u64 c19), (i64 2)]) Try.func47 rfl rfl rfl (ar2 rfl rfl) (ref07_Fraction_calls c19 2  r27 _  hr27) ?_)
          rintro _ w27 ⟨rfl, x27⟩
          refine ⟨_, rfl, ?_⟩
          replace i0_17 := i0_17.lift (Lift.ext x27 _)
          replace o24 := o24.ext x27
          replace o1_17 := o1_17.ext x27
          have e28 := e25.trans x27
          obtain ⟨c29, hc29, H16⟩ := Option.bind_eq_some_iff.1 H16
          obtain ⟨c30, hc30, H16⟩ := Option.bind_eq_some_iff.1 H16
          refine wla rfl rfl (q_ixA (m := 0) rfl A70 (by exact s4_17) rfl (lenA_eq hc29) hc30) ?_
          refine wln rfl rfl (stp_storeX (b := r27) [(bp g1)] [] rfl A70 rfl rfl o1_17 hc30 (one_u32 _) ?_)
          intro w31 o31 g31 l31
          replace i0_17 := i0_17.lift l31
          replace o24 := o24.other g31 q0_1_17
          have e32 := e28.grown g31 n1_17
          refine wl_nil ?_
          refine bk_n ?_
          refine W_th ?_
          refine W_reg (by kernel_rfl) ?_
          refine wla rfl rfl (q_addI rfl s23_17 rfl) ?_
          refine wla rfl rfl (q_move (v := (i64 ((wI (s16.2.2 + 1))))) rfl rfl) ?_
          refine wl_nil ?_
          obtain rfl := Option.some.inj H16
          exact ⟨_, rfl, s0_17, s3_17, s4_17, s21_17, s22_17, rfl, s288_17, e32, o24, n0_17, o31, n1_17, q0_1_17, i0_17⟩
        · replace H16 := (if_neg (of_decide_eq_false hb26)).symm.trans H16
          refine W_skip ?_
          refine bk_n ?_
          refine W_th ?_
          refine W_reg (by kernel_rfl) ?_
          refine wla rfl rfl (q_addI rfl s23_17 rfl) ?_
          refine wla rfl rfl (q_move (v := (i64 ((wI (s16.2.2 + 1))))) rfl rfl) ?_
          refine wl_nil ?_
          obtain rfl := Option.some.inj H16
          exact ⟨_, rfl, s0_17, s3_17, s4_17, s21_17, s22_17, rfl, s288_17, e25, o24, n0_17, o1_17, n1_17, q0_1_17, i0_17⟩
      · replace H16 := (if_neg (of_decide_eq_false hb18)).symm.trans H16
        refine W_exit ?_
        refine th_x ?_
        obtain rfl := Option.some.inj H16
        obtain rfl := hr16 _ rfl
        refine th_x ?_
        refine bk_x ?_
        exact ⟨s0_17, s3_17, s4_17, s288_17, hE17, o0_17, n0_17, o1_17, n1_17, q0_1_17⟩
  · rintro _ w34 ⟨s0_34, s3_34, s4_34, s288_34, hE34, o0_34, n0_34, o1_34, n1_34, q0_1_34⟩
    refine W_th ?_
    refine W_seq ?_
    refine W_reg (by kernel_rfl) ?_
    refine wls rfl rfl (stp_lit (L := [(bp g1), (bp g4)]) (R := (Sc u8)) [] ([] : List UInt8) rfl T22 rfl (by exact trivial) rfl (litC u8 (oneC_u8) (us := []) (l := ([] : List UInt8)) rfl) rfl (litS u8 (us := []) (l := ([] : List UInt8)) rfl) ?_)
    intro v35 w35 o35 n35 g35 l35
    have x35 := grown_ext g35
    have q36 : Nq (bp g1) v35 := o0_34.nq n35
    have q37 : Nq (bp g4) v35 := o1_34.nq n35
    replace o0_34 := o0_34.ext x35
    replace o1_34 := o1_34.ext x35
    have n39 := Nw.ext hE34 n35
    have e38 := hE34.trans x35
    refine wla rfl rfl (q_move (v := p0) rfl s0_34) ?_
    obtain ⟨c40, hc40, H⟩ := Option.bind_eq_some_iff.1 H
    refine wls rfl rfl (stp_append (R := (Sc u8)) (v := v35) (u := p0) (Sc.stab _) [] [(bp g1), (bp g4)] rfl T22 rfl rfl o35 (hp0.lift (Lift.ext e38 _)) (fun _ _ h => h) hc40 oc_u8 ?_)
    intro v40 w40 o40 g40 nx40 l40
    have q41 : Nq (bp g1) v40 := o0_34.nxt q36 nx40
    have q42 : Nq (bp g4) v40 := o1_34.nxt q37 nx40
    replace o0_34 := o0_34.other g40 q36
    replace o1_34 := o1_34.other g40 q37
    have e43 := e38.grown g40 n39
    have n44 := Nw.nxt e38 n39 nx40
    refine wla rfl rfl (q_assign (v := v40) rfl rfl) ?_
    refine wl_nil ?_
    refine W_th ?_
    refine W_seq ?_
    refine W_reg (by kernel_rfl) ?_
    refine wla rfl rfl (q_move (v := v40) rfl rfl) ?_
    refine wls rfl rfl (stp_lit (L := [v40, (bp g1), (bp g4)]) (R := (Sc u8)) [(u8 128)] ([(128 : UInt8)] : List UInt8) rfl T22 rfl (by exact ⟨rfl, (cst8 (128 : UInt8) rfl), trivial⟩) rfl (litC u8 (oneC_u8) (us := [(u8 128)]) (l := ([(128 : UInt8)] : List UInt8)) rfl) rfl (litS u8 (us := [(u8 128)]) (l := ([(128 : UInt8)] : List UInt8)) rfl) ?_)
    intro v45 w45 o45 n45 g45 l45
    have x45 := grown_ext g45
    have i45 : By w45 [v40, (bp g1), (bp g4)] v45 (([(128 : UInt8)] : List UInt8)) := OwK.slk (Sc.stab _) _ o45 (fun k hk => (Old.cons (Old.cons (Old.cons (Old.nil _) o1_34.ltB) o0_34.ltB) o40.lt) k (n45 k hk)) (fun _ h => h.2)
    replace o40 := o40.extL (Sc.stab _) x45 (Lift.ext x45 _)
    replace o0_34 := o0_34.ext x45
    replace o1_34 := o1_34.ext x45
    have e46 := e43.trans x45
    obtain ⟨c47, hc47, H⟩ := Option.bind_eq_some_iff.1 H
    refine wls rfl rfl (stp_append (R := (Sc u8)) (v := v40) (u := v45) (Sc.stab _) [] [(bp g1), (bp g4)] rfl T22 rfl rfl o40 i45 (fun _ _ h => h) hc47 oc_u8 ?_)
    intro v47 w47 o47 g47 nx47 l47
    replace i45 := i45.lift l47
    have q48 : Nq (bp g1) v47 := o0_34.nxt q41 nx47
    have q49 : Nq (bp g4) v47 := o1_34.nxt q42 nx47
    replace o0_34 := o0_34.other g47 q41
    replace o1_34 := o1_34.other g47 q42
    have e50 := e46.grown g47 n44
    have n51 := Nw.nxt e46 n44 nx47
    refine wla rfl rfl (q_assign (v := v47) rfl rfl) ?_
    refine wl_nil ?_
    refine W_th ?_
    refine W_seq ?_
    obtain ⟨x52, G52, H⟩ := Option.bind_eq_some_iff.1 H
    refine W_mid (fun f w => ∃ v7_215 : Value, f 0 = p0 ∧ f 3 = (bp g1) ∧ f 4 = (bp g4) ∧ f 7 = v7_215 ∧ f 288 = undef ∧ Ext w0 w ∧ OwK (Sc u8) w [v7_215, (bp g1), (bp g4)] 5 v7_215 x52 ∧ Nw w0 v7_215 ∧ Blk w g1 69 (ac u32 x16.1) ∧ Nw w0 (bp g1) ∧ Blk w g4 70 (ac u32 x16.2) ∧ Nw w0 (bp g4) ∧ Nq v7_215 (bp g1) ∧ Nq v7_215 (bp g4) ∧ Nq (bp g1) (bp g4)) ?_ ?_
    · refine W_block ?_
      refine W_loop (fun s52 f w => ∃ v7_63 : Value, f 0 = p0 ∧ f 3 = (bp g1) ∧ f 4 = (bp g4) ∧ f 7 = v7_63 ∧ f 288 = undef ∧ Ext w0 w ∧ OwK (Sc u8) w [v7_63, (bp g1), (bp g4)] 5 v7_63 s52 ∧ Nw w0 v7_63 ∧ Blk w g1 69 (ac u32 x16.1) ∧ Nw w0 (bp g1) ∧ Blk w g4 70 (ac u32 x16.2) ∧ Nw w0 (bp g4) ∧ Nq v7_63 (bp g1) ∧ Nq v7_63 (bp g4) ∧ Nq (bp g1) (bp g4)) G52 ?_ ?_
      · exact ⟨v47, s0_34, s3_34, s4_34, rfl, s288_34, e50, o47, n51, o0_34, n0_34, o1_34, n1_34, q48.symm, q49.symm, q0_1_34⟩
      · rintro s52 _ _ w53 ⟨v7_53, s0_53, s3_53, s4_53, s7_53, s288_53, hE53, o0_53, n0_53, o1_53, n1_53, o2_53, n2_53, q0_1_53, q0_2_53, q1_2_53⟩ H52 hr52
        refine W_seq ?_
        refine W_seq ?_
        refine W_reg (by kernel_rfl) ?_
        refine wla rfl rfl (q_move (v := v7_53) rfl s7_53) ?_
        refine wla rfl rfl (q_len rfl T22.sl rfl (o0_53.rd (Sc.stab _))) ?_
        obtain ⟨c54, hc54, H52⟩ := Option.bind_eq_some_iff.1 H52
        refine wla rfl rfl (q_remI rfl rfl rfl hc54) ?_
        refine wla rfl rfl (q_neI rfl rfl rfl) ?_
        refine wl_nil ?_
        refine W_th ?_
        refine W_cond _ rfl rfl (fun hb55 => ?_) (fun hb55 => ?_)
        · replace H52 := (if_neg (ndec_t hb55)).symm.trans H52
          refine W_skip ?_
          refine W_th ?_
          refine W_block ?_
          refine W_reg (by kernel_rfl) ?_
          refine wla rfl rfl (q_move (v := v7_53) rfl s7_53) ?_
          refine wls rfl rfl (stp_lit (L := [v7_53, (bp g1), (bp g4)]) (R := (Sc u8)) [(u8 0)] ([(0 : UInt8)] : List UInt8) rfl T22 rfl (by exact ⟨rfl, (cst8 (0 : UInt8) rfl), trivial⟩) rfl (litC u8 (oneC_u8) (us := [(u8 0)]) (l := ([(0 : UInt8)] : List UInt8)) rfl) rfl (litS u8 (us := [(u8 0)]) (l := ([(0 : UInt8)] : List UInt8)) rfl) ?_)
          intro v56 w56 o56 n56 g56 l56
          have x56 := grown_ext g56
          have i56 : By w56 [v7_53, (bp g1), (bp g4)] v56 (([(0 : UInt8)] : List UInt8)) := OwK.slk (Sc.stab _) _ o56 (fun k hk => (Old.cons (Old.cons (Old.cons (Old.nil _) o2_53.ltB) o1_53.ltB) o0_53.lt) k (n56 k hk)) (fun _ h => h.2)
          replace o0_53 := o0_53.extL (Sc.stab _) x56 (Lift.ext x56 _)
          replace o1_53 := o1_53.ext x56
          replace o2_53 := o2_53.ext x56
          have e57 := hE53.trans x56
          obtain ⟨c58, hc58, H52⟩ := Option.bind_eq_some_iff.1 H52
          refine wls rfl rfl (stp_append (R := (Sc u8)) (v := v7_53) (u := v56) (Sc.stab _) [] [(bp g1), (bp g4)] rfl T22 rfl rfl o0_53 i56 (fun _ _ h => h) hc58 oc_u8 ?_)
          intro v58 w58 o58 g58 nx58 l58
          replace i56 := i56.lift l58
          have q59 : Nq (bp g1) v58 := o1_53.nxt q0_1_53.symm nx58
          have q60 : Nq (bp g4) v58 := o2_53.nxt q0_2_53.symm nx58
          replace o1_53 := o1_53.other g58 q0_1_53.symm
          replace o2_53 := o2_53.other g58 q0_2_53.symm
          have e61 := e57.grown g58 n0_53
          have n62 := Nw.nxt e57 n0_53 nx58
          refine wla rfl rfl (q_assign (v := v58) rfl rfl) ?_
          refine wl_nil ?_
          refine bk_n ?_
          obtain rfl := Option.some.inj H52
          exact ⟨_, rfl, v58, s0_53, s3_53, s4_53, rfl, s288_53, e61, o58, n62, o1_53, n1_53, o2_53, n2_53, q59.symm, q60.symm, q1_2_53⟩
        · replace H52 := (if_pos (ndec_f hb55)).symm.trans H52
          refine W_exit ?_
          refine th_x ?_
          obtain rfl := Option.some.inj H52
          obtain rfl := hr52 _ rfl
          refine th_x ?_
          refine bk_x ?_
          exact ⟨v7_53, s0_53, s3_53, s4_53, s7_53, s288_53, hE53, o0_53, n0_53, o1_53, n1_53, o2_53, n2_53, q0_1_53, q0_2_53, q1_2_53⟩
    · rintro _ w64 ⟨v7_64, s0_64, s3_64, s4_64, s7_64, s288_64, hE64, o0_64, n0_64, o1_64, n1_64, o2_64, n2_64, q0_1_64, q0_2_64, q1_2_64⟩
      refine W_th ?_
      refine W_seq ?_
      refine W_seq ?_
      refine W_reg (by kernel_rfl) ?_
      refine wla rfl rfl (q_assign (v := (i64 56)) rfl rfl) ?_
      refine wl_nil ?_
      refine W_th ?_
      obtain ⟨x65, G65, H⟩ := Option.bind_eq_some_iff.1 H
      refine W_mid (fun f w => ∃ v7_214 : Value, f 3 = (bp g1) ∧ f 4 = (bp g4) ∧ f 7 = v7_214 ∧ f 288 = undef ∧ Ext w0 w ∧ OwK (Sc u8) w [v7_214, (bp g1), (bp g4)] 5 v7_214 x65 ∧ Nw w0 v7_214 ∧ Blk w g1 69 (ac u32 x16.1) ∧ Nw w0 (bp g1) ∧ Blk w g4 70 (ac u32 x16.2) ∧ Nw w0 (bp g4) ∧ Nq v7_214 (bp g1) ∧ Nq v7_214 (bp g4) ∧ Nq (bp g1) (bp g4)) ?_ ?_
      · refine W_block ?_
        refine W_loop (fun s65 f w => ∃ v7_76 : Value, f 0 = p0 ∧ f 3 = (bp g1) ∧ f 4 = (bp g4) ∧ f 7 = v7_76 ∧ f 8 = (i64 s65.2) ∧ f 288 = undef ∧ Ext w0 w ∧ OwK (Sc u8) w [v7_76, (bp g1), (bp g4)] 5 v7_76 s65.1 ∧ Nw w0 v7_76 ∧ Blk w g1 69 (ac u32 x16.1) ∧ Nw w0 (bp g1) ∧ Blk w g4 70 (ac u32 x16.2) ∧ Nw w0 (bp g4) ∧ Nq v7_76 (bp g1) ∧ Nq v7_76 (bp g4) ∧ Nq (bp g1) (bp g4)) G65 ?_ ?_
        · exact ⟨v7_64, s0_64, s3_64, s4_64, s7_64, rfl, s288_64, hE64, o0_64, n0_64, o1_64, n1_64, o2_64, n2_64, q0_1_64, q0_2_64, q1_2_64⟩
        · rintro s65 _ _ w66 ⟨v7_66, s0_66, s3_66, s4_66, s7_66, s8_66, s288_66, hE66, o0_66, n0_66, o1_66, n1_66, o2_66, n2_66, q0_1_66, q0_2_66, q1_2_66⟩ H65 hr65
          refine W_seq ?_
          refine W_seq ?_
          refine W_reg (by kernel_rfl) ?_
          refine wla rfl rfl (q_move (v := (i64 s65.2)) rfl s8_66) ?_
          refine wla rfl rfl (q_geI rfl rfl rfl) ?_
          refine wl_nil ?_
          refine W_th ?_
          refine W_cond _ rfl rfl (fun hb67 => ?_) (fun hb67 => ?_)
          · replace H65 := (if_pos (of_decide_eq_true hb67)).symm.trans H65
            refine W_skip ?_
            refine W_th ?_
            refine W_seq ?_
            refine W_block ?_
            refine W_reg (by kernel_rfl) ?_
            refine wla rfl rfl (q_move (v := v7_66) rfl s7_66) ?_
            refine wla rfl rfl (q_move (v := p0) rfl s0_66) ?_
            refine wla rfl rfl (q_len rfl T22.sl rfl (hp0.lift (Lift.ext hE66 _))) ?_
            refine wla rfl rfl (q_cvt64I rfl rfl rfl rfl) ?_
            refine wla rfl rfl (q_mul64 rfl rfl (cst64 (8 : UInt64) rfl)) ?_
            refine wla rfl rfl (q_move (v := (i64 s65.2)) rfl s8_66) ?_
            obtain ⟨c68, hc68, H65⟩ := Option.bind_eq_some_iff.1 H65
            refine wla rfl rfl (q_shr64 c68 rfl rfl rfl (cnt_eq hc68)) ?_
            refine wla rfl rfl (q_cvt864 rfl rfl rfl rfl) ?_
            refine wls rfl rfl (stp_lit (L := [v7_66, (bp g1), (bp g4)]) (R := (Sc u8)) [(u8 ((((shr64 (((UInt64.ofInt ((a0b.length : Int))) * (8 : UInt64))) c68)).toUInt8)))] ([(((shr64 (((UInt64.ofInt ((a0b.length : Int))) * (8 : UInt64))) c68)).toUInt8)] : List UInt8) rfl T22 rfl (by exact ⟨rfl, rfl, trivial⟩) rfl (litC u8 (oneC_u8) (us := [(u8 ((((shr64 (((UInt64.ofInt ((a0b.length : Int))) * (8 : UInt64))) c68)).toUInt8)))]) (l := ([(((shr64 (((UInt64.ofInt ((a0b.length : Int))) * (8 : UInt64))) c68)).toUInt8)] : List UInt8)) rfl) rfl (litS u8 (us := [(u8 ((((shr64 (((UInt64.ofInt ((a0b.length : Int))) * (8 : UInt64))) c68)).toUInt8)))]) (l := ([(((shr64 (((UInt64.ofInt ((a0b.length : Int))) * (8 : UInt64))) c68)).toUInt8)] : List UInt8)) rfl) ?_)
            intro v69 w69 o69 n69 g69 l69
            have x69 := grown_ext g69
            have i69 : By w69 [v7_66, (bp g1), (bp g4)] v69 (([(((shr64 (((UInt64.ofInt ((a0b.length : Int))) * (8 : UInt64))) c68)).toUInt8)] : List UInt8)) := OwK.slk (Sc.stab _) _ o69 (fun k hk => (Old.cons (Old.cons (Old.cons (Old.nil _) o2_66.ltB) o1_66.ltB) o0_66.lt) k (n69 k hk)) (fun _ h => h.2)
            replace o0_66 := o0_66.extL (Sc.stab _) x69 (Lift.ext x69 _)
            replace o1_66 := o1_66.ext x69
            replace o2_66 := o2_66.ext x69
            have e70 := hE66.trans x69
            obtain ⟨c71, hc71, H65⟩ := Option.bind_eq_some_iff.1 H65
            refine wls rfl rfl (stp_append (R := (Sc u8)) (v := v7_66) (u := v69) (Sc.stab _) [] [(bp g1), (bp g4)] rfl T22 rfl rfl o0_66 i69 (fun _ _ h => h) hc71 oc_u8 ?_)
            intro v71 w71 o71 g71 nx71 l71
            replace i69 := i69.lift l71
            have q72 : Nq (bp g1) v71 := o1_66.nxt q0_1_66.symm nx71
            have q73 : Nq (bp g4) v71 := o2_66.nxt q0_2_66.symm nx71
            replace o1_66 := o1_66.other g71 q0_1_66.symm
            replace o2_66 := o2_66.other g71 q0_2_66.symm
            have e74 := e70.grown g71 n0_66
            have n75 := Nw.nxt e70 n0_66 nx71
            refine wla rfl rfl (q_assign (v := v71) rfl rfl) ?_
            refine wl_nil ?_
            refine bk_n ?_
            refine W_th ?_
            refine W_reg (by kernel_rfl) ?_
            refine wla rfl rfl (q_move (v := (i64 s65.2)) rfl s8_66) ?_
            refine wla rfl rfl (q_subI rfl rfl rfl) ?_
            refine wla rfl rfl (q_assign (v := (i64 ((wI (s65.2 - 8))))) rfl rfl) ?_
            refine wl_nil ?_
            obtain rfl := Option.some.inj H65
            exact ⟨_, rfl, v71, s0_66, s3_66, s4_66, rfl, rfl, s288_66, e74, o71, n75, o1_66, n1_66, o2_66, n2_66, q72.symm, q73.symm, q1_2_66⟩
          · replace H65 := (if_neg (of_decide_eq_false hb67)).symm.trans H65
            refine W_exit ?_
            refine th_x ?_
            obtain rfl := Option.some.inj H65
            obtain rfl := hr65 _ rfl
            refine th_x ?_
            refine bk_x ?_
            exact ⟨v7_66, s3_66, s4_66, s7_66, s288_66, hE66, o0_66, n0_66, o1_66, n1_66, o2_66, n2_66, q0_1_66, q0_2_66, q1_2_66⟩
      · rintro _ w77 ⟨v7_77, s3_77, s4_77, s7_77, s288_77, hE77, o0_77, n0_77, o1_77, n1_77, o2_77, n2_77, q0_1_77, q0_2_77, q1_2_77⟩
        refine W_th ?_
        refine W_seq ?_
        refine W_seq ?_
        refine W_reg (by kernel_rfl) ?_
        refine wla rfl rfl (q_assign (v := (i64 0)) rfl rfl) ?_
        refine wl_nil ?_
        refine W_th ?_
        obtain ⟨x78, G78, H⟩ := Option.bind_eq_some_iff.1 H
        refine W_mid (fun f w => f 4 = (bp g4) ∧ f 288 = undef ∧ Ext w0 w ∧ Blk w g4 70 (ac u32 x78) ∧ Nw w0 (bp g4)) ?_ ?_
        · refine W_block ?_
          refine W_loop (fun s78 f w => f 3 = (bp g1) ∧ f 4 = (bp g4) ∧ f 7 = v7_77 ∧ f 9 = (i64 s78.2) ∧ f 288 = undef ∧ Ext w0 w ∧ OwK (Sc u8) w [v7_77, (bp g1), (bp g4)] 5 v7_77 x65 ∧ Nw w0 v7_77 ∧ Blk w g1 69 (ac u32 x16.1) ∧ Nw w0 (bp g1) ∧ Blk w g4 70 (ac u32 s78.1) ∧ Nw w0 (bp g4) ∧ Nq v7_77 (bp g1) ∧ Nq v7_77 (bp g4) ∧ Nq (bp g1) (bp g4)) G78 ?_ ?_
          · exact ⟨s3_77, s4_77, s7_77, rfl, s288_77, hE77, o0_77, n0_77, o1_77, n1_77, o2_77, n2_77, q0_1_77, q0_2_77, q1_2_77⟩
          · rintro s78 _ _ w79 ⟨s3_79, s4_79, s7_79, s9_79, s288_79, hE79, o0_79, n0_79, o1_79, n1_79, o2_79, n2_79, q0_1_79, q0_2_79, q1_2_79⟩ H78 hr78
            refine W_seq ?_
            refine W_seq ?_
            refine W_reg (by kernel_rfl) ?_
            refine wla rfl rfl (q_move (v := (i64 s78.2)) rfl s9_79) ?_
            refine wla rfl rfl (q_move (v := v7_77) rfl s7_79) ?_
            refine wla rfl rfl (q_len rfl T22.sl rfl (o0_79.rd (Sc.stab _))) ?_
            refine wla rfl rfl (q_ltI rfl rfl rfl) ?_
            refine wl_nil ?_
            refine W_th ?_
            refine W_cond _ rfl rfl (fun hb80 => ?_) (fun hb80 => ?_)
            · replace H78 := (if_pos (of_decide_eq_true hb80)).symm.trans H78
              refine W_skip ?_
              refine W_th ?_
              refine W_seq ?_
              refine W_block ?_
              refine W_seq ?_
              refine W_reg (by kernel_rfl) ?_
              refine wla rfl rfl (q_buildA0 (l := ([] : List UInt32)) (us := []) (z := (0 : UInt32)) rfl A69 Z69 (by exact trivial) rfl rfl cel_u32) ?_
              refine wls rfl rfl (stp_allocL (z := (ag u32 ((List.replicate 64 (0 : UInt32))))) (cs := (ac u32 ((List.replicate 64 (0 : UInt32))))) [v7_77, (bp g1), (bp g4)] rfl Z69 rfl ?_)
              intro g81 w81 o81 n81 g81r l81
              have x81 := grown_ext g81r
              have q82 : Nq v7_77 (bp g81) := o0_79.nq n81
              have q83 : Nq (bp g1) (bp g81) := o1_79.nq n81
              have q84 : Nq (bp g4) (bp g81) := o2_79.nq n81
              replace o0_79 := o0_79.extL (Sc.stab _) x81 (Lift.call _ x81 n81)
              replace o1_79 := o1_79.ext x81
              replace o2_79 := o2_79.ext x81
              have n86 := Nw.ext hE79 n81
              have e85 := hE79.trans x81
              obtain ⟨c88, hc88, H78⟩ := Option.bind_eq_some_iff.1 H78
              refine wln rfl rfl (stp_storeA [] [v7_77, (bp g1), (bp g4)] rfl A69 rfl rfl (lenA_eq hc88) (lenA_eq hc88) o81 one_u32 ?_)
              intro w87 o87 g87 l87
              replace o0_79 := o0_79.other (Sc.stab _) g87 q82 l87
              replace o1_79 := o1_79.other g87 q83
              replace o2_79 := o2_79.other g87 q84
              have e89 := e85.grown g87 n86
              refine wl_nil ?_
              refine W_th ?_
              refine W_seq ?_
              refine W_reg (by kernel_rfl) ?_
              obtain ⟨c90, hc90, H78⟩ := Option.bind_eq_some_iff.1 H78
              refine wlq rfl rfl (q_loadA (m := 0) rfl A70 (by exact s4_79) o2_79 (seg_self _ _) (lenA_eq hc90)) ?_
              refine wls rfl rfl (stp_allocL (z := (ag u32 ((List.replicate 8 (0 : UInt32))))) (cs := (ac u32 ((List.replicate 8 (0 : UInt32))))) [(bp g81), v7_77, (bp g1), (bp g4)] rfl Z70 rfl ?_)
              intro g91 w91 o91 n91 g91r l91
              have x91 := grown_ext g91r
              have q92 : Nq (bp g81) (bp g91) := o87.nq n91
              have q93 : Nq v7_77 (bp g91) := o0_79.nq n91
              have q94 : Nq (bp g1) (bp g91) := o1_79.nq n91
              have q95 : Nq (bp g4) (bp g91) := o2_79.nq n91
              replace o87 := o87.ext x91
              replace o0_79 := o0_79.extL (Sc.stab _) x91 (Lift.call _ x91 n91)
              replace o1_79 := o1_79.ext x91
              replace o2_79 := o2_79.ext x91
              have n97 := Nw.ext e89 n91
              have e96 := e89.trans x91
              obtain ⟨c99, hc99, H78⟩ := Option.bind_eq_some_iff.1 H78
              refine wln rfl rfl (stp_storeA [] [(bp g81), v7_77, (bp g1), (bp g4)] rfl A70 rfl rfl (lenA_eq hc99) (lenA_eq hc90) o91 one_u32 ?_)
              intro w98 o98 g98 l98
              replace o87 := o87.other g98 q92
              replace o0_79 := o0_79.other (Sc.stab _) g98 q93 l98
              replace o1_79 := o1_79.other g98 q94
              replace o2_79 := o2_79.other g98 q95
              have e100 := e96.grown g98 n97
              refine wl_nil ?_
              refine W_th ?_
              refine W_seq ?_
              refine W_seq ?_
              refine W_reg (by kernel_rfl) ?_
              refine wla rfl rfl (q_assign (v := (i64 0)) rfl rfl) ?_
              refine wl_nil ?_
              refine W_th ?_
              obtain ⟨x101, G101, H78⟩ := Option.bind_eq_some_iff.1 H78
              refine W_mid (fun f w => f 3 = (bp g1) ∧ f 4 = (bp g4) ∧ f 7 = v7_77 ∧ f 9 = (i64 s78.2) ∧ f 11 = (bp g91) ∧ f 288 = undef ∧ Ext w0 w ∧ OwK (Sc u8) w [v7_77, (bp g1), (bp g4), (bp g91)] 5 v7_77 x65 ∧ Nw w0 v7_77 ∧ Blk w g1 69 (ac u32 x16.1) ∧ Nw w0 (bp g1) ∧ Blk w g4 70 (ac u32 s78.1) ∧ Nw w0 (bp g4) ∧ Blk w g91 70 (ac u32 x101) ∧ Nw w0 (bp g91) ∧ Nq v7_77 (bp g1) ∧ Nq v7_77 (bp g4) ∧ Nq v7_77 (bp g91) ∧ Nq (bp g1) (bp g4) ∧ Nq (bp g1) (bp g91) ∧ Nq (bp g4) (bp g91)) ?_ ?_
              · refine W_block ?_
                refine W_loop (fun s101 f w => f 3 = (bp g1) ∧ f 4 = (bp g4) ∧ f 7 = v7_77 ∧ f 9 = (i64 s78.2) ∧ f 10 = (bp g81) ∧ f 11 = (bp g91) ∧ f 12 = (i64 s101.2.2) ∧ f 288 = undef ∧ Ext w0 w ∧ OwK (Sc u8) w [v7_77, (bp g1), (bp g4), (bp g81), (bp g91)] 5 v7_77 x65 ∧ Nw w0 v7_77 ∧ Blk w g1 69 (ac u32 x16.1) ∧ Nw w0 (bp g1) ∧ Blk w g4 70 (ac u32 s78.1) ∧ Nw w0 (bp g4) ∧ Blk w g81 69 (ac u32 s101.1) ∧ Nw w0 (bp g81) ∧ Blk w g91 70 (ac u32 s101.2.1) ∧ Nw w0 (bp g91) ∧ Nq v7_77 (bp g1) ∧ Nq v7_77 (bp g4) ∧ Nq v7_77 (bp g81) ∧ Nq v7_77 (bp g91) ∧ Nq (bp g1) (bp g4) ∧ Nq (bp g1) (bp g81) ∧ Nq (bp g1) (bp g91) ∧ Nq (bp g4) (bp g81) ∧ Nq (bp g4) (bp g91) ∧ Nq (bp g81) (bp g91)) G101 ?_ ?_
                · exact ⟨s3_79, s4_79, s7_79, s9_79, rfl, rfl, rfl, s288_79, e100, (o0_79.weak (Sc.stab _) (fun _ h => ⟨h.2.2.1, h.2.2.2.1, h.2.2.2.2.1, h.2.1, h.1, trivial⟩)), n0_79, o1_79, n1_79, o2_79, n2_79, o87, n86, o98, n97, q0_1_79, q0_2_79, q82, q93, q1_2_79, q83, q94, q84, q95, q92⟩
                · rintro s101 _ _ w102 ⟨s3_102, s4_102, s7_102, s9_102, s10_102, s11_102, s12_102, s288_102, hE102, o0_102, n0_102, o1_102, n1_102, o2_102, n2_102, o3_102, n3_102, o4_102, n4_102, q0_1_102, q0_2_102, q0_3_102, q0_4_102, q1_2_102, q1_3_102, q1_4_102, q2_3_102, q2_4_102, q3_4_102⟩ H101 hr101
                  refine W_seq ?_
                  refine W_seq ?_
                  refine W_reg (by kernel_rfl) ?_
                  refine wla rfl rfl (q_move (v := (i64 s101.2.2)) rfl s12_102) ?_
                  refine wla rfl rfl (q_ltI rfl rfl rfl) ?_
                  refine wl_nil ?_
                  refine W_th ?_
                  refine W_cond _ rfl rfl (fun hb103 => ?_) (fun hb103 => ?_)
                  · replace H101 := (if_pos (of_decide_eq_true hb103)).symm.trans H101
                    refine W_skip ?_
                    refine W_th ?_
                    refine W_seq ?_
                    refine W_block ?_
                    refine W_seq ?_
                    obtain ⟨x104, H104, H101⟩ := Option.bind_eq_some_iff.1 H101
                    refine W_mid (fun f w => f 3 = (bp g1) ∧ f 4 = (bp g4) ∧ f 7 = v7_77 ∧ f 9 = (i64 s78.2) ∧ f 10 = (bp g81) ∧ f 11 = (bp g91) ∧ f 12 = (i64 s101.2.2) ∧ f 288 = undef ∧ Ext w0 w ∧ OwK (Sc u8) w [v7_77, (bp g1), (bp g4), (bp g81), (bp g91)] 5 v7_77 x65 ∧ Nw w0 v7_77 ∧ Blk w g1 69 (ac u32 x16.1) ∧ Nw w0 (bp g1) ∧ Blk w g4 70 (ac u32 s78.1) ∧ Nw w0 (bp g4) ∧ Blk w g81 69 (ac u32 x104) ∧ Nw w0 (bp g81) ∧ Blk w g91 70 (ac u32 s101.2.1) ∧ Nw w0 (bp g91) ∧ Nq v7_77 (bp g1) ∧ Nq v7_77 (bp g4) ∧ Nq v7_77 (bp g81) ∧ Nq v7_77 (bp g91) ∧ Nq (bp g1) (bp g4) ∧ Nq (bp g1) (bp g81) ∧ Nq (bp g1) (bp g91) ∧ Nq (bp g4) (bp g81) ∧ Nq (bp g4) (bp g91) ∧ Nq (bp g81) (bp g91)) ?_ ?_
                    · refine W_seq ?_
                      refine W_reg (by kernel_rfl) ?_
                      refine wla rfl rfl (q_move (v := (i64 s101.2.2)) rfl s12_102) ?_
                      refine wla rfl rfl (q_ltI rfl rfl rfl) ?_
                      refine wl_nil ?_
                      refine W_th ?_
                      refine W_cond _ rfl rfl (fun hb105 => ?_) (fun hb105 => ?_)
                      · replace H104 := (if_pos (of_decide_eq_true hb105)).symm.trans H104
                        refine W_draw [7, 17, 28, 39] [(0, 0), (1, 0), (2, 0), (3, 0), (4, 0), (5, 0), (6, 0), (7, 1), (8, 0), (9, 0), (10, 0), (11, 0), (12, 0), (13, 0), (14, 0), (15, 0), (16, 0), (17, 1), (18, 0), (19, 0), (20, 0), (21, 0), (22, 0), (23, 0), (24, 0), (25, 0), (26, 0), (27, 0), (28, 1), (29, 0), (30, 0), (31, 0), (32, 0), (33, 0), (34, 0), (35, 0), (36, 0), (37, 0), (38, 0), (39, 1), (40, 0), (41, 0), (42, 0), (43, 2)] mixed (by kernel_rfl) (by kernel_rfl) (by kernel_rfl) (by kernel_rfl) ?_
                        have x106 := Ext.drew w102
                        replace o0_102 := o0_102.extL (Sc.stab _) x106 (Lift.ext x106 _)
                        replace o1_102 := o1_102.ext x106
                        replace o2_102 := o2_102.ext x106
                        replace o3_102 := o3_102.ext x106
                        replace o4_102 := o4_102.ext x106
                        have e107 := hE102.trans x106
                        refine wsa rfl rfl rfl (q_move (v := (i64 s101.2.2)) rfl s12_102) ?_
                        refine wsa rfl rfl rfl (q_move (v := v7_77) rfl s7_102) ?_
                        refine wsa rfl rfl rfl (q_move (v := (i64 s78.2)) rfl s9_102) ?_
                        refine wsa rfl rfl rfl (q_move (v := (i64 s101.2.2)) rfl s12_102) ?_
                        refine wsa rfl rfl rfl (q_mulI rfl rfl rfl) ?_
                        refine wsa rfl rfl rfl (q_addI rfl rfl rfl) ?_
                        obtain ⟨c108, hc108, H104⟩ := Option.bind_eq_some_iff.1 H104
                        refine wsa rfl rfl rfl (q_adr rfl T22 rfl rfl (o0_102.rd (Sc.stab _)) hc108) ?_
                        refine wsq rfl rfl rfl (q_loadS rfl T22 rfl (o0_102.rd (Sc.stab _)) hc108) ?_
                        refine wsa rfl rfl rfl (q_cvt328 rfl rfl rfl rfl) ?_
                        refine wsa rfl rfl rfl (q_shl32 24 rfl rfl rfl rfl) ?_
                        refine wsa rfl rfl rfl (q_move (v := v7_77) rfl s7_102) ?_
                        refine wsa rfl rfl rfl (q_move (v := (i64 s78.2)) rfl s9_102) ?_
                        refine wsa rfl rfl rfl (q_move (v := (i64 s101.2.2)) rfl s12_102) ?_
                        refine wsa rfl rfl rfl (q_mulI rfl rfl rfl) ?_
                        refine wsa rfl rfl rfl (q_addI rfl rfl rfl) ?_
                        refine wsa rfl rfl rfl (q_addI rfl rfl rfl) ?_
                        obtain ⟨c109, hc109, H104⟩ := Option.bind_eq_some_iff.1 H104
                        refine wsa rfl rfl rfl (q_adr rfl T22 rfl rfl (o0_102.rd (Sc.stab _)) hc109) ?_
                        refine wsq rfl rfl rfl (q_loadS rfl T22 rfl (o0_102.rd (Sc.stab _)) hc109) ?_
                        refine wsa rfl rfl rfl (q_cvt328 rfl rfl rfl rfl) ?_
                        refine wsa rfl rfl rfl (q_shl32 16 rfl rfl rfl rfl) ?_
                        refine wsa rfl rfl rfl (q_or32 rfl rfl rfl) ?_
                        refine wsa rfl rfl rfl (q_move (v := v7_77) rfl s7_102) ?_
                        refine wsa rfl rfl rfl (q_move (v := (i64 s78.2)) rfl s9_102) ?_
                        refine wsa rfl rfl rfl (q_move (v := (i64 s101.2.2)) rfl s12_102) ?_
                        refine wsa rfl rfl rfl (q_mulI rfl rfl rfl) ?_
                        refine wsa rfl rfl rfl (q_addI rfl rfl rfl) ?_
                        refine wsa rfl rfl rfl (q_addI rfl rfl rfl) ?_
                        obtain ⟨c110, hc110, H104⟩ := Option.bind_eq_some_iff.1 H104
                        refine wsa rfl rfl rfl (q_adr rfl T22 rfl rfl (o0_102.rd (Sc.stab _)) hc110) ?_
                        refine wsq rfl rfl rfl (q_loadS rfl T22 rfl (o0_102.rd (Sc.stab _)) hc110) ?_
                        refine wsa rfl rfl rfl (q_cvt328 rfl rfl rfl rfl) ?_
                        refine wsa rfl rfl rfl (q_shl32 8 rfl rfl rfl rfl) ?_
                        refine wsa rfl rfl rfl (q_or32 rfl rfl rfl) ?_
                        refine wsa rfl rfl rfl (q_move (v := v7_77) rfl s7_102) ?_
                        refine wsa rfl rfl rfl (q_move (v := (i64 s78.2)) rfl s9_102) ?_
                        refine wsa rfl rfl rfl (q_move (v := (i64 s101.2.2)) rfl s12_102) ?_
                        refine wsa rfl rfl rfl (q_mulI rfl rfl rfl) ?_
                        refine wsa rfl rfl rfl (q_addI rfl rfl rfl) ?_
                        refine wsa rfl rfl rfl (q_addI rfl rfl rfl) ?_
                        obtain ⟨c111, hc111, H104⟩ := Option.bind_eq_some_iff.1 H104
                        refine wsa rfl rfl rfl (q_adr rfl T22 rfl rfl (o0_102.rd (Sc.stab _)) hc111) ?_
                        refine wsq rfl rfl rfl (q_loadS rfl T22 rfl (o0_102.rd (Sc.stab _)) hc111) ?_
                        refine wsa rfl rfl rfl (q_cvt328 rfl rfl rfl rfl) ?_
                        refine wsa rfl rfl rfl (q_or32 rfl rfl rfl) ?_
                        obtain ⟨c112, hc112, H104⟩ := Option.bind_eq_some_iff.1 H104
                        obtain ⟨c113, hc113, H104⟩ := Option.bind_eq_some_iff.1 H104
                        refine wsa rfl rfl rfl (q_ixA (m := 0) rfl A69 (by exact s10_102) rfl (lenA_eq hc112) hc113) ?_
                        refine wsn rfl (by kernel_rfl) rfl rfl (stp_storeX (b := ((((shl32 ((c108.toUInt32)) 24) ||| (shl32 ((c109.toUInt32)) 16)) ||| (shl32 ((c110.toUInt32)) 8)) ||| (c111.toUInt32))) [v7_77, (bp g1), (bp g4)] [(bp g91)] rfl A69 rfl rfl o3_102 hc113 (one_u32 _) ?_)
                        intro w114 o114 g114 l114
                        replace o0_102 := o0_102.other (Sc.stab _) g114 q0_3_102 l114
                        replace o1_102 := o1_102.other g114 q1_3_102
                        replace o2_102 := o2_102.other g114 q2_3_102
                        replace o4_102 := o4_102.other g114 q3_4_102.symm
                        have e115 := e107.grown g114 n3_102
                        refine ws_nil ?_
                        obtain rfl := Option.some.inj H104
                        exact ⟨s3_102, s4_102, s7_102, s9_102, s10_102, s11_102, s12_102, s288_102, e115, o0_102, n0_102, o1_102, n1_102, o2_102, n2_102, o114, n3_102, o4_102, n4_102, q0_1_102, q0_2_102, q0_3_102, q0_4_102, q1_2_102, q1_3_102, q1_4_102, q2_3_102, q2_4_102, q3_4_102⟩
                      · replace H104 := (if_neg (of_decide_eq_false hb105)).symm.trans H104
                        refine W_draw [4, 9, 15, 21, 26, 31, 37, 44] [(0, 0), (1, 0), (2, 0), (3, 0), (4, 1), (6, 0), (7, 0), (8, 0), (9, 1), (12, 0), (13, 0), (14, 0), (15, 1), (16, 0), (18, 0), (19, 0), (20, 0), (21, 1), (23, 0), (24, 0), (25, 0), (26, 1), (28, 0), (29, 0), (30, 0), (31, 1), (34, 0), (35, 0), (36, 0), (37, 1), (38, 0), (41, 0), (42, 0), (43, 0), (44, 1), (5, 2), (10, 2), (11, 0), (17, 0), (22, 0), (27, 2), (32, 2), (33, 0), (39, 0), (40, 0), (45, 0), (46, 0), (47, 2)] mixed (by kernel_rfl) (by kernel_rfl) (by kernel_rfl) (by kernel_rfl) ?_
                        have x116 := Ext.drew w102
                        replace o0_102 := o0_102.extL (Sc.stab _) x116 (Lift.ext x116 _)
                        replace o1_102 := o1_102.ext x116
                        replace o2_102 := o2_102.ext x116
                        replace o3_102 := o3_102.ext x116
                        replace o4_102 := o4_102.ext x116
                        have e117 := hE102.trans x116
                        refine wsa rfl rfl rfl (q_move (v := (i64 s101.2.2)) rfl s12_102) ?_
                        refine wsa rfl rfl rfl (q_move (v := (i64 s101.2.2)) rfl s12_102) ?_
                        refine wsa rfl rfl rfl (q_subI rfl rfl rfl) ?_
                        obtain ⟨c118, hc118, H104⟩ := Option.bind_eq_some_iff.1 H104
                        obtain ⟨c119, hc119, H104⟩ := Option.bind_eq_some_iff.1 H104
                        refine wsa rfl rfl rfl (q_ixA (m := 0) rfl A69 (by exact s10_102) rfl (lenA_eq hc118) hc119) ?_
                        refine wsq rfl rfl rfl (q_loadE (m := 0) rfl A69 rfl o3_102 (seg_self _ _) hc119) ?_
                        refine wsa rfl rfl rfl (q_move (v := (i64 s101.2.2)) rfl s12_102) ?_
                        refine wsa rfl rfl rfl (q_subI rfl rfl rfl) ?_
                        refine wsa rfl rfl rfl (q_ixA (m := 0) rfl A69 (by exact s10_102) rfl (lenA_eq hc118) hc119) ?_
                        refine wsq rfl rfl rfl (q_loadE (m := 0) rfl A69 rfl o3_102 (seg_self _ _) hc119) ?_
                        refine wsa rfl rfl rfl (q_move (v := (i64 s101.2.2)) rfl s12_102) ?_
                        refine wsa rfl rfl rfl (q_subI rfl rfl rfl) ?_
                        refine wsa rfl rfl rfl (q_ixA (m := 0) rfl A69 (by exact s10_102) rfl (lenA_eq hc118) hc119) ?_
                        refine wsq rfl rfl rfl (q_loadE (m := 0) rfl A69 rfl o3_102 (seg_self _ _) hc119) ?_
                        refine wsa rfl rfl rfl (q_shr32 10 rfl rfl rfl rfl) ?_
                        refine wsa rfl rfl rfl (q_move (v := (i64 s101.2.2)) rfl s12_102) ?_
                        refine wsa rfl rfl rfl (q_subI rfl rfl rfl) ?_
                        obtain ⟨c120, hc120, H104⟩ := Option.bind_eq_some_iff.1 H104
                        refine wsa rfl rfl rfl (q_ixA (m := 0) rfl A69 (by exact s10_102) rfl (lenA_eq hc118) hc120) ?_
                        refine wsq rfl rfl rfl (q_loadE (m := 0) rfl A69 rfl o3_102 (seg_self _ _) hc120) ?_
                        refine wsa rfl rfl rfl (q_move (v := (i64 s101.2.2)) rfl s12_102) ?_
                        refine wsa rfl rfl rfl (q_subI rfl rfl rfl) ?_
                        obtain ⟨c121, hc121, H104⟩ := Option.bind_eq_some_iff.1 H104
                        refine wsa rfl rfl rfl (q_ixA (m := 0) rfl A69 (by exact s10_102) rfl (lenA_eq hc118) hc121) ?_
                        refine wsq rfl rfl rfl (q_loadE (m := 0) rfl A69 rfl o3_102 (seg_self _ _) hc121) ?_
                        refine wsa rfl rfl rfl (q_move (v := (i64 s101.2.2)) rfl s12_102) ?_
                        refine wsa rfl rfl rfl (q_subI rfl rfl rfl) ?_
                        refine wsa rfl rfl rfl (q_ixA (m := 0) rfl A69 (by exact s10_102) rfl (lenA_eq hc118) hc121) ?_
                        refine wsq rfl rfl rfl (q_loadE (m := 0) rfl A69 rfl o3_102 (seg_self _ _) hc121) ?_
                        refine wsa rfl rfl rfl (q_move (v := (i64 s101.2.2)) rfl s12_102) ?_
                        refine wsa rfl rfl rfl (q_subI rfl rfl rfl) ?_
                        refine wsa rfl rfl rfl (q_ixA (m := 0) rfl A69 (by exact s10_102) rfl (lenA_eq hc118) hc121) ?_
                        refine wsq rfl rfl rfl (q_loadE (m := 0) rfl A69 rfl o3_102 (seg_self _ _) hc121) ?_
                        refine wsa rfl rfl rfl (q_shr32 3 rfl rfl rfl rfl) ?_
                        refine wsa rfl rfl rfl (q_move (v := (i64 s101.2.2)) rfl s12_102) ?_
                        refine wsa rfl rfl rfl (q_subI rfl rfl rfl) ?_
                        obtain ⟨c122, hc122, H104⟩ := Option.bind_eq_some_iff.1 H104
                        refine wsa rfl rfl rfl (q_ixA (m := 0) rfl A69 (by exact s10_102) rfl (lenA_eq hc118) hc122) ?_
                        refine wsq rfl rfl rfl (q_loadE (m := 0) rfl A69 rfl o3_102 (seg_self _ _) hc122) ?_
                        obtain ⟨r123, hr123, H104⟩ := Option.bind_eq_some_iff.1 H104
                        refine wss rfl rfl rfl (stp_call (vs := [(u32 c119), (i64 17)]) Try.func48 rfl rfl rfl (ar2 rfl rfl) (ref07_turn_calls c119 17  r123 _  hr123) ?_)
                        rintro _ w123 ⟨rfl, x123⟩
                        refine ⟨_, rfl, x123, ?_⟩
                        replace o0_102 := o0_102.extL (Sc.stab _) x123 (Lift.ext x123 _)
                        replace o1_102 := o1_102.ext x123
                        replace o2_102 := o2_102.ext x123
                        replace o3_102 := o3_102.ext x123
                        replace o4_102 := o4_102.ext x123
                        have e124 := e117.trans x123
                        obtain ⟨r125, hr125, H104⟩ := Option.bind_eq_some_iff.1 H104
                        refine wss rfl rfl rfl (stp_call (vs := [(u32 c119), (i64 19)]) Try.func48 rfl rfl rfl (ar2 rfl rfl) (ref07_turn_calls c119 19  r125 _  hr125) ?_)
                        rintro _ w125 ⟨rfl, x125⟩
                        refine ⟨_, rfl, x125, ?_⟩
                        replace o0_102 := o0_102.extL (Sc.stab _) x125 (Lift.ext x125 _)
                        replace o1_102 := o1_102.ext x125
                        replace o2_102 := o2_102.ext x125
                        replace o3_102 := o3_102.ext x125
                        replace o4_102 := o4_102.ext x125
                        have e126 := e124.trans x125
                        refine wsa rfl rfl rfl (q_xor32 rfl rfl rfl) ?_
                        refine wsa rfl rfl rfl (q_xor32 rfl rfl rfl) ?_
                        refine wsa rfl rfl rfl (q_add32 rfl rfl rfl) ?_
                        obtain ⟨r127, hr127, H104⟩ := Option.bind_eq_some_iff.1 H104
                        refine wss rfl rfl rfl (stp_call (vs := [(u32 c121), (i64 7)]) Try.func48 rfl rfl rfl (ar2 rfl rfl) (ref07_turn_calls c121 7  r127 _  hr127) ?_)
                        rintro _ w127 ⟨rfl, x127⟩
                        refine ⟨_, rfl, x127, ?_⟩
                        replace o0_102 := o0_102.extL (Sc.stab _) x127 (Lift.ext x127 _)
                        replace o1_102 := o1_102.ext x127
                        replace o2_102 := o2_102.ext x127
                        replace o3_102 := o3_102.ext x127
                        replace o4_102 := o4_102.ext x127
                        have e128 := e126.trans x127
                        obtain ⟨r129, hr129, H104⟩ := Option.bind_eq_some_iff.1 H104
                        refine wss rfl rfl rfl (stp_call (vs := [(u32 c121), (i64 18)]) Try.func48 rfl rfl rfl (ar2 rfl rfl) (ref07_turn_calls c121 18  r129 _  hr129) ?_)
                        rintro _ w129 ⟨rfl, x129⟩
                        refine ⟨_, rfl, x129, ?_⟩
                        replace o0_102 := o0_102.extL (Sc.stab _) x129 (Lift.ext x129 _)
                        replace o1_102 := o1_102.ext x129
                        replace o2_102 := o2_102.ext x129
                        replace o3_102 := o3_102.ext x129
                        replace o4_102 := o4_102.ext x129
                        have e130 := e128.trans x129
                        refine wsa rfl rfl rfl (q_xor32 rfl rfl rfl) ?_
                        refine wsa rfl rfl rfl (q_xor32 rfl rfl rfl) ?_
                        refine wsa rfl rfl rfl (q_add32 rfl rfl rfl) ?_
                        refine wsa rfl rfl rfl (q_add32 rfl rfl rfl) ?_
                        obtain ⟨c131, hc131, H104⟩ := Option.bind_eq_some_iff.1 H104
                        refine wsa rfl rfl rfl (q_ixA (m := 0) rfl A69 (by exact s10_102) rfl (lenA_eq hc118) hc131) ?_
                        refine wsn rfl (by kernel_rfl) rfl rfl (stp_storeX (b := (((((r123 ^^^ r125) ^^^ (shr32 c119 10)) + c120) + ((r127 ^^^ r129) ^^^ (shr32 c121 3))) + c122)) [v7_77, (bp g1), (bp g4)] [(bp g91)] rfl A69 rfl rfl o3_102 hc131 (one_u32 _) ?_)
                        intro w132 o132 g132 l132
                        replace o0_102 := o0_102.other (Sc.stab _) g132 q0_3_102 l132
                        replace o1_102 := o1_102.other g132 q1_3_102
                        replace o2_102 := o2_102.other g132 q2_3_102
                        replace o4_102 := o4_102.other g132 q3_4_102.symm
                        have e133 := e130.grown g132 n3_102
                        refine ws_nil ?_
                        obtain rfl := Option.some.inj H104
                        exact ⟨s3_102, s4_102, s7_102, s9_102, s10_102, s11_102, s12_102, s288_102, e133, o0_102, n0_102, o1_102, n1_102, o2_102, n2_102, o132, n3_102, o4_102, n4_102, q0_1_102, q0_2_102, q0_3_102, q0_4_102, q1_2_102, q1_3_102, q1_4_102, q2_3_102, q2_4_102, q3_4_102⟩
                    · rintro _ w134 ⟨s3_134, s4_134, s7_134, s9_134, s10_134, s11_134, s12_134, s288_134, hE134, o0_134, n0_134, o1_134, n1_134, o2_134, n2_134, o3_134, n3_134, o4_134, n4_134, q0_1_134, q0_2_134, q0_3_134, q0_4_134, q1_2_134, q1_3_134, q1_4_134, q2_3_134, q2_4_134, q3_4_134⟩
                      refine W_th ?_
                      refine W_seq ?_
                      refine W_draw [1, 3, 6, 10, 15, 17, 20, 23, 29, 33] [(0, 0), (1, 1), (2, 0), (3, 1), (5, 0), (6, 1), (9, 0), (10, 1), (14, 0), (15, 1), (16, 0), (17, 1), (18, 0), (19, 0), (20, 1), (21, 0), (22, 0), (23, 1), (24, 0), (25, 0), (27, 0), (28, 0), (29, 1), (31, 0), (32, 0), (33, 1), (4, 2), (7, 2), (8, 0), (11, 2), (12, 0), (13, 0), (26, 0), (30, 0), (34, 0), (35, 0)] mixed (by kernel_rfl) (by kernel_rfl) (by kernel_rfl) (by kernel_rfl) ?_
                      have x135 := Ext.drew w134
                      replace o0_134 := o0_134.extL (Sc.stab _) x135 (Lift.ext x135 _)
                      replace o1_134 := o1_134.ext x135
                      replace o2_134 := o2_134.ext x135
                      replace o3_134 := o3_134.ext x135
                      replace o4_134 := o4_134.ext x135
                      have e136 := hE134.trans x135
                      obtain ⟨c137, hc137, H101⟩ := Option.bind_eq_some_iff.1 H101
                      obtain ⟨c138, hc138, H101⟩ := Option.bind_eq_some_iff.1 H101
                      refine wsa rfl rfl rfl (q_ixA (m := 0) rfl A70 (by exact s11_134) rfl (lenA_eq hc137) hc138) ?_
                      refine wsq rfl rfl rfl (q_loadE (m := 0) rfl A70 rfl o4_134 (seg_self _ _) hc138) ?_
                      obtain ⟨c139, hc139, H101⟩ := Option.bind_eq_some_iff.1 H101
                      refine wsa rfl rfl rfl (q_ixA (m := 0) rfl A70 (by exact s11_134) rfl (lenA_eq hc137) hc139) ?_
                      refine wsq rfl rfl rfl (q_loadE (m := 0) rfl A70 rfl o4_134 (seg_self _ _) hc139) ?_
                      refine wsa rfl rfl rfl (q_ixA (m := 0) rfl A70 (by exact s11_134) rfl (lenA_eq hc137) hc139) ?_
                      refine wsq rfl rfl rfl (q_loadE (m := 0) rfl A70 rfl o4_134 (seg_self _ _) hc139) ?_
                      refine wsa rfl rfl rfl (q_ixA (m := 0) rfl A70 (by exact s11_134) rfl (lenA_eq hc137) hc139) ?_
                      refine wsq rfl rfl rfl (q_loadE (m := 0) rfl A70 rfl o4_134 (seg_self _ _) hc139) ?_
                      refine wsa rfl rfl rfl (q_ixA (m := 0) rfl A70 (by exact s11_134) rfl (lenA_eq hc137) hc139) ?_
                      refine wsq rfl rfl rfl (q_loadE (m := 0) rfl A70 rfl o4_134 (seg_self _ _) hc139) ?_
                      obtain ⟨c140, hc140, H101⟩ := Option.bind_eq_some_iff.1 H101
                      refine wsa rfl rfl rfl (q_ixA (m := 0) rfl A70 (by exact s11_134) rfl (lenA_eq hc137) hc140) ?_
                      refine wsq rfl rfl rfl (q_loadE (m := 0) rfl A70 rfl o4_134 (seg_self _ _) hc140) ?_
                      refine wsa rfl rfl rfl (q_and32 rfl rfl rfl) ?_
                      refine wsa rfl rfl rfl (q_ixA (m := 0) rfl A70 (by exact s11_134) rfl (lenA_eq hc137) hc139) ?_
                      refine wsq rfl rfl rfl (q_loadE (m := 0) rfl A70 rfl o4_134 (seg_self _ _) hc139) ?_
                      refine wsa rfl rfl rfl (q_not32 rfl rfl) ?_
                      obtain ⟨c141, hc141, H101⟩ := Option.bind_eq_some_iff.1 H101
                      refine wsa rfl rfl rfl (q_ixA (m := 0) rfl A70 (by exact s11_134) rfl (lenA_eq hc137) hc141) ?_
                      refine wsq rfl rfl rfl (q_loadE (m := 0) rfl A70 rfl o4_134 (seg_self _ _) hc141) ?_
                      refine wsa rfl rfl rfl (q_and32 rfl rfl rfl) ?_
                      refine wsa rfl rfl rfl (q_xor32 rfl rfl rfl) ?_
                      refine wsa rfl rfl rfl (q_move (v := (i64 s101.2.2)) rfl s12_134) ?_
                      obtain ⟨c142, hc142, H101⟩ := Option.bind_eq_some_iff.1 H101
                      obtain ⟨c143, hc143, H101⟩ := Option.bind_eq_some_iff.1 H101
                      refine wsa rfl rfl rfl (q_ixA (m := 0) rfl A69 (by exact s3_134) rfl (lenA_eq hc142) hc143) ?_
                      refine wsq rfl rfl rfl (q_loadE (m := 0) rfl A69 rfl o1_134 (seg_self _ _) hc143) ?_
                      refine wsa rfl rfl rfl (q_move (v := (i64 s101.2.2)) rfl s12_134) ?_
                      obtain ⟨c144, hc144, H101⟩ := Option.bind_eq_some_iff.1 H101
                      obtain ⟨c145, hc145, H101⟩ := Option.bind_eq_some_iff.1 H101
                      refine wsa rfl rfl rfl (q_ixA (m := 0) rfl A69 (by exact s10_134) rfl (lenA_eq hc144) hc145) ?_
                      refine wsq rfl rfl rfl (q_loadE (m := 0) rfl A69 rfl o3_134 (seg_self _ _) hc145) ?_
                      obtain ⟨r146, hr146, H101⟩ := Option.bind_eq_some_iff.1 H101
                      refine wss rfl rfl rfl (stp_call (vs := [(u32 c139), (i64 6)]) Try.func48 rfl rfl rfl (ar2 rfl rfl) (ref07_turn_calls c139 6  r146 _  hr146) ?_)
                      rintro _ w146 ⟨rfl, x146⟩
                      refine ⟨_, rfl, x146, ?_⟩
                      replace o0_134 := o0_134.extL (Sc.stab _) x146 (Lift.ext x146 _)
                      replace o1_134 := o1_134.ext x146
                      replace o2_134 := o2_134.ext x146
                      replace o3_134 := o3_134.ext x146
                      replace o4_134 := o4_134.ext x146
                      have e147 := e136.trans x146
                      obtain ⟨r148, hr148, H101⟩ := Option.bind_eq_some_iff.1 H101
                      refine wss rfl rfl rfl (stp_call (vs := [(u32 c139), (i64 11)]) Try.func48 rfl rfl rfl (ar2 rfl rfl) (ref07_turn_calls c139 11  r148 _  hr148) ?_)
                      rintro _ w148 ⟨rfl, x148⟩
                      refine ⟨_, rfl, x148, ?_⟩
                      replace o0_134 := o0_134.extL (Sc.stab _) x148 (Lift.ext x148 _)
                      replace o1_134 := o1_134.ext x148
                      replace o2_134 := o2_134.ext x148
                      replace o3_134 := o3_134.ext x148
                      replace o4_134 := o4_134.ext x148
                      have e149 := e147.trans x148
                      refine wsa rfl rfl rfl (q_xor32 rfl rfl rfl) ?_
                      obtain ⟨r150, hr150, H101⟩ := Option.bind_eq_some_iff.1 H101
                      refine wss rfl rfl rfl (stp_call (vs := [(u32 c139), (i64 25)]) Try.func48 rfl rfl rfl (ar2 rfl rfl) (ref07_turn_calls c139 25  r150 _  hr150) ?_)
                      rintro _ w150 ⟨rfl, x150⟩
                      refine ⟨_, rfl, x150, ?_⟩
                      replace o0_134 := o0_134.extL (Sc.stab _) x150 (Lift.ext x150 _)
                      replace o1_134 := o1_134.ext x150
                      replace o2_134 := o2_134.ext x150
                      replace o3_134 := o3_134.ext x150
                      replace o4_134 := o4_134.ext x150
                      have e151 := e149.trans x150
                      refine wsa rfl rfl rfl (q_xor32 rfl rfl rfl) ?_
                      refine wsa rfl rfl rfl (q_add32 rfl rfl rfl) ?_
                      refine wsa rfl rfl rfl (q_add32 rfl rfl rfl) ?_
                      refine wsa rfl rfl rfl (q_add32 rfl rfl rfl) ?_
                      refine wsa rfl rfl rfl (q_add32 rfl rfl rfl) ?_
                      refine wsa rfl rfl rfl (q_assign (v := (u32 (((((c138 + ((r146 ^^^ r148) ^^^ r150)) + ((c139 &&& c140) ^^^ (((4294967295 : UInt32) ^^^ c139) &&& c141))) + c143) + c145)))) rfl rfl) ?_
                      refine ws_nil ?_
                      refine W_th ?_
                      refine W_seq ?_
                      refine W_draw [1, 4, 8, 12, 14, 17, 19, 23, 25] [(0, 0), (1, 1), (3, 0), (4, 1), (7, 0), (8, 1), (11, 0), (12, 1), (13, 0), (14, 1), (15, 0), (16, 0), (17, 1), (18, 0), (19, 1), (20, 0), (21, 0), (22, 0), (23, 1), (24, 0), (25, 1), (26, 0), (27, 0), (2, 2), (5, 2), (6, 0), (9, 2), (10, 0), (28, 0), (29, 0)] mixed (by kernel_rfl) (by kernel_rfl) (by kernel_rfl) (by kernel_rfl) ?_
                      have x152 := Ext.drew w150
                      replace o0_134 := o0_134.extL (Sc.stab _) x152 (Lift.ext x152 _)
                      replace o1_134 := o1_134.ext x152
                      replace o2_134 := o2_134.ext x152
                      replace o3_134 := o3_134.ext x152
                      replace o4_134 := o4_134.ext x152
                      have e153 := e151.trans x152
                      obtain ⟨c154, hc154, H101⟩ := Option.bind_eq_some_iff.1 H101
                      obtain ⟨c155, hc155, H101⟩ := Option.bind_eq_some_iff.1 H101
                      refine wsa rfl rfl rfl (q_ixA (m := 0) rfl A70 (by exact s11_134) rfl (lenA_eq hc154) hc155) ?_
                      refine wsq rfl rfl rfl (q_loadE (m := 0) rfl A70 rfl o4_134 (seg_self _ _) hc155) ?_
                      refine wsa rfl rfl rfl (q_ixA (m := 0) rfl A70 (by exact s11_134) rfl (lenA_eq hc154) hc155) ?_
                      refine wsq rfl rfl rfl (q_loadE (m := 0) rfl A70 rfl o4_134 (seg_self _ _) hc155) ?_
                      refine wsa rfl rfl rfl (q_ixA (m := 0) rfl A70 (by exact s11_134) rfl (lenA_eq hc154) hc155) ?_
                      refine wsq rfl rfl rfl (q_loadE (m := 0) rfl A70 rfl o4_134 (seg_self _ _) hc155) ?_
                      refine wsa rfl rfl rfl (q_ixA (m := 0) rfl A70 (by exact s11_134) rfl (lenA_eq hc154) hc155) ?_
                      refine wsq rfl rfl rfl (q_loadE (m := 0) rfl A70 rfl o4_134 (seg_self _ _) hc155) ?_
                      obtain ⟨c156, hc156, H101⟩ := Option.bind_eq_some_iff.1 H101
                      refine wsa rfl rfl rfl (q_ixA (m := 0) rfl A70 (by exact s11_134) rfl (lenA_eq hc154) hc156) ?_
                      refine wsq rfl rfl rfl (q_loadE (m := 0) rfl A70 rfl o4_134 (seg_self _ _) hc156) ?_
                      refine wsa rfl rfl rfl (q_and32 rfl rfl rfl) ?_
                      refine wsa rfl rfl rfl (q_ixA (m := 0) rfl A70 (by exact s11_134) rfl (lenA_eq hc154) hc155) ?_
                      refine wsq rfl rfl rfl (q_loadE (m := 0) rfl A70 rfl o4_134 (seg_self _ _) hc155) ?_
                      obtain ⟨c157, hc157, H101⟩ := Option.bind_eq_some_iff.1 H101
                      refine wsa rfl rfl rfl (q_ixA (m := 0) rfl A70 (by exact s11_134) rfl (lenA_eq hc154) hc157) ?_
                      refine wsq rfl rfl rfl (q_loadE (m := 0) rfl A70 rfl o4_134 (seg_self _ _) hc157) ?_
                      refine wsa rfl rfl rfl (q_and32 rfl rfl rfl) ?_
                      refine wsa rfl rfl rfl (q_xor32 rfl rfl rfl) ?_
                      refine wsa rfl rfl rfl (q_ixA (m := 0) rfl A70 (by exact s11_134) rfl (lenA_eq hc154) hc156) ?_
                      refine wsq rfl rfl rfl (q_loadE (m := 0) rfl A70 rfl o4_134 (seg_self _ _) hc156) ?_
                      refine wsa rfl rfl rfl (q_ixA (m := 0) rfl A70 (by exact s11_134) rfl (lenA_eq hc154) hc157) ?_
                      refine wsq rfl rfl rfl (q_loadE (m := 0) rfl A70 rfl o4_134 (seg_self _ _) hc157) ?_
                      refine wsa rfl rfl rfl (q_and32 rfl rfl rfl) ?_
                      refine wsa rfl rfl rfl (q_xor32 rfl rfl rfl) ?_
                      obtain ⟨r158, hr158, H101⟩ := Option.bind_eq_some_iff.1 H101
                      refine wss rfl rfl rfl (stp_call (vs := [(u32 c155), (i64 2)]) Try.func48 rfl rfl rfl (ar2 rfl rfl) (ref07_turn_calls c155 2  r158 _  hr158) ?_)
                      rintro _ w158 ⟨rfl, x158⟩
                      refine ⟨_, rfl, x158, ?_⟩
                      replace o0_134 := o0_134.extL (Sc.stab _) x158 (Lift.ext x158 _)
                      replace o1_134 := o1_134.ext x158
                      replace o2_134 := o2_134.ext x158
                      replace o3_134 := o3_134.ext x158
                      replace o4_134 := o4_134.ext x158
                      have e159 := e153.trans x158
                      obtain ⟨r160, hr160, H101⟩ := Option.bind_eq_some_iff.1 H101
                      refine wss rfl rfl rfl (stp_call (vs := [(u32 c155), (i64 13)]) Try.func48 rfl rfl rfl (ar2 rfl rfl) (ref07_turn_calls c155 13  r160 _  hr160) ?_)
                      rintro _ w160 ⟨rfl, x160⟩
                      refine ⟨_, rfl, x160, ?_⟩
                      replace o0_134 := o0_134.extL (Sc.stab _) x160 (Lift.ext x160 _)
                      replace o1_134 := o1_134.ext x160
                      replace o2_134 := o2_134.ext x160
                      replace o3_134 := o3_134.ext x160
                      replace o4_134 := o4_134.ext x160
                      have e161 := e159.trans x160
                      refine wsa rfl rfl rfl (q_xor32 rfl rfl rfl) ?_
                      obtain ⟨r162, hr162, H101⟩ := Option.bind_eq_some_iff.1 H101
                      refine wss rfl rfl rfl (stp_call (vs := [(u32 c155), (i64 22)]) Try.func48 rfl rfl rfl (ar2 rfl rfl) (ref07_turn_calls c155 22  r162 _  hr162) ?_)
                      rintro _ w162 ⟨rfl, x162⟩
                      refine ⟨_, rfl, x162, ?_⟩
                      replace o0_134 := o0_134.extL (Sc.stab _) x162 (Lift.ext x162 _)
                      replace o1_134 := o1_134.ext x162
                      replace o2_134 := o2_134.ext x162
                      replace o3_134 := o3_134.ext x162
                      replace o4_134 := o4_134.ext x162
                      have e163 := e161.trans x162
                      refine wsa rfl rfl rfl (q_xor32 rfl rfl rfl) ?_
                      refine wsa rfl rfl rfl (q_add32 rfl rfl rfl) ?_
                      refine wsa rfl rfl rfl (q_assign (v := (u32 ((((r158 ^^^ r160) ^^^ r162) + (((c155 &&& c156) ^^^ (c155 &&& c157)) ^^^ (c156 &&& c157)))))) rfl rfl) ?_
                      refine ws_nil ?_
                      refine W_th ?_
                      refine W_reg (by kernel_rfl) ?_
                      refine wla rfl rfl (q_move (v := (u32 (((((c138 + ((r146 ^^^ r148) ^^^ r150)) + ((c139 &&& c140) ^^^ (((4294967295 : UInt32) ^^^ c139) &&& c141))) + c143) + c145)))) rfl rfl) ?_
                      refine wla rfl rfl (q_move (v := (u32 ((((r158 ^^^ r160) ^^^ r162) + (((c155 &&& c156) ^^^ (c155 &&& c157)) ^^^ (c156 &&& c157)))))) rfl rfl) ?_
                      refine wla rfl rfl (q_add32 rfl rfl rfl) ?_
                      obtain ⟨c164, hc164, H101⟩ := Option.bind_eq_some_iff.1 H101
                      obtain ⟨c165, hc165, H101⟩ := Option.bind_eq_some_iff.1 H101
                      refine wla rfl rfl (q_ixA (m := 0) rfl A70 (by exact s11_134) rfl (lenA_eq hc164) hc165) ?_
                      refine wlq rfl rfl (q_loadE (m := 0) rfl A70 rfl o4_134 (seg_self _ _) hc165) ?_
                      obtain ⟨c166, hc166, H101⟩ := Option.bind_eq_some_iff.1 H101
                      refine wla rfl rfl (q_ixA (m := 0) rfl A70 (by exact s11_134) rfl (lenA_eq hc164) hc166) ?_
                      refine wlq rfl rfl (q_loadE (m := 0) rfl A70 rfl o4_134 (seg_self _ _) hc166) ?_
                      obtain ⟨c167, hc167, H101⟩ := Option.bind_eq_some_iff.1 H101
                      refine wla rfl rfl (q_ixA (m := 0) rfl A70 (by exact s11_134) rfl (lenA_eq hc164) hc167) ?_
                      refine wlq rfl rfl (q_loadE (m := 0) rfl A70 rfl o4_134 (seg_self _ _) hc167) ?_
                      obtain ⟨c168, hc168, H101⟩ := Option.bind_eq_some_iff.1 H101
                      refine wla rfl rfl (q_ixA (m := 0) rfl A70 (by exact s11_134) rfl (lenA_eq hc164) hc168) ?_
                      refine wlq rfl rfl (q_loadE (m := 0) rfl A70 rfl o4_134 (seg_self _ _) hc168) ?_
                      refine wla rfl rfl (q_move (v := (u32 (((((c138 + ((r146 ^^^ r148) ^^^ r150)) + ((c139 &&& c140) ^^^ (((4294967295 : UInt32) ^^^ c139) &&& c141))) + c143) + c145)))) rfl rfl) ?_
                      refine wla rfl rfl (q_add32 rfl rfl rfl) ?_
                      obtain ⟨c169, hc169, H101⟩ := Option.bind_eq_some_iff.1 H101
                      refine wla rfl rfl (q_ixA (m := 0) rfl A70 (by exact s11_134) rfl (lenA_eq hc164) hc169) ?_
                      refine wlq rfl rfl (q_loadE (m := 0) rfl A70 rfl o4_134 (seg_self _ _) hc169) ?_
                      obtain ⟨c170, hc170, H101⟩ := Option.bind_eq_some_iff.1 H101
                      refine wla rfl rfl (q_ixA (m := 0) rfl A70 (by exact s11_134) rfl (lenA_eq hc164) hc170) ?_
                      refine wlq rfl rfl (q_loadE (m := 0) rfl A70 rfl o4_134 (seg_self _ _) hc170) ?_
                      obtain ⟨c171, hc171, H101⟩ := Option.bind_eq_some_iff.1 H101
                      refine wla rfl rfl (q_ixA (m := 0) rfl A70 (by exact s11_134) rfl (lenA_eq hc164) hc171) ?_
                      refine wlq rfl rfl (q_loadE (m := 0) rfl A70 rfl o4_134 (seg_self _ _) hc171) ?_
                      refine wla rfl rfl (q_buildAF (l := ([(((((c138 + ((r146 ^^^ r148) ^^^ r150)) + ((c139 &&& c140) ^^^ (((4294967295 : UInt32) ^^^ c139) &&& c141))) + c143) + c145) + (((r158 ^^^ r160) ^^^ r162) + (((c155 &&& c156) ^^^ (c155 &&& c157)) ^^^ (c156 &&& c157)))), c165, c166, c167, (c168 + ((((c138 + ((r146 ^^^ r148) ^^^ r150)) + ((c139 &&& c140) ^^^ (((4294967295 : UInt32) ^^^ c139) &&& c141))) + c143) + c145)), c169, c170, c171] : List UInt32)) (us := [(u32 ((((((c138 + ((r146 ^^^ r148) ^^^ r150)) + ((c139 &&& c140) ^^^ (((4294967295 : UInt32) ^^^ c139) &&& c141))) + c143) + c145) + (((r158 ^^^ r160) ^^^ r162) + (((c155 &&& c156) ^^^ (c155 &&& c157)) ^^^ (c156 &&& c157)))))), (u32 c165), (u32 c166), (u32 c167), (u32 ((c168 + ((((c138 + ((r146 ^^^ r148) ^^^ r150)) + ((c139 &&& c140) ^^^ (((4294967295 : UInt32) ^^^ c139) &&& c141))) + c143) + c145)))), (u32 c169), (u32 c170), (u32 c171)]) (z := (0 : UInt32)) rfl A70 Z70 (by exact ⟨rfl, rfl, rfl, rfl, rfl, rfl, rfl, rfl, rfl, rfl, rfl, rfl, rfl, rfl, rfl, rfl, trivial⟩) rfl rfl cel_u32) ?_
                      obtain ⟨c173, hc173, H101⟩ := Option.bind_eq_some_iff.1 H101
                      refine wln rfl rfl (stp_storeA [v7_77, (bp g1), (bp g4), (bp g81)] [] rfl A70 (by exact s11_134) rfl (lenA_eq hc164) (lenA_eq hc173) o4_134 one_u32 ?_)
                      intro w172 o172 g172 l172
                      replace o0_134 := o0_134.other (Sc.stab _) g172 q0_4_134 l172
                      replace o1_134 := o1_134.other g172 q1_4_134
                      replace o2_134 := o2_134.other g172 q2_4_134
                      replace o3_134 := o3_134.other g172 q3_4_134
                      have e174 := e163.grown g172 n4_134
                      refine wl_nil ?_
                      refine bk_n ?_
                      refine W_th ?_
                      refine W_reg (by kernel_rfl) ?_
                      refine wla rfl rfl (q_move (v := (i64 s101.2.2)) rfl s12_134) ?_
                      refine wla rfl rfl (q_addI rfl rfl rfl) ?_
                      refine wla rfl rfl (q_assign (v := (i64 ((wI (s101.2.2 + 1))))) rfl rfl) ?_
                      refine wl_nil ?_
                      obtain rfl := Option.some.inj H101
                      exact ⟨_, rfl, s3_134, s4_134, s7_134, s9_134, s10_134, s11_134, rfl, s288_134, e174, o0_134, n0_134, o1_134, n1_134, o2_134, n2_134, o3_134, n3_134, o172, n4_134, q0_1_134, q0_2_134, q0_3_134, q0_4_134, q1_2_134, q1_3_134, q1_4_134, q2_3_134, q2_4_134, q3_4_134⟩
                  · replace H101 := (if_neg (of_decide_eq_false hb103)).symm.trans H101
                    refine W_exit ?_
                    refine th_x ?_
                    obtain rfl := Option.some.inj H101
                    obtain rfl := hr101 _ rfl
                    refine th_x ?_
                    refine bk_x ?_
                    exact ⟨s3_102, s4_102, s7_102, s9_102, s11_102, s288_102, hE102, (o0_102.weak (Sc.stab _) (fun _ h => ⟨h.1, h.2.1, h.2.2.1, h.2.2.2.2.1, trivial⟩)), n0_102, o1_102, n1_102, o2_102, n2_102, o4_102, n4_102, q0_1_102, q0_2_102, q0_4_102, q1_2_102, q1_4_102, q2_4_102⟩
              · rintro _ w177 ⟨s3_177, s4_177, s7_177, s9_177, s11_177, s288_177, hE177, o0_177, n0_177, o1_177, n1_177, o2_177, n2_177, o3_177, n3_177, q0_1_177, q0_2_177, q0_3_177, q1_2_177, q1_3_177, q2_3_177⟩
                refine W_th ?_
                refine W_seq ?_
                refine W_reg (by kernel_rfl) ?_
                refine wla rfl rfl (q_move (v := (i64 0)) rfl rfl) ?_
                refine wl_nil ?_
                refine W_th ?_
                obtain ⟨x178, G178, H78⟩ := Option.bind_eq_some_iff.1 H78
                refine W_mid (fun f w => f 3 = (bp g1) ∧ f 4 = (bp g4) ∧ f 7 = v7_77 ∧ f 9 = (i64 s78.2) ∧ f 288 = undef ∧ Ext w0 w ∧ OwK (Sc u8) w [v7_77, (bp g1), (bp g4)] 5 v7_77 x65 ∧ Nw w0 v7_77 ∧ Blk w g1 69 (ac u32 x16.1) ∧ Nw w0 (bp g1) ∧ Blk w g4 70 (ac u32 x178) ∧ Nw w0 (bp g4) ∧ Nq v7_77 (bp g1) ∧ Nq v7_77 (bp g4) ∧ Nq (bp g1) (bp g4)) ?_ ?_
                · refine W_block ?_
                  refine W_loop (fun s178 f w => f 3 = (bp g1) ∧ f 4 = (bp g4) ∧ f 7 = v7_77 ∧ f 9 = (i64 s78.2) ∧ f 11 = (bp g91) ∧ f 254 = (i64 s178.2) ∧ f 288 = undef ∧ Ext w0 w ∧ OwK (Sc u8) w [v7_77, (bp g1), (bp g4), (bp g91)] 5 v7_77 x65 ∧ Nw w0 v7_77 ∧ Blk w g1 69 (ac u32 x16.1) ∧ Nw w0 (bp g1) ∧ Blk w g4 70 (ac u32 s178.1) ∧ Nw w0 (bp g4) ∧ Blk w g91 70 (ac u32 x101) ∧ Nw w0 (bp g91) ∧ Nq v7_77 (bp g1) ∧ Nq v7_77 (bp g4) ∧ Nq v7_77 (bp g91) ∧ Nq (bp g1) (bp g4) ∧ Nq (bp g1) (bp g91) ∧ Nq (bp g4) (bp g91)) G178 ?_ ?_
                  · exact ⟨s3_177, s4_177, s7_177, s9_177, s11_177, rfl, s288_177, hE177, o0_177, n0_177, o1_177, n1_177, o2_177, n2_177, o3_177, n3_177, q0_1_177, q0_2_177, q0_3_177, q1_2_177, q1_3_177, q2_3_177⟩
                  · rintro s178 _ _ w179 ⟨s3_179, s4_179, s7_179, s9_179, s11_179, s254_179, s288_179, hE179, o0_179, n0_179, o1_179, n1_179, o2_179, n2_179, o3_179, n3_179, q0_1_179, q0_2_179, q0_3_179, q1_2_179, q1_3_179, q2_3_179⟩ H178 hr178
                    refine W_seq ?_
                    refine W_reg (by kernel_rfl) ?_
                    refine wla rfl rfl (q_ltI rfl s254_179 rfl) ?_
                    refine wl_nil ?_
                    refine W_th ?_
                    refine W_seq ?_
                    refine W_cond _ rfl rfl (fun hb180 => ?_) (fun hb180 => ?_)
                    · replace H178 := (if_pos (of_decide_eq_true hb180)).symm.trans H178
                      refine W_skip ?_
                      refine W_th ?_
                      refine W_seq ?_
                      refine W_block ?_
                      refine W_seq ?_
                      refine W_reg (by kernel_rfl) ?_
                      refine wla rfl rfl (q_move (v := (i64 s178.2)) rfl s254_179) ?_
                      refine wla rfl rfl (q_assign (v := (i64 s178.2)) rfl rfl) ?_
                      refine wl_nil ?_
                      refine W_th ?_
                      refine W_draw [3, 6] [(0, 0), (1, 0), (2, 0), (3, 1), (4, 0), (5, 0), (6, 1), (7, 0), (8, 0), (9, 2)] mixed (by kernel_rfl) (by kernel_rfl) (by kernel_rfl) (by kernel_rfl) ?_
                      have x181 := Ext.drew w179
                      replace o0_179 := o0_179.extL (Sc.stab _) x181 (Lift.ext x181 _)
                      replace o1_179 := o1_179.ext x181
                      replace o2_179 := o2_179.ext x181
                      replace o3_179 := o3_179.ext x181
                      have e182 := hE179.trans x181
                      refine wsa rfl rfl rfl (q_move (v := (i64 s178.2)) rfl rfl) ?_
                      refine wsa rfl rfl rfl (q_move (v := (i64 s178.2)) rfl rfl) ?_
                      obtain ⟨c183, hc183, H178⟩ := Option.bind_eq_some_iff.1 H178
                      obtain ⟨c184, hc184, H178⟩ := Option.bind_eq_some_iff.1 H178
                      refine wsa rfl rfl rfl (q_ixA (m := 0) rfl A70 (by exact s4_179) rfl (lenA_eq hc183) hc184) ?_
                      refine wsq rfl rfl rfl (q_loadE (m := 0) rfl A70 rfl o2_179 (seg_self _ _) hc184) ?_
                      refine wsa rfl rfl rfl (q_move (v := (i64 s178.2)) rfl rfl) ?_
                      obtain ⟨c185, hc185, H178⟩ := Option.bind_eq_some_iff.1 H178
                      obtain ⟨c186, hc186, H178⟩ := Option.bind_eq_some_iff.1 H178
                      refine wsa rfl rfl rfl (q_ixA (m := 0) rfl A70 (by exact s11_179) rfl (lenA_eq hc185) hc186) ?_
                      refine wsq rfl rfl rfl (q_loadE (m := 0) rfl A70 rfl o3_179 (seg_self _ _) hc186) ?_
                      refine wsa rfl rfl rfl (q_add32 rfl rfl rfl) ?_
                      refine wsa rfl rfl rfl (q_ixA (m := 0) rfl A70 (by exact s4_179) rfl (lenA_eq hc183) hc184) ?_
                      refine wsn rfl (by kernel_rfl) rfl rfl (stp_storeX (b := (c184 + c186)) [v7_77, (bp g1)] [(bp g91)] rfl A70 rfl rfl o2_179 hc184 (one_u32 _) ?_)
                      intro w187 o187 g187 l187
                      replace o0_179 := o0_179.other (Sc.stab _) g187 q0_2_179 l187
                      replace o1_179 := o1_179.other g187 q1_2_179
                      replace o3_179 := o3_179.other g187 q2_3_179.symm
                      have e188 := e182.grown g187 n2_179
                      refine ws_nil ?_
                      refine bk_n ?_
                      refine W_th ?_
                      refine W_reg (by kernel_rfl) ?_
                      refine wla rfl rfl (q_addI rfl s254_179 rfl) ?_
                      refine wla rfl rfl (q_move (v := (i64 ((wI (s178.2 + 1))))) rfl rfl) ?_
                      refine wl_nil ?_
                      obtain rfl := Option.some.inj H178
                      exact ⟨_, rfl, s3_179, s4_179, s7_179, s9_179, s11_179, rfl, s288_179, e188, o0_179, n0_179, o1_179, n1_179, o187, n2_179, o3_179, n3_179, q0_1_179, q0_2_179, q0_3_179, q1_2_179, q1_3_179, q2_3_179⟩
                    · replace H178 := (if_neg (of_decide_eq_false hb180)).symm.trans H178
                      refine W_exit ?_
                      refine th_x ?_
                      obtain rfl := Option.some.inj H178
                      obtain rfl := hr178 _ rfl
                      refine th_x ?_
                      refine bk_x ?_
                      exact ⟨s3_179, s4_179, s7_179, s9_179, s288_179, hE179, (o0_179.weak (Sc.stab _) (fun _ h => ⟨h.1, h.2.1, h.2.2.1, trivial⟩)), n0_179, o1_179, n1_179, o2_179, n2_179, q0_1_179, q0_2_179, q1_2_179⟩
                · rintro _ w190 ⟨s3_190, s4_190, s7_190, s9_190, s288_190, hE190, o0_190, n0_190, o1_190, n1_190, o2_190, n2_190, q0_1_190, q0_2_190, q1_2_190⟩
                  refine bk_n ?_
                  refine W_th ?_
                  refine W_reg (by kernel_rfl) ?_
                  refine wla rfl rfl (q_move (v := (i64 s78.2)) rfl s9_190) ?_
                  refine wla rfl rfl (q_addI rfl rfl rfl) ?_
                  refine wla rfl rfl (q_assign (v := (i64 ((wI (s78.2 + 64))))) rfl rfl) ?_
                  refine wl_nil ?_
                  obtain rfl := Option.some.inj H78
                  exact ⟨_, rfl, s3_190, s4_190, s7_190, rfl, s288_190, hE190, o0_190, n0_190, o1_190, n1_190, o2_190, n2_190, q0_1_190, q0_2_190, q1_2_190⟩
            · replace H78 := (if_neg (of_decide_eq_false hb80)).symm.trans H78
              refine W_exit ?_
              refine th_x ?_
              obtain rfl := Option.some.inj H78
              obtain rfl := hr78 _ rfl
              refine th_x ?_
              refine bk_x ?_
              exact ⟨s4_79, s288_79, hE79, o2_79, n2_79⟩
        · rintro _ w194 ⟨s4_194, s288_194, hE194, o0_194, n0_194⟩
          refine W_th ?_
          refine W_seq ?_
          refine W_reg (by kernel_rfl) ?_
          refine wls rfl rfl (stp_lit (L := [(bp g4)]) (R := (Sc u8)) [] ([] : List UInt8) rfl T22 rfl (by exact trivial) rfl (litC u8 (oneC_u8) (us := []) (l := ([] : List UInt8)) rfl) rfl (litS u8 (us := []) (l := ([] : List UInt8)) rfl) ?_)
          intro v195 w195 o195 n195 g195 l195
          have x195 := grown_ext g195
          have q196 : Nq (bp g4) v195 := o0_194.nq n195
          replace o0_194 := o0_194.ext x195
          have n198 := Nw.ext hE194 n195
          have e197 := hE194.trans x195
          refine wla rfl rfl (q_assign (v := v195) rfl rfl) ?_
          refine wl_nil ?_
          refine W_th ?_
          refine W_seq ?_
          refine W_seq ?_
          refine W_reg (by kernel_rfl) ?_
          obtain ⟨c199, hc199, H⟩ := Option.bind_eq_some_iff.1 H
          refine wlq rfl rfl (q_loadA (m := 0) rfl A70 (by exact s4_194) o0_194 (seg_self _ _) (lenA_eq hc199)) ?_
          refine wla rfl rfl (q_move (v := (i64 0)) rfl rfl) ?_
          refine wl_nil ?_
          refine W_th ?_
          obtain ⟨x200, G200, H⟩ := Option.bind_eq_some_iff.1 H
          refine W_mid (fun f w => ∃ v16_212 : Value, f 16 = v16_212 ∧ f 288 = undef ∧ Ext w0 w ∧ OwK (Sc u8) w [v16_212] 5 v16_212 x200 ∧ Nw w0 v16_212) ?_ ?_
          · refine W_block ?_
            refine W_loop (fun s200 f w => ∃ v16_210 : Value, f 16 = v16_210 ∧ f 268 = (ag u32 x78) ∧ f 269 = (i64 s200.2) ∧ f 288 = undef ∧ Ext w0 w ∧ OwK (Sc u8) w [v16_210] 5 v16_210 s200.1 ∧ Nw w0 v16_210) G200 ?_ ?_
            · exact ⟨v195, rfl, rfl, rfl, s288_194, e197, (o195.weak (Sc.stab _) (fun _ h => ⟨h.1, trivial⟩)), n198⟩
            · rintro s200 _ _ w201 ⟨v16_201, s16_201, s268_201, s269_201, s288_201, hE201, o0_201, n0_201⟩ H200 hr200
              refine W_seq ?_
              refine W_reg (by kernel_rfl) ?_
              refine wla rfl rfl (q_ltI rfl s269_201 rfl) ?_
              refine wl_nil ?_
              refine W_th ?_
              refine W_seq ?_
              refine W_cond _ rfl rfl (fun hb202 => ?_) (fun hb202 => ?_)
              · replace H200 := (if_pos (of_decide_eq_true hb202)).symm.trans H200
                refine W_skip ?_
                refine W_th ?_
                refine W_seq ?_
                refine W_block ?_
                refine W_seq ?_
                refine W_reg (by kernel_rfl) ?_
                obtain ⟨c203, hc203, H200⟩ := Option.bind_eq_some_iff.1 H200
                obtain ⟨c204, hc204, H200⟩ := Option.bind_eq_some_iff.1 H200
                refine wla rfl rfl (q_index rfl A70 (by exact s268_201) (by exact s269_201) (lenA_eq hc203) hc204) ?_
                refine wla rfl rfl (q_assign (v := (u32 c204)) rfl rfl) ?_
                refine wl_nil ?_
                refine W_th ?_
                refine W_reg (by kernel_rfl) ?_
                refine wla rfl rfl (q_move (v := v16_201) rfl s16_201) ?_
                refine wla rfl rfl (q_move (v := (u32 c204)) rfl rfl) ?_
                refine wla rfl rfl (q_shr32 24 rfl rfl rfl rfl) ?_
                refine wla rfl rfl (q_cvt832 rfl rfl rfl rfl) ?_
                refine wla rfl rfl (q_move (v := (u32 c204)) rfl rfl) ?_
                refine wla rfl rfl (q_shr32 16 rfl rfl rfl rfl) ?_
                refine wla rfl rfl (q_cvt832 rfl rfl rfl rfl) ?_
                refine wla rfl rfl (q_move (v := (u32 c204)) rfl rfl) ?_
                refine wla rfl rfl (q_shr32 8 rfl rfl rfl rfl) ?_
                refine wla rfl rfl (q_cvt832 rfl rfl rfl rfl) ?_
                refine wla rfl rfl (q_move (v := (u32 c204)) rfl rfl) ?_
                refine wla rfl rfl (q_cvt832 rfl rfl rfl rfl) ?_
                refine wls rfl rfl (stp_lit (L := [v16_201]) (R := (Sc u8)) [(u8 ((((shr32 c204 24)).toUInt8))), (u8 ((((shr32 c204 16)).toUInt8))), (u8 ((((shr32 c204 8)).toUInt8))), (u8 ((c204.toUInt8)))] ([(((shr32 c204 24)).toUInt8), (((shr32 c204 16)).toUInt8), (((shr32 c204 8)).toUInt8), (c204.toUInt8)] : List UInt8) rfl T22 rfl (by exact ⟨rfl, rfl, rfl, rfl, rfl, rfl, rfl, rfl, trivial⟩) rfl (litC u8 (oneC_u8) (us := [(u8 ((((shr32 c204 24)).toUInt8))), (u8 ((((shr32 c204 16)).toUInt8))), (u8 ((((shr32 c204 8)).toUInt8))), (u8 ((c204.toUInt8)))]) (l := ([(((shr32 c204 24)).toUInt8), (((shr32 c204 16)).toUInt8), (((shr32 c204 8)).toUInt8), (c204.toUInt8)] : List UInt8)) rfl) rfl (litS u8 (us := [(u8 ((((shr32 c204 24)).toUInt8))), (u8 ((((shr32 c204 16)).toUInt8))), (u8 ((((shr32 c204 8)).toUInt8))), (u8 ((c204.toUInt8)))]) (l := ([(((shr32 c204 24)).toUInt8), (((shr32 c204 16)).toUInt8), (((shr32 c204 8)).toUInt8), (c204.toUInt8)] : List UInt8)) rfl) ?_)
                intro v205 w205 o205 n205 g205 l205
                have x205 := grown_ext g205
                have i205 : By w205 [v16_201] v205 (([(((shr32 c204 24)).toUInt8), (((shr32 c204 16)).toUInt8), (((shr32 c204 8)).toUInt8), (c204.toUInt8)] : List UInt8)) := OwK.slk (Sc.stab _) _ o205 (fun k hk => (Old.cons (Old.nil _) o0_201.lt) k (n205 k hk)) (fun _ h => h.2)
                replace o0_201 := o0_201.extL (Sc.stab _) x205 (Lift.ext x205 _)
                have e206 := hE201.trans x205
                obtain ⟨c207, hc207, H200⟩ := Option.bind_eq_some_iff.1 H200
                refine wls rfl rfl (stp_append (R := (Sc u8)) (v := v16_201) (u := v205) (Sc.stab _) [] [] rfl T22 rfl rfl o0_201 i205 (fun _ _ h => h) hc207 oc_u8 ?_)
                intro v207 w207 o207 g207 nx207 l207
                replace i205 := i205.lift l207
                have e208 := e206.grown g207 n0_201
                have n209 := Nw.nxt e206 n0_201 nx207
                refine wla rfl rfl (q_assign (v := v207) rfl rfl) ?_
                refine wl_nil ?_
                refine bk_n ?_
                refine W_th ?_
                refine W_reg (by kernel_rfl) ?_
                refine wla rfl rfl (q_addI rfl s269_201 rfl) ?_
                refine wla rfl rfl (q_move (v := (i64 ((wI (s200.2 + 1))))) rfl rfl) ?_
                refine wl_nil ?_
                obtain rfl := Option.some.inj H200
                exact ⟨_, rfl, v207, rfl, s268_201, rfl, s288_201, e208, o207, n209⟩
              · replace H200 := (if_neg (of_decide_eq_false hb202)).symm.trans H200
                refine W_exit ?_
                refine th_x ?_
                obtain rfl := Option.some.inj H200
                obtain rfl := hr200 _ rfl
                refine th_x ?_
                refine bk_x ?_
                exact ⟨v16_201, s16_201, s288_201, hE201, o0_201, n0_201⟩
          · rintro _ w211 ⟨v16_211, s16_211, s288_211, hE211, o0_211, n0_211⟩
            refine W_th ?_
            refine W_seq ?_
            refine W_reg (by kernel_rfl) ?_
            refine wla rfl rfl (q_move (v := v16_211) rfl s16_211) ?_
            refine wla rfl rfl (q_assign (v := v16_211) rfl rfl) ?_
            refine wl_nil ?_
            refine W_th ?_
            refine W_ret ?_
            obtain rfl := Option.some.inj H
            refine rt1 v16_211 rfl rfl rfl s288_211 ?_
            exact ⟨v16_211, rfl, hE211, n0_211, (o0_211.weak (Sc.stab _) (fun _ _ => trivial))⟩

end Gk

/- The document's answer for sums of bytes, in plain Lean. No condition but lengths. -/


set_option linter.unusedSimpArgs false
set_option linter.unusedVariables false
namespace Gk
open Gf

theorem rturn_eq (x : UInt32) (k : Nat) (h : k ≤ 32) : ref07_turn x k = some (rot x k) := by
  unfold ref07_turn
  rw [cnt_nat, Option.bind_some, wI_of (by omega) (by omega), show (32 : Int) - (k : Int) = ((32 - k : Nat) : Int) by omega, cnt_nat, Option.bind_some]; rfl

/-! ### Digits of 16 bits -/
def dv : List UInt64 → Nat
  | [] => 0
  | d :: l => d.toNat + 65536 * dv l
theorem dv_app (l : List UInt64) (d : UInt64) : dv (l ++ [d]) = dv l + 65536 ^ l.length * d.toNat := by
  induction l with
  | nil => simp [dv]
  | cons a l ih => simp only [List.cons_append, dv, ih, List.length_cons, Nat.pow_succ]; rw [Nat.mul_add, Nat.add_assoc, Nat.mul_comm (65536 ^ l.length) 65536, Nat.mul_assoc]
def dig (l : List UInt64) (i : Nat) : Nat := (l.getD i 0).toNat
theorem dv_take (l : List UInt64) (i : Nat) (h : i < l.length) : dv (l.take (i + 1)) = dv (l.take i) + 65536 ^ i * dig l i := by
  have : l.take (i + 1) = l.take i ++ [l.getD i 0] := by
    rw [List.take_add_one, List.getElem?_eq_getElem h, List.getD_eq_getElem?_getD, List.getElem?_eq_getElem h]; rfl
  rw [this, dv_app, List.length_take, Nat.min_eq_left (by omega)]; rfl
def Dig (l : List UInt64) : Prop := ∀ d ∈ l, d.toNat < 65536
theorem idx_dig {l : List UInt64} {i : Nat} (h : i < l.length) : idx l (i : Int) = some (l.getD i 0) := by
  rw [idx_nat, List.getD_eq_getElem?_getD, List.getElem?_eq_getElem h]; rfl
theorem dig_lt {l : List UInt64} (h : Dig l) (i : Nat) : dig l i < 65536 := by
  unfold dig
  by_cases hi : i < l.length
  · rw [List.getD_eq_getElem?_getD, List.getElem?_eq_getElem hi]; exact h _ (List.getElem_mem hi)
  · rw [List.getD_eq_getElem?_getD, List.getElem?_eq_none (by omega)]; decide
def pbody (out : List UInt64) (x : UInt64) (s11 : List UInt64 × List UInt64 × UInt64 × Int) : Option ((List UInt64 × List UInt64 × UInt64 × Int) ⊕ List UInt64) :=
  (if s11.2.2.2 < (s11.1.length : Int) then
  (((if s11.2.2.2 < (s11.1.length : Int) then
  ((idx s11.1 s11.2.2.2).bind fun c16 =>
  some (s11.2.2.1 + (c16 * x)))
  else
  some s11.2.2.1)).bind fun x14 =>
  ((appL s11.2.1 (([(x14 % (65536 : UInt64))] : List UInt64))).bind fun c20 =>
  some (.inl (s11.1, c20, (x14 / (65536 : UInt64)), (wI (s11.2.2.2 + 1))))))
  else
  (if (0 : UInt64) < s11.2.2.1 then
  (((if s11.2.2.2 < (s11.1.length : Int) then
  ((idx s11.1 s11.2.2.2).bind fun c28 =>
  some (s11.2.2.1 + (c28 * x)))
  else
  some s11.2.2.1)).bind fun x26 =>
  ((appL s11.2.1 (([(x26 % (65536 : UInt64))] : List UInt64))).bind fun c32 =>
  some (.inl (s11.1, c32, (x26 / (65536 : UInt64)), (wI (s11.2.2.2 + 1))))))
  else
  some (.inr s11.2.1)))
/-- A number times digits. -/
theorem times_loop (out : List UInt64) (x : UInt64) (hx : x.toNat < 2 ^ 40) (ho : Dig out) (hl : out.length ≤ 100) :
    ∃ r, iterC (pbody out x) (out, [], 0, 0) = some r ∧ dv r = dv out * x.toNat ∧ Dig r ∧ r.length ≤ out.length + 3 := by
  refine iterC_inv (body := pbody out x) (fun s => ∃ i : Nat, s.1 = out ∧ s.2.2.2 = (i : Int) ∧ s.2.1.length = i ∧ Dig s.2.1 ∧ i ≤ out.length + 3 ∧ s.2.2.1.toNat < 2 ^ 41 ∧ (out.length ≤ i → s.2.2.1.toNat < 2 ^ (41 - 16 * (i - out.length)))
      ∧ dv s.2.1 + 65536 ^ i * s.2.2.1.toNat = dv (out.take i) * x.toNat)
    (fun s => 200 - s.2.2.2.toNat) _ ?_ _ ⟨0, rfl, rfl, rfl, fun d hd => absurd hd (List.not_mem_nil), by omega, by simp, by intro h; simp, by simp [dv]⟩
  rintro ⟨out, nx, c, _⟩ ⟨i, rfl, rfl, hn, hd, hi, hc, hc2, hv⟩
  simp only at ho hl hn hd hi hc hc2 hv ⊢
  have hmost : (200 : Nat) ≤ most := by decide
  have key : ∀ y : UInt64, Dig (nx ++ [y % 65536]) ∧ (nx ++ [y % 65536]).length = i + 1 ∧ dv (nx ++ [y % 65536]) + 65536 ^ (i + 1) * (y / 65536).toNat = dv nx + 65536 ^ i * y.toNat := by
    intro y
    refine ⟨?_, by simp [hn], ?_⟩
    · intro d hd'
      rcases List.mem_append.1 hd' with h | h
      · exact hd d h
      · simp only [List.mem_singleton] at h; subst h
        rw [UInt64.toNat_mod]; exact Nat.mod_lt _ (by decide)
    · rw [dv_app, hn, UInt64.toNat_mod, UInt64.toNat_div, show UInt64.toNat 65536 = 65536 from rfl, Nat.pow_succ, Nat.mul_assoc, Nat.add_assoc, ← Nat.mul_add, Nat.mod_add_div]
  by_cases h : i < out.length
  · left
    have hdg := dig_lt ho i
    have hmul : (c + out.getD i 0 * x).toNat = c.toNat + dig out i * x.toNat := by
      have hb : dig out i * x.toNat ≤ 65535 * 2 ^ 40 := Nat.mul_le_mul (by omega) (by omega)
      rw [UInt64.toNat_add, UInt64.toNat_mul]
      unfold dig at *
      rw [Nat.mod_eq_of_lt (a := _ * _) (by omega), Nat.mod_eq_of_lt (by omega)]
    obtain ⟨k1, k2, k3⟩ := key (c + out.getD i 0 * x)
    have hb : dig out i * x.toNat ≤ 65535 * 2 ^ 40 := Nat.mul_le_mul (by omega) (by omega)
    refine ⟨(out, nx ++ [(c + out.getD i 0 * x) % 65536], (c + out.getD i 0 * x) / 65536, ((i + 1 : Nat) : Int)), ?_, ⟨i + 1, rfl, rfl, k2, k1, by omega, ?_, ?_, ?_⟩, ?_⟩
    · unfold pbody
      simp only []
      rw [if_pos (by omega), if_pos (by omega), idx_dig h, Option.bind_some, Option.bind_some]
      unfold appL
      rw [if_pos (by simp only [List.length_singleton]; omega), Option.bind_some, wI_succ _ (by omega)]
    · simp only []; rw [UInt64.toNat_div, hmul, show UInt64.toNat 65536 = 65536 from rfl]; omega
    · intro h'; simp only []; rw [UInt64.toNat_div, hmul, show UInt64.toNat 65536 = 65536 from rfl, show i + 1 - out.length = 0 by omega]; omega
    · simp only []
      rw [k3, hmul, dv_take out i h, Nat.mul_add, ← Nat.add_assoc, hv, Nat.add_mul, Nat.mul_assoc]
    · simp only [Int.toNat_natCast]; omega
  · have h2 := hc2 (by omega)
    by_cases hz : c = 0
    · right
      refine ⟨nx, ?_, ?_, hd, by omega⟩
      · unfold pbody
        simp only []
        rw [if_neg (by omega), if_neg (by rw [hz]; decide)]
      · rw [hz, List.take_of_length_le (by omega)] at hv
        simpa using hv
    · left
      have hcp : 0 < c.toNat := Nat.pos_of_ne_zero fun e => hz (UInt64.toNat_inj.1 e)
      have hi3 : i < out.length + 3 := by
        apply Classical.byContradiction; intro hc3
        rw [show i - out.length = 3 by omega] at h2
        have : (2 : Nat) ^ (41 - 16 * 3) = 1 := by decide
        omega
      obtain ⟨k1, k2, k3⟩ := key c
      refine ⟨(out, nx ++ [c % 65536], c / 65536, ((i + 1 : Nat) : Int)), ?_, ⟨i + 1, rfl, rfl, k2, k1, by omega, ?_, ?_, ?_⟩, ?_⟩
      · unfold pbody
        simp only []
        rw [if_neg (by omega), if_pos (by rw [UInt64.lt_iff_toNat_lt]; exact hcp), if_neg (by omega), Option.bind_some]
        unfold appL
        rw [if_pos (by simp only [List.length_singleton]; omega), Option.bind_some, wI_succ _ (by omega)]
      · simp only []; rw [UInt64.toNat_div, show UInt64.toNat 65536 = 65536 from rfl]; omega
      · intro h'; simp only []; rw [UInt64.toNat_div, show UInt64.toNat 65536 = 65536 from rfl]
        rcases (show i - out.length = 0 ∨ i - out.length = 1 ∨ i - out.length = 2 by omega) with e | e | e <;> rw [e] at h2 <;> rw [show i + 1 - out.length = i - out.length + 1 by omega, e] <;> simp only [Nat.reduceMul, Nat.reduceSub, Nat.reduceAdd, Nat.reducePow] at h2 ⊢ <;> omega
      · simp only []
        rw [k3, hv, List.take_of_length_le (by omega), List.take_of_length_le (by omega)]
      · simp only [Int.toNat_natCast]; omega
theorem power_eq (x : UInt64) (hx : x.toNat < 2 ^ 40) (n : Nat) (hn : n ≤ 3) : ∃ r, ref07_power x n = some r ∧ dv r = x.toNat ^ n ∧ Dig r ∧ r.length ≤ 16 := by
  unfold ref07_power
  suffices h : ∃ r, iterC (fun s4 : Int × List UInt64 => (if 0 < s4.1 then ((iterC (pbody s4.2 x) (s4.2, ([] : List UInt64), (0 : UInt64), 0)).bind fun x11 => some (.inl ((wI (s4.1 - 1)), x11))) else some (.inr s4.2))) ((n : Int), ([(1 : UInt64)] : List UInt64)) = some r ∧ dv r = x.toNat ^ n ∧ Dig r ∧ r.length ≤ 16 by
    obtain ⟨r, h1, h2⟩ := h
    exact ⟨r, bind_of h1 rfl, h2⟩
  refine iterC_inv (fun s => ∃ j : Nat, s.1 = (j : Int) ∧ j ≤ n ∧ dv s.2 * x.toNat ^ j = x.toNat ^ n ∧ Dig s.2 ∧ s.2.length + 3 * j ≤ 10) (fun s => s.1.toNat) _ ?_ _ ⟨n, rfl, Nat.le_refl _, by simp [dv], by intro d hd; simp at hd; subst hd; decide, by simp; omega⟩
  rintro ⟨_, l⟩ ⟨j, rfl, hj, hv, hd, hl⟩
  simp only at hv hd hl ⊢
  cases j with
  | zero => right; exact ⟨l, by rw [if_neg (by decide)], by simpa using hv, hd, by omega⟩
  | succ j =>
    left
    obtain ⟨r, h1, h2, h3, h4⟩ := times_loop l x hx hd (by omega)
    refine ⟨((j : Int), r), ?_, ⟨j, rfl, by omega, ?_, h3, by simp only; omega⟩, by simp only [Int.toNat_natCast]; omega⟩
    · rw [if_pos (by omega), h1, Option.bind_some, wI_of (by omega) (by omega)]
      rw [show ((j + 1 : Nat) : Int) - 1 = (j : Int) by omega]
    · simp only []
      rw [h2, ← hv, Nat.pow_succ, Nat.mul_assoc, Nat.mul_comm x.toNat]
end Gk

/- The document's constants for sums of bytes. No condition. -/

set_option linter.unusedSimpArgs false
set_option linter.unusedVariables false
namespace Gk
open Gf

def dvN (l : List UInt64) : Nat → Nat
  | 0 => 0
  | k + 1 => dvN l k + 65536 ^ k * dig l k
theorem dvN_lt {l : List UInt64} (h : Dig l) : ∀ k, dvN l k < 65536 ^ k
  | 0 => by simp [dvN]
  | k + 1 => by
    have h1 := dvN_lt h k
    have h2 := dig_lt h k
    have h3 : 65536 ^ k * dig l k ≤ 65536 ^ k * 65535 := Nat.mul_le_mul_left _ (by omega)
    simp only [dvN, Nat.pow_succ]; omega
theorem dvN_eq (l : List UInt64) (k : Nat) : dvN l k = dv (l.take k) := by
  induction k with
  | zero => simp [dvN, dv]
  | succ k ih =>
    by_cases h : k < l.length
    · rw [dv_take l k h, ← ih]; rfl
    · have : dig l k = 0 := by unfold dig; rw [List.getD_eq_getElem?_getD, List.getElem?_eq_none (by omega)]; rfl
      rw [dvN, this, Nat.mul_zero, Nat.add_zero, ih, List.take_of_length_le (by omega), List.take_of_length_le (by omega)]
theorem dvN_16 {l : List UInt64} (h : l.length ≤ 16) : dvN l 16 = dv l := by rw [dvN_eq, List.take_of_length_le h]
theorem dv_rep (n : Nat) (p : UInt64) : dv (List.replicate n 0 ++ [p]) = 65536 ^ n * p.toNat := by
  rw [dv_app, List.length_replicate]
  have : dv (List.replicate n 0) = 0 := by
    induction n with
    | zero => rfl
    | succ n ih => rw [List.replicate_succ, dv, ih]; rfl
  rw [this, Nat.zero_add]
theorem cmp_loop (a c : List UInt64) (ha : Dig a) (hc : Dig c) {body : Int → Option (Int ⊕ (Unit ⊕ Bool))}
    (h1 : ∀ i : Nat, i < 16 → body (i : Int) = if a.getD i 0 = c.getD i 0 then some (.inl ((i : Int) - 1)) else some (.inr (.inr (decide (c.getD i 0 < a.getD i 0)))))
    (h2 : body (-1) = some (.inr (.inl ()))) : ∀ j : Nat, j ≤ 16 → ∃ o, iterC body ((j : Int) - 1) = some o ∧ Sum.elim (fun _ => some false) (fun q => some q) o = some (decide (dvN c j < dvN a j))
  | 0, _ => ⟨_, by rw [iterC_step, show ((0 : Nat) : Int) - 1 = -1 by rfl, h2]; rfl, by simp [dvN]⟩
  | j + 1, hj => by
    obtain ⟨o, ho, ho2⟩ := cmp_loop a c ha hc h1 h2 j (by omega)
    rw [iterC_step, show ((j + 1 : Nat) : Int) - 1 = (j : Int) by omega, h1 j (by omega)]
    have la := dvN_lt ha j; have lc := dvN_lt hc j
    by_cases e : a.getD j 0 = c.getD j 0
    · rw [if_pos e]
      refine ⟨o, ho, ?_⟩
      rw [ho2]
      simp only [dvN, dig, e]
      congr 1; simp
    · rw [if_neg e]
      refine ⟨_, rfl, ?_⟩
      simp only [Sum.elim_inr]
      congr 1
      rw [decide_eq_decide, UInt64.lt_iff_toNat_lt]
      have e' : (a.getD j 0).toNat ≠ (c.getD j 0).toNat := fun h => e (UInt64.toNat_inj.1 h)
      simp only [dvN, dig]
      generalize (a.getD j 0).toNat = x at *
      generalize (c.getD j 0).toNat = y at *
      constructor
      · intro h
        have : 65536 ^ j * (y + 1) ≤ 65536 ^ j * x := Nat.mul_le_mul_left _ (by omega)
        rw [Nat.mul_add] at this; omega
      · intro h
        apply Classical.byContradiction; intro h'
        have : 65536 ^ j * (x + 1) ≤ 65536 ^ j * y := Nat.mul_le_mul_left _ (by omega)
        rw [Nat.mul_add] at this; omega
theorem above_eq (x p : UInt64) (n : Nat) (hx : x.toNat < 2 ^ 40) (hp : p.toNat < 65536) (hn : n ≤ 3) : ref07_above x p n = some (decide (p.toNat * 2 ^ (32 * n) < x.toNat ^ n)) := by
  obtain ⟨r, h1, h2, h3, h4⟩ := power_eq x hx n hn
  have hmost : (200 : Nat) ≤ most := by decide
  unfold ref07_above
  rw [h1, Option.bind_some, wI_of (by omega) (by omega), show 2 * (n : Int) = ((2 * n : Nat) : Int) by omega, makeL_nat _ _ (by omega), Option.bind_some]
  unfold appL
  rw [if_pos (by simp only [List.length_replicate, List.length_singleton]; omega), Option.bind_some]
  have hc : Dig (List.replicate (2 * n) 0 ++ [p]) := by
    intro d hd
    rcases List.mem_append.1 hd with h | h
    · rw [List.eq_of_mem_replicate h]; decide
    · simp only [List.mem_singleton] at h; subst h; exact hp
  have hcl : (List.replicate (2 * n) (0 : UInt64) ++ [p]).length = 2 * n + 1 := by simp
  have hv := dv_rep (2 * n) p
  generalize List.replicate (2 * n) (0 : UInt64) ++ [p] = c at *
  have gd : ∀ (l : List UInt64) (i : Nat), ¬ i < l.length → l.getD i 0 = 0 := fun l i h => by rw [List.getD_eq_getElem?_getD, List.getElem?_eq_none (by omega)]; rfl
  obtain ⟨o, ho, ho2⟩ := cmp_loop r c h3 hc (body := fun s11 : Int =>
    (if 0 ≤ s11 then
    (((if s11 < (r.length : Int) then
    ((idx r s11).bind fun c16 =>
    some c16)
    else
    some (0 : UInt64))).bind fun x14 =>
    (if s11 < (c.length : Int) then
    ((idx c s11).bind fun c19 =>
    (if x14 = c19 then
    some (.inl (wI (s11 - 1)))
    else
    some (.inr (.inr (decide (c19 < x14))))))
    else
    (if x14 = (0 : UInt64) then
    some (.inl (wI (s11 - 1)))
    else
    some (.inr (.inr (decide ((0 : UInt64) < x14)))))))
    else
    some (.inr (.inl ())))) (fun i hi => by
      rw [if_pos (by omega), wI_of (by omega) (by omega)]
      have e1 : (if (i : Int) < (r.length : Int) then (idx r (i : Int)).bind fun c16 => some c16 else some (0 : UInt64)) = some (r.getD i 0) := by
        by_cases h : i < r.length
        · rw [if_pos (by omega), idx_dig h]; rfl
        · rw [if_neg (by omega), gd r i h]
      rw [e1, Option.bind_some]
      by_cases h : i < c.length
      · rw [if_pos (by omega), idx_dig h]; rfl
      · rw [if_neg (by omega), gd c i h]) (by rfl) 16 (Nat.le_refl _)
  refine (bind_of (x := o) ho ?_)
  refine Eq.trans ?_ (ho2.trans ?_)
  · rfl
  · rw [dvN_16 h4, dvN_16 (by omega), h2, hv]
    congr 2
    rw [show (65536 : Nat) = 2 ^ 16 by rfl, ← Nat.pow_mul, Nat.mul_comm, show 16 * (2 * n) = 32 * n by omega]
/-- The root's beginning, bit by bit. -/
def frN (p n : Nat) : Nat → Nat → Nat
  | 0, x => x
  | b + 1, x => frN p n b (bif Nat.blt (p * 2 ^ (32 * n)) ((x + 2 ^ b) ^ n) then x else x + 2 ^ b)
theorem Fraction_eq (p : UInt64) (n : Nat) (hp : p.toNat < 65536) (hn : n ≤ 3) : ref07_Fraction p n = some (UInt32.ofNat (frN p.toNat n 36 0)) := by
  unfold ref07_Fraction
  suffices h : ∀ (b : Nat) (x : UInt64), x.toNat + 2 ^ b ≤ 2 ^ 36 → b ≤ 36 → ∃ y, iterC (fun s1 : UInt64 × Int =>
      (if 0 ≤ s1.2 then
      ((cnt s1.2).bind fun c4 =>
      ((ref07_above (s1.1 + (shl64 ((1 : UInt64)) c4)) p n).bind fun r5 =>
      (if (!r5) = true then
      ((cnt s1.2).bind fun c8 =>
      some (.inl ((s1.1 + (shl64 ((1 : UInt64)) c8)), (wI (s1.2 - 1)))))
      else
      some (.inl (s1.1, (wI (s1.2 - 1)))))))
      else
      some (.inr s1.1))) (x, (b : Int) - 1) = some y ∧ y.toNat = frN p.toNat n b x.toNat by
    obtain ⟨y, h1, h2⟩ := h 36 0 (by decide) (by decide)
    refine bind_of h1 ?_
    congr 1
    apply UInt32.toNat_inj.1
    rw [UInt64.toNat_toUInt32, h2]; simp
  intro b
  induction b with
  | zero => intro x _ _; exact ⟨x, by rw [iterC_step]; rfl, rfl⟩
  | succ b ih =>
    intro x hx hb
    have hpw : (2 : Nat) ^ (b + 1) = 2 ^ b + 2 ^ b := by rw [Nat.pow_succ]; omega
    have hpos := Nat.two_pow_pos b
    have hxb : (x + shl64 1 b).toNat = x.toNat + 2 ^ b := by
      have e : (shl64 1 b).toNat = 2 ^ b := by
        simp only [shl64, UInt64.toNat_ofNat', UInt64.toNat_one, Nat.one_mul]
        rw [Nat.min_eq_left (by omega), Nat.mod_eq_of_lt (by omega)]
      rw [UInt64.toNat_add, e, Nat.mod_eq_of_lt (by omega)]
    rw [iterC_step]
    have e1 : (((b + 1 : Nat) : Int) - 1) = (b : Int) := by omega
    simp only [e1]
    rw [if_pos (by omega), cnt_nat, Option.bind_some, above_eq _ _ _ (by omega) hp hn, hxb, Option.bind_some, wI_of (by omega) (by omega)]
    simp only [frN]
    by_cases h : p.toNat * 2 ^ (32 * n) < (x.toNat + 2 ^ b) ^ n
    · rw [if_neg (by simp [h])]
      obtain ⟨y, h1, h2⟩ := ih x (by omega) (by omega)
      exact ⟨y, h1, by rw [h2, show Nat.blt (p.toNat * 2 ^ (32 * n)) ((x.toNat + 2 ^ b) ^ n) = true by rw [Nat.blt_eq]; exact h]; rfl⟩
    · rw [if_pos (by simp [h]), Option.bind_some]
      obtain ⟨y, h1, h2⟩ := ih (x + shl64 1 b) (by omega) (by omega)
      exact ⟨y, h1, by rw [h2, hxb, show Nat.blt (p.toNat * 2 ^ (32 * n)) ((x.toNat + 2 ^ b) ^ n) = false by rw [Bool.eq_false_iff, ne_eq, Nat.blt_eq]; exact h]; rfl⟩

/-! ### The first primes -/
theorem iterC_sim {S X : Type} {body body' : S → Option (S ⊕ X)} (I : S → Prop) (he : ∀ s r, I s → body' s = some r → body s = some r) (hs : ∀ s s', I s → body' s = some (.inl s') → I s') : ∀ (k : Nat) (s : S) (x : X), I s → iterN body' k s = some x → iterC body s = some x
  | 0, s, x, _, h => by cases h
  | k + 1, s, x, hi, h => by
    unfold iterN at h
    cases hb : body' s with
    | none => rw [hb] at h; cases h
    | some r =>
      rw [iterC_step, he s r hi hb]
      rw [hb] at h
      cases r with
      | inl s' => exact iterC_sim I he hs k s' x (hs s s' hi hb) h
      | inr y => exact h
def prL : List UInt64 := [2, 3, 5, 7, 11, 13, 17, 19, 23, 29, 31, 37, 41, 43, 47, 53, 59, 61, 67, 71, 73, 79, 83, 89, 97, 101, 103, 107, 109, 113, 127, 131, 137, 139, 149, 151, 157, 163, 167, 173, 179, 181, 191, 193, 197, 199, 211, 223, 227, 229, 233, 239, 241, 251, 257, 263, 269, 271, 277, 281, 283, 293, 307, 311]
def pstep (s : List UInt64 × UInt64) : Option ((List UInt64 × UInt64) ⊕ List UInt64) :=
  if 1000 < s.2.toNat then none else if s.1.length < 64 then (if s.1.all (fun q => !decide (s.2 % q = 0)) then some (.inl (s.1 ++ [s.2], s.2 + 1)) else some (.inl (s.1, s.2 + 1))) else some (.inr s.1)
theorem Primes_eq : ref07_Primes 64 = some prL := by
  unfold ref07_Primes
  have hmost : (100 : Nat) ≤ most := by decide
  refine bind_of (x := prL) (iterC_sim (body' := pstep) (fun s => (∀ q ∈ s.1, q ≠ 0) ∧ s.2 ≠ 0) ?_ ?_ 400 _ _ ⟨(by intro q hq; cases hq), by decide⟩ ?_) rfl
  · rintro ⟨l, p⟩ r ⟨hI, hp0⟩ hr
    unfold pstep at hr
    simp only at hI hr ⊢
    split at hr
    · cases hr
    rw [← hr]
    by_cases h : l.length < 64
    · rw [if_pos (by omega), if_pos h]
      have hin : iterC (fun s7 : Bool × Int =>
          (if s7.2 < (l.length : Int) then
          ((idx l s7.2).bind fun c10 =>
          (if s7.1 = true then
          ((nz c10).bind fun c12 =>
          some (.inl ((!decide ((p % c10) = (0 : UInt64))), (wI (s7.2 + 1)))))
          else
          some (.inl (false, (wI (s7.2 + 1))))))
          else
          some (.inr s7.1))) (true, 0) = some (l.all (fun q => !decide (p % q = 0))) := by
        refine iterC_count (fun i => ((l.take i).all (fun q => !decide (p % q = 0)), (i : Int))) l.length _ (by simp) ?_ ?_
        · intro i hi
          simp only []
          rw [if_pos (by omega), idx_dig hi, Option.bind_some, wI_succ _ (by omega)]
          have hm : l.getD i 0 ∈ l := by rw [List.getD_eq_getElem?_getD, List.getElem?_eq_getElem hi]; exact List.getElem_mem hi
          have ht : l.take (i + 1) = l.take i ++ [l.getD i 0] := by
            rw [List.take_add_one, List.getElem?_eq_getElem hi, List.getD_eq_getElem?_getD, List.getElem?_eq_getElem hi]; rfl
          rw [ht, List.all_append]
          have hz : nz (l.getD i 0) = some () := by unfold nz; rw [if_neg (hI _ hm)]
          cases he : (l.take i).all (fun q => !decide (p % q = 0))
          · rw [if_neg (by decide)]; simp
          · rw [if_pos rfl, hz, Option.bind_some]; simp
        · simp only []; rw [if_neg (by omega), List.take_length]
      rw [bind_of hin rfl]
      by_cases hb : l.all (fun q => !decide (p % q = 0)) = true
      · rw [if_pos hb, if_pos hb]; unfold appL; rw [if_pos (by simp; omega)]; rfl
      · rw [if_neg hb, if_neg hb]
    · rw [if_neg (by omega), if_neg h]
  · rintro ⟨l, p⟩ ⟨l', p'⟩ ⟨hI, hp0⟩ hp
    unfold pstep at hp
    simp only at hI hp0 hp ⊢
    split at hp
    · cases hp
    rename_i hlt
    have hp1 : p + 1 ≠ 0 := by
      intro e
      have := congrArg UInt64.toNat e
      rw [UInt64.toNat_add] at this
      simp at this; omega
    split at hp
    · split at hp
      · cases hp
        refine ⟨fun q hq => ?_, hp1⟩
        rcases List.mem_append.1 hq with h | h
        · exact hI q h
        · simp only [List.mem_singleton] at h; subst h; exact hp0
      · cases hp; exact ⟨hI, hp1⟩
    · cases hp
  · decide +kernel
theorem pr_3 : ∀ i : Fin 64, UInt32.ofNat (frN (prL.getD i 0).toNat 3 36 0) = w0 kL i := by decide +kernel
theorem pr_2 : ∀ i : Fin 8, UInt32.ofNat (frN (prL.getD i 0).toNat 2 36 0) = w0 hL i := by decide +kernel
theorem pr_lt : ∀ i : Fin 64, (prL.getD i 0).toNat < 65536 := by decide +kernel
end Gk

/- The document's answer for sums of bytes is the program's. No condition but lengths. -/

set_option linter.unusedSimpArgs false
set_option linter.unusedVariables false
namespace Gk
open Gf

def told (l : List UInt32) (n i : Nat) : List UInt32 := l.take i ++ List.replicate (n - i) 0
theorem told_len (l : List UInt32) (n i : Nat) (h : l.length = n) : (told l n i).length = n := by simp [told]; omega
theorem told_set (l : List UInt32) (n i : Nat) (h : l.length = n) (hi : i < n) : (told l n i).set i (w0 l i) = told l n (i + 1) := by
  unfold told
  obtain ⟨m, hm⟩ : ∃ m, n - i = m + 1 := ⟨n - i - 1, by omega⟩
  have hl : (l.take i).length = i := by simp; omega
  rw [List.set_append_right _ _ (by omega), hl, Nat.sub_self, hm, List.replicate_succ, List.set_cons_zero, show n - (i + 1) = m by omega, w0_take (by omega)]
  simp
theorem told_end (l : List UInt32) (n i : Nat) (h : l.length = n) (hi : n ≤ i) : told l n i = l := by
  unfold told; rw [List.take_of_length_le (by omega), show n - i = 0 by omega]; simp
theorem sched_pre (p : List UInt8) (i : Nat) : ∀ k, w0 (sched p (i + 1 + k)) i = w0 (sched p (i + 1)) i
  | 0 => rfl
  | k + 1 => by
    rw [← sched_pre p i k, show i + 1 + (k + 1) = (i + 1 + k) + 1 by omega, sched]
    simp only [w0, List.getD_eq_getElem?_getD]
    rw [List.getElem?_append_left (by rw [sched_len]; omega)]
theorem co_pc (m : List UInt8) (j i : Nat) (h : i < 64) : co (pc m j) i = co m (64 * j + i) := by
  rw [pc, co_take, if_pos h, co_drop]
theorem lenA_eight (a b c d e f g h : UInt32) : lenA 8 [a, b, c, d, e, f, g, h] = some () := rfl
theorem one_block (m : List UInt8) (s : List UInt32) (j : Nat) (hs : s.length = 8) (hm : 64 * j + 64 ≤ m.length) (hb : m.length ≤ 2000000) : iterC (fun s101 : List UInt32 × List UInt32 × Int =>
(if s101.2.2 < 64 then
(((if s101.2.2 < 16 then
((idx m ((wI (((64 * j : Nat) : Int) + (wI (4 * s101.2.2)))))).bind fun c108 =>
((idx m ((wI ((wI (((64 * j : Nat) : Int) + (wI (4 * s101.2.2)))) + 1)))).bind fun c109 =>
((idx m ((wI ((wI (((64 * j : Nat) : Int) + (wI (4 * s101.2.2)))) + 2)))).bind fun c110 =>
((idx m ((wI ((wI (((64 * j : Nat) : Int) + (wI (4 * s101.2.2)))) + 3)))).bind fun c111 =>
((lenA 64 s101.1).bind fun c112 =>
((idx s101.1 s101.2.2).bind fun c113 => some (s101.1.set (s101.2.2 : Int).toNat (((((shl32 ((c108.toUInt32)) 24) ||| (shl32 ((c109.toUInt32)) 16)) ||| (shl32 ((c110.toUInt32)) 8)) ||| (c111.toUInt32))))))))))
else
((lenA 64 s101.1).bind fun c118 =>
((idx s101.1 ((wI (s101.2.2 - 2)))).bind fun c119 =>
((idx s101.1 ((wI (s101.2.2 - 7)))).bind fun c120 =>
((idx s101.1 ((wI (s101.2.2 - 15)))).bind fun c121 =>
((idx s101.1 ((wI (s101.2.2 - 16)))).bind fun c122 =>
((ref07_turn c119 17).bind fun r123 =>
((ref07_turn c119 19).bind fun r125 =>
((ref07_turn c121 7).bind fun r127 =>
((ref07_turn c121 18).bind fun r129 =>
((idx s101.1 s101.2.2).bind fun c131 => some (s101.1.set (s101.2.2 : Int).toNat ((((((r123 ^^^ r125) ^^^ (shr32 c119 10)) + c120) + ((r127 ^^^ r129) ^^^ (shr32 c121 3))) + c122))))))))))))))).bind fun x104 =>
((lenA 8 s101.2.1).bind fun c137 =>
((idx s101.2.1 7).bind fun c138 =>
((idx s101.2.1 4).bind fun c139 =>
((idx s101.2.1 5).bind fun c140 =>
((idx s101.2.1 6).bind fun c141 =>
((lenA 64 kL).bind fun c142 =>
((idx kL s101.2.2).bind fun c143 =>
((lenA 64 x104).bind fun c144 =>
((idx x104 s101.2.2).bind fun c145 =>
((ref07_turn c139 6).bind fun r146 =>
((ref07_turn c139 11).bind fun r148 =>
((ref07_turn c139 25).bind fun r150 =>
((lenA 8 s101.2.1).bind fun c154 =>
((idx s101.2.1 0).bind fun c155 =>
((idx s101.2.1 1).bind fun c156 =>
((idx s101.2.1 2).bind fun c157 =>
((ref07_turn c155 2).bind fun r158 =>
((ref07_turn c155 13).bind fun r160 =>
((ref07_turn c155 22).bind fun r162 =>
((lenA 8 s101.2.1).bind fun c164 =>
((idx s101.2.1 0).bind fun c165 =>
((idx s101.2.1 1).bind fun c166 =>
((idx s101.2.1 2).bind fun c167 =>
((idx s101.2.1 3).bind fun c168 =>
((idx s101.2.1 4).bind fun c169 =>
((idx s101.2.1 5).bind fun c170 =>
((idx s101.2.1 6).bind fun c171 =>
((lenA 8 (([(((((c138 + ((r146 ^^^ r148) ^^^ r150)) + ((c139 &&& c140) ^^^ (((4294967295 : UInt32) ^^^ c139) &&& c141))) + c143) + c145) + (((r158 ^^^ r160) ^^^ r162) + (((c155 &&& c156) ^^^ (c155 &&& c157)) ^^^ (c156 &&& c157)))), c165, c166, c167, (c168 + ((((c138 + ((r146 ^^^ r148) ^^^ r150)) + ((c139 &&& c140) ^^^ (((4294967295 : UInt32) ^^^ c139) &&& c141))) + c143) + c145)), c169, c170, c171] : List UInt32))).bind fun c173 => some (.inl (x104, ([(((((c138 + ((r146 ^^^ r148) ^^^ r150)) + ((c139 &&& c140) ^^^ (((4294967295 : UInt32) ^^^ c139) &&& c141))) + c143) + c145) + (((r158 ^^^ r160) ^^^ r162) + (((c155 &&& c156) ^^^ (c155 &&& c157)) ^^^ (c156 &&& c157)))), c165, c166, c167, (c168 + ((((c138 + ((r146 ^^^ r148) ^^^ r150)) + ((c139 &&& c140) ^^^ (((4294967295 : UInt32) ^^^ c139) &&& c141))) + c143) + c145)), c169, c170, c171] : List UInt32), (wI (s101.2.2 + 1)))))))))))))))))))))))))))))))))
else some (.inr s101.2.1))) ((List.replicate 64 (0 : UInt32)), s, 0) = some (rnds (sched (pc m j) 64) s 64) := by
  generalize hp : pc m j = p
  refine iterC_count (fun t => (wTo p t, rnds (sched p 64) s t, (t : Int))) 64 _ rfl ?_ ?_
  · intro t ht
    have hl := wTo_len p t (by omega)
    have hl' := wTo_len p (t + 1) (by omega)
    have hr := rnds_len (sched p 64) s hs t
    simp only []
    rw [if_pos (by omega)]
    refine bind_of (x := wTo p (t + 1)) ?_ ?_
    · rw [← wTo_set p t ht]
      by_cases h16 : t < 16
      · rw [if_pos (by omega), wI_of (x := 4 * (t : Int)) (by omega) (by omega), wI_of (x := ((64 * j : Nat) : Int) + 4 * (t : Int)) (by omega) (by omega), wI_of (by omega) (by omega), wI_of (by omega) (by omega), wI_of (by omega) (by omega),
          show ((64 * j : Nat) : Int) + 4 * (t : Int) = ((64 * j + 4 * t : Nat) : Int) by omega, show ((64 * j + 4 * t : Nat) : Int) + 1 = ((64 * j + (4 * t + 1) : Nat) : Int) by omega,
          show ((64 * j + 4 * t : Nat) : Int) + 2 = ((64 * j + (4 * t + 2) : Nat) : Int) by omega, show ((64 * j + 4 * t : Nat) : Int) + 3 = ((64 * j + (4 * t + 3) : Nat) : Int) by omega,
          idx_co (by omega), Option.bind_some, idx_co (by omega), Option.bind_some, idx_co (by omega), Option.bind_some, idx_co (by omega), Option.bind_some, lenA_of hl, Option.bind_some, idx_w0 (by omega), Option.bind_some, Int.toNat_natCast]
        unfold nxt; rw [sched_len, if_pos h16]
        unfold be be4
        rw [← hp, co_pc _ _ _ (by omega), co_pc _ _ _ (by omega), co_pc _ _ _ (by omega), co_pc _ _ _ (by omega)]
      · rw [if_neg (by omega), lenA_of hl, Option.bind_some, wI_of (by omega) (by omega), wI_of (by omega) (by omega), wI_of (by omega) (by omega), wI_of (by omega) (by omega),
          show (t : Int) - 15 = ((t - 15 : Nat) : Int) by omega, show (t : Int) - 2 = ((t - 2 : Nat) : Int) by omega, show (t : Int) - 16 = ((t - 16 : Nat) : Int) by omega, show (t : Int) - 7 = ((t - 7 : Nat) : Int) by omega,
          idx_w0 (by omega), Option.bind_some, idx_w0 (by omega), Option.bind_some, idx_w0 (by omega), Option.bind_some, idx_w0 (by omega), Option.bind_some]
        rw [show (17 : Int) = ((17 : Nat) : Int) by rfl, rturn_eq _ 17 (by omega), Option.bind_some, show (19 : Int) = ((19 : Nat) : Int) by rfl, rturn_eq _ 19 (by omega), Option.bind_some,
          show (7 : Int) = ((7 : Nat) : Int) by rfl, rturn_eq _ 7 (by omega), Option.bind_some, show (18 : Int) = ((18 : Nat) : Int) by rfl, rturn_eq _ 18 (by omega), Option.bind_some,
          idx_w0 (by omega), Option.bind_some, Int.toNat_natCast, wTo_get _ _ _ (by omega), wTo_get _ _ _ (by omega), wTo_get _ _ _ (by omega), wTo_get _ _ _ (by omega)]
        unfold nxt; rw [sched_len, if_neg h16]
        congr 2
        ac_rfl
    · have e0 := idx_at (l := rnds (sched p 64) s t) 0 (by omega) 0 rfl
      have e1 := idx_at (l := rnds (sched p 64) s t) 1 (by omega) 1 rfl
      have e2 := idx_at (l := rnds (sched p 64) s t) 2 (by omega) 2 rfl
      have e3 := idx_at (l := rnds (sched p 64) s t) 3 (by omega) 3 rfl
      have e4 := idx_at (l := rnds (sched p 64) s t) 4 (by omega) 4 rfl
      have e5 := idx_at (l := rnds (sched p 64) s t) 5 (by omega) 5 rfl
      have e6 := idx_at (l := rnds (sched p 64) s t) 6 (by omega) 6 rfl
      have e7 := idx_at (l := rnds (sched p 64) s t) 7 (by omega) 7 rfl
      have ew : w0 (wTo p (t + 1)) t = w0 (sched p 64) t := by
        rw [wTo_get _ _ _ (by omega), ← sched_pre p t (63 - t), show t + 1 + (63 - t) = 64 by omega]
      simp only [lenA_of hr, e0, e1, e2, e3, e4, e5, e6, e7, Option.bind_some, lenA_of hl', lenA_of (show kL.length = 64 from rfl), idx_w0 (show t < (wTo p (t + 1)).length by omega), idx_w0 (show t < kL.length from ht), ew,
        show ∀ x, ref07_turn x 6 = some (rot x 6) from fun x => rturn_eq x 6 (by decide), show ∀ x, ref07_turn x 11 = some (rot x 11) from fun x => rturn_eq x 11 (by decide), show ∀ x, ref07_turn x 25 = some (rot x 25) from fun x => rturn_eq x 25 (by decide),
        show ∀ x, ref07_turn x 2 = some (rot x 2) from fun x => rturn_eq x 2 (by decide), show ∀ x, ref07_turn x 13 = some (rot x 13) from fun x => rturn_eq x 13 (by decide), show ∀ x, ref07_turn x 22 = some (rot x 22) from fun x => rturn_eq x 22 (by decide),
        wI_succ t (by omega), lenA_eight]
      rfl
  · simp only []; rw [if_neg (by omega)]
theorem ref_Sum_eq (b : List UInt8) (h : b.length ≤ 1000000) : ref07_Sum b = some (sha b) := by
  have hm : (1000000 : Nat) + 200 ≤ most := by decide
  have hp : padN b.length < 64 := Nat.mod_lt _ (by decide)
  have hn := nbl_eq b.length
  unfold ref07_Sum
  have z64 : (List.replicate 64 (0 : UInt32)).length = 64 := List.length_replicate
  have z8 : (List.replicate 8 (0 : UInt32)).length = 8 := List.length_replicate
  rw [lenA_of z64, Option.bind_some, lenA_of z8, Option.bind_some, Primes_eq, Option.bind_some]
  refine bind_of (x := (kL, hL)) (iterC_count (fun i => (told kL 64 i, told hL 8 i, (i : Int))) 64 _ rfl ?_ ?_) ?_
  · intro i hi
    have hk := told_len kL 64 i rfl
    have hh := told_len hL 8 i rfl
    simp only []
    have ep : (prL.length : Int) = 64 := rfl
    have hlt := pr_lt ⟨i, hi⟩
    have h3 := pr_3 ⟨i, hi⟩
    simp only at hlt h3
    rw [ep, if_pos (by omega), idx_dig (show i < prL.length from hi), Option.bind_some, show (3 : Int) = ((3 : Nat) : Int) by rfl, Fraction_eq _ 3 hlt (by omega), Option.bind_some, lenA_of hk, Option.bind_some, idx_w0 (by omega), Option.bind_some,
      Int.toNat_natCast, h3, told_set kL 64 i rfl hi, wI_succ _ (by omega)]
    by_cases h8 : i < 8
    · have h2 := pr_2 ⟨i, h8⟩
      simp only at h2
      rw [if_pos (by omega), show (2 : Int) = ((2 : Nat) : Int) by rfl, Fraction_eq _ 2 hlt (by omega), Option.bind_some, lenA_of hh, Option.bind_some, idx_w0 (by omega), Option.bind_some, h2, told_set hL 8 i rfl h8]
    · rw [if_neg (by omega), told_end hL 8 i rfl (by omega), told_end hL 8 (i + 1) rfl (by omega)]
  · rfl
  rw [appL_nil b (by omega), Option.bind_some, appL_one b 128 (by omega), Option.bind_some]
  have pl : ∀ i : Nat, ((b ++ [128]) ++ List.replicate i (0 : UInt8)).length = b.length + 1 + i := fun i => by simp only [List.length_append, List.length_singleton, List.length_replicate]
  refine bind_of (x := padL b) (iterC_count (fun i => (b ++ [128]) ++ List.replicate i 0) (padN b.length) _ (by simp) ?_ ?_) ?_
  · intro i hi
    rw [pl i, show (64 : Int) = ((64 : Nat) : Int) by rfl, remI_nat _ _ (by omega), Option.bind_some, if_neg (by unfold padN at hi; omega),
      appL_one _ _ (by simp only [List.length_append, List.length_singleton, List.length_replicate]; omega), Option.bind_some, List.replicate_succ']
    simp
  · rw [pl (padN b.length), show (64 : Int) = ((64 : Nat) : Int) by rfl, remI_nat _ _ (by omega), Option.bind_some, if_pos (by unfold padN; omega)]
    rfl
  refine bind_of (x := padded b) ?_ ?_
  · rw [show (56 : Int) = 8 * ((8 : Nat) : Int) - 8 by rfl]
    rw [put_loop (X := UInt8) (fun j => (shr64 (UInt64.ofInt (b.length : Int) * 8) (8 * j)).toUInt8) 8 (padL b) (by rw [padL_len]; omega)]
    · rfl
    · intro l j hj hl
      rw [if_pos (by simp only []; omega)]
      simp only []
      rw [show 8 * (j : Int) = ((8 * j : Nat) : Int) by omega, cnt_nat, Option.bind_some, appL_one l _ hl, Option.bind_some, wI_of (by omega) (by omega)]
    · intro l; rw [if_neg (by simp only []; omega)]
  have hpl := padded_len b
  refine bind_of (x := shaS (padded b) (nbl b.length)) (iterC_count (fun j => (shaS (padded b) j, ((64 * j : Nat) : Int))) (nbl b.length) _ rfl ?_ ?_) ?_
  · intro j hj
    have hs := shaS_len (padded b) j
    simp only []
    rw [if_pos (by omega), Option.bind_some, lenA_of hs, Option.bind_some, Option.bind_some, one_block (padded b) _ j hs (by omega) (by omega), Option.bind_some,
      add_loop _ _ hs (rnds_len _ _ hs _), Option.bind_some, wI_of (by omega) (by omega), show ((64 * j : Nat) : Int) + 64 = ((64 * (j + 1) : Nat) : Int) by omega]
    rfl
  · simp only []; rw [if_neg (by omega)]
  have hlen := shaS_len (padded b) (nbl b.length)
  rw [lenA_of hlen, Option.bind_some, out_loop _ hlen]
  · rfl
  · intro l i hi hl
    simp only []
    rw [if_pos (by omega), Option.bind_some, idx_w0 (by omega), Option.bind_some]
    unfold appL
    rw [if_pos (by simp only [List.length_cons, List.length_nil]; omega), Option.bind_some, wI_succ _ (by omega)]
    rfl
  · intro l; rfl
end Gk

/- A literal of bytes that is a text's: its mark. No condition. -/


set_option linter.unusedVariables false
set_option linter.unusedSimpArgs false
namespace Gk
open Go Go.RowKit
theorem run_mark {P : Program} {w : World} {g : Nat} {cur : Array Value} {e : TypeId} (hg : w.heap[g]? = some (.cells cur e (0, 0))) : (markStringish ⟨g, 0, none⟩).run P w = .ok () (w.putObj g (.cells cur e (cur.size, cur.size + 1))) := by
  have hlt := lt_of_get hg
  have hsh : w.shape? g = some (e, cur.size) := by unfold World.shape?; rw [hg]
  have hfr : w.freeze ⟨g, cur.size, none⟩ 1 = w.putObj g (.cells cur e (cur.size, cur.size + 1)) := by
    unfold World.freeze World.putObj
    rw [if_neg (by decide)]
    congr 1
    apply Array.ext_getElem?
    intro i
    rw [Array.getElem?_modify, Array.getElem?_setIfInBounds]
    by_cases h : g = i
    · subst h
      have hgl : w.heap[g] = .cells cur e (0, 0) := (Array.getElem?_eq_some_iff.1 hg).2
      simp [hgl, hlt]
    · simp [h]
  simp [markStringish, hsh, hfr]
theorem stp_mark {P : Program} {o : Oper} {f : Nat → Value} {w : World} {x : Operand} {t e : TypeId} {v : Value} {l : List UInt8} (L1 L2 : List Value) (ho : o.op = .convert t t x) (ht : P.underlying t = some (.slice e)) (he : P.underlying e = some (.int .u8)) (hx : ev f x = v) (h : OwK (Sc u8) w (L1 ++ v :: L2) e v l) (hne : l ≠ [])
    {K : Value → World → Prop} (hk : ∀ w', (∀ L', (∀ k, Hs v k → Av L' k) → By w' L' v l) → Gr w w' v → Lift w w' (L1 ++ v :: L2) (L1 ++ v :: L2) → K v w') : Stp P o f w K := by
  obtain ⟨us, hown, hl, hel⟩ := h
  rcases hown with ⟨p, rfl, rfl⟩ | ⟨g, cap, rfl, hc, hrow⟩
  · exact absurd (List.eq_nil_of_length_eq_zero (by simpa using hl.symm)) hne
  · obtain ⟨cur, hg, h1, h2, h3, h4⟩ := row_spec hrow
    have hgr : w.grownBy (w.putObj g (.cells cur e (cur.size, cur.size + 1))) (some g) := grownBy_putObj' w g _
    have hG : Gr w (w.putObj g (.cells cur e (cur.size, cur.size + 1))) (.slice (some ⟨g, 0, none⟩) us.length cap) := ⟨some g, hgr, fun k e => .inl (by rw [oB_pos hc]; exact e)⟩
    refine stp_of_run (w' := w.putObj g (.cells cur e (cur.size, cur.size + 1))) (v := .slice (some ⟨g, 0, none⟩) us.length cap) ?_ (hk _ (fun L' ha => ⟨us, ⟨_, cap, rfl, h1, fun hn => ⟨g, 0, rfl, ha g (.inl (oB_pos hc)), fun i hi => ?_⟩⟩, hl, hel⟩) hG (Lift.own L1 L2 hG (Nx.refl _ _)))
    · simp [execOp, ho, hx, convert, run_underlying ht, run_underlying he, run_mark hg]
    · have hb : (w.putObj g (.cells cur e (cur.size, cur.size + 1))).heap[g]? = some (.cells cur e (cur.size, cur.size + 1)) := World.putObj_heap_same (lt_of_get hg)
      have hcu : cur[i]? = some us[i] := by
        have : us[i]? = (cur.toList.take (us.length * 1))[i]? := by rw [h4]
        rw [List.getElem?_eq_getElem hi, List.getElem?_take, if_pos (by omega), Array.getElem?_toList] at this
        exact this.symm
      simp [World.cell?, hb, hcu]
end Gk

/- A byte of a text. No condition. -/

set_option linter.unusedVariables false
set_option linter.unusedSimpArgs false
namespace Gk
open Go Go.RowKit
variable {P : Program} {o : Oper} {f : Nat → Value}
/-- A text's byte. -/
theorem q_indexS {t : TypeId} {x y : Operand} {l : List UInt8} {i a : UInt8} (ho : o.op = .index t x y) (hu : P.underlying t = some .string) (hx : ev f x = str l) (hy : ev f y = u8 i) (hi : idx l (i.toNat : Int) = some a) : Qa P o f (u8 a) := by
  intro w'
  obtain ⟨h0, h1, h2⟩ := idx_some.1 hi
  have h2' : l[i.toNat]? = some a := List.getElem?_eq_some_iff.2 ⟨by simpa using h1, h2⟩
  have h3 : (⟨l.toArray⟩ : ByteArray)[i.toNat]? = some a := by
    have : (⟨l.toArray⟩ : ByteArray)[i.toNat]? = l[i.toNat]? := by
      simp [getElem?_def]
      rfl
    rw [this]; exact h2'
  simp [execOp, ho, hx, hy, u8, str, Instr.index, asIntOf, run_underlying hu, h3]
end Gk

/- Bytes of whatever content: what does not hang on it. No condition. -/



set_option linter.unusedVariables false
set_option linter.unusedSimpArgs false
namespace Gk
open Go Go.RowKit
/-- What comes out the same of whatever bytes, so many. -/
noncomputable def allJ {α : Type} (n : Int) (f : List UInt8 → Option α) : Option α :=
  @dite _ (0 ≤ n ∧ n ≤ most ∧ ∃ r, ∀ j : List UInt8, (j.length : Int) = n → f j = some r) (Classical.propDecidable _) (fun h => some (Classical.choose h.2.2)) (fun _ => none)
theorem allJ_some {α : Type} {n : Int} {f : List UInt8 → Option α} {r : α} (h : allJ n f = some r) : (0 ≤ n ∧ n ≤ most) ∧ ∀ j : List UInt8, (j.length : Int) = n → f j = some r := by
  unfold allJ at h
  split at h
  · rename_i h'
    refine ⟨⟨h'.1, h'.2.1⟩, fun j hj => ?_⟩
    rw [← h]; exact Classical.choose_spec h'.2.2 j hj
  · cases h
theorem allJ_of {α : Type} {n : Nat} {f : List UInt8 → Option α} {r : α} (hn : n ≤ most) (h : ∀ j : List UInt8, j.length = n → f j = some r) : allJ (n : Int) f = some r := by
  have h' : 0 ≤ (n : Int) ∧ (n : Int) ≤ most ∧ ∃ r, ∀ j : List UInt8, (j.length : Int) = (n : Int) → f j = some r := ⟨by omega, by omega, r, fun j hj => h j (by omega)⟩
  unfold allJ
  rw [dif_pos h']
  have h1 := Classical.choose_spec h'.2.2 (List.replicate n 0) (by simp)
  rw [h _ (by simp)] at h1
  exact h1.symm
theorem digits_u8 : ∀ (n t : Nat) (acc : List UInt8), ∃ l : List UInt8, (Extern.BytealgMakeNoZero.digits n t (acc.map u8).toArray) = (l.map u8).toArray ∧ l.length = acc.length + n
  | 0, t, acc => ⟨acc, rfl, rfl⟩
  | n + 1, t, acc => by
    obtain ⟨l, h1, h2⟩ := digits_u8 n (t / 256) (acc ++ [UInt8.ofNat (t % 256)])
    refine ⟨l, ?_, by rw [h2]; simp; omega⟩
    rw [← h1, Extern.BytealgMakeNoZero.digits]
    congr 1
    simp [u8]
variable {P : Program} {o : Oper} {f : Nat → Value} {w : World} {L : List Value}
theorem stp_extern {g : FuncId} {fn : Func} {e : Array Value → Sem Value} {xs : Array Operand} {ats : Array TypeId} {vs : List Value} {v : Value} {w' : World} (hf : P.funcs[g]? = some fn) (hn : (fn.name == "runtime.NumGoroutine") = false) (hb : fn.body.isNone = true)
    (hx0 : Extern.findNext fn = none) (he : Extern.find fn = some e) (ho : o.op = .call ⟨.value (.func g), xs, ats⟩) (hx : xs.toList.map (ev f) = vs) (hr : (e vs.toArray).run P w = .ok v w') {K : Value → World → Prop} (hk : K v w') : Stp P o f w K := by
  have hxs : xs.map (ev f) = vs.toArray := by subst hx; apply Array.ext'; simp
  refine stp_of_run (w' := w') (v := v) ?_ hk
  have h1 := run_callFunc_extern (P := P) hf hn hb hx0 he vs.toArray w
  unfold execOp
  rw [ho]
  dsimp only
  simp only [resolve, ev, Deferred.ofValue, hxs, Sem.run_bind, Sem.run_pure, Result.andThen_ok, invoke]
  rw [hr] at h1
  simpa using h1
theorem run_noZero (w : World) (ps : Array TypeId) (t e : TypeId) (ht : P.underlying t = some (.slice e)) (n : Nat) (hn : n ≤ 281474976710656) :
    ∃ l : List UInt8, (Extern.BytealgMakeNoZero.makeNoZero ps #[t] #[.int .i64 n]).run P w = .ok (.slice (some ⟨w.heap.size, 0, none⟩) n l.length) (w.drew.drew.alloc (.cells (l.map u8).toArray e)) ∧ n ≤ l.length ∧ (n ≤ maxLen → l.length ≤ maxLen) := by
  have hdef : Extern.BytealgMakeNoZero.makeNoZero ps #[t] #[.int .i64 n] =
      (do
        let .slice elem ← underlying t | stuck "bytealg.MakeNoZero: slice type expected"
        if (n : Int) < 0 || (n : Int) > 2 ^ 48 then runtimePanic (.error "makeslice: len out of range")
        let cap ← choose (.appendCap (n : Int).toNat 0 elem)
        askRoom cap
        let bytes ← choose (.extern "internal/bytealg.MakeNoZero.bytes" 0)
        let a ← newRow elem (Extern.BytealgMakeNoZero.digits cap bytes #[])
        pure (.slice (some a) (n : Int).toNat cap)) := rfl
  obtain ⟨l, hl, hlen⟩ := digits_u8 (grownCap w n 0 e) ((Question.extern "internal/bytealg.MakeNoZero.bytes" 0).cut (w.tape (w.drawn + 1) (.extern "internal/bytealg.MakeNoZero.bytes" 0))) []
  simp only [List.map_nil, List.length_nil, Nat.zero_add] at hl hlen
  have hge := grownCap_ge w n 0 e
  refine ⟨l, ?_, by rw [hlen]; simpa using hge, fun hm => by rw [hlen]; exact grownCap_le_maxLen w n 0 e hm⟩
  rw [hdef]
  have h1 : ¬ (n : Int) < 0 := by omega
  have h2 : ¬ (281474976710656 : Int) < (n : Int) := by omega
  have hl' : Extern.BytealgMakeNoZero.digits (grownCap w n 0 e) ((Question.extern "internal/bytealg.MakeNoZero.bytes" 0).cut (w.tape (w.drawn + 1) (.extern "internal/bytealg.MakeNoZero.bytes" 0))) #[] = (l.map u8).toArray := hl
  rw [hlen, ← hl']
  simp [run_underlying ht, h1, h2, Question.forced, newRow, Lib.size_digits, grownCap]
theorem stp_noZero {g : FuncId} {fn : Func} {x : Operand} {ps ats : Array TypeId} {t e : TypeId} {z : Value} {bytes : Nat} {n : Int} (hf : P.funcs[g]? = some fn) (hn : (fn.name == "runtime.NumGoroutine") = false) (hb : fn.body.isNone = true)
    (hx0 : Extern.findNext fn = none) (he : Extern.find fn = some (Extern.BytealgMakeNoZero.makeNoZero ps #[t])) (ho : o.op = .call ⟨.value (.func g), #[x], ats⟩) (T : TyS P t e z bytes) (hx : ev f x = i64 n) (hn0 : 0 ≤ n ∧ n ≤ most)
    {K : Value → World → Prop} (hk : ∀ (j : List UInt8), (j.length : Int) = n → ∀ v w', OwK (Sc u8) w' (v :: L) e v j → Nw w v → w.grownBy w' none → Lift w w' L (v :: L) → K v w') : Stp P o f w K := by
  obtain ⟨m, rfl⟩ := Int.eq_ofNat_of_zero_le hn0.1
  have hm : m ≤ most := by omega
  have hmm : most ≤ 281474976710656 := by decide
  have hml : most ≤ maxLen := by decide
  obtain ⟨l, hr, h1, h2⟩ := run_noZero (P := P) w ps t e T.sl m (by omega)
  have hv : Nw w (.slice (some ⟨w.heap.size, 0, none⟩) m l.length) := Nw.mk _ _ _
  have h0 := World.grownBy_alloc w.drew.drew (.cells (l.map u8).toArray e) none
  have hg : w.grownBy (w.drew.drew.alloc (.cells (l.map u8).toArray e)) none := ⟨h0.os, h0.tape, h0.output, h0.size, h0.block⟩
  refine stp_extern hf hn hb hx0 he ho (vs := [i64 m]) (by simp [hx]) hr (hk (l.take m) (by simp; omega) _ _ ?_ hv hg (Lift.new L hg hv))
  refine ⟨(l.take m).map u8, Ow.mk (by simp; omega) ?_, by simp, fun i a1 a2 => by simp [Sc]⟩
  refine ⟨by simp; omega, .inr ⟨w.heap.size, l.length, (l.map u8).toArray, rfl, Nat.zero_le _, heap_alloc_new w.drew.drew _, h1, h2 (by omega), by simp, by simp [List.map_take]⟩⟩
end Gk

/- Printed by gen.py: for each Go function a pure function, and that the Go code comes to it. No condition beside the equation that says what the pure function gives. -/


set_option linter.unusedVariables false
set_option linter.unusedSimpArgs false
namespace Gk
open Go Go.Proofs

/-! math/bits.Mul64 -/
noncomputable def math_bits_Mul64 (a0x : UInt64) (a1y : UInt64) : Option (UInt64 × UInt64) := some (((((shr64 a0x 32) * (shr64 a1y 32)) + (shr64 ((((shr64 a0x 32) * (a1y &&& (4294967295 : UInt64))) + (shr64 (((a0x &&& (4294967295 : UInt64)) * (a1y &&& (4294967295 : UInt64)))) 32))) 32)) + (shr64 ((((((shr64 a0x 32) * (a1y &&& (4294967295 : UInt64))) + (shr64 (((a0x &&& (4294967295 : UInt64)) * (a1y &&& (4294967295 : UInt64)))) 32)) &&& (4294967295 : UInt64)) + ((a0x &&& (4294967295 : UInt64)) * (shr64 a1y 32)))) 32)), (a0x * a1y))
set_option maxRecDepth 100000 in
set_option maxHeartbeats 8000000 in
theorem math_bits_Mul64_calls (a0x : UInt64) (a1y : UInt64) (r : UInt64 × UInt64) (w0 : World) (H : math_bits_Mul64 a0x a1y = some r) :
    Calls Try.prog 88 [(u64 a0x), (u64 a1y)].toArray w0 (fun e w' => e = .returned (.tuple #[(u64 r.1), (u64 r.2)]) ∧ Ext w0 w') := by
  have hE : Ext w0 w0 := Ext.refl w0
  unfold math_bits_Mul64 at H
  refine calls_W (n := 51) Try.func88 rfl rfl rfl ?_
  refine W_seq ?_
  refine W_reg (by kernel_rfl) ?_
  refine wla rfl rfl (q_assign (v := (u64 0)) rfl (cst64 (0 : UInt64) rfl)) ?_
  refine wla rfl rfl (q_assign (v := (u64 0)) rfl (cst64 (0 : UInt64) rfl)) ?_
  refine wl_nil ?_
  refine W_th ?_
  refine W_seq ?_
  refine W_reg (by kernel_rfl) ?_
  refine wla rfl rfl (q_move (v := (u64 a0x)) rfl rfl) ?_
  refine wla rfl rfl (q_and64 rfl rfl (cst64 (4294967295 : UInt64) rfl)) ?_
  refine wla rfl rfl (q_assign (v := (u64 ((a0x &&& (4294967295 : UInt64))))) rfl rfl) ?_
  refine wl_nil ?_
  refine W_th ?_
  refine W_seq ?_
  refine W_reg (by kernel_rfl) ?_
  refine wla rfl rfl (q_move (v := (u64 a0x)) rfl rfl) ?_
  refine wla rfl rfl (q_shr64 32 rfl rfl rfl rfl) ?_
  refine wla rfl rfl (q_assign (v := (u64 ((shr64 a0x 32)))) rfl rfl) ?_
  refine wl_nil ?_
  refine W_th ?_
  refine W_seq ?_
  refine W_reg (by kernel_rfl) ?_
  refine wla rfl rfl (q_move (v := (u64 a1y)) rfl rfl) ?_
  refine wla rfl rfl (q_and64 rfl rfl (cst64 (4294967295 : UInt64) rfl)) ?_
  refine wla rfl rfl (q_assign (v := (u64 ((a1y &&& (4294967295 : UInt64))))) rfl rfl) ?_
  refine wl_nil ?_
  refine W_th ?_
  refine W_seq ?_
  refine W_reg (by kernel_rfl) ?_
  refine wla rfl rfl (q_move (v := (u64 a1y)) rfl rfl) ?_
  refine wla rfl rfl (q_shr64 32 rfl rfl rfl rfl) ?_
  refine wla rfl rfl (q_assign (v := (u64 ((shr64 a1y 32)))) rfl rfl) ?_
  refine wl_nil ?_
  refine W_th ?_
  refine W_seq ?_
  refine W_reg (by kernel_rfl) ?_
  refine wla rfl rfl (q_move (v := (u64 ((a0x &&& (4294967295 : UInt64))))) rfl rfl) ?_
  refine wla rfl rfl (q_move (v := (u64 ((a1y &&& (4294967295 : UInt64))))) rfl rfl) ?_
  refine wla rfl rfl (q_mul64 rfl rfl rfl) ?_
  refine wla rfl rfl (q_assign (v := (u64 (((a0x &&& (4294967295 : UInt64)) * (a1y &&& (4294967295 : UInt64)))))) rfl rfl) ?_
  refine wl_nil ?_
  refine W_th ?_
  refine W_seq ?_
  refine W_reg (by kernel_rfl) ?_
  refine wla rfl rfl (q_move (v := (u64 ((shr64 a0x 32)))) rfl rfl) ?_
  refine wla rfl rfl (q_move (v := (u64 ((a1y &&& (4294967295 : UInt64))))) rfl rfl) ?_
  refine wla rfl rfl (q_mul64 rfl rfl rfl) ?_
  refine wla rfl rfl (q_move (v := (u64 (((a0x &&& (4294967295 : UInt64)) * (a1y &&& (4294967295 : UInt64)))))) rfl rfl) ?_
  refine wla rfl rfl (q_shr64 32 rfl rfl rfl rfl) ?_
  refine wla rfl rfl (q_add64 rfl rfl rfl) ?_
  refine wla rfl rfl (q_assign (v := (u64 ((((shr64 a0x 32) * (a1y &&& (4294967295 : UInt64))) + (shr64 (((a0x &&& (4294967295 : UInt64)) * (a1y &&& (4294967295 : UInt64)))) 32))))) rfl rfl) ?_
  refine wl_nil ?_
  refine W_th ?_
  refine W_seq ?_
  refine W_reg (by kernel_rfl) ?_
  refine wla rfl rfl (q_move (v := (u64 ((((shr64 a0x 32) * (a1y &&& (4294967295 : UInt64))) + (shr64 (((a0x &&& (4294967295 : UInt64)) * (a1y &&& (4294967295 : UInt64)))) 32))))) rfl rfl) ?_
  refine wla rfl rfl (q_and64 rfl rfl (cst64 (4294967295 : UInt64) rfl)) ?_
  refine wla rfl rfl (q_assign (v := (u64 (((((shr64 a0x 32) * (a1y &&& (4294967295 : UInt64))) + (shr64 (((a0x &&& (4294967295 : UInt64)) * (a1y &&& (4294967295 : UInt64)))) 32)) &&& (4294967295 : UInt64))))) rfl rfl) ?_
  refine wl_nil ?_
  refine W_th ?_
  refine W_seq ?_
  refine W_reg (by kernel_rfl) ?_
  refine wla rfl rfl (q_move (v := (u64 ((((shr64 a0x 32) * (a1y &&& (4294967295 : UInt64))) + (shr64 (((a0x &&& (4294967295 : UInt64)) * (a1y &&& (4294967295 : UInt64)))) 32))))) rfl rfl) ?_
  refine wla rfl rfl (q_shr64 32 rfl rfl rfl rfl) ?_
  refine wla rfl rfl (q_assign (v := (u64 ((shr64 ((((shr64 a0x 32) * (a1y &&& (4294967295 : UInt64))) + (shr64 (((a0x &&& (4294967295 : UInt64)) * (a1y &&& (4294967295 : UInt64)))) 32))) 32)))) rfl rfl) ?_
  refine wl_nil ?_
  refine W_th ?_
  refine W_seq ?_
  refine W_reg (by kernel_rfl) ?_
  refine wla rfl rfl (q_move (v := (u64 (((((shr64 a0x 32) * (a1y &&& (4294967295 : UInt64))) + (shr64 (((a0x &&& (4294967295 : UInt64)) * (a1y &&& (4294967295 : UInt64)))) 32)) &&& (4294967295 : UInt64))))) rfl rfl) ?_
  refine wla rfl rfl (q_move (v := (u64 ((a0x &&& (4294967295 : UInt64))))) rfl rfl) ?_
  refine wla rfl rfl (q_move (v := (u64 ((shr64 a1y 32)))) rfl rfl) ?_
  refine wla rfl rfl (q_mul64 rfl rfl rfl) ?_
  refine wla rfl rfl (q_add64 rfl rfl rfl) ?_
  refine wla rfl rfl (q_assign (v := (u64 ((((((shr64 a0x 32) * (a1y &&& (4294967295 : UInt64))) + (shr64 (((a0x &&& (4294967295 : UInt64)) * (a1y &&& (4294967295 : UInt64)))) 32)) &&& (4294967295 : UInt64)) + ((a0x &&& (4294967295 : UInt64)) * (shr64 a1y 32)))))) rfl rfl) ?_
  refine wl_nil ?_
  refine W_th ?_
  refine W_seq ?_
  refine W_reg (by kernel_rfl) ?_
  refine wla rfl rfl (q_move (v := (u64 ((shr64 a0x 32)))) rfl rfl) ?_
  refine wla rfl rfl (q_move (v := (u64 ((shr64 a1y 32)))) rfl rfl) ?_
  refine wla rfl rfl (q_mul64 rfl rfl rfl) ?_
  refine wla rfl rfl (q_move (v := (u64 ((shr64 ((((shr64 a0x 32) * (a1y &&& (4294967295 : UInt64))) + (shr64 (((a0x &&& (4294967295 : UInt64)) * (a1y &&& (4294967295 : UInt64)))) 32))) 32)))) rfl rfl) ?_
  refine wla rfl rfl (q_add64 rfl rfl rfl) ?_
  refine wla rfl rfl (q_move (v := (u64 ((((((shr64 a0x 32) * (a1y &&& (4294967295 : UInt64))) + (shr64 (((a0x &&& (4294967295 : UInt64)) * (a1y &&& (4294967295 : UInt64)))) 32)) &&& (4294967295 : UInt64)) + ((a0x &&& (4294967295 : UInt64)) * (shr64 a1y 32)))))) rfl rfl) ?_
  refine wla rfl rfl (q_shr64 32 rfl rfl rfl rfl) ?_
  refine wla rfl rfl (q_add64 rfl rfl rfl) ?_
  refine wla rfl rfl (q_assign (v := (u64 (((((shr64 a0x 32) * (shr64 a1y 32)) + (shr64 ((((shr64 a0x 32) * (a1y &&& (4294967295 : UInt64))) + (shr64 (((a0x &&& (4294967295 : UInt64)) * (a1y &&& (4294967295 : UInt64)))) 32))) 32)) + (shr64 ((((((shr64 a0x 32) * (a1y &&& (4294967295 : UInt64))) + (shr64 (((a0x &&& (4294967295 : UInt64)) * (a1y &&& (4294967295 : UInt64)))) 32)) &&& (4294967295 : UInt64)) + ((a0x &&& (4294967295 : UInt64)) * (shr64 a1y 32)))) 32))))) rfl rfl) ?_
  refine wl_nil ?_
  refine W_th ?_
  refine W_seq ?_
  refine W_reg (by kernel_rfl) ?_
  refine wla rfl rfl (q_move (v := (u64 a0x)) rfl rfl) ?_
  refine wla rfl rfl (q_move (v := (u64 a1y)) rfl rfl) ?_
  refine wla rfl rfl (q_mul64 rfl rfl rfl) ?_
  refine wla rfl rfl (q_assign (v := (u64 ((a0x * a1y)))) rfl rfl) ?_
  refine wl_nil ?_
  refine W_th ?_
  refine W_ret ?_
  obtain rfl := Option.some.inj H
  refine rt2 (u64 (((((shr64 a0x 32) * (shr64 a1y 32)) + (shr64 ((((shr64 a0x 32) * (a1y &&& (4294967295 : UInt64))) + (shr64 (((a0x &&& (4294967295 : UInt64)) * (a1y &&& (4294967295 : UInt64)))) 32))) 32)) + (shr64 ((((((shr64 a0x 32) * (a1y &&& (4294967295 : UInt64))) + (shr64 (((a0x &&& (4294967295 : UInt64)) * (a1y &&& (4294967295 : UInt64)))) 32)) &&& (4294967295 : UInt64)) + ((a0x &&& (4294967295 : UInt64)) * (shr64 a1y 32)))) 32)))) (u64 ((a0x * a1y))) rfl rfl rfl rfl rfl rfl ?_
  exact ⟨rfl, hE⟩

/-! math/bits.Mul -/
noncomputable def math_bits_Mul (a0x : UInt64) (a1y : UInt64) : Option (UInt64 × UInt64) :=
((math_bits_Mul64 a0x a1y).bind fun r1 => some (r1.1, r1.2))
set_option maxRecDepth 100000 in
set_option maxHeartbeats 8000000 in
theorem math_bits_Mul_calls (a0x : UInt64) (a1y : UInt64) (r : UInt64 × UInt64) (w0 : World) (H : math_bits_Mul a0x a1y = some r) :
    Calls Try.prog 82 [(u64 a0x), (u64 a1y)].toArray w0 (fun e w' => e = .returned (.tuple #[(u64 r.1), (u64 r.2)]) ∧ Ext w0 w') := by
  have hE : Ext w0 w0 := Ext.refl w0
  unfold math_bits_Mul at H
  refine calls_W (n := 30) Try.func82 rfl rfl rfl ?_
  refine W_seq ?_
  refine W_reg (by kernel_rfl) ?_
  refine wla rfl rfl (q_assign (v := (u64 0)) rfl (cst64 (0 : UInt64) rfl)) ?_
  refine wla rfl rfl (q_assign (v := (u64 0)) rfl (cst64 (0 : UInt64) rfl)) ?_
  refine wl_nil ?_
  refine W_th ?_
  refine W_seq ?_
  refine W_cond false rfl rfl (fun hb => by cases hb) (fun _ => ?_)
  refine W_skip ?_
  refine W_th ?_
  refine W_seq ?_
  refine W_reg (by kernel_rfl) ?_
  refine wla rfl rfl (q_move (v := (u64 a0x)) rfl rfl) ?_
  refine wla rfl rfl (q_move (v := (u64 a1y)) rfl rfl) ?_
  obtain ⟨r1, hr1, H⟩ := Option.bind_eq_some_iff.1 H
  refine wls rfl rfl (stp_call (vs := [(u64 a0x), (u64 a1y)]) Try.func88 rfl rfl rfl (ar2 rfl rfl) (math_bits_Mul64_calls a0x a1y  r1 _  hr1) ?_)
  rintro _ w1 ⟨rfl, x1⟩
  refine ⟨_, rfl, ?_⟩
  have e2 := hE.trans x1
  refine wla rfl rfl (q_move (v := (.tuple #[(u64 r1.1), (u64 r1.2)])) rfl rfl) ?_
  refine wla rfl rfl (q_extract rfl rfl rfl) ?_
  refine wla rfl rfl (q_extract rfl rfl rfl) ?_
  refine wla rfl rfl (q_assign (v := (u64 r1.1)) rfl rfl) ?_
  refine wla rfl rfl (q_assign (v := (u64 r1.2)) rfl rfl) ?_
  refine wl_nil ?_
  refine W_th ?_
  refine W_seq ?_
  refine W_reg (by kernel_rfl) ?_
  refine wla rfl rfl (q_move (v := (u64 r1.1)) rfl rfl) ?_
  refine wla rfl rfl (q_move (v := (u64 r1.2)) rfl rfl) ?_
  refine wla rfl rfl (q_assign (v := (u64 r1.1)) rfl rfl) ?_
  refine wla rfl rfl (q_assign (v := (u64 r1.2)) rfl rfl) ?_
  refine wl_nil ?_
  refine W_th ?_
  refine W_ret ?_
  obtain rfl := Option.some.inj H
  refine rt2 (u64 r1.1) (u64 r1.2) rfl rfl rfl rfl rfl rfl ?_
  exact ⟨rfl, e2⟩

end Gk

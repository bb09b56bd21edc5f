/- Slices in memory: such as are read, and such as are owned; what becomes of them. No condition. -/
import Derived.Test.YtabcmfkmddlaaaaGc
import Derived.OwnWalk
import Derived.RangeFuncWrites
import Derived.Laws.IdiomCopy
set_option linter.unusedVariables false
set_option linter.unusedSimpArgs false
namespace Gk
open Go

/-! ### What is read -/
/-- The block that a slice has room in, or that a pointer or a map points to. -/
def oB : Value → Option Nat
  | .slice (some a) _ (_ + 1) => some a.block
  | .pointer (some a) => some a.block
  | .map (some g) => some g
  | _ => none
/-- A pointer to a block's beginning. -/
abbrev bp (g : Nat) : Value := .pointer (some ⟨g, 0, none⟩)
theorem oB_pos {a : Addr} {n cap : Nat} (h : 0 < cap) : oB (.slice (some a) n cap) = some a.block := by
  cases cap with
  | zero => omega
  | succ c => rfl
theorem oB_zero (p : Option Addr) (n : Nat) : oB (.slice p n 0) = none := by cases p <;> rfl

/-- v owns block k: its own, or (a group of values) that of one of the group. -/
def Hs (v : Value) (k : Nat) : Prop := oB v = some k ∨ ∃ vs, v = .tuple vs ∧ ∃ u ∈ vs.toList, oB u = some k
theorem hs_sl {a : Option Addr} {n c k : Nat} (h : Hs (.slice a n c) k) : oB (.slice a n c) = some k := h.elim id (fun ⟨_, e, _⟩ => by cases e)
theorem hs_ptr {a : Option Addr} {k : Nat} (h : Hs (.pointer a) k) : oB (.pointer a) = some k := h.elim id (fun ⟨_, e, _⟩ => by cases e)
theorem hs_map {a : Option Nat} {k : Nat} (h : Hs (.map a) k) : oB (.map a) = some k := h.elim id (fun ⟨_, e, _⟩ => by cases e)
theorem hs_bp {g k : Nat} (h : Hs (bp g) k) : g = k := Option.some.inj (hs_ptr h)
theorem hs_bp' (g : Nat) : Hs (bp g) g := .inl rfl
theorem hs_tup {vs : Array Value} {k : Nat} (h : Hs (.tuple vs) k) : ∃ u ∈ vs.toList, oB u = some k := h.elim (fun e => by cases e) (fun ⟨_, e, h⟩ => by cases e; exact h)
theorem nh_nil {k : Nat} : ¬ Hs (.slice none 0 0) k := fun h => by have := hs_sl h; cases this
/-- Block b is none of those that these values own. -/
def Av : List Value → Nat → Prop
  | [], _ => True
  | u :: r, b => ¬ Hs u b ∧ Av r b
/-- From w to w' nothing turned but a block that v owns. -/
def Gr (w w' : World) (v : Value) : Prop := ∃ row, w.grownBy w' row ∧ ∀ k, row = some k → Hs v k
theorem Gr.of {w w' : World} {v : Value} (h : w.grownBy w' (oB v)) : Gr w w' v := ⟨_, h, fun _ e => .inl e⟩
theorem Gr.refl (w : World) (v : Value) : Gr w w v := ⟨none, World.grownBy.refl w none, fun _ e => by cases e⟩
theorem Gr.size {w w' : World} {v : Value} (h : Gr w w' v) : w.heap.size ≤ w'.heap.size := by obtain ⟨_, h, _⟩ := h; exact h.size
theorem Gr.block {w w' : World} {v : Value} (h : Gr w w' v) {k : Nat} (hk : k < w.heap.size) (hn : ¬ Hs v k) : w'.heap[k]? = w.heap[k]? := by
  obtain ⟨row, h, hr⟩ := h
  exact h.block k hk (fun e => hn (hr k e.symm))

/-- In w, slice v has the cells us, in a block that none of L owns. -/
def Sl (w : World) (L : List Value) (v : Value) (us : List Value) : Prop :=
  ∃ p cap, v = .slice p us.length cap ∧ us.length ≤ cap ∧ (us ≠ [] → ∃ b off, p = some ⟨b, off, none⟩ ∧ Av L b ∧ ∀ i (h : i < us.length), w.cell? ⟨b, off + i, none⟩ = some us[i])

theorem cells_of_cell? {w : World} {a : Addr} {u : Value} (h : w.cell? a = some u) : ∃ o : Obj, w.heap[a.block]? = some o ∧ o.isCells = true := by
  unfold World.cell? at h
  split at h
  · rename_i c e f hc; exact ⟨_, hc, rfl⟩
  · cases h
/-- From w to w' no cells turned but what L owns, and L' owns nothing more of what was there. -/
structure Lift (w w' : World) (L L' : List Value) : Prop where
  blk : ∀ k o, w.heap[k]? = some o → o.isCells = true → Av L k → w'.heap[k]? = some o
  av : ∀ k, k < w.heap.size → Av L k → Av L' k

theorem Sl.lift {w w' : World} {L L' : List Value} {v : Value} {us : List Value} (h : Sl w L v us) (g : Lift w w' L L') : Sl w' L' v us := by
  obtain ⟨p, cap, hv, hc, hne⟩ := h
  refine ⟨p, cap, hv, hc, fun hn => ?_⟩
  obtain ⟨b, off, hp, ha, hr⟩ := hne hn
  have h0 : 0 < us.length := List.length_pos_iff.2 hn
  have hb := World.block_lt_of_cell? w _ (hr 0 h0)
  obtain ⟨o, ho, hc⟩ := cells_of_cell? (hr 0 h0)
  refine ⟨b, off, hp, g.av b hb ha, fun i hi => ?_⟩
  rw [World.cell?_of_block (w := w) ((g.blk b o ho hc ha).trans ho.symm)]
  exact hr i hi

/-- A relation between values in a world and data, that stays. -/
def Stab {α : Type} (R : World → List Value → Value → α → Prop) : Prop :=
  ∀ w w' L L' v x, Lift w w' L L' → R w L v x → R w' L' v x

def Sc {α : Type} (enc : α → Value) (_ : World) (_ : List Value) (v : Value) (x : α) : Prop := v = enc x
theorem Sc.stab {α : Type} (enc : α → Value) : Stab (Sc enc) := fun _ _ _ _ _ _ _ h => h

/-- In w, slice v reads as the list l, its elements by R. -/
def SlK {α : Type} (R : World → List Value → Value → α → Prop) (w : World) (L : List Value) (v : Value) (l : List α) : Prop :=
  ∃ us, Sl w L v us ∧ us.length = l.length ∧ ∀ i (h : i < us.length) (h' : i < l.length), R w L us[i] l[i]
theorem SlK.stab {α : Type} {R : World → List Value → Value → α → Prop} (h : Stab R) : Stab (SlK R) :=
  fun w w' L L' v x g ⟨us, hs, hl, he⟩ => ⟨us, hs.lift g, hl, fun i h1 h2 => h _ _ _ _ _ _ g (he i h1 h2)⟩

def By := SlK (Sc u8)
def In := SlK (Sc i64)
def Bo := SlK (Sc bl)
def W64 := SlK (Sc u64)
def Rw := SlK By
def RwI := SlK In

theorem By.lift {w w' : World} {L L' : List Value} {v : Value} {l : List UInt8} (h : By w L v l) (g : Lift w w' L L') : By w' L' v l := SlK.stab (Sc.stab _) _ _ _ _ _ _ g h
theorem In.lift {w w' : World} {L L' : List Value} {v : Value} {l : List Int} (h : In w L v l) (g : Lift w w' L L') : In w' L' v l := SlK.stab (Sc.stab _) _ _ _ _ _ _ g h
theorem Bo.lift {w w' : World} {L L' : List Value} {v : Value} {l : List Bool} (h : Bo w L v l) (g : Lift w w' L L') : Bo w' L' v l := SlK.stab (Sc.stab _) _ _ _ _ _ _ g h
theorem W64.lift {w w' : World} {L L' : List Value} {v : Value} {l : List UInt64} (h : W64 w L v l) (g : Lift w w' L L') : W64 w' L' v l := SlK.stab (Sc.stab _) _ _ _ _ _ _ g h
theorem Rw.lift {w w' : World} {L L' : List Value} {v : Value} {l : List (List UInt8)} (h : Rw w L v l) (g : Lift w w' L L') : Rw w' L' v l := SlK.stab (SlK.stab (Sc.stab _)) _ _ _ _ _ _ g h
theorem RwI.lift {w w' : World} {L L' : List Value} {v : Value} {l : List (List Int)} (h : RwI w L v l) (g : Lift w w' L L') : RwI w' L' v l := SlK.stab (SlK.stab (Sc.stab _)) _ _ _ _ _ _ g h

theorem lt_of_get {w : World} {k : Nat} {o : Obj} (h : w.heap[k]? = some o) : k < w.heap.size := (Array.getElem?_eq_some_iff.1 h).1
theorem Lift.ext {w w' : World} (h : Ext w w') (L : List Value) : Lift w w' L L := ⟨fun k _ ho _ _ => (h.blk k (lt_of_get ho)).trans ho, fun _ _ h => h⟩
theorem Lift.sub {w : World} {L L' : List Value} (h : ∀ k, Av L k → Av L' k) : Lift w w L L' := ⟨fun _ _ h _ _ => h, fun k _ => h k⟩
theorem Lift.trans {a b c : World} {L M N : List Value} (h : Lift a b L M) (k : Lift b c M N) (hs : a.heap.size ≤ b.heap.size) : Lift a c L N :=
  ⟨fun i o ho hc ha => k.blk i o (h.blk i o ho hc ha) hc (h.av i (lt_of_get ho) ha), fun i hi ha => k.av i (Nat.lt_of_lt_of_le hi hs) (h.av i hi ha)⟩
theorem av_append {L M : List Value} {k : Nat} : Av (L ++ M) k ↔ Av L k ∧ Av M k := by
  induction L with
  | nil => simp [Av]
  | cons u r ih => simp [Av, ih, and_assoc]
/-- What v owned it owns still, or it owns what is new. -/
def Nx (w : World) (v v' : Value) : Prop := ∀ k, Hs v' k → Hs v k ∨ w.heap.size ≤ k
/-- v' owns what is new. -/
def Nw (w : World) (v : Value) : Prop := ∀ k, Hs v k → w.heap.size ≤ k
/-- u and v own nothing in common. -/
def Nq (u v : Value) : Prop := ∀ k, Hs u k → ¬ Hs v k
theorem Nq.symm {u v : Value} (h : Nq u v) : Nq v u := fun k hv hu => h k hu hv
theorem Nx.refl (w : World) (v : Value) : Nx w v v := fun _ h => .inl h
theorem Nw.nx {w : World} {v : Value} (h : Nw w v) (u : Value) : Nx w u v := fun k hk => .inr (h k hk)
theorem Nw.mk (w : World) (n c : Nat) : Nw w (.slice (some ⟨w.heap.size, 0, none⟩) n c) := by
  intro k hk
  have hk := hs_sl hk
  cases c with
  | zero => rw [oB_zero] at hk; cases hk
  | succ c => have := Option.some.inj hk; exact Nat.le_of_eq this
theorem Nw.nil (w : World) : Nw w (.slice none 0 0) := fun k hk => by have := hs_sl hk; cases this
theorem Nq.nil (v : Value) : Nq (.slice none 0 0) v := fun k hk => by have := hs_sl hk; cases this

theorem Lift.own {w w' : World} {v v' : Value} (L1 L2 : List Value) (hg : Gr w w' v) (hn : Nx w v v') : Lift w w' (L1 ++ v :: L2) (L1 ++ v' :: L2) := by
  refine ⟨fun k o ho hc ha => ?_, fun k hk ha => ?_⟩
  · obtain ⟨h1, h2, h3⟩ := av_append.1 ha
    exact (hg.block (lt_of_get ho) h2).trans ho
  · obtain ⟨h1, h2, h3⟩ := av_append.1 ha
    refine av_append.2 ⟨h1, fun e => ?_, h3⟩
    rcases hn k e with h | h
    · exact h2 h
    · omega
/-- One more that is owned. -/
theorem Lift.new {w w' : World} {v : Value} (L : List Value) (hg : w.grownBy w' none) (hn : Nw w v) : Lift w w' L (v :: L) :=
  ⟨fun k o ho _ _ => (hg.block k (lt_of_get ho) (by simp)).trans ho, fun k hk ha => ⟨fun e => by have := hn k e; omega, ha⟩⟩
theorem Lift.call {w w' : World} {v : Value} (L : List Value) (hg : Ext w w') (hn : Nw w v) : Lift w w' L (v :: L) :=
  ⟨fun k o ho _ _ => (hg.blk k (lt_of_get ho)).trans ho, fun k hk ha => ⟨fun e => by have := hn k e; omega, ha⟩⟩

theorem grown_ext {w w' : World} (h : w.grownBy w' none) : Ext w w' := ⟨h.os, h.output, h.size, fun k hk => h.block k hk (by simp)⟩
theorem Ext.grown {w0 w w' : World} {v : Value} (h : Ext w0 w) (hg : Gr w w' v) (hn : Nw w0 v) : Ext w0 w' := by
  obtain ⟨row, hg, hr⟩ := hg
  exact ⟨hg.os.trans h.os, hg.output.trans h.output, Nat.le_trans h.size hg.size, fun k hk =>
    (hg.block k (Nat.lt_of_lt_of_le hk h.size) (fun e => by have := hn k (hr k e.symm); omega)).trans (h.blk k hk)⟩
theorem Nw.ext {w0 w : World} {v : Value} (h : Ext w0 w) (hn : Nw w v) : Nw w0 v := fun k hk => Nat.le_trans h.size (hn k hk)
theorem Nw.nxt {w0 w : World} {v v' : Value} (h : Ext w0 w) (h0 : Nw w0 v) (hn : Nx w v v') : Nw w0 v' := fun k hk => (hn k hk).elim (h0 k) (Nat.le_trans h.size)

/-! ### What is owned -/
/-- In w, slice v, of elements of one cell, has the cells us, and its block to itself; or it has no room at all. -/
def Ow (w : World) (e : TypeId) (v : Value) (us : List Value) : Prop :=
  (∃ p, v = .slice p 0 0 ∧ us = []) ∨ ∃ g cap, v = .slice (some ⟨g, 0, none⟩) us.length cap ∧ 0 < cap ∧ w.ownsRow 0 e 1 (.slice (some ⟨g, 0, none⟩) us.length cap) us.length us

/-- The row's own words. -/
theorem row_spec {w : World} {e : TypeId} {g n cap : Nat} {us : List Value} (h : w.ownsRow 0 e 1 (.slice (some ⟨g, 0, none⟩) n cap) n us) :
    ∃ cur, w.heap[g]? = some (.cells cur e (0, 0)) ∧ n ≤ cap ∧ cap ≤ maxLen ∧ cur.size = cap * 1 ∧ cur.toList.take (n * 1) = us := by
  rcases h.2 with ⟨h', _⟩ | ⟨g', cap', cur, hv, _, hg, hc, hm, hs, ht⟩
  · cases h'
  · simp only [Value.slice.injEq, Option.some.injEq, Addr.mk.injEq, and_true, true_and] at hv
    obtain ⟨rfl, rfl⟩ := hv
    exact ⟨cur, hg, hc, hm, hs, ht⟩
theorem Ow.lt {w : World} {e : TypeId} {v : Value} {us : List Value} (h : Ow w e v us) : ∀ k, Hs v k → k < w.heap.size := by
  intro k hk
  rcases h with ⟨p, rfl, _⟩ | ⟨g, cap, rfl, hc, h⟩ <;> have hk := hs_sl hk
  · rw [oB_zero] at hk; cases hk
  · rw [oB_pos hc] at hk
    exact (World.ownsRow.lt h k hk).2
theorem Ow.nil (w : World) (e : TypeId) : Ow w e (.slice none 0 0) [] := .inl ⟨none, rfl, rfl⟩
theorem Ow.mk {w : World} {e : TypeId} {g n cap : Nat} {us : List Value} (hn : n = us.length) (h : w.ownsRow 0 e 1 (.slice (some ⟨g, 0, none⟩) n cap) n us) : Ow w e (.slice (some ⟨g, 0, none⟩) n cap) us := by
  subst hn
  obtain ⟨cur, hg, hc, _⟩ := row_spec h
  by_cases h0 : 0 < cap
  · exact .inr ⟨g, cap, rfl, h0, h⟩
  · obtain rfl : cap = 0 := by omega
    have : us = [] := List.eq_nil_of_length_eq_zero (by omega)
    subst this
    exact .inl ⟨_, rfl, rfl⟩
theorem Ow.kept {w w' : World} {row : Option Nat} {e : TypeId} {v : Value} {us : List Value} (h : Ow w e v us) (hg : w.grownBy w' row) (hne : ∀ k, oB v = some k → row ≠ some k) : Ow w' e v us := by
  rcases h with h | ⟨g, cap, rfl, hc, h⟩
  · exact .inl h
  · refine .inr ⟨g, cap, rfl, hc, World.ownsRow.kept h hg (.inr (fun e => hne g (oB_pos hc) e.symm))⟩
theorem Ow.ext {w w' : World} {e : TypeId} {v : Value} {us : List Value} (h : Ow w e v us) (hx : Ext w w') : Ow w' e v us := by
  rcases h with h | ⟨g, cap, rfl, hc, h⟩
  · exact .inl h
  · obtain ⟨cur, hg, h1, h2, h3, h4⟩ := row_spec h
    exact .inr ⟨g, cap, rfl, hc, h.1, .inr ⟨g, cap, cur, rfl, Nat.zero_le _, by rw [hx.blk g (Array.getElem?_eq_some_iff.1 hg).1]; exact hg, h1, h2, h3, h4⟩⟩
theorem Ow.sl {w : World} {e : TypeId} {v : Value} {us : List Value} (L : List Value) (h : Ow w e v us) (ha : ∀ k, Hs v k → Av L k) : Sl w L v us := by
  rcases h with ⟨p, rfl, rfl⟩ | ⟨g, cap, rfl, hc, h⟩
  · exact ⟨p, 0, rfl, Nat.le_refl _, fun hn => absurd rfl hn⟩
  · obtain ⟨cur, hg, h1, h2, h3, h4⟩ := row_spec h
    refine ⟨_, cap, rfl, h1, fun _ => ⟨g, 0, rfl, ha g (.inl (oB_pos hc)), fun i hi => ?_⟩⟩
    have := World.ownsRow.cellAt h i (by omega)
    rw [Nat.zero_add, this]
    simp
/-- Another one that is written, or grows, leaves it. -/
theorem Ow.other {w w' : World} {e : TypeId} {u v : Value} {us : List Value} (h : Ow w e u us) (hg : Gr w w' v) (hq : Nq u v) : Ow w' e u us := by
  obtain ⟨row, hg, hr⟩ := hg
  exact h.kept hg (fun k hk e => hq k (.inl hk) (hr k e))
theorem Nq.nxt {w : World} {e : TypeId} {u v v' : Value} {us : List Value} (hq : Nq u v) (h : Ow w e u us) (hn : Nx w v v') : Nq u v' := fun k hu hv => by
  rcases hn k hv with h1 | h1
  · exact hq k hu h1
  · have := h.lt k hu; omega
theorem Nq.new {w : World} {e : TypeId} {u v' : Value} {us : List Value} (h : Ow w e u us) (hn : Nw w v') : Nq u v' := fun k hu hv => by
  have := h.lt k hu; have := hn k hv; omega

/-- An owned slice reads as the list l, its elements by R. -/
def OwK {α : Type} (R : World → List Value → Value → α → Prop) (w : World) (L : List Value) (e : TypeId) (v : Value) (l : List α) : Prop :=
  ∃ us, Ow w e v us ∧ us.length = l.length ∧ ∀ i (h : i < us.length) (h' : i < l.length), R w L us[i] l[i]

theorem OwK.lt {α : Type} {R : World → List Value → Value → α → Prop} {w : World} {L : List Value} {e : TypeId} {v : Value} {l : List α} (h : OwK R w L e v l) : ∀ k, Hs v k → k < w.heap.size := by
  obtain ⟨us, h, _⟩ := h; exact h.lt
theorem OwK.nil {α : Type} (R : World → List Value → Value → α → Prop) (w : World) (L : List Value) (e : TypeId) : OwK R w L e (.slice none 0 0) ([] : List α) := ⟨[], Ow.nil w e, rfl, fun i h => by simp at h⟩
theorem OwK.ext {α : Type} {R : World → List Value → Value → α → Prop} (hR : Stab R) {w w' : World} {L : List Value} {e : TypeId} {v : Value} {l : List α} (h : OwK R w L e v l) (hx : Ext w w') : OwK R w' L e v l := by
  obtain ⟨us, h, hl, he⟩ := h
  exact ⟨us, h.ext hx, hl, fun i h1 h2 => hR _ _ _ _ _ _ (Lift.ext hx L) (he i h1 h2)⟩
/-- While another one is written. -/
theorem OwK.other {α : Type} {R : World → List Value → Value → α → Prop} (hR : Stab R) {w w' : World} {L L' : List Value} {e : TypeId} {u v : Value} {l : List α} (h : OwK R w L e u l) (hg : Gr w w' v) (hq : Nq u v) (g : Lift w w' L L') : OwK R w' L' e u l := by
  obtain ⟨us, h, hl, he⟩ := h
  exact ⟨us, h.other hg hq, hl, fun i h1 h2 => hR _ _ _ _ _ _ g (he i h1 h2)⟩
theorem OwK.extL {α : Type} {R : World → List Value → Value → α → Prop} (hR : Stab R) {w w' : World} {L L' : List Value} {e : TypeId} {u : Value} {l : List α} (h : OwK R w L e u l) (hx : Ext w w') (g : Lift w w' L L') : OwK R w' L' e u l := by
  obtain ⟨us, h, hl, he⟩ := h
  exact ⟨us, h.ext hx, hl, fun i h1 h2 => hR _ _ _ _ _ _ g (he i h1 h2)⟩
theorem OwK.slk {α : Type} {R : World → List Value → Value → α → Prop} (hR : Stab R) {w : World} {L : List Value} (L' : List Value) {e : TypeId} {v : Value} {l : List α} (h : OwK R w L e v l) (ha : ∀ k, Hs v k → Av L' k) (hs : ∀ k, Av L k → Av L' k) : SlK R w L' v l := by
  obtain ⟨us, h, hl, he⟩ := h
  exact ⟨us, h.sl L' ha, hl, fun i h1 h2 => hR _ _ _ _ _ _ (Lift.sub hs) (he i h1 h2)⟩
/-- It reads as what it owns. -/
theorem OwK.rd {α : Type} {R : World → List Value → Value → α → Prop} (hR : Stab R) {w : World} {L : List Value} {e : TypeId} {v : Value} {l : List α} (h : OwK R w L e v l) : SlK R w [] v l :=
  h.slk hR [] (fun _ _ => trivial) (fun _ _ => trivial)
theorem OwK.nq {α : Type} {R : World → List Value → Value → α → Prop} {w : World} {L : List Value} {e : TypeId} {u v' : Value} {l : List α} (h : OwK R w L e u l) (hn : Nw w v') : Nq u v' := by
  obtain ⟨us, h, _⟩ := h; exact Nq.new h hn
theorem OwK.nxt {α : Type} {R : World → List Value → Value → α → Prop} {w : World} {L : List Value} {e : TypeId} {u v v' : Value} {l : List α} (h : OwK R w L e u l) (hq : Nq u v) (hn : Nx w v v') : Nq u v' := by
  obtain ⟨us, h, _⟩ := h; exact Nq.nxt hq h hn

/-! ### Boxes: blocks behind pointers, owned -/
/-- In w, block g has the cells cs. -/
def Blk (w : World) (g : Nat) (T : TypeId) (cs : Array Value) : Prop := w.heap[g]? = some (.cells cs T (0, 0))
theorem Blk.lt {w : World} {g : Nat} {T : TypeId} {cs : Array Value} (h : Blk w g T cs) : g < w.heap.size := (Array.getElem?_eq_some_iff.1 h).1
theorem Blk.ltB {w : World} {g : Nat} {T : TypeId} {cs : Array Value} (h : Blk w g T cs) : ∀ k, Hs (bp g) k → k < w.heap.size := fun k e => by
  have e' := hs_bp e
  subst e'; exact h.lt
theorem Blk.ext {w w' : World} {g : Nat} {T : TypeId} {cs : Array Value} (h : Blk w g T cs) (x : Ext w w') : Blk w' g T cs := by
  unfold Blk; rw [x.blk g h.lt]; exact h
theorem Blk.nq {w : World} {g : Nat} {T : TypeId} {cs : Array Value} {v : Value} (h : Blk w g T cs) (hn : Nw w v) : Nq (bp g) v := fun k hu hv => by
  have := h.ltB k hu; have := hn k hv; omega
theorem Blk.nxt {w : World} {g : Nat} {T : TypeId} {cs : Array Value} {v v' : Value} (h : Blk w g T cs) (hq : Nq (bp g) v) (hn : Nx w v v') : Nq (bp g) v' := fun k hu hv => by
  rcases hn k hv with h1 | h1
  · exact hq k hu h1
  · have := h.ltB k hu; omega
theorem Blk.other {w w' : World} {g : Nat} {T : TypeId} {cs : Array Value} {v : Value} (h : Blk w g T cs) (hg : Gr w w' v) (hq : Nq (bp g) v) : Blk w' g T cs := by
  unfold Blk; rw [hg.block h.lt (hq g (hs_bp' g))]; exact h
theorem Blk.grownO {w w' : World} {g : Nat} {T : TypeId} {row : Option Nat} {cs : Array Value} (h : Blk w g T cs) (hg : w.grownBy w' row) (hn : ∀ k, row = some k → g ≠ k) : Blk w' g T cs := by
  unfold Blk; rw [hg.block g h.lt (fun e => hn g e.symm rfl)]; exact h

/-- From w to w' one block turned that is no cells and lies at or beyond B: the book-keeping of a range over a function. -/
def Tn (B : Nat) (w w' : World) : Prop := ∃ row, w.grownBy w' row ∧ ∀ r, row = some r → B ≤ r ∧ ∃ o : Obj, w.heap[r]? = some o ∧ o.isCells = false
theorem Tn.keep {B : Nat} {w w' : World} (h : Tn B w w') {k : Nat} {o : Obj} (ho : w.heap[k]? = some o) (hc : o.isCells = true) : w'.heap[k]? = some o := by
  obtain ⟨row, hg, hr⟩ := h
  refine (hg.block k (lt_of_get ho) (fun e => ?_)).trans ho
  obtain ⟨_, o', ho', hc'⟩ := hr k e.symm
  rw [ho] at ho'; cases ho'; rw [hc] at hc'; cases hc'
theorem Tn.lift {B : Nat} {w w' : World} (h : Tn B w w') (L : List Value) : Lift w w' L L := ⟨fun _ _ ho hc _ => h.keep ho hc, fun _ _ h => h⟩
theorem Tn.size {B : Nat} {w w' : World} (h : Tn B w w') : w.heap.size ≤ w'.heap.size := by obtain ⟨row, hg, _⟩ := h; exact hg.size
theorem Blk.tn {B : Nat} {w w' : World} {g : Nat} {T : TypeId} {cs : Array Value} (h : Blk w g T cs) (t : Tn B w w') : Blk w' g T cs := t.keep h rfl
theorem Ow.tn {B : Nat} {w w' : World} {e : TypeId} {v : Value} {us : List Value} (h : Ow w e v us) (t : Tn B w w') : Ow w' e v us := by
  rcases h with h | ⟨g, cap, rfl, hc, h⟩
  · exact .inl h
  · obtain ⟨cur, hg, h1, h2, h3, h4⟩ := row_spec h
    exact .inr ⟨g, cap, rfl, hc, h.1, .inr ⟨g, cap, cur, rfl, Nat.zero_le _, t.keep hg rfl, h1, h2, h3, h4⟩⟩
theorem OwK.tn {α : Type} {R : World → List Value → Value → α → Prop} (hR : Stab R) {B : Nat} {w w' : World} {L : List Value} {e : TypeId} {u : Value} {l : List α} (h : OwK R w L e u l) (t : Tn B w w') : OwK R w' L e u l := by
  obtain ⟨us, h, hl, he⟩ := h
  exact ⟨us, h.tn t, hl, fun i h1 h2 => hR _ _ _ _ _ _ (t.lift L) (he i h1 h2)⟩
theorem Ext.tn {B : Nat} {w0 w w' : World} (h : Ext w0 w) (t : Tn B w w') (hB : w0.heap.size ≤ B) : Ext w0 w' := by
  obtain ⟨row, hg, hr⟩ := t
  exact ⟨hg.os.trans h.os, hg.output.trans h.output, Nat.le_trans h.size hg.size, fun k hk =>
    (hg.block k (Nat.lt_of_lt_of_le hk h.size) (fun e => by have := (hr k e.symm).1; omega)).trans (h.blk k hk)⟩
/-- What an operation turns is cells: it keeps all else. -/
theorem _root_.Go.KeepsFrom.ext {B : Nat} {W w w' : World} (h : KeepsFrom B W w) (x : Ext w w') : KeepsFrom B W w' := h.trans ⟨x.size, fun k o _ ho _ => (x.blk k (lt_of_get ho)).trans ho⟩
/-- Row v, if it has a block, is cells. -/
def Cl (w : World) (v : Value) : Prop := ∀ k, Hs v k → ∃ o : Obj, w.heap[k]? = some o ∧ o.isCells = true
theorem _root_.Go.KeepsFrom.own {B : Nat} {W w w' : World} {v : Value} (h : KeepsFrom B W w) (hg : Gr w w' v) (hc : Cl w v) : KeepsFrom B W w' := h.trans ⟨hg.size, fun k o _ ho hn => by
  refine (hg.block (lt_of_get ho) (fun e => ?_)).trans ho
  obtain ⟨o', ho', hc'⟩ := hc k e
  rw [ho] at ho'; cases ho'; rw [hn] at hc'; cases hc'⟩
theorem Blk.cl {w : World} {g : Nat} {T : TypeId} {cs : Array Value} (h : Blk w g T cs) : Cl w (bp g) := fun k e => by
  have e' := hs_bp e
  subst e'; exact ⟨_, h, rfl⟩
theorem OwK.cl {α : Type} {R : World → List Value → Value → α → Prop} {w : World} {L : List Value} {e : TypeId} {v : Value} {l : List α} (h : OwK R w L e v l) : Cl w v := fun k hk => by
  obtain ⟨us, h, _⟩ := h
  rcases h with ⟨p, rfl, _⟩ | ⟨g, cap, rfl, hc, h⟩ <;> have hk := hs_sl hk
  · rw [oB_zero] at hk; cases hk
  · rw [oB_pos hc] at hk
    obtain ⟨cur, hg, _⟩ := row_spec h
    cases hk
    exact ⟨_, hg, rfl⟩

/-- An element type of one cell. -/
structure TyS (P : Program) (t e : TypeId) (z : Value) (bytes : Nat) : Prop where
  sl : P.underlying t = some (.slice e)
  info : (P.info? e).map (fun i => (i.zero, i.size, i.bytes)) = some (some z, 1, bytes)
  cell : z.cells = #[z]
  agg : ∀ w, (isAgg e).run P w = .ok false w
  fit : bytes ≤ 24

end Gk

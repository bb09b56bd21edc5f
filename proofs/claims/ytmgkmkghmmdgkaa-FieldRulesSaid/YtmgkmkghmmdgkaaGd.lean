/- Slices in memory: such as are read, and such as are owned; what becomes of them. No condition. -/
import Derived.Test.YtmgkmkghmmdgkaaGc
import Derived.OwnWalk
import Derived.Laws.IdiomCopy
set_option linter.unusedVariables false
set_option linter.unusedSimpArgs false
namespace Gk
open Go

/-! ### What is read -/
/-- Block b is none of those that these values own. -/
def Av : List Value → Nat → Prop
  | [], _ => True
  | u :: r, b => u.ownBlock ≠ some b ∧ Av r b

/-- In w, slice v has the cells us, in a block that none of L owns. -/
def Sl (w : World) (L : List Value) (v : Value) (us : List Value) : Prop :=
  ∃ p cap, v = .slice p us.length cap ∧ us.length ≤ cap ∧ (us ≠ [] → ∃ b off, p = some ⟨b, off, none⟩ ∧ Av L b ∧ ∀ i (h : i < us.length), w.cell? ⟨b, off + i, none⟩ = some us[i])

/-- From w to w' nothing turned but what L owns, and L' owns nothing more of what was there. -/
structure Lift (w w' : World) (L L' : List Value) : Prop where
  blk : ∀ k, k < w.heap.size → Av L k → w'.heap[k]? = w.heap[k]?
  av : ∀ k, k < w.heap.size → Av L k → Av L' k

theorem Sl.lift {w w' : World} {L L' : List Value} {v : Value} {us : List Value} (h : Sl w L v us) (g : Lift w w' L L') : Sl w' L' v us := by
  obtain ⟨p, cap, hv, hc, hne⟩ := h
  refine ⟨p, cap, hv, hc, fun hn => ?_⟩
  obtain ⟨b, off, hp, ha, hr⟩ := hne hn
  have h0 : 0 < us.length := List.length_pos_iff.2 hn
  have hb := World.block_lt_of_cell? w _ (hr 0 h0)
  refine ⟨b, off, hp, g.av b hb ha, fun i hi => ?_⟩
  rw [World.cell?_of_block (w := w) (g.blk b hb ha)]
  exact hr i hi

/-- A relation between values in a world and data, that stays. -/
def Stab {α : Type} (R : World → List Value → Value → α → Prop) : Prop :=
  ∀ w w' L L' v x, Lift w w' L L' → R w L v x → R w' L' v x

def Sc {α : Type} (enc : α → Value) (_ : World) (_ : List Value) (v : Value) (x : α) : Prop := v = enc x
theorem Sc.stab {α : Type} (enc : α → Value) : Stab (Sc enc) := fun _ _ _ _ _ _ _ h => h

/-- In w, slice v reads as the list l, its elements by R. -/
def SlK {α : Type} (R : World → List Value → Value → α → Prop) (w : World) (L : List Value) (v : Value) (l : List α) : Prop :=
  ∃ us, Sl w L v us ∧ us.length = l.length ∧ ∀ i (h : i < us.length) (h' : i < l.length), R w L us[i] l[i]
theorem SlK.stab {α : Type} {R : World → List Value → Value → α → Prop} (h : Stab R) : Stab (SlK R) :=
  fun w w' L L' v x g ⟨us, hs, hl, he⟩ => ⟨us, hs.lift g, hl, fun i h1 h2 => h _ _ _ _ _ _ g (he i h1 h2)⟩

def By := SlK (Sc u8)
def In := SlK (Sc i64)
def Bo := SlK (Sc bl)
def W64 := SlK (Sc u64)
def Rw := SlK By
def RwI := SlK In

theorem By.lift {w w' : World} {L L' : List Value} {v : Value} {l : List UInt8} (h : By w L v l) (g : Lift w w' L L') : By w' L' v l := SlK.stab (Sc.stab _) _ _ _ _ _ _ g h
theorem In.lift {w w' : World} {L L' : List Value} {v : Value} {l : List Int} (h : In w L v l) (g : Lift w w' L L') : In w' L' v l := SlK.stab (Sc.stab _) _ _ _ _ _ _ g h
theorem Bo.lift {w w' : World} {L L' : List Value} {v : Value} {l : List Bool} (h : Bo w L v l) (g : Lift w w' L L') : Bo w' L' v l := SlK.stab (Sc.stab _) _ _ _ _ _ _ g h
theorem W64.lift {w w' : World} {L L' : List Value} {v : Value} {l : List UInt64} (h : W64 w L v l) (g : Lift w w' L L') : W64 w' L' v l := SlK.stab (Sc.stab _) _ _ _ _ _ _ g h
theorem Rw.lift {w w' : World} {L L' : List Value} {v : Value} {l : List (List UInt8)} (h : Rw w L v l) (g : Lift w w' L L') : Rw w' L' v l := SlK.stab (SlK.stab (Sc.stab _)) _ _ _ _ _ _ g h
theorem RwI.lift {w w' : World} {L L' : List Value} {v : Value} {l : List (List Int)} (h : RwI w L v l) (g : Lift w w' L L') : RwI w' L' v l := SlK.stab (SlK.stab (Sc.stab _)) _ _ _ _ _ _ g h

theorem Lift.ext {w w' : World} (h : Ext w w') (L : List Value) : Lift w w' L L := ⟨fun k hk _ => h.blk k hk, fun _ _ h => h⟩
theorem Lift.sub {w : World} {L L' : List Value} (h : ∀ k, Av L k → Av L' k) : Lift w w L L' := ⟨fun _ _ _ => rfl, fun k _ => h k⟩
theorem Lift.trans {a b c : World} {L M N : List Value} (h : Lift a b L M) (k : Lift b c M N) (hs : a.heap.size ≤ b.heap.size) : Lift a c L N :=
  ⟨fun i hi ha => (k.blk i (Nat.lt_of_lt_of_le hi hs) (h.av i hi ha)).trans (h.blk i hi ha), fun i hi ha => k.av i (Nat.lt_of_lt_of_le hi hs) (h.av i hi ha)⟩
theorem av_append {L M : List Value} {k : Nat} : Av (L ++ M) k ↔ Av L k ∧ Av M k := by
  induction L with
  | nil => simp [Av]
  | cons u r ih => simp [Av, ih, and_assoc]
/-- What v owned it owns still, or it owns what is new. -/
def Nx (w : World) (v v' : Value) : Prop := ∀ k, v'.ownBlock = some k → v.ownBlock = some k ∨ w.heap.size ≤ k
/-- v' owns what is new. -/
def Nw (w : World) (v : Value) : Prop := ∀ k, v.ownBlock = some k → w.heap.size ≤ k
/-- u and v own nothing in common. -/
def Nq (u v : Value) : Prop := ∀ k, u.ownBlock = some k → v.ownBlock ≠ some k
theorem Nq.symm {u v : Value} (h : Nq u v) : Nq v u := fun k hv hu => h k hu hv
theorem Nx.refl (w : World) (v : Value) : Nx w v v := fun _ h => .inl h
theorem Nw.nx {w : World} {v : Value} (h : Nw w v) (u : Value) : Nx w u v := fun k hk => .inr (h k hk)
theorem Nw.nil (w : World) : Nw w (.slice none 0 0) := fun k hk => by cases hk
theorem Nq.nil (v : Value) : Nq (.slice none 0 0) v := fun k hk => by cases hk

theorem Lift.own {w w' : World} {v v' : Value} (L1 L2 : List Value) (hg : w.grownBy w' v.ownBlock) (hn : Nx w v v') : Lift w w' (L1 ++ v :: L2) (L1 ++ v' :: L2) := by
  refine ⟨fun k hk ha => ?_, fun k hk ha => ?_⟩
  · obtain ⟨h1, h2, h3⟩ := av_append.1 ha
    exact hg.block k hk (fun e => h2 e.symm)
  · obtain ⟨h1, h2, h3⟩ := av_append.1 ha
    refine av_append.2 ⟨h1, fun e => ?_, h3⟩
    rcases hn k e with h | h
    · exact h2 h
    · omega
/-- One more that is owned. -/
theorem Lift.new {w w' : World} {v : Value} (L : List Value) (hg : w.grownBy w' none) (hn : Nw w v) : Lift w w' L (v :: L) :=
  ⟨fun k hk _ => hg.block k hk (by simp), fun k hk ha => ⟨fun e => by have := hn k e; omega, ha⟩⟩
theorem Lift.call {w w' : World} {v : Value} (L : List Value) (hg : Ext w w') (hn : Nw w v) : Lift w w' L (v :: L) :=
  ⟨fun k hk _ => hg.blk k hk, fun k hk ha => ⟨fun e => by have := hn k e; omega, ha⟩⟩

theorem grown_ext {w w' : World} (h : w.grownBy w' none) : Ext w w' := ⟨h.os, h.output, h.size, fun k hk => h.block k hk (by simp)⟩
theorem Ext.grown {w0 w w' : World} {v : Value} (h : Ext w0 w) (hg : w.grownBy w' v.ownBlock) (hn : Nw w0 v) : Ext w0 w' :=
  ⟨hg.os.trans h.os, hg.output.trans h.output, Nat.le_trans h.size hg.size, fun k hk =>
    (hg.block k (Nat.lt_of_lt_of_le hk h.size) (fun e => by have := hn k e.symm; omega)).trans (h.blk k hk)⟩
theorem Nw.ext {w0 w : World} {v : Value} (h : Ext w0 w) (hn : Nw w v) : Nw w0 v := fun k hk => Nat.le_trans h.size (hn k hk)
theorem Nw.nxt {w0 w : World} {v v' : Value} (h : Ext w0 w) (h0 : Nw w0 v) (hn : Nx w v v') : Nw w0 v' := fun k hk => (hn k hk).elim (h0 k) (Nat.le_trans h.size)

/-! ### What is owned -/
/-- In w, slice v, of elements of one cell, has the cells us, and its block to itself. -/
def Ow (w : World) (e : TypeId) (v : Value) (us : List Value) : Prop := w.ownsRow 0 e 1 v us.length us

theorem Ow.lt {w : World} {e : TypeId} {v : Value} {us : List Value} (h : Ow w e v us) : ∀ k, v.ownBlock = some k → k < w.heap.size := fun k hk => (World.ownsRow.lt h k hk).2
theorem Ow.nil (w : World) (e : TypeId) : Ow w e (.slice none 0 0) [] := World.ownsRow_nil w 0 e 1
theorem Ow.kept {w w' : World} {row : Option Nat} {e : TypeId} {v : Value} {us : List Value} (h : Ow w e v us) (hg : w.grownBy w' row) (hne : ∀ k, v.ownBlock = some k → row ≠ some k) : Ow w' e v us := by
  refine World.ownsRow.kept h hg ?_
  cases hv : v.ownBlock with
  | none => exact .inl rfl
  | some k => exact .inr (fun e => hne k hv e.symm)
theorem Ow.ext {w w' : World} {e : TypeId} {v : Value} {us : List Value} (h : Ow w e v us) (hx : Ext w w') : Ow w' e v us := by
  obtain ⟨h1, h2⟩ := h
  refine ⟨h1, ?_⟩
  rcases h2 with h2 | ⟨g, cap, cur, hv, hb, hg, rest⟩
  · exact .inl h2
  · exact .inr ⟨g, cap, cur, hv, hb, by rw [hx.blk g (Array.getElem?_eq_some_iff.1 hg).1]; exact hg, rest⟩
theorem Ow.sl {w : World} {e : TypeId} {v : Value} {us : List Value} (L : List Value) (h : Ow w e v us) (ha : ∀ k, v.ownBlock = some k → Av L k) : Sl w L v us := by
  rcases h.2 with ⟨rfl, h0⟩ | ⟨g, cap, cur, rfl, hb, hg, hc, hm, hs, ht⟩
  · have : us = [] := List.eq_nil_of_length_eq_zero h0
    subst this
    exact ⟨none, 0, rfl, Nat.le_refl _, fun hn => absurd rfl hn⟩
  · refine ⟨_, cap, rfl, hc, fun _ => ⟨g, 0, rfl, ha g rfl, fun i hi => ?_⟩⟩
    have := World.ownsRow.cellAt h i (by omega)
    rw [Nat.zero_add, this]
    simp
/-- Another one that is written, or grows, leaves it. -/
theorem Ow.other {w w' : World} {e : TypeId} {u v : Value} {us : List Value} (h : Ow w e u us) (hg : w.grownBy w' v.ownBlock) (hq : Nq u v) : Ow w' e u us := h.kept hg hq
theorem Nq.nxt {w : World} {e : TypeId} {u v v' : Value} {us : List Value} (hq : Nq u v) (h : Ow w e u us) (hn : Nx w v v') : Nq u v' := fun k hu hv => by
  rcases hn k hv with h1 | h1
  · exact hq k hu h1
  · have := h.lt k hu; omega
theorem Nq.new {w : World} {e : TypeId} {u v' : Value} {us : List Value} (h : Ow w e u us) (hn : Nw w v') : Nq u v' := fun k hu hv => by
  have := h.lt k hu; have := hn k hv; omega

/-- An owned slice reads as the list l, its elements by R. -/
def OwK {α : Type} (R : World → List Value → Value → α → Prop) (w : World) (L : List Value) (e : TypeId) (v : Value) (l : List α) : Prop :=
  ∃ us, Ow w e v us ∧ us.length = l.length ∧ ∀ i (h : i < us.length) (h' : i < l.length), R w L us[i] l[i]

theorem OwK.lt {α : Type} {R : World → List Value → Value → α → Prop} {w : World} {L : List Value} {e : TypeId} {v : Value} {l : List α} (h : OwK R w L e v l) : ∀ k, v.ownBlock = some k → k < w.heap.size := by
  obtain ⟨us, h, _⟩ := h; exact h.lt
theorem OwK.nil {α : Type} (R : World → List Value → Value → α → Prop) (w : World) (L : List Value) (e : TypeId) : OwK R w L e (.slice none 0 0) ([] : List α) := ⟨[], Ow.nil w e, rfl, fun i h => by simp at h⟩
theorem OwK.ext {α : Type} {R : World → List Value → Value → α → Prop} (hR : Stab R) {w w' : World} {L : List Value} {e : TypeId} {v : Value} {l : List α} (h : OwK R w L e v l) (hx : Ext w w') : OwK R w' L e v l := by
  obtain ⟨us, h, hl, he⟩ := h
  exact ⟨us, h.ext hx, hl, fun i h1 h2 => hR _ _ _ _ _ _ (Lift.ext hx L) (he i h1 h2)⟩
/-- While another one is written. -/
theorem OwK.other {α : Type} {R : World → List Value → Value → α → Prop} (hR : Stab R) {w w' : World} {L L' : List Value} {e : TypeId} {u v : Value} {l : List α} (h : OwK R w L e u l) (hg : w.grownBy w' v.ownBlock) (hq : Nq u v) (g : Lift w w' L L') : OwK R w' L' e u l := by
  obtain ⟨us, h, hl, he⟩ := h
  exact ⟨us, h.other hg hq, hl, fun i h1 h2 => hR _ _ _ _ _ _ g (he i h1 h2)⟩
theorem OwK.extL {α : Type} {R : World → List Value → Value → α → Prop} (hR : Stab R) {w w' : World} {L L' : List Value} {e : TypeId} {u : Value} {l : List α} (h : OwK R w L e u l) (hx : Ext w w') (g : Lift w w' L L') : OwK R w' L' e u l := by
  obtain ⟨us, h, hl, he⟩ := h
  exact ⟨us, h.ext hx, hl, fun i h1 h2 => hR _ _ _ _ _ _ g (he i h1 h2)⟩
theorem OwK.slk {α : Type} {R : World → List Value → Value → α → Prop} (hR : Stab R) {w : World} {L : List Value} (L' : List Value) {e : TypeId} {v : Value} {l : List α} (h : OwK R w L e v l) (ha : ∀ k, v.ownBlock = some k → Av L' k) (hs : ∀ k, Av L k → Av L' k) : SlK R w L' v l := by
  obtain ⟨us, h, hl, he⟩ := h
  exact ⟨us, h.sl L' ha, hl, fun i h1 h2 => hR _ _ _ _ _ _ (Lift.sub hs) (he i h1 h2)⟩
/-- It reads as what it owns. -/
theorem OwK.rd {α : Type} {R : World → List Value → Value → α → Prop} (hR : Stab R) {w : World} {L : List Value} {e : TypeId} {v : Value} {l : List α} (h : OwK R w L e v l) : SlK R w [] v l :=
  h.slk hR [] (fun _ _ => trivial) (fun _ _ => trivial)
theorem OwK.nq {α : Type} {R : World → List Value → Value → α → Prop} {w : World} {L : List Value} {e : TypeId} {u v' : Value} {l : List α} (h : OwK R w L e u l) (hn : Nw w v') : Nq u v' := by
  obtain ⟨us, h, _⟩ := h; exact Nq.new h hn
theorem OwK.nxt {α : Type} {R : World → List Value → Value → α → Prop} {w : World} {L : List Value} {e : TypeId} {u v v' : Value} {l : List α} (h : OwK R w L e u l) (hq : Nq u v) (hn : Nx w v v') : Nq u v' := by
  obtain ⟨us, h, _⟩ := h; exact Nq.nxt hq h hn

/-- An element type of one cell. -/
structure TyS (P : Program) (t e : TypeId) (z : Value) (bytes : Nat) : Prop where
  sl : P.underlying t = some (.slice e)
  info : (P.info? e).map (fun i => (i.zero, i.size, i.bytes)) = some (some z, 1, bytes)
  cell : z.cells = #[z]
  agg : ∀ w, (isAgg e).run P w = .ok false w
  fit : bytes ≤ 24

end Gk

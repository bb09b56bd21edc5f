/- What the operations on memory come to: lengths, elements, cuts, make, stores, append, copy, literals, texts, calls. No condition. -/
import Derived.Test.YtabcmfkmddlaaaaGd
import Derived.WalkKit
set_option linter.unusedVariables false
set_option linter.unusedSimpArgs false
namespace Gk
open Go

/-! ### The pure side -/
def idx {α : Type} (l : List α) (i : Int) : Option α := if 0 ≤ i then l[i.toNat]? else none
def put {α : Type} (l : List α) (i : Int) (x : α) : Option (List α) := if 0 ≤ i ∧ i < l.length then some (l.set i.toNat x) else none
def subL {α : Type} (l : List α) (lo hi : Int) : Option (List α) := if 0 ≤ lo ∧ lo ≤ hi ∧ hi ≤ l.length then some ((l.take hi.toNat).drop lo.toNat) else none
/-- How far a slice may grow. -/
def most : Nat := 5000000000000
def makeL {α : Type} (n : Int) (z : α) : Option (List α) := if 0 ≤ n ∧ n ≤ most then some (List.replicate n.toNat z) else none
def appL {α : Type} (l m : List α) : Option (List α) := if l.length + m.length ≤ most then some (l ++ m) else none
def copyL {α : Type} (l : List α) (off : Int) (m : List α) : List α := l.take off.toNat ++ (m.take (l.length - off.toNat) ++ l.drop (off.toNat + min m.length (l.length - off.toNat)))
def divI (a b : Int) : Option Int := if b = 0 then none else some (wI (a.tdiv b))
def remI (a b : Int) : Option Int := if b = 0 then none else some (a.tmod b)

theorem idx_some {α : Type} {l : List α} {i : Int} {x : α} : idx l i = some x ↔ 0 ≤ i ∧ ∃ h : i.toNat < l.length, l[i.toNat] = x := by
  unfold idx
  by_cases h : 0 ≤ i
  · rw [if_pos h, List.getElem?_eq_some_iff]; simp [h]
  · rw [if_neg h]; simp [h]
theorem put_some {α : Type} {l m : List α} {i : Int} {x : α} : put l i x = some m ↔ (0 ≤ i ∧ i < l.length) ∧ l.set i.toNat x = m := by
  unfold put
  by_cases h : 0 ≤ i ∧ i < l.length
  · rw [if_pos h]; simp [h]
  · rw [if_neg h]; simp [h]

theorem put_of {α : Type} {l : List α} {i : Int} {x : α} (y : α) (h : idx l i = some x) : put l i y = some (l.set i.toNat y) := by
  obtain ⟨h0, h1, _⟩ := idx_some.1 h
  exact put_some.2 ⟨⟨h0, by omega⟩, rfl⟩

/-! ### Values -/
def adr (v : Value) (i : Nat) : Value := match v with | .slice (some a) _ _ => .pointer (some (a.add i)) | _ => undef
def subV (v : Value) (lo hi : Nat) : Value := match v with | .slice a _ cap => .slice (if cap = lo then a else a.map (·.add lo)) (hi - lo) (cap - lo) | v => v
def subW (v : Value) (lo hi mx : Nat) : Value := match v with | .slice a _ _ => .slice (if mx = lo then a else a.map (·.add lo)) (hi - lo) (mx - lo) | v => v

theorem add_off (b off i : Nat) : (⟨b, off, none⟩ : Addr).add i = ⟨b, off + i, none⟩ := by unfold Addr.add; split <;> simp_all

section
variable {P : Program} {o : Oper} {f : Nat → Value} {w : World} {L : List Value}

theorem exec_builtin {b : Builtin} {xs : Array Operand} {ats : Array TypeId} (ρ : Operand → Value) (ho : o.op = .call ⟨.builtin b, xs, ats⟩) :
    execOp ρ o = builtin b ats o.type (xs.map fun | .const _ => true | _ => false) (xs.map ρ) := by
  unfold execOp; rw [ho]; rfl

theorem SlK.shape {α : Type} {R : World → List Value → Value → α → Prop} {v : Value} {l : List α} (h : SlK R w L v l) : ∃ p cap, v = .slice p l.length cap ∧ l.length ≤ cap := by
  obtain ⟨us, ⟨p, cap, hv, hc, _⟩, hl, _⟩ := h
  exact ⟨p, cap, by rw [hv, hl], by omega⟩

theorem q_len {α : Type} {R : World → List Value → Value → α → Prop} {v : Value} {l : List α} {x : Operand} {t e : TypeId}
    (ho : o.op = .call ⟨.builtin .len, #[x], #[t]⟩) (ht : P.underlying t = some (.slice e)) (hx : ev f x = v) (h : SlK R w L v l) : Qa P o f (i64 l.length) := by
  intro w'
  obtain ⟨p, cap, rfl, _⟩ := h.shape
  rw [exec_builtin _ ho]
  simp [builtin, Builtin.len_, run_underlying ht, hx, goInt, i64]
theorem q_len_nil {x : Operand} {t e : TypeId} (ho : o.op = .call ⟨.builtin .len, #[x], #[t]⟩) (ht : P.underlying t = some (.slice e)) (hx : ev f x = .slice none 0 0) : Qa P o f (i64 0) := by
  intro w'
  rw [exec_builtin _ ho]
  simp [builtin, Builtin.len_, run_underlying ht, hx, goInt, i64]

theorem ty_size {t e : TypeId} {z : Value} {bytes : Nat} (T : TyS P t e z bytes) (w : World) : (Go.sizeOf e).run P w = .ok 1 w := by
  obtain ⟨i, hi, h1, h2, h3⟩ := info_parts T.info
  simp [Go.sizeOf, typeInfo, hi, h2]

theorem q_adr {α : Type} {R : World → List Value → Value → α → Prop} {v z : Value} {l : List α} {x y : Operand} {t e : TypeId} {bytes : Nat} {i : Int} {a : α}
    (ho : o.op = .indexAddr t x y) (T : TyS P t e z bytes) (hx : ev f x = v) (hy : ev f y = i64 i) (h : SlK R w L v l) (hi : idx l i = some a) : Qa P o f (adr v i.toNat) := by
  intro w'
  obtain ⟨us, ⟨p, cap, hv, hc, hne⟩, hl, _⟩ := h
  obtain ⟨h0, h1, _⟩ := idx_some.1 hi
  have hn : us ≠ [] := fun e => by subst e; simp at hl; omega
  obtain ⟨b, off, rfl, _⟩ := hne hn
  subst hv
  have hlt : i < (us.length : Int) := by omega
  simp [execOp, ho, hx, hy, i64, Instr.indexAt, asIntOf, run_underlying T.sl, ty_size T, h0, hlt, adr]
/-- The address of an element, of an owned slice, too. -/
theorem q_adr_put {α : Type} {R : World → List Value → Value → α → Prop} {v z : Value} {l l' : List α} {x y : Operand} {t e : TypeId} {bytes : Nat} {i : Int} {a : α}
    (ho : o.op = .indexAddr t x y) (T : TyS P t e z bytes) (hx : ev f x = v) (hy : ev f y = i64 i) (h : SlK R w L v l) (hi : put l i a = some l') : Qa P o f (adr v i.toNat) := by
  obtain ⟨⟨h0, h1⟩, _⟩ := put_some.1 hi
  exact q_adr (a := l[i.toNat]'(by omega)) ho T hx hy h (idx_some.2 ⟨h0, by omega, rfl⟩)

theorem q_load {α : Type} {R : World → List Value → Value → α → Prop} {v z : Value} {l : List α} {x : Operand} {t e : TypeId} {bytes : Nat} {i : Int} {a : α}
    (ho : o.op = .load e x) (T : TyS P t e z bytes) (hx : ev f x = adr v i.toNat) (h : SlK R w L v l) (hi : idx l i = some a) : ∃ u, Qt P o f w u ∧ R w L u a := by
  obtain ⟨us, ⟨p, cap, hv, hc, hne⟩, hl, he⟩ := h
  obtain ⟨h0, h1, h2⟩ := idx_some.1 hi
  have hn : us ≠ [] := fun e => by subst e; simp at hl; omega
  obtain ⟨b, off, rfl, _, hr⟩ := hne hn
  subst hv
  have hu : i.toNat < us.length := by omega
  refine ⟨us[i.toNat], fun w' hx' => ?_, h2 ▸ he _ hu h1⟩
  have hc := hr _ hu
  have hc' : w'.cell? ⟨b, off + i.toNat, none⟩ = some us[i.toNat] := by
    rw [World.cell?_of_block (w := w) (hx'.blk b (World.block_lt_of_cell? w _ hc))]; exact hc
  simp [execOp, ho, hx, adr, Instr.loadAt, Instr.sureAddr, loadVar, T.agg, add_off, load, Sem.run, hc']
/-- A number out of a slice. -/
theorem q_loadS {α : Type} {enc : α → Value} {v z : Value} {l : List α} {x : Operand} {t e : TypeId} {bytes : Nat} {i : Int} {a : α}
    (ho : o.op = .load e x) (T : TyS P t e z bytes) (hx : ev f x = adr v i.toNat) (h : SlK (Sc enc) w L v l) (hi : idx l i = some a) : Qt P o f w (enc a) := by
  obtain ⟨u, hq, hu⟩ := q_load ho T hx h hi
  rw [← show u = enc a from hu]
  exact hq

theorem Qt.ext {w' : World} {v : Value} (h : Qt P o f w v) (hx : Ext w w') : Qt P o f w' v := fun w'' h' => h w'' (hx.trans h')

/-! cuts -/
theorem run_bound {x : Value} {y : Nat} {c : BoundsCode} {i : Int} (hx : x = i64 i) (h0 : 0 ≤ i) (h1 : i ≤ y) (w : World) : (Instr.sliceBound x y c).run P w = .ok i.toNat w := by
  subst hx; simp [Instr.sliceBound, i64, asIntOf, h0, h1]

theorem subL_some {α : Type} {l m : List α} {lo hi : Int} : subL l lo hi = some m ↔ (0 ≤ lo ∧ lo ≤ hi ∧ hi ≤ l.length) ∧ (l.take hi.toNat).drop lo.toNat = m := by
  unfold subL
  by_cases h : 0 ≤ lo ∧ lo ≤ hi ∧ hi ≤ l.length
  · rw [if_pos h]; simp [h]
  · rw [if_neg h]; simp [h]

theorem Sl.cut {v : Value} {us : List Value} (h : Sl w L v us) (lo hi : Nat) (h1 : lo ≤ hi) (h2 : hi ≤ us.length) : Sl w L (subV v lo hi) ((us.take hi).drop lo) := by
  obtain ⟨p, cap, rfl, hc, hne⟩ := h
  have hlen : ((us.take hi).drop lo).length = hi - lo := by simp; omega
  refine ⟨_, cap - lo, by unfold subV; rw [hlen], by rw [hlen]; omega, fun hn => ?_⟩
  have h0 : 0 < hi - lo := by rw [← hlen]; exact List.length_pos_iff.2 hn
  obtain ⟨b, off, rfl, ha, hr⟩ := hne (fun e => by subst e; simp at h2; omega)
  refine ⟨b, off + lo, ?_, ha, fun i hi' => ?_⟩
  · rw [if_neg (by omega)]; simp [add_off]
  · rw [hlen] at hi'
    have := hr (lo + i) (by omega)
    rw [Nat.add_assoc, this]
    simp
theorem SlK.cut {α : Type} {R : World → List Value → Value → α → Prop} {v : Value} {l m : List α} (h : SlK R w L v l) {lo hi : Int} (hs : subL l lo hi = some m) : SlK R w L (subV v lo.toNat hi.toNat) m := by
  obtain ⟨us, hu, hl, he⟩ := h
  obtain ⟨⟨h0, h1, h2⟩, rfl⟩ := subL_some.1 hs
  refine ⟨_, hu.cut lo.toNat hi.toNat (by omega) (by omega), by simp [hl], fun i a b => ?_⟩
  simp only [List.getElem_drop, List.getElem_take]
  exact he _ _ _

theorem q_slice {α : Type} {R : World → List Value → Value → α → Prop} {v z : Value} {l m : List α} {x : Operand} {t e : TypeId} {bytes : Nat} {lo hi : Option Operand} {a b : Int}
    (ho : o.op = .slice t x lo hi none) (T : TyS P t e z bytes) (hx : ev f x = v) (h : SlK R w L v l)
    (hlo : match lo with | none => a = 0 | some y => ev f y = i64 a) (hhi : match hi with | none => b = (l.length : Int) | some y => ev f y = i64 b) (hs : subL l a b = some m) : Qa P o f (subV v a.toNat b.toNat) := by
  intro w'
  obtain ⟨p, cap, rfl, hc⟩ := h.shape
  obtain ⟨⟨h0, h1, h2⟩, _⟩ := subL_some.1 hs
  have hb : ∀ c w, (Instr.sliceBound (i64 b) cap c).run P w = .ok b.toNat w := fun c w => run_bound rfl (by omega) (by omega) w
  have ha : ∀ c w, (Instr.sliceBound (i64 a) b.toNat c).run P w = .ok a.toNat w := fun c w => run_bound rfl (by omega) (by omega) w
  have ha' : b = (l.length : Int) → ∀ c w, (Instr.sliceBound (i64 a) l.length c).run P w = .ok a.toNat w := fun e c w => run_bound rfl (by omega) (by omega) w
  cases lo with
  | none =>
    cases hi with
    | none =>
      dsimp only at hlo hhi; subst hlo; subst hhi
      simp [execOp, ho, hx, Instr.sliceAt, run_underlying T.sl, Instr.slice, Instr.sliceBounds, ty_size T, subV]
    | some y =>
      dsimp only at hlo hhi; subst hlo
      simp [execOp, ho, hx, hhi, Instr.sliceAt, run_underlying T.sl, Instr.slice, Instr.sliceBounds, ty_size T, hb, subV]
  | some y =>
    cases hi with
    | none =>
      dsimp only at hlo hhi
      have := ha' hhi
      subst hhi
      simp [execOp, ho, hx, hlo, Instr.sliceAt, run_underlying T.sl, Instr.slice, Instr.sliceBounds, ty_size T, this, subV]
    | some y' =>
      dsimp only at hlo hhi
      simp [execOp, ho, hx, hlo, hhi, Instr.sliceAt, run_underlying T.sl, Instr.slice, Instr.sliceBounds, ty_size T, ha, hb, subV]

end
end Gk

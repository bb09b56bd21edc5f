/- Small words of the printed walks: tests, literals, elements that are references, the field's pointer. No condition. -/
import Derived.Test.YtabcmfkmddlaaaaGg
set_option linter.unusedVariables false
set_option linter.unusedSimpArgs false
namespace Gk
open Go

theorem ndec_t {p : Prop} [Decidable p] (h : (!decide p) = true) : ¬ p := by simpa using h
theorem ndec_f {p : Prop} [Decidable p] (h : (!decide p) = false) : p := by simpa using h

theorem SlK.nil {α : Type} (R : World → List Value → Value → α → Prop) (w : World) (L : List Value) : SlK R w L (.slice none 0 0) ([] : List α) :=
  ⟨[], ⟨none, 0, rfl, Nat.le_refl _, fun h => absurd rfl h⟩, rfl, fun i h => by simp at h⟩
theorem OwK.scal {α : Type} {enc : α → Value} {w : World} {L : List Value} {e : TypeId} {v : Value} {l : List α} (h : OwK (Sc enc) w L e v l) (L' : List Value) : OwK (Sc enc) w L' e v l := h
theorem Lift.arg {w0 w : World} {L : List Value} (h : Ext w0 w) (hL : ∀ k, k < w0.heap.size → Av L k) : Lift w0 w [] L := ⟨fun k _ ho _ _ => (h.blk k (lt_of_get ho)).trans ho, fun k hk _ => hL k hk⟩
theorem nv_nil {w0 : World} : ∀ k, k < w0.heap.size → Av [] k := fun _ _ => trivial
theorem nv_cons {w0 : World} {v : Value} {L : List Value} (h : Nw w0 v) (hL : ∀ k, k < w0.heap.size → Av L k) : ∀ k, k < w0.heap.size → Av (v :: L) k :=
  fun k hk => ⟨fun e => by have := h k e; omega, hL k hk⟩
theorem consnil {α : Type} {R : World → List Value → Value → α → Prop} (hR : Stab R) {w : World} {L : List Value} : ∀ u x, R w L u x → R w (.slice none 0 0 :: L) u x :=
  fun _ _ h => hR _ _ _ _ _ _ (Lift.sub (fun _ h => ⟨nh_nil, h⟩)) h
theorem Nw.of_nil {w : World} {v : Value} (h : Nx w (.slice none 0 0) v) : Nw w v := fun k hk => (h k hk).elim (fun e => absurd e nh_nil) id
theorem grown_none {w w' : World} (h : Gr w w' (Value.slice none 0 0)) : Ext w w' := by
  have hb := fun k hk => h.block (k := k) hk nh_nil
  obtain ⟨row, h, _⟩ := h
  exact ⟨h.os, h.output, h.size, hb⟩

def nz {α : Type} [DecidableEq α] [OfNat α 0] (b : α) : Option Unit := if b = 0 then none else some ()
theorem nz_ne {α : Type} [DecidableEq α] [OfNat α 0] {b : α} {u : Unit} (h : nz b = some u) : b ≠ 0 := by
  unfold nz at h; split at h
  · cases h
  · assumption
theorem subL_lo {α : Type} {l m : List α} {lo hi : Int} (h : subL l lo hi = some m) : lo ≤ (l.length : Int) := by
  obtain ⟨⟨_, h1, h2⟩, _⟩ := subL_some.1 h; omega
theorem copy_whole {α : Type} {R : World → List Value → Value → α → Prop} {w : World} {L : List Value} {e : TypeId} {v : Value} {l : List α} (h : OwK R w L e v l) : v = subV v (0 : Int).toNat l.length := by
  obtain ⟨us, h, hl, _⟩ := h
  rcases h with ⟨p, rfl, rfl⟩ | ⟨g, cap, rfl, _⟩
  · have : l.length = 0 := by simpa using hl.symm
    rw [this]; cases p <;> rfl
  · simp [subV, hl, Addr.add]

/-! ### Elements that are references -/
section
variable {P : Program} {ops : Array Oper} {K : (Nat → Value) → World → Prop} {r : List Oper} {o : Oper} {f : Nat → Value} {w w1 : World} {d : Nat}
variable {α : Type} {R : World → List Value → Value → α → Prop} {v z : Value} {L : List Value} {l : List α} {x : Operand} {t e : TypeId} {bytes : Nat} {i : Int} {a : α}
theorem wlq_load (hw : wantF ops f o = true) (hd : o.dst = some d) (ho : o.op = .load e x) (T : TyS P t e z bytes) (hx : ev f x = adr v i.toNat) (h : SlK R w1 L v l) (hi : idx l i = some a) (hE : Ext w1 w)
    (hk : ∀ u, R w1 L u a → wl P ops K r (upd f d u) w) : wl P ops K (o :: r) f w := by
  obtain ⟨u, hq, hu⟩ := q_load ho T hx h hi
  exact wlq hw hd (hq.ext hE) (hk u hu)
theorem wlq_loadO (hR : Stab R) (hw : wantF ops f o = true) (hd : o.dst = some d) (ho : o.op = .load e x) (T : TyS P t e z bytes) (hx : ev f x = adr v i.toNat) (h : OwK R w L e v l) (hi : idx l i = some a)
    (hk : ∀ u, R w L u a → wl P ops K r (upd f d u) w) : wl P ops K (o :: r) f w := by
  obtain ⟨us, hown, hl, he⟩ := h
  obtain ⟨h0, h1, h2⟩ := idx_some.1 hi
  have hs : SlK (fun _ _ u a => R w L u a) w [] v l := ⟨us, hown.sl [] (fun _ _ => trivial), hl, he⟩
  obtain ⟨u, hq, hu⟩ := q_load ho T hx hs hi
  exact wlq hw hd hq (hk u hu)
end
section
variable {P : Program} {ops : Array Oper} {qs : List Nat} {K : (Nat → Value) → World → Prop} {r : List (Nat × Nat)} {j : Nat} {o : Oper} {f : Nat → Value} {w w1 : World} {d : Nat}
variable {α : Type} {R : World → List Value → Value → α → Prop} {v z : Value} {L : List Value} {l : List α} {x : Operand} {t e : TypeId} {bytes : Nat} {i : Int} {a : α}
theorem wsq_load (hj : ops[j]? = some o) (hw : wantF ops f o = true) (hd : o.dst = some d) (ho : o.op = .load e x) (T : TyS P t e z bytes) (hx : ev f x = adr v i.toNat) (h : SlK R w1 L v l) (hi : idx l i = some a) (hE : Ext w1 w)
    (hk : ∀ u, R w1 L u a → ws P ops qs K r (upd f d u) w) : ws P ops qs K ((j, 1) :: r) f w := by
  obtain ⟨u, hq, hu⟩ := q_load ho T hx h hi
  exact wsq hj hw hd (hq.ext hE) (hk u hu)
theorem wsq_loadO (hR : Stab R) (hj : ops[j]? = some o) (hw : wantF ops f o = true) (hd : o.dst = some d) (ho : o.op = .load e x) (T : TyS P t e z bytes) (hx : ev f x = adr v i.toNat) (h : OwK R w L e v l) (hi : idx l i = some a)
    (hk : ∀ u, R w L u a → ws P ops qs K r (upd f d u) w) : ws P ops qs K ((j, 1) :: r) f w := by
  obtain ⟨us, hown, hl, he⟩ := h
  have hs : SlK (fun _ _ u a => R w L u a) w [] v l := ⟨us, hown.sl [] (fun _ _ => trivial), hl, he⟩
  obtain ⟨u, hq, hu⟩ := q_load ho T hx hs hi
  exact wsq hj hw hd hq (hk u hu)
end

/-! ### Literals -/
/-- Numbers that are written out. -/
theorem litS {α : Type} (enc : α → Value) {us : List Value} {l : List α} (h : us = l.map enc) {w : World} {L : List Value} : ∀ w' L', Lift w w' L L' → ∀ i (h : i < us.length) (h' : i < l.length), Sc enc w' L' us[i] l[i] := by
  subst h; intro w' _ _ i _ _; simp [Sc]
theorem litC {α : Type} (enc : α → Value) (hc : ∀ x, (enc x).cells = #[enc x]) {us : List Value} {l : List α} (h : us = l.map enc) : ∀ u ∈ us, u.cells = #[u] := by
  subst h; intro u hu; obtain ⟨x, _, rfl⟩ := List.mem_map.1 hu; exact hc x
theorem oneC_u8 (x : UInt8) : (u8 x).cells = #[u8 x] := rfl
theorem oneC_i64 (x : Int) : (i64 x).cells = #[i64 x] := rfl
theorem oneC_u64 (x : UInt64) : (u64 x).cells = #[u64 x] := rfl
theorem oneC_bool (x : Bool) : (bl x).cells = #[bl x] := rfl
/-- References that are written out. -/
inductive LitR {α : Type} (R : World → List Value → Value → α → Prop) (w : World) (L : List Value) : List Value → List α → Prop
  | nil : LitR R w L [] []
  | cons {u : Value} {x : α} {us : List Value} {l : List α} (h : R w L u x) (t : LitR R w L us l) : LitR R w L (u :: us) (x :: l)
theorem LitR.all {α : Type} {R : World → List Value → Value → α → Prop} (hR : Stab R) {w : World} {L : List Value} {us : List Value} {l : List α} (h : LitR R w L us l) : ∀ w' L', Lift w w' L L' → ∀ i (h : i < us.length) (h' : i < l.length), R w' L' us[i] l[i] := by
  induction h with
  | nil => intro w' _ _ i h; simp at h
  | cons h t ih =>
    intro w' L' hx i h1 h2
    cases i with
    | zero => exact hR _ _ _ _ _ _ hx h
    | succ i => exact ih w' L' hx i (by simpa using h1) (by simpa using h2)
theorem LitR.cells {α : Type} {R : World → List Value → Value → α → Prop} {w : World} {L : List Value} {us : List Value} {l : List α} (h : LitR R w L us l) (hc : ∀ u x, R w L u x → u.cells = #[u]) : ∀ u ∈ us, u.cells = #[u] := by
  induction h with
  | nil => intro u hu; simp at hu
  | cons h t ih =>
    intro u hu
    rcases List.mem_cons.1 hu with rfl | hu
    · exact hc _ _ h
    · exact ih u hu
theorem cells_sl {α : Type} {R : World → List Value → Value → α → Prop} {w : World} {L : List Value} (u : Value) (x : List α) (h : SlK R w L u x) : u.cells = #[u] := by
  obtain ⟨p, cap, rfl, _⟩ := h.shape; rfl

/-! ### The field's pointer -/
/-- The cells of a field: the powers, twice, and which power each number is. -/
def fieldCells (pw : List UInt8) (lg : List Int) : Array Value := (pw.map u8 ++ lg.map i64).toArray
/-- v points to a field of these tables (b), or is nil. The tables are given elsewhere: here they are whatever 'pw', 'lg' say. -/
def FdT (pw : List UInt8) (lg : List Int) (T : TypeId) (w : World) (L : List Value) (v : Value) (b : Bool) : Prop :=
  (b = false ∧ v = .pointer none) ∨ (b = true ∧ ∃ g, v = .pointer (some ⟨g, 0, none⟩) ∧ Av L g ∧ w.heap[g]? = some (.cells (fieldCells pw lg) T (0, 0)))
theorem FdT.lift {pw : List UInt8} {lg : List Int} {T : TypeId} {w w' : World} {L L' : List Value} {v : Value} {b : Bool} (h : FdT pw lg T w L v b) (g : Lift w w' L L') : FdT pw lg T w' L' v b := by
  rcases h with h | ⟨hb, k, hv, ha, hk⟩
  · exact .inl h
  · have hlt : k < w.heap.size := (Array.getElem?_eq_some_iff.1 hk).1
    exact .inr ⟨hb, k, hv, g.av k hlt ha, g.blk k _ hk rfl ha⟩
section
variable {P : Program} {o : Oper} {f : Nat → Value} {pw : List UInt8} {lg : List Int} {T : TypeId} {w : World} {L : List Value} {v : Value} {b : Bool} {x y : Operand} {t t' e : TypeId}
theorem q_eqF (ho : o.op = .binOp .eql t x y t') (ht : P.underlying t = some (.pointer e)) (hx : ev f x = v) (hy : ev f y = .pointer none) (h : FdT pw lg T w L v b) : Qa P o f (.bool (!b)) := by
  rcases h with ⟨rfl, rfl⟩ | ⟨rfl, g, rfl, _⟩
  · exact q_eqP ho ht hx hy
  · exact q_eqP ho ht hx hy
theorem q_neF (ho : o.op = .binOp .neq t x y t') (ht : P.underlying t = some (.pointer e)) (hx : ev f x = v) (hy : ev f y = .pointer none) (h : FdT pw lg T w L v b) : Qa P o f (.bool b) := by
  rcases h with ⟨rfl, rfl⟩ | ⟨rfl, g, rfl, _⟩
  · exact q_neP ho ht hx hy
  · exact q_neP ho ht hx hy
end

/-! ### Shifts -/
def cnt (c : Int) : Option Nat := if 0 ≤ c then some c.toNat else none
theorem cnt_eq {c : Int} {m : Nat} (h : cnt c = some m) : c = (m : Int) := by
  unfold cnt at h; split at h
  · have := Option.some.inj h; omega
  · cases h
def shl8 (a : UInt8) (n : Nat) : UInt8 := UInt8.ofNat (a.toNat * 2 ^ min n 8)
def shr8 (a : UInt8) (n : Nat) : UInt8 := UInt8.ofNat (a.toNat / 2 ^ min n 8)
def shl32 (a : UInt32) (n : Nat) : UInt32 := UInt32.ofNat (a.toNat * 2 ^ min n 32)
def shr32 (a : UInt32) (n : Nat) : UInt32 := UInt32.ofNat (a.toNat / 2 ^ min n 32)
def shl64 (a : UInt64) (n : Nat) : UInt64 := UInt64.ofNat (a.toNat * 2 ^ min n 64)
def shr64 (a : UInt64) (n : Nat) : UInt64 := UInt64.ofNat (a.toNat / 2 ^ min n 64)
def shlI (a : Int) (n : Nat) : Int := wI (a * 2 ^ min n 64)
def shrI (a : Int) (n : Nat) : Int := a.fdiv (2 ^ min n 64)
section
variable {P : Program} {o : Oper} {f : Nat → Value} {x y : Operand} {t t' : TypeId} {yk : IntKind} {b : Int}
theorem run_shl {k : IntKind} (a : Int) (m : Nat) (hb : b = (m : Int)) (w : World) : (Op.shift .shl k a yk b).run P w = .ok (.int k (k.wrap (a * 2 ^ min m k.bits))) w := by
  subst hb; simp [Op.shift]; omega
theorem run_shr {k : IntKind} (a : Int) (m : Nat) (hb : b = (m : Int)) (w : World) : (Op.shift .shr k a yk b).run P w = .ok (.int k (a.fdiv (2 ^ min m k.bits))) w := by
  subst hb; simp [Op.shift]; omega

theorem q_shl8 {a : UInt8} (m : Nat) (ho : o.op = .binOp .shl t x y t') (hx : ev f x = u8 a) (hy : ev f y = .int yk b) (hb : b = (m : Int)) : Qa P o f (u8 (shl8 a m)) := by
  intro w
  have h := run_shl (P := P) (k := .u8) (yk := yk) (a.toNat : Int) m hb w
  have e : IntKind.u8.wrap ((a.toNat : Int) * 2 ^ min m IntKind.u8.bits) = ((shl8 a m).toNat : Int) := by
    rw [wrap_u8]; unfold shl8; simp [IntKind.bits]
  rw [e] at h
  unfold execOp; rw [ho]; dsimp only; rw [hx, hy]
  simp only [u8, eqGuard, binOp, Sem.run_bind, Sem.run_pure, Result.andThen_ok, Bool.not_false, if_true, h]
theorem q_shr8 {a : UInt8} (m : Nat) (ho : o.op = .binOp .shr t x y t') (hx : ev f x = u8 a) (hy : ev f y = .int yk b) (hb : b = (m : Int)) : Qa P o f (u8 (shr8 a m)) := by
  intro w
  have h := run_shr (P := P) (k := .u8) (yk := yk) (a.toNat : Int) m hb w
  have e : (a.toNat : Int).fdiv (2 ^ min m IntKind.u8.bits) = ((shr8 a m).toNat : Int) := by
    unfold shr8
    rw [Int.fdiv_eq_ediv_of_nonneg _ (by exact Int.le_of_lt (Int.pow_pos (by decide)))]
    have h1 : (a.toNat / 2 ^ min m 8) < 256 := Nat.lt_of_le_of_lt (Nat.div_le_self _ _) a.toNat_lt
    simp only [IntKind.bits, UInt8.toNat_ofNat', Nat.mod_eq_of_lt h1]
    norm_cast
  rw [e] at h
  unfold execOp; rw [ho]; dsimp only; rw [hx, hy]
  simp only [u8, eqGuard, binOp, Sem.run_bind, Sem.run_pure, Result.andThen_ok, Bool.not_false, if_true, h]

theorem q_shl32 {a : UInt32} (m : Nat) (ho : o.op = .binOp .shl t x y t') (hx : ev f x = u32 a) (hy : ev f y = .int yk b) (hb : b = (m : Int)) : Qa P o f (u32 (shl32 a m)) := by
  intro w
  have h := run_shl (P := P) (k := .u32) (yk := yk) (a.toNat : Int) m hb w
  have e : IntKind.u32.wrap ((a.toNat : Int) * 2 ^ min m IntKind.u32.bits) = ((shl32 a m).toNat : Int) := by
    rw [wrap_u32]; unfold shl32; simp [IntKind.bits]
  rw [e] at h
  unfold execOp; rw [ho]; dsimp only; rw [hx, hy]
  simp only [u32, eqGuard, binOp, Sem.run_bind, Sem.run_pure, Result.andThen_ok, Bool.not_false, if_true, h]
theorem q_shr32 {a : UInt32} (m : Nat) (ho : o.op = .binOp .shr t x y t') (hx : ev f x = u32 a) (hy : ev f y = .int yk b) (hb : b = (m : Int)) : Qa P o f (u32 (shr32 a m)) := by
  intro w
  have h := run_shr (P := P) (k := .u32) (yk := yk) (a.toNat : Int) m hb w
  have e : (a.toNat : Int).fdiv (2 ^ min m IntKind.u32.bits) = ((shr32 a m).toNat : Int) := by
    unfold shr32
    rw [Int.fdiv_eq_ediv_of_nonneg _ (by exact Int.le_of_lt (Int.pow_pos (by decide)))]
    have h1 : (a.toNat / 2 ^ min m 32) < 4294967296 := Nat.lt_of_le_of_lt (Nat.div_le_self _ _) a.toNat_lt
    simp only [IntKind.bits, UInt32.toNat_ofNat', Nat.mod_eq_of_lt h1]
    norm_cast
  rw [e] at h
  unfold execOp; rw [ho]; dsimp only; rw [hx, hy]
  simp only [u32, eqGuard, binOp, Sem.run_bind, Sem.run_pure, Result.andThen_ok, Bool.not_false, if_true, h]

theorem q_shl64 {a : UInt64} (m : Nat) (ho : o.op = .binOp .shl t x y t') (hx : ev f x = u64 a) (hy : ev f y = .int yk b) (hb : b = (m : Int)) : Qa P o f (u64 (shl64 a m)) := by
  intro w
  have h := run_shl (P := P) (k := .u64) (yk := yk) (a.toNat : Int) m hb w
  have e : IntKind.u64.wrap ((a.toNat : Int) * 2 ^ min m IntKind.u64.bits) = ((shl64 a m).toNat : Int) := by
    rw [wrap_u64]; unfold shl64; simp [IntKind.bits]
  rw [e] at h
  unfold execOp; rw [ho]; dsimp only; rw [hx, hy]
  simp only [u64, eqGuard, binOp, Sem.run_bind, Sem.run_pure, Result.andThen_ok, Bool.not_false, if_true, h]
theorem q_shr64 {a : UInt64} (m : Nat) (ho : o.op = .binOp .shr t x y t') (hx : ev f x = u64 a) (hy : ev f y = .int yk b) (hb : b = (m : Int)) : Qa P o f (u64 (shr64 a m)) := by
  intro w
  have h := run_shr (P := P) (k := .u64) (yk := yk) (a.toNat : Int) m hb w
  have e : (a.toNat : Int).fdiv (2 ^ min m IntKind.u64.bits) = ((shr64 a m).toNat : Int) := by
    unfold shr64
    rw [Int.fdiv_eq_ediv_of_nonneg _ (by exact Int.le_of_lt (Int.pow_pos (by decide)))]
    have h1 : (a.toNat / 2 ^ min m 64) < 18446744073709551616 := Nat.lt_of_le_of_lt (Nat.div_le_self _ _) a.toNat_lt
    simp only [IntKind.bits, UInt64.toNat_ofNat', Nat.mod_eq_of_lt h1]
    norm_cast
  rw [e] at h
  unfold execOp; rw [ho]; dsimp only; rw [hx, hy]
  simp only [u64, eqGuard, binOp, Sem.run_bind, Sem.run_pure, Result.andThen_ok, Bool.not_false, if_true, h]

theorem q_shlI {a : Int} (m : Nat) (ho : o.op = .binOp .shl t x y t') (hx : ev f x = i64 a) (hy : ev f y = .int yk b) (hb : b = (m : Int)) : Qa P o f (i64 (shlI a m)) := by
  intro w
  have h := run_shl (P := P) (k := .i64) (yk := yk) a m hb w
  unfold execOp; rw [ho]; dsimp only; rw [hx, hy]
  simp only [i64, eqGuard, binOp, Sem.run_bind, Sem.run_pure, Result.andThen_ok, Bool.not_false, if_true, h]
  rfl
theorem q_shrI {a : Int} (m : Nat) (ho : o.op = .binOp .shr t x y t') (hx : ev f x = i64 a) (hy : ev f y = .int yk b) (hb : b = (m : Int)) : Qa P o f (i64 (shrI a m)) := by
  intro w
  have h := run_shr (P := P) (k := .i64) (yk := yk) a m hb w
  unfold execOp; rw [ho]; dsimp only; rw [hx, hy]
  simp only [i64, eqGuard, binOp, Sem.run_bind, Sem.run_pure, Result.andThen_ok, Bool.not_false, if_true, h]
  rfl
/-! bits of int -/
def xorI (a b : Int) : Int := wI ((BitVec.ofInt 64 a ^^^ BitVec.ofInt 64 b).toNat : Int)
def andI (a b : Int) : Int := wI ((BitVec.ofInt 64 a &&& BitVec.ofInt 64 b).toNat : Int)
def orI (a b : Int) : Int := wI ((BitVec.ofInt 64 a ||| BitVec.ofInt 64 b).toNat : Int)
theorem q_xorI {a b : Int} (ho : o.op = .binOp .xor t x y t') (hx : ev f x = i64 a) (hy : ev f y = i64 b) : Qa P o f (i64 (xorI a b)) := by
  intro w; unfold execOp; rw [ho]; dsimp only; rw [hx, hy]; rfl
theorem q_andI {a b : Int} (ho : o.op = .binOp .and t x y t') (hx : ev f x = i64 a) (hy : ev f y = i64 b) : Qa P o f (i64 (andI a b)) := by
  intro w; unfold execOp; rw [ho]; dsimp only; rw [hx, hy]; rfl
theorem q_orI {a b : Int} (ho : o.op = .binOp .or t x y t') (hx : ev f x = i64 a) (hy : ev f y = i64 b) : Qa P o f (i64 (orI a b)) := by
  intro w; unfold execOp; rw [ho]; dsimp only; rw [hx, hy]; rfl
theorem q_negI {a : Int} (ho : o.op = .unOp .neg t x) (hx : ev f x = i64 a) : Qa P o f (i64 (wI (0 - a))) := by
  intro w; unfold execOp; rw [ho]; dsimp only; rw [hx]; rfl
end
end Gk

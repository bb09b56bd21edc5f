/- The walk's single steps, as the printed walks use them; further operations; the field's memory. No condition. -/
import Derived.Test.YtabcmfkmddlaaaaGf
set_option linter.unusedVariables false
set_option linter.unusedSimpArgs false
namespace Gk
open Go

section
variable {P : Program} {ops : Array Oper} {K : (Nat → Value) → World → Prop} {r : List Oper} {o : Oper} {f : Nat → Value} {w : World} {d : Nat} {v : Value}
theorem wla (hw : wantF ops f o = true) (hd : o.dst = some d) (hq : Qa P o f v) (h : wl P ops K r (upd f d v) w) : wl P ops K (o :: r) f w :=
  wl_a hw hq (by rw [hd]; exact h)
theorem wlq (hw : wantF ops f o = true) (hd : o.dst = some d) (hq : Qt P o f w v) (h : wl P ops K r (upd f d v) w) : wl P ops K (o :: r) f w :=
  wl_q hw hq (by rw [hd]; exact h)
theorem wls (hw : wantF ops f o = true) (hd : o.dst = some d) (h : Stp P o f w (fun v w' => wl P ops K r (upd f d v) w')) : wl P ops K (o :: r) f w :=
  wl_stp hw (by rw [hd]; exact h)
theorem wln (hw : wantF ops f o = true) (hd : o.dst = none) (h : Stp P o f w (fun _ w' => wl P ops K r f w')) : wl P ops K (o :: r) f w :=
  wl_stp hw (by rw [hd]; exact h)
theorem wlk (hw : wantF ops f o = false) (hd : o.dst = some d) (h : wl P ops K r (upd f d undef) w) : wl P ops K (o :: r) f w :=
  wl_skip hw (by rw [hd]; exact h)
/-- A test whose outcome later guards ask for. -/
theorem wlb {b : Bool} (hw : wantF ops f o = true) (hd : o.dst = some d) (hq : Qa P o f (.bool b)) (ht : b = true → wl P ops K r (upd f d (.bool true)) w) (hf : b = false → wl P ops K r (upd f d (.bool false)) w) : wl P ops K (o :: r) f w := by
  refine wla hw hd hq ?_
  cases b
  · exact hf rfl
  · exact ht rfl
end
section
variable {P : Program} {ops : Array Oper} {qs : List Nat} {K : (Nat → Value) → World → Prop} {r : List (Nat × Nat)} {i : Nat} {o : Oper} {f : Nat → Value} {w : World} {d : Nat} {v : Value}
theorem wsa (ho : ops[i]? = some o) (hw : wantF ops f o = true) (hd : o.dst = some d) (hq : Qa P o f v) (h : ws P ops qs K r (upd f d v) w) : ws P ops qs K ((i, 0) :: r) f w :=
  ws_a ho hw hq (by rw [hd]; exact h)
theorem wsq (ho : ops[i]? = some o) (hw : wantF ops f o = true) (hd : o.dst = some d) (hq : Qt P o f w v) (h : ws P ops qs K r (upd f d v) w) : ws P ops qs K ((i, 1) :: r) f w :=
  ws_q ho hw hq (by rw [hd]; exact h)
/-- What is carried out leaves this world and more. -/
theorem wss (ho : ops[i]? = some o) (hw : wantF ops f o = true) (hd : o.dst = some d) (h : Stp P o f w (fun v w' => Ext w w' ∧ ws P ops qs K r (upd f d v) w')) : ws P ops qs K ((i, 2) :: r) f w :=
  ws_stp ho hw (h.mono fun v w' h => ⟨.inl h.1, by rw [hd]; exact h.2⟩)
/-- No load stands beside it. -/
theorem wsc (ho : ops[i]? = some o) (hc : clearOf .any ops qs i = true) (hw : wantF ops f o = true) (hd : o.dst = some d) (h : Stp P o f w (fun v w' => ws P ops qs K r (upd f d v) w')) : ws P ops qs K ((i, 2) :: r) f w :=
  ws_stp ho hw (h.mono fun v w' h => ⟨.inr hc, by rw [hd]; exact h⟩)
theorem wsn (ho : ops[i]? = some o) (hc : clearOf .any ops qs i = true) (hw : wantF ops f o = true) (hd : o.dst = none) (h : Stp P o f w (fun _ w' => ws P ops qs K r f w')) : ws P ops qs K ((i, 2) :: r) f w :=
  ws_stp ho hw (h.mono fun v w' h => ⟨.inr hc, by rw [hd]; exact h⟩)
theorem wsk {t : Nat} (ho : ops[i]? = some o) (hw : wantF ops f o = false) (hd : o.dst = some d) (h : ws P ops qs K r (upd f d undef) w) : ws P ops qs K ((i, t) :: r) f w :=
  ws_skip ho hw (by rw [hd]; exact h)
theorem wsb {b : Bool} (ho : ops[i]? = some o) (hw : wantF ops f o = true) (hd : o.dst = some d) (hq : Qa P o f (.bool b)) (ht : b = true → ws P ops qs K r (upd f d (.bool true)) w) (hf : b = false → ws P ops qs K r (upd f d (.bool false)) w) : ws P ops qs K ((i, 0) :: r) f w := by
  refine wsa ho hw hd hq ?_
  cases b
  · exact hf rfl
  · exact ht rfl
end

theorem cst8 {f : Nat → Value} (n : UInt8) {m : Int} (h : (n.toNat : Int) = m) : ev f (.const (.int .u8 m)) = u8 n := by subst h; rfl
theorem cst32 {f : Nat → Value} (n : UInt32) {m : Int} (h : (n.toNat : Int) = m) : ev f (.const (.int .u32 m)) = u32 n := by subst h; rfl
theorem cst64 {f : Nat → Value} (n : UInt64) {m : Int} (h : (n.toNat : Int) = m) : ev f (.const (.int .u64 m)) = u64 n := by subst h; rfl

/-! ### Arguments of calls -/
section
variable {f : Nat → Value} {x1 x2 x3 x4 x5 x6 x7 x8 : Operand} {v1 v2 v3 v4 v5 v6 v7 v8 : Value}
theorem ar0 : ([] : List Operand).map (ev f) = [] := rfl
theorem ar1 (h1 : ev f x1 = v1) : [x1].map (ev f) = [v1] := by simp [*]
theorem ar2 (h1 : ev f x1 = v1) (h2 : ev f x2 = v2) : [x1, x2].map (ev f) = [v1, v2] := by simp [*]
theorem ar3 (h1 : ev f x1 = v1) (h2 : ev f x2 = v2) (h3 : ev f x3 = v3) : [x1, x2, x3].map (ev f) = [v1, v2, v3] := by simp [*]
theorem ar4 (h1 : ev f x1 = v1) (h2 : ev f x2 = v2) (h3 : ev f x3 = v3) (h4 : ev f x4 = v4) : [x1, x2, x3, x4].map (ev f) = [v1, v2, v3, v4] := by simp [*]
theorem ar5 (h1 : ev f x1 = v1) (h2 : ev f x2 = v2) (h3 : ev f x3 = v3) (h4 : ev f x4 = v4) (h5 : ev f x5 = v5) : [x1, x2, x3, x4, x5].map (ev f) = [v1, v2, v3, v4, v5] := by simp [*]
theorem ar6 (h1 : ev f x1 = v1) (h2 : ev f x2 = v2) (h3 : ev f x3 = v3) (h4 : ev f x4 = v4) (h5 : ev f x5 = v5) (h6 : ev f x6 = v6) : [x1, x2, x3, x4, x5, x6].map (ev f) = [v1, v2, v3, v4, v5, v6] := by simp [*]
theorem ar7 (h1 : ev f x1 = v1) (h2 : ev f x2 = v2) (h3 : ev f x3 = v3) (h4 : ev f x4 = v4) (h5 : ev f x5 = v5) (h6 : ev f x6 = v6) (h7 : ev f x7 = v7) : [x1, x2, x3, x4, x5, x6, x7].map (ev f) = [v1, v2, v3, v4, v5, v6, v7] := by simp [*]
end

/-! ### Lists of what is owned -/
/-- None of L owns what is new. -/
def Old (w : World) (L : List Value) : Prop := ∀ k, w.heap.size ≤ k → Av L k
theorem Old.nil (w : World) : Old w [] := fun _ _ => trivial
theorem Old.ext {w w' : World} {L : List Value} (h : Old w L) (hx : Ext w w') : Old w' L := fun k hk => h k (Nat.le_trans hx.size hk)
theorem Old.cons {w : World} {L : List Value} {v : Value} (h : Old w L) (hv : ∀ k, Hs v k → k < w.heap.size) : Old w (v :: L) :=
  fun k hk => ⟨fun e => by have := hv k e; omega, h k hk⟩
theorem OwK.weak {α : Type} {R : World → List Value → Value → α → Prop} (hR : Stab R) {w : World} {L L' : List Value} {e : TypeId} {u : Value} {l : List α} (h : OwK R w L e u l) (hs : ∀ k, Av L k → Av L' k) : OwK R w L' e u l := by
  obtain ⟨us, h, hl, he⟩ := h
  exact ⟨us, h, hl, fun i h1 h2 => hR _ _ _ _ _ _ (Lift.sub hs) (he i h1 h2)⟩
theorem oc_u8 : ∀ (w : World) (L : List Value) (u : Value) (x : UInt8), Sc u8 w L u x → u.oneCell' = true := fun _ _ _ _ h => h ▸ rfl
theorem oc_i64 : ∀ (w : World) (L : List Value) (u : Value) (x : Int), Sc i64 w L u x → u.oneCell' = true := fun _ _ _ _ h => h ▸ rfl
theorem oc_bl : ∀ (w : World) (L : List Value) (u : Value) (x : Bool), Sc bl w L u x → u.oneCell' = true := fun _ _ _ _ h => h ▸ rfl
theorem oc_u64 : ∀ (w : World) (L : List Value) (u : Value) (x : UInt64), Sc u64 w L u x → u.oneCell' = true := fun _ _ _ _ h => h ▸ rfl
theorem oc_sl {α : Type} {R : World → List Value → Value → α → Prop} : ∀ (w : World) (L : List Value) (u : Value) (x : List α), SlK R w L u x → u.oneCell' = true := fun _ _ _ _ h => by
  obtain ⟨p, cap, rfl, _⟩ := h.shape; rfl
theorem By.bare {w : World} {L : List Value} {v : Value} {l : List UInt8} (h : By w L v l) : By w [] v l := h.lift (Lift.sub (fun _ _ => trivial))
theorem SlK.bare {α : Type} {R : World → List Value → Value → α → Prop} (hR : Stab R) {w : World} {L : List Value} {v : Value} {l : List α} (h : SlK R w L v l) : SlK R w [] v l := SlK.stab hR _ _ _ _ _ _ (Lift.sub (fun _ _ => trivial)) h

/-! ### More operations -/
section
variable {P : Program} {o : Oper} {f : Nat → Value}
theorem q_minI {x y : Operand} {ats : Array TypeId} {a b : Int} (ho : o.op = .call ⟨.builtin .min, #[x, y], ats⟩) (hx : ev f x = i64 a) (hy : ev f y = i64 b) : Qa P o f (i64 (if b < a then b else a)) := by
  intro w; rw [exec_builtin _ ho]; simp [builtin, Builtin.min_, Builtin.min2, hx, hy, i64]
theorem q_maxI {x y : Operand} {ats : Array TypeId} {a b : Int} (ho : o.op = .call ⟨.builtin .max, #[x, y], ats⟩) (hx : ev f x = i64 a) (hy : ev f y = i64 b) : Qa P o f (i64 (if a < b then b else a)) := by
  intro w; rw [exec_builtin _ ho]; simp [builtin, Builtin.max_, Builtin.max2, hx, hy, i64]
theorem q_divI {x y : Operand} {t t' : TypeId} {a b c : Int} (ho : o.op = .binOp .quo t x y t') (hx : ev f x = i64 a) (hy : ev f y = i64 b) (h : divI a b = some c) : Qa P o f (i64 c) := by
  intro w
  unfold divI at h
  split at h
  · cases h
  · rename_i hb
    obtain rfl := Option.some.inj h
    unfold execOp; rw [ho]; dsimp only; rw [hx, hy]
    simp only [i64, eqGuard, binOp, Op.intDiv, if_neg hb, wI]
    rfl
theorem q_remI {x y : Operand} {t t' : TypeId} {a b c : Int} (ho : o.op = .binOp .rem t x y t') (hx : ev f x = i64 a) (hy : ev f y = i64 b) (h : remI a b = some c) : Qa P o f (i64 c) := by
  intro w
  unfold remI at h
  split at h
  · cases h
  · rename_i hb
    obtain rfl := Option.some.inj h
    unfold execOp; rw [ho]; dsimp only; rw [hx, hy]
    simp only [i64, eqGuard, binOp, Op.intDiv, if_neg hb]
    rfl
theorem run_eqB {t : TypeId} (d : Nat) (a b : Bool) (ht : P.underlying t = some .bool) (w : World) : (Op.equalIn (d + 1) t (.bool a) (.bool b)).run P w = .ok (a == b) w := by
  simp [Op.equalIn, run_underlying ht]
theorem q_eqB {x y : Operand} {t t' : TypeId} {a b : Bool} (ho : o.op = .binOp .eql t x y t') (ht : P.underlying t = some .bool) (hx : ev f x = .bool a) (hy : ev f y = .bool b) : Qa P o f (.bool (a == b)) := by
  intro w
  have h : (Op.equalIn 10000 t (.bool a) (.bool b)).run P w = .ok (a == b) w := run_eqB (P := P) 9999 a b ht w
  unfold execOp; rw [ho]; dsimp only; rw [hx, hy]
  simp only [eqGuard, binOp, Op.equal, Op.maxDepth, Sem.run_bind, Sem.run_pure, Result.andThen_ok, h, Bool.not_true, Bool.false_eq_true, if_false]
theorem q_neB {x y : Operand} {t t' : TypeId} {a b : Bool} (ho : o.op = .binOp .neq t x y t') (ht : P.underlying t = some .bool) (hx : ev f x = .bool a) (hy : ev f y = .bool b) : Qa P o f (.bool (!(a == b))) := by
  intro w
  have h : (Op.equalIn 10000 t (.bool a) (.bool b)).run P w = .ok (a == b) w := run_eqB (P := P) 9999 a b ht w
  unfold execOp; rw [ho]; dsimp only; rw [hx, hy]
  simp only [eqGuard, binOp, Op.equal, Op.maxDepth, Sem.run_bind, Sem.run_pure, Result.andThen_ok, h, Bool.not_true, Bool.false_eq_true, if_false]
/-! a pointer against nil -/
theorem run_eqP {t e : TypeId} (d : Nat) (p : Option Addr) (ht : P.underlying t = some (.pointer e)) (w : World) : (Op.equalIn (d + 1) t (.pointer p) (.pointer none)).run P w = .ok p.isNone w := by
  cases p <;> simp [Op.equalIn, run_underlying ht]
theorem q_eqP {x y : Operand} {t t' e : TypeId} {p : Option Addr} (ho : o.op = .binOp .eql t x y t') (ht : P.underlying t = some (.pointer e)) (hx : ev f x = .pointer p) (hy : ev f y = .pointer none) : Qa P o f (.bool p.isNone) := by
  intro w
  have h : (Op.equalIn 10000 t (.pointer p) (.pointer none)).run P w = .ok p.isNone w := run_eqP (P := P) 9999 p ht w
  unfold execOp; rw [ho]; dsimp only; rw [hx, hy]
  simp only [eqGuard, binOp, Op.equal, Op.maxDepth, Sem.run_bind, Sem.run_pure, Result.andThen_ok, h, Bool.not_true, Bool.false_eq_true, if_false]
theorem q_neP {x y : Operand} {t t' e : TypeId} {p : Option Addr} (ho : o.op = .binOp .neq t x y t') (ht : P.underlying t = some (.pointer e)) (hx : ev f x = .pointer p) (hy : ev f y = .pointer none) : Qa P o f (.bool (!p.isNone)) := by
  intro w
  have h : (Op.equalIn 10000 t (.pointer p) (.pointer none)).run P w = .ok p.isNone w := run_eqP (P := P) 9999 p ht w
  unfold execOp; rw [ho]; dsimp only; rw [hx, hy]
  simp only [eqGuard, binOp, Op.equal, Op.maxDepth, Sem.run_bind, Sem.run_pure, Result.andThen_ok, h, Bool.not_true, Bool.false_eq_true, if_false]
/-! conversions -/
theorem q_cvt8I {x : Operand} {t t' : TypeId} {k : IntKind} {a : Int} (ho : o.op = .convert t t' x) (ht : P.underlying t = some (.int k)) (ht' : P.underlying t' = some (.int .u8)) (hx : ev f x = i64 a) : Qa P o f (u8 (UInt8.ofInt a)) := by
  intro w
  have h : IntKind.u8.wrap a = ((UInt8.ofInt a).toNat : Int) := by
    rw [wrap_u8]; simp [UInt8.ofInt]; omega
  simp [execOp, ho, hx, i64, convert, run_underlying ht, run_underlying ht', Conv.intToInt, h, u8]
theorem q_cvtI8 {x : Operand} {t t' : TypeId} {k : IntKind} {a : UInt8} (ho : o.op = .convert t t' x) (ht : P.underlying t = some (.int k)) (ht' : P.underlying t' = some (.int .i64)) (hx : ev f x = u8 a) : Qa P o f (i64 (a.toNat : Int)) := by
  intro w
  have h : IntKind.i64.wrap (a.toNat : Int) = (a.toNat : Int) := wI_of (by omega) (by have := a.toNat_lt; omega)
  simp [execOp, ho, hx, i64, convert, run_underlying ht, run_underlying ht', Conv.intToInt, h, u8]
theorem q_cvt64I {x : Operand} {t t' : TypeId} {k : IntKind} {a : Int} (ho : o.op = .convert t t' x) (ht : P.underlying t = some (.int k)) (ht' : P.underlying t' = some (.int .u64)) (hx : ev f x = i64 a) : Qa P o f (u64 (UInt64.ofInt a)) := by
  intro w
  have h : IntKind.u64.wrap a = ((UInt64.ofInt a).toNat : Int) := by
    rw [wrap_u64]; simp [UInt64.ofInt]; omega
  simp [execOp, ho, hx, i64, convert, run_underlying ht, run_underlying ht', Conv.intToInt, h, u64]
theorem q_cvtI64 {x : Operand} {t t' : TypeId} {k : IntKind} {a : UInt64} (ho : o.op = .convert t t' x) (ht : P.underlying t = some (.int k)) (ht' : P.underlying t' = some (.int .i64)) (hx : ev f x = u64 a) : Qa P o f (i64 (wI (a.toNat : Int))) := by
  intro w
  simp [execOp, ho, hx, i64, convert, run_underlying ht, run_underlying ht', Conv.intToInt, wI, u64]
theorem q_cvt864 {x : Operand} {t t' : TypeId} {k : IntKind} {a : UInt64} (ho : o.op = .convert t t' x) (ht : P.underlying t = some (.int k)) (ht' : P.underlying t' = some (.int .u8)) (hx : ev f x = u64 a) : Qa P o f (u8 a.toUInt8) := by
  intro w
  have h : IntKind.u8.wrap (a.toNat : Int) = (a.toUInt8.toNat : Int) := by
    rw [wrap_u8]; simp
  simp [execOp, ho, hx, u64, convert, run_underlying ht, run_underlying ht', Conv.intToInt, h, u8]
end

end Gk

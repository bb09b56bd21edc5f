/- What the operations that only compute come to: numbers, tests, tuples. No condition. -/
import Derived.Test.YtabcmfkmddlaaaaGb
import Derived.Laws.Sem
set_option linter.unusedVariables false
set_option linter.unusedSimpArgs false
namespace Gk
open Go

def u8 (x : UInt8) : Value := .int .u8 (x.toNat : Int)
def u32 (x : UInt32) : Value := .int .u32 (x.toNat : Int)
def u64 (x : UInt64) : Value := .int .u64 (x.toNat : Int)
def i64 (x : Int) : Value := .int .i64 x
def bl (b : Bool) : Value := .bool b
def str (l : List UInt8) : Value := .string ⟨l.toArray⟩
def wI (x : Int) : Int := IntKind.i64.wrap x

theorem wI_of {x : Int} (h : -9223372036854775808 ≤ x) (h' : x ≤ 9223372036854775807) : wI x = x := by
  simp only [wI, IntKind.wrap, IntKind.signed, IntKind.bits]
  simp
  omega

section
variable {P : Program} {o : Oper} {f : Nat → Value}

theorem q_move {x : Operand} {v : Value} (ho : o.op = .move x) (hx : ev f x = v) : Qa P o f v := by
  intro w; simp [execOp, ho, hx]
theorem q_assign {x : Operand} {v : Value} (ho : o.op = .assign x) (hx : ev f x = v) : Qa P o f v := by
  intro w; simp [execOp, ho, hx]
theorem q_pick_t {c a b : Operand} {v : Value} (ho : o.op = .pick c a b) (hc : ev f c = .bool true) (ha : ev f a = v) : Qa P o f v := by
  intro w; simp [execOp, ho, hc, ha, asBool]
theorem q_pick_f {c a b : Operand} {v : Value} (ho : o.op = .pick c a b) (hc : ev f c = .bool false) (hb : ev f b = v) : Qa P o f v := by
  intro w; simp [execOp, ho, hc, hb, asBool]
theorem q_extract {x : Operand} {i : Nat} {vs : Array Value} {v : Value} (ho : o.op = .extract x i) (hx : ev f x = .tuple vs) (hv : vs[i]? = some v) : Qa P o f v := by
  intro w; simp [execOp, ho, hx, Instr.extract, hv]
theorem q_not {t : TypeId} {x : Operand} {b : Bool} (ho : o.op = .unOp .not t x) (hx : ev f x = .bool b) : Qa P o f (.bool !b) := by
  intro w; simp [execOp, ho, hx, Op.unary]

/-! int -/
section
variable {x y : Operand} {t t' : TypeId} {a b : Int}
theorem q_addI (ho : o.op = .binOp .add t x y t') (hx : ev f x = i64 a) (hy : ev f y = i64 b) : Qa P o f (i64 (wI (a + b))) := by
  intro w; simp [execOp, ho, hx, hy, i64, eqGuard, binOp, Op.intArith, wI]
theorem q_subI (ho : o.op = .binOp .sub t x y t') (hx : ev f x = i64 a) (hy : ev f y = i64 b) : Qa P o f (i64 (wI (a - b))) := by
  intro w; simp [execOp, ho, hx, hy, i64, eqGuard, binOp, Op.intArith, wI]
theorem q_mulI (ho : o.op = .binOp .mul t x y t') (hx : ev f x = i64 a) (hy : ev f y = i64 b) : Qa P o f (i64 (wI (a * b))) := by
  intro w; simp [execOp, ho, hx, hy, i64, eqGuard, binOp, Op.intArith, wI]
theorem q_ltI (ho : o.op = .binOp .lss t x y t') (hx : ev f x = i64 a) (hy : ev f y = i64 b) : Qa P o f (.bool (decide (a < b))) := by
  intro w; simp [execOp, ho, hx, hy, i64, eqGuard, binOp, Op.intCmp]
theorem q_leI (ho : o.op = .binOp .leq t x y t') (hx : ev f x = i64 a) (hy : ev f y = i64 b) : Qa P o f (.bool (decide (a ≤ b))) := by
  intro w; simp [execOp, ho, hx, hy, i64, eqGuard, binOp, Op.intCmp]
theorem q_gtI (ho : o.op = .binOp .gtr t x y t') (hx : ev f x = i64 a) (hy : ev f y = i64 b) : Qa P o f (.bool (decide (b < a))) := by
  intro w; simp [execOp, ho, hx, hy, i64, eqGuard, binOp, Op.intCmp]
theorem q_geI (ho : o.op = .binOp .geq t x y t') (hx : ev f x = i64 a) (hy : ev f y = i64 b) : Qa P o f (.bool (decide (b ≤ a))) := by
  intro w; simp [execOp, ho, hx, hy, i64, eqGuard, binOp, Op.intCmp]
theorem q_eqI (ho : o.op = .binOp .eql t x y t') (hx : ev f x = i64 a) (hy : ev f y = i64 b) : Qa P o f (.bool (decide (a = b))) := by
  intro w; simp [execOp, ho, hx, hy, i64, eqGuard, binOp, Op.intCmp]; rfl
theorem q_neI (ho : o.op = .binOp .neq t x y t') (hx : ev f x = i64 a) (hy : ev f y = i64 b) : Qa P o f (.bool (!decide (a = b))) := by
  intro w; simp [execOp, ho, hx, hy, i64, eqGuard, binOp, Op.intCmp]; rfl
end

/-! words -/

theorem wrap_u8 (n : Int) : IntKind.u8.wrap n = n % 256 := by
  simp [IntKind.wrap, IntKind.signed, IntKind.bits]
theorem bv_u8 (a : UInt8) : BitVec.ofInt IntKind.u8.bits (a.toNat : Int) = a.toBitVec := by
  apply BitVec.eq_of_toNat_eq
  simp [IntKind.bits]
theorem back_u8 (r : UInt8) : IntKind.u8.wrap ((r.toBitVec.toNat : Nat) : Int) = (r.toNat : Int) := by
  rw [wrap_u8]
  have := r.toNat_lt
  have h : r.toBitVec.toNat = r.toNat := rfl
  rw [h]
  omega
section
variable {x y : Operand} {t t' : TypeId} {a b : UInt8}
theorem q_xor8 (ho : o.op = .binOp .xor t x y t') (hx : ev f x = u8 a) (hy : ev f y = u8 b) : Qa P o f (u8 (a ^^^ b)) := by
  intro w
  have h := back_u8 (a ^^^ b)
  rw [UInt8.toBitVec_xor, ← bv_u8, ← bv_u8] at h
  unfold execOp; rw [ho]; dsimp only; rw [hx, hy]; exact congrArg (fun n : Int => (Result.ok (Next.value (Value.int .u8 n)) w : Result Next)) h
theorem q_and8 (ho : o.op = .binOp .and t x y t') (hx : ev f x = u8 a) (hy : ev f y = u8 b) : Qa P o f (u8 (a &&& b)) := by
  intro w
  have h := back_u8 (a &&& b)
  rw [UInt8.toBitVec_and, ← bv_u8, ← bv_u8] at h
  unfold execOp; rw [ho]; dsimp only; rw [hx, hy]; exact congrArg (fun n : Int => (Result.ok (Next.value (Value.int .u8 n)) w : Result Next)) h
theorem q_or8 (ho : o.op = .binOp .or t x y t') (hx : ev f x = u8 a) (hy : ev f y = u8 b) : Qa P o f (u8 (a ||| b)) := by
  intro w
  have h := back_u8 (a ||| b)
  rw [UInt8.toBitVec_or, ← bv_u8, ← bv_u8] at h
  unfold execOp; rw [ho]; dsimp only; rw [hx, hy]; exact congrArg (fun n : Int => (Result.ok (Next.value (Value.int .u8 n)) w : Result Next)) h
theorem q_add8 (ho : o.op = .binOp .add t x y t') (hx : ev f x = u8 a) (hy : ev f y = u8 b) : Qa P o f (u8 (a + b)) := by
  intro w
  have h : IntKind.u8.wrap ((a.toNat : Int) + (b.toNat : Int)) = ((a + b).toNat : Int) := by
    rw [wrap_u8, UInt8.toNat_add]; omega
  unfold execOp; rw [ho]; dsimp only; rw [hx, hy]; exact congrArg (fun n : Int => (Result.ok (Next.value (Value.int .u8 n)) w : Result Next)) h
theorem q_sub8 (ho : o.op = .binOp .sub t x y t') (hx : ev f x = u8 a) (hy : ev f y = u8 b) : Qa P o f (u8 (a - b)) := by
  intro w
  have h : IntKind.u8.wrap ((a.toNat : Int) - (b.toNat : Int)) = ((a - b).toNat : Int) := by
    have := a.toNat_lt; have := b.toNat_lt
    rw [wrap_u8, UInt8.toNat_sub]; omega
  unfold execOp; rw [ho]; dsimp only; rw [hx, hy]; exact congrArg (fun n : Int => (Result.ok (Next.value (Value.int .u8 n)) w : Result Next)) h
theorem q_mul8 (ho : o.op = .binOp .mul t x y t') (hx : ev f x = u8 a) (hy : ev f y = u8 b) : Qa P o f (u8 (a * b)) := by
  intro w
  have h : IntKind.u8.wrap ((a.toNat : Int) * (b.toNat : Int)) = ((a * b).toNat : Int) := by
    rw [wrap_u8, UInt8.toNat_mul]; simp
  unfold execOp; rw [ho]; dsimp only; rw [hx, hy]; exact congrArg (fun n : Int => (Result.ok (Next.value (Value.int .u8 n)) w : Result Next)) h
theorem q_rem8 (ho : o.op = .binOp .rem t x y t') (hx : ev f x = u8 a) (hy : ev f y = u8 b) (h0 : b ≠ 0) : Qa P o f (u8 (a % b)) := by
  intro w
  have h : ((a.toNat : Int).tmod (b.toNat : Int)) = ((a % b).toNat : Int) := by
    rw [UInt8.toNat_mod, ← Int.ofNat_tmod]
  have h1 : ¬ ((b.toNat : Int) = 0) := fun e => h0 (UInt8.toNat_inj.1 (by simpa using e))
  unfold execOp; rw [ho]; dsimp only; rw [hx, hy]
  simp only [u8, eqGuard, binOp, Op.intDiv, if_neg h1, h]
  rfl
theorem q_quo8 (ho : o.op = .binOp .quo t x y t') (hx : ev f x = u8 a) (hy : ev f y = u8 b) (h0 : b ≠ 0) : Qa P o f (u8 (a / b)) := by
  intro w
  have h : IntKind.u8.wrap ((a.toNat : Int).tdiv (b.toNat : Int)) = ((a / b).toNat : Int) := by
    have := (a / b).toNat_lt
    rw [UInt8.toNat_div] at *
    rw [← Int.ofNat_tdiv, wrap_u8]
    generalize a.toNat / b.toNat = q at *
    omega
  have h1 : ¬ ((b.toNat : Int) = 0) := fun e => h0 (UInt8.toNat_inj.1 (by simpa using e))
  unfold execOp; rw [ho]; dsimp only; rw [hx, hy]
  simp only [u8, eqGuard, binOp, Op.intDiv, if_neg h1, h]
  rfl
theorem q_lt8 (ho : o.op = .binOp .lss t x y t') (hx : ev f x = u8 a) (hy : ev f y = u8 b) : Qa P o f (.bool (decide (a < b))) := by
  intro w; simp [execOp, ho, hx, hy, u8, eqGuard, binOp, Op.intCmp, UInt8.lt_iff_toNat_lt]
theorem q_le8 (ho : o.op = .binOp .leq t x y t') (hx : ev f x = u8 a) (hy : ev f y = u8 b) : Qa P o f (.bool (decide (a ≤ b))) := by
  intro w; simp [execOp, ho, hx, hy, u8, eqGuard, binOp, Op.intCmp, UInt8.le_iff_toNat_le]
theorem q_gt8 (ho : o.op = .binOp .gtr t x y t') (hx : ev f x = u8 a) (hy : ev f y = u8 b) : Qa P o f (.bool (decide (b < a))) := by
  intro w; simp [execOp, ho, hx, hy, u8, eqGuard, binOp, Op.intCmp, UInt8.lt_iff_toNat_lt]
theorem q_ge8 (ho : o.op = .binOp .geq t x y t') (hx : ev f x = u8 a) (hy : ev f y = u8 b) : Qa P o f (.bool (decide (b ≤ a))) := by
  intro w; simp [execOp, ho, hx, hy, u8, eqGuard, binOp, Op.intCmp, UInt8.le_iff_toNat_le]
theorem eqd_u8 (a b : UInt8) : ((a.toNat : Int) == (b.toNat : Int)) = decide (a = b) := by
  by_cases h : a = b
  · subst h; simp
  · have : ¬ ((a.toNat : Int) = (b.toNat : Int)) := fun e => h (UInt8.toNat_inj.1 (by exact_mod_cast e))
    simp [h, this]
theorem q_eq8 (ho : o.op = .binOp .eql t x y t') (hx : ev f x = u8 a) (hy : ev f y = u8 b) : Qa P o f (.bool (decide (a = b))) := by
  intro w
  have h := eqd_u8 a b
  simp only [execOp, ho, hx, hy, u8, eqGuard, binOp, Op.intCmp]
  simp only [Sem.run_bind, Sem.run_pure, Result.andThen_ok, h, ne_eq, not_true_eq_false, if_false, bne]
  simp [h]
theorem q_ne8 (ho : o.op = .binOp .neq t x y t') (hx : ev f x = u8 a) (hy : ev f y = u8 b) : Qa P o f (.bool (!decide (a = b))) := by
  intro w
  have h := eqd_u8 a b
  simp only [execOp, ho, hx, hy, u8, eqGuard, binOp, Op.intCmp]
  simp only [Sem.run_bind, Sem.run_pure, Result.andThen_ok, h, ne_eq, not_true_eq_false, if_false, bne]
  simp [h]
end

theorem wrap_u32 (n : Int) : IntKind.u32.wrap n = n % 4294967296 := by
  simp [IntKind.wrap, IntKind.signed, IntKind.bits]
theorem bv_u32 (a : UInt32) : BitVec.ofInt IntKind.u32.bits (a.toNat : Int) = a.toBitVec := by
  apply BitVec.eq_of_toNat_eq
  simp [IntKind.bits]
theorem back_u32 (r : UInt32) : IntKind.u32.wrap ((r.toBitVec.toNat : Nat) : Int) = (r.toNat : Int) := by
  rw [wrap_u32]
  have := r.toNat_lt
  have h : r.toBitVec.toNat = r.toNat := rfl
  rw [h]
  omega
section
variable {x y : Operand} {t t' : TypeId} {a b : UInt32}
theorem q_xor32 (ho : o.op = .binOp .xor t x y t') (hx : ev f x = u32 a) (hy : ev f y = u32 b) : Qa P o f (u32 (a ^^^ b)) := by
  intro w
  have h := back_u32 (a ^^^ b)
  rw [UInt32.toBitVec_xor, ← bv_u32, ← bv_u32] at h
  unfold execOp; rw [ho]; dsimp only; rw [hx, hy]; exact congrArg (fun n : Int => (Result.ok (Next.value (Value.int .u32 n)) w : Result Next)) h
theorem q_and32 (ho : o.op = .binOp .and t x y t') (hx : ev f x = u32 a) (hy : ev f y = u32 b) : Qa P o f (u32 (a &&& b)) := by
  intro w
  have h := back_u32 (a &&& b)
  rw [UInt32.toBitVec_and, ← bv_u32, ← bv_u32] at h
  unfold execOp; rw [ho]; dsimp only; rw [hx, hy]; exact congrArg (fun n : Int => (Result.ok (Next.value (Value.int .u32 n)) w : Result Next)) h
theorem q_or32 (ho : o.op = .binOp .or t x y t') (hx : ev f x = u32 a) (hy : ev f y = u32 b) : Qa P o f (u32 (a ||| b)) := by
  intro w
  have h := back_u32 (a ||| b)
  rw [UInt32.toBitVec_or, ← bv_u32, ← bv_u32] at h
  unfold execOp; rw [ho]; dsimp only; rw [hx, hy]; exact congrArg (fun n : Int => (Result.ok (Next.value (Value.int .u32 n)) w : Result Next)) h
theorem q_add32 (ho : o.op = .binOp .add t x y t') (hx : ev f x = u32 a) (hy : ev f y = u32 b) : Qa P o f (u32 (a + b)) := by
  intro w
  have h : IntKind.u32.wrap ((a.toNat : Int) + (b.toNat : Int)) = ((a + b).toNat : Int) := by
    rw [wrap_u32, UInt32.toNat_add]; omega
  unfold execOp; rw [ho]; dsimp only; rw [hx, hy]; exact congrArg (fun n : Int => (Result.ok (Next.value (Value.int .u32 n)) w : Result Next)) h
theorem q_sub32 (ho : o.op = .binOp .sub t x y t') (hx : ev f x = u32 a) (hy : ev f y = u32 b) : Qa P o f (u32 (a - b)) := by
  intro w
  have h : IntKind.u32.wrap ((a.toNat : Int) - (b.toNat : Int)) = ((a - b).toNat : Int) := by
    have := a.toNat_lt; have := b.toNat_lt
    rw [wrap_u32, UInt32.toNat_sub]; omega
  unfold execOp; rw [ho]; dsimp only; rw [hx, hy]; exact congrArg (fun n : Int => (Result.ok (Next.value (Value.int .u32 n)) w : Result Next)) h
theorem q_mul32 (ho : o.op = .binOp .mul t x y t') (hx : ev f x = u32 a) (hy : ev f y = u32 b) : Qa P o f (u32 (a * b)) := by
  intro w
  have h : IntKind.u32.wrap ((a.toNat : Int) * (b.toNat : Int)) = ((a * b).toNat : Int) := by
    rw [wrap_u32, UInt32.toNat_mul]; simp
  unfold execOp; rw [ho]; dsimp only; rw [hx, hy]; exact congrArg (fun n : Int => (Result.ok (Next.value (Value.int .u32 n)) w : Result Next)) h
theorem q_rem32 (ho : o.op = .binOp .rem t x y t') (hx : ev f x = u32 a) (hy : ev f y = u32 b) (h0 : b ≠ 0) : Qa P o f (u32 (a % b)) := by
  intro w
  have h : ((a.toNat : Int).tmod (b.toNat : Int)) = ((a % b).toNat : Int) := by
    rw [UInt32.toNat_mod, ← Int.ofNat_tmod]
  have h1 : ¬ ((b.toNat : Int) = 0) := fun e => h0 (UInt32.toNat_inj.1 (by simpa using e))
  unfold execOp; rw [ho]; dsimp only; rw [hx, hy]
  simp only [u32, eqGuard, binOp, Op.intDiv, if_neg h1, h]
  rfl
theorem q_quo32 (ho : o.op = .binOp .quo t x y t') (hx : ev f x = u32 a) (hy : ev f y = u32 b) (h0 : b ≠ 0) : Qa P o f (u32 (a / b)) := by
  intro w
  have h : IntKind.u32.wrap ((a.toNat : Int).tdiv (b.toNat : Int)) = ((a / b).toNat : Int) := by
    have := (a / b).toNat_lt
    rw [UInt32.toNat_div] at *
    rw [← Int.ofNat_tdiv, wrap_u32]
    generalize a.toNat / b.toNat = q at *
    omega
  have h1 : ¬ ((b.toNat : Int) = 0) := fun e => h0 (UInt32.toNat_inj.1 (by simpa using e))
  unfold execOp; rw [ho]; dsimp only; rw [hx, hy]
  simp only [u32, eqGuard, binOp, Op.intDiv, if_neg h1, h]
  rfl
theorem q_lt32 (ho : o.op = .binOp .lss t x y t') (hx : ev f x = u32 a) (hy : ev f y = u32 b) : Qa P o f (.bool (decide (a < b))) := by
  intro w; simp [execOp, ho, hx, hy, u32, eqGuard, binOp, Op.intCmp, UInt32.lt_iff_toNat_lt]
theorem q_le32 (ho : o.op = .binOp .leq t x y t') (hx : ev f x = u32 a) (hy : ev f y = u32 b) : Qa P o f (.bool (decide (a ≤ b))) := by
  intro w; simp [execOp, ho, hx, hy, u32, eqGuard, binOp, Op.intCmp, UInt32.le_iff_toNat_le]
theorem q_gt32 (ho : o.op = .binOp .gtr t x y t') (hx : ev f x = u32 a) (hy : ev f y = u32 b) : Qa P o f (.bool (decide (b < a))) := by
  intro w; simp [execOp, ho, hx, hy, u32, eqGuard, binOp, Op.intCmp, UInt32.lt_iff_toNat_lt]
theorem q_ge32 (ho : o.op = .binOp .geq t x y t') (hx : ev f x = u32 a) (hy : ev f y = u32 b) : Qa P o f (.bool (decide (b ≤ a))) := by
  intro w; simp [execOp, ho, hx, hy, u32, eqGuard, binOp, Op.intCmp, UInt32.le_iff_toNat_le]
theorem eqd_u32 (a b : UInt32) : ((a.toNat : Int) == (b.toNat : Int)) = decide (a = b) := by
  by_cases h : a = b
  · subst h; simp
  · have : ¬ ((a.toNat : Int) = (b.toNat : Int)) := fun e => h (UInt32.toNat_inj.1 (by exact_mod_cast e))
    simp [h, this]
theorem q_eq32 (ho : o.op = .binOp .eql t x y t') (hx : ev f x = u32 a) (hy : ev f y = u32 b) : Qa P o f (.bool (decide (a = b))) := by
  intro w
  have h := eqd_u32 a b
  simp only [execOp, ho, hx, hy, u32, eqGuard, binOp, Op.intCmp]
  simp only [Sem.run_bind, Sem.run_pure, Result.andThen_ok, h, ne_eq, not_true_eq_false, if_false, bne]
  simp [h]
theorem q_ne32 (ho : o.op = .binOp .neq t x y t') (hx : ev f x = u32 a) (hy : ev f y = u32 b) : Qa P o f (.bool (!decide (a = b))) := by
  intro w
  have h := eqd_u32 a b
  simp only [execOp, ho, hx, hy, u32, eqGuard, binOp, Op.intCmp]
  simp only [Sem.run_bind, Sem.run_pure, Result.andThen_ok, h, ne_eq, not_true_eq_false, if_false, bne]
  simp [h]
end

theorem wrap_u64 (n : Int) : IntKind.u64.wrap n = n % 18446744073709551616 := by
  simp [IntKind.wrap, IntKind.signed, IntKind.bits]
theorem bv_u64 (a : UInt64) : BitVec.ofInt IntKind.u64.bits (a.toNat : Int) = a.toBitVec := by
  apply BitVec.eq_of_toNat_eq
  simp [IntKind.bits]
theorem back_u64 (r : UInt64) : IntKind.u64.wrap ((r.toBitVec.toNat : Nat) : Int) = (r.toNat : Int) := by
  rw [wrap_u64]
  have := r.toNat_lt
  have h : r.toBitVec.toNat = r.toNat := rfl
  rw [h]
  omega
section
variable {x y : Operand} {t t' : TypeId} {a b : UInt64}
theorem q_xor64 (ho : o.op = .binOp .xor t x y t') (hx : ev f x = u64 a) (hy : ev f y = u64 b) : Qa P o f (u64 (a ^^^ b)) := by
  intro w
  have h := back_u64 (a ^^^ b)
  rw [UInt64.toBitVec_xor, ← bv_u64, ← bv_u64] at h
  unfold execOp; rw [ho]; dsimp only; rw [hx, hy]; exact congrArg (fun n : Int => (Result.ok (Next.value (Value.int .u64 n)) w : Result Next)) h
theorem q_and64 (ho : o.op = .binOp .and t x y t') (hx : ev f x = u64 a) (hy : ev f y = u64 b) : Qa P o f (u64 (a &&& b)) := by
  intro w
  have h := back_u64 (a &&& b)
  rw [UInt64.toBitVec_and, ← bv_u64, ← bv_u64] at h
  unfold execOp; rw [ho]; dsimp only; rw [hx, hy]; exact congrArg (fun n : Int => (Result.ok (Next.value (Value.int .u64 n)) w : Result Next)) h
theorem q_or64 (ho : o.op = .binOp .or t x y t') (hx : ev f x = u64 a) (hy : ev f y = u64 b) : Qa P o f (u64 (a ||| b)) := by
  intro w
  have h := back_u64 (a ||| b)
  rw [UInt64.toBitVec_or, ← bv_u64, ← bv_u64] at h
  unfold execOp; rw [ho]; dsimp only; rw [hx, hy]; exact congrArg (fun n : Int => (Result.ok (Next.value (Value.int .u64 n)) w : Result Next)) h
theorem q_add64 (ho : o.op = .binOp .add t x y t') (hx : ev f x = u64 a) (hy : ev f y = u64 b) : Qa P o f (u64 (a + b)) := by
  intro w
  have h : IntKind.u64.wrap ((a.toNat : Int) + (b.toNat : Int)) = ((a + b).toNat : Int) := by
    rw [wrap_u64, UInt64.toNat_add]; omega
  unfold execOp; rw [ho]; dsimp only; rw [hx, hy]; exact congrArg (fun n : Int => (Result.ok (Next.value (Value.int .u64 n)) w : Result Next)) h
theorem q_sub64 (ho : o.op = .binOp .sub t x y t') (hx : ev f x = u64 a) (hy : ev f y = u64 b) : Qa P o f (u64 (a - b)) := by
  intro w
  have h : IntKind.u64.wrap ((a.toNat : Int) - (b.toNat : Int)) = ((a - b).toNat : Int) := by
    have := a.toNat_lt; have := b.toNat_lt
    rw [wrap_u64, UInt64.toNat_sub]; omega
  unfold execOp; rw [ho]; dsimp only; rw [hx, hy]; exact congrArg (fun n : Int => (Result.ok (Next.value (Value.int .u64 n)) w : Result Next)) h
theorem q_mul64 (ho : o.op = .binOp .mul t x y t') (hx : ev f x = u64 a) (hy : ev f y = u64 b) : Qa P o f (u64 (a * b)) := by
  intro w
  have h : IntKind.u64.wrap ((a.toNat : Int) * (b.toNat : Int)) = ((a * b).toNat : Int) := by
    rw [wrap_u64, UInt64.toNat_mul]; simp
  unfold execOp; rw [ho]; dsimp only; rw [hx, hy]; exact congrArg (fun n : Int => (Result.ok (Next.value (Value.int .u64 n)) w : Result Next)) h
theorem q_rem64 (ho : o.op = .binOp .rem t x y t') (hx : ev f x = u64 a) (hy : ev f y = u64 b) (h0 : b ≠ 0) : Qa P o f (u64 (a % b)) := by
  intro w
  have h : ((a.toNat : Int).tmod (b.toNat : Int)) = ((a % b).toNat : Int) := by
    rw [UInt64.toNat_mod, ← Int.ofNat_tmod]
  have h1 : ¬ ((b.toNat : Int) = 0) := fun e => h0 (UInt64.toNat_inj.1 (by simpa using e))
  unfold execOp; rw [ho]; dsimp only; rw [hx, hy]
  simp only [u64, eqGuard, binOp, Op.intDiv, if_neg h1, h]
  rfl
theorem q_quo64 (ho : o.op = .binOp .quo t x y t') (hx : ev f x = u64 a) (hy : ev f y = u64 b) (h0 : b ≠ 0) : Qa P o f (u64 (a / b)) := by
  intro w
  have h : IntKind.u64.wrap ((a.toNat : Int).tdiv (b.toNat : Int)) = ((a / b).toNat : Int) := by
    have := (a / b).toNat_lt
    rw [UInt64.toNat_div] at *
    rw [← Int.ofNat_tdiv, wrap_u64]
    generalize a.toNat / b.toNat = q at *
    omega
  have h1 : ¬ ((b.toNat : Int) = 0) := fun e => h0 (UInt64.toNat_inj.1 (by simpa using e))
  unfold execOp; rw [ho]; dsimp only; rw [hx, hy]
  simp only [u64, eqGuard, binOp, Op.intDiv, if_neg h1, h]
  rfl
theorem q_lt64 (ho : o.op = .binOp .lss t x y t') (hx : ev f x = u64 a) (hy : ev f y = u64 b) : Qa P o f (.bool (decide (a < b))) := by
  intro w; simp [execOp, ho, hx, hy, u64, eqGuard, binOp, Op.intCmp, UInt64.lt_iff_toNat_lt]
theorem q_le64 (ho : o.op = .binOp .leq t x y t') (hx : ev f x = u64 a) (hy : ev f y = u64 b) : Qa P o f (.bool (decide (a ≤ b))) := by
  intro w; simp [execOp, ho, hx, hy, u64, eqGuard, binOp, Op.intCmp, UInt64.le_iff_toNat_le]
theorem q_gt64 (ho : o.op = .binOp .gtr t x y t') (hx : ev f x = u64 a) (hy : ev f y = u64 b) : Qa P o f (.bool (decide (b < a))) := by
  intro w; simp [execOp, ho, hx, hy, u64, eqGuard, binOp, Op.intCmp, UInt64.lt_iff_toNat_lt]
theorem q_ge64 (ho : o.op = .binOp .geq t x y t') (hx : ev f x = u64 a) (hy : ev f y = u64 b) : Qa P o f (.bool (decide (b ≤ a))) := by
  intro w; simp [execOp, ho, hx, hy, u64, eqGuard, binOp, Op.intCmp, UInt64.le_iff_toNat_le]
theorem eqd_u64 (a b : UInt64) : ((a.toNat : Int) == (b.toNat : Int)) = decide (a = b) := by
  by_cases h : a = b
  · subst h; simp
  · have : ¬ ((a.toNat : Int) = (b.toNat : Int)) := fun e => h (UInt64.toNat_inj.1 (by exact_mod_cast e))
    simp [h, this]
theorem q_eq64 (ho : o.op = .binOp .eql t x y t') (hx : ev f x = u64 a) (hy : ev f y = u64 b) : Qa P o f (.bool (decide (a = b))) := by
  intro w
  have h := eqd_u64 a b
  simp only [execOp, ho, hx, hy, u64, eqGuard, binOp, Op.intCmp]
  simp only [Sem.run_bind, Sem.run_pure, Result.andThen_ok, h, ne_eq, not_true_eq_false, if_false, bne]
  simp [h]
theorem q_ne64 (ho : o.op = .binOp .neq t x y t') (hx : ev f x = u64 a) (hy : ev f y = u64 b) : Qa P o f (.bool (!decide (a = b))) := by
  intro w
  have h := eqd_u64 a b
  simp only [execOp, ho, hx, hy, u64, eqGuard, binOp, Op.intCmp]
  simp only [Sem.run_bind, Sem.run_pure, Result.andThen_ok, h, ne_eq, not_true_eq_false, if_false, bne]
  simp [h]
end

end
end Gk

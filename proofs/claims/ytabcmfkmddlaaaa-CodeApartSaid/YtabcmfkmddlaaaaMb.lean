/- The field of 256 numbers, in plain Lean: what the program's and the document's product come to. No condition. -/
import Derived.Test.YtabcmfkmddlaaaaF0
import Derived.Test.YtabcmfkmddlaaaaGj
import Derived.Test.YtabcmfkmddlaaaaMa
set_option linter.unusedSimpArgs false
namespace Gf
theorem bit_shr (b : UInt8) : (bit (Gk.shr8 b 1) 0 = bit b 1 ∧ bit (Gk.shr8 b 1) 1 = bit b 2 ∧ bit (Gk.shr8 b 1) 2 = bit b 3 ∧ bit (Gk.shr8 b 1) 3 = bit b 4) ∧
    bit (Gk.shr8 b 1) 4 = bit b 5 ∧ bit (Gk.shr8 b 1) 5 = bit b 6 ∧ bit (Gk.shr8 b 1) 6 = bit b 7 ∧ bit (Gk.shr8 b 1) 7 = false := by
  revert b; refine all8 ?_; decide +kernel
theorem bit_and (b : UInt8) : (b &&& 1 = 1) ↔ bit b 0 = true := by
  revert b; refine all8 ?_; decide +kernel
/-- One bit at a time. -/
theorem mul_step (a b : UInt8) : mul a b = sel (bit b 0) a ^^^ mul (dbl a) (Gk.shr8 b 1) := by
  obtain ⟨⟨h0, h1, h2, h3⟩, h4, h5, h6, h7⟩ := bit_shr b
  unfold mul
  rw [h0, h1, h2, h3, h4, h5, h6, h7]
  simp [dblN, sel, UInt8.xor_assoc]

/-! The document's product. -/
def cl (a b : Nat) : Nat → Nat
  | 0 => 0
  | k + 1 => if b.testBit k then cl a b k ^^^ (a <<< k) else cl a b k
def rd : Nat → Nat → Nat
  | 0, p => p
  | j + 1, p => rd j (if p.testBit (8 + j) then p ^^^ (283 <<< j) else p)
def rds (p : Nat) : Nat → Nat
  | 0 => p
  | i + 1 => if (rds p i).testBit (14 - i) then rds p i ^^^ (283 <<< (6 - i)) else rds p i
theorem rd_xor (j : Nat) : ∀ p q, rd j (p ^^^ q) = rd j p ^^^ rd j q := by
  induction j with
  | zero => intro p q; rfl
  | succ j ih =>
    intro p q
    have h : (if (p ^^^ q).testBit (8 + j) then (p ^^^ q) ^^^ (283 <<< j) else p ^^^ q) =
        (if p.testBit (8 + j) then p ^^^ (283 <<< j) else p) ^^^ (if q.testBit (8 + j) then q ^^^ (283 <<< j) else q) := by
      rw [Nat.testBit_xor]
      generalize 283 <<< j = c
      cases p.testBit (8 + j) <;> cases q.testBit (8 + j) <;> simp
      · exact Nat.xor_assoc p q c
      · rw [Nat.xor_assoc, Nat.xor_comm q c, Nat.xor_assoc]
      · rw [Nat.xor_assoc p c, ← Nat.xor_assoc c q c, Nat.xor_comm c q, Nat.xor_assoc q c c, Nat.xor_self, Nat.xor_zero]
    simp only [rd, h, ih]
theorem rd_sel (c : Bool) (x a : Nat) (k : Nat) : rd 7 (if c then x ^^^ (a <<< k) else x) = rd 7 x ^^^ (if c then rd 7 (a <<< k) else 0) := by
  cases c
  · simp
  · simp [rd_xor]
theorem rd_dbl (a : UInt8) : (List.range 8).all (fun k => rd 7 (a.toNat <<< k) == (dblN k a).toNat) = true := by
  revert a; refine all8 ?_; decide +kernel
theorem rd_dbl' (a : UInt8) (k : Nat) (h : k < 8) : rd 7 (a.toNat <<< k) = (dblN k a).toNat := by
  have := List.all_eq_true.1 (rd_dbl a) k (List.mem_range.2 h)
  simpa using this
theorem rd0 : rd 7 0 = 0 := by decide
theorem sel_nat (c : Bool) (a : UInt8) : (sel c a).toNat = if c then a.toNat else 0 := by cases c <;> simp [sel]
theorem ref_eq (a b : UInt8) : rd 7 (cl a.toNat b.toNat 8) = (mul a b).toNat := by
  simp only [cl, rd_sel, rd0, mul, UInt8.toNat_xor, sel_nat, bit]
  rw [rd_dbl' a 0 (by decide), rd_dbl' a 1 (by decide), rd_dbl' a 2 (by decide), rd_dbl' a 3 (by decide), rd_dbl' a 4 (by decide), rd_dbl' a 5 (by decide), rd_dbl' a 6 (by decide), rd_dbl' a 7 (by decide)]
  simp only [Nat.zero_xor]
theorem cl_lt (a b : Nat) (ha : a < 256) : ∀ k, k ≤ 8 → cl a b k < 32768 := by
  intro k
  induction k with
  | zero => intro _; simp [cl]
  | succ k ih =>
    intro hk
    have h1 := ih (by omega)
    have h2 : a <<< k < 32768 := by
      rw [Nat.shiftLeft_eq]
      have : 2 ^ k ≤ 2 ^ 7 := Nat.pow_le_pow_right (by decide) (by omega)
      calc a * 2 ^ k ≤ a * 2 ^ 7 := Nat.mul_le_mul_left _ this
        _ < 32768 := by omega
    simp only [cl]
    split
    · exact Nat.xor_lt_two_pow (n := 15) h1 h2
    · exact h1
end Gf
namespace Gk
open Gf
theorem double_eq (a : UInt8) : field_double a = some (dbl a) := by
  revert a
  refine all8 ?_
  unfold field_double
  decide +kernel
theorem ofInt_nat (a : UInt8) : UInt8.ofInt (a.toNat : Int) = a := by
  revert a; refine all8 ?_; decide +kernel
theorem Slow_loop (a b o : UInt8) : iterC (fun s1 : UInt8 × UInt8 × UInt8 =>
    (if s1.2.1 = (0 : UInt8) then some (.inr s1.2.2) else
    (if (s1.2.1 &&& (1 : UInt8)) = (1 : UInt8) then ((field_double s1.1).bind fun r5 => some (.inl (r5, (shr8 s1.2.1 1), (s1.2.2 ^^^ s1.1))))
    else ((field_double s1.1).bind fun r7 => some (.inl (r7, (shr8 s1.2.1 1), s1.2.2)))))) (a, b, o) = some (o ^^^ mul a b) := by
  simp only [double_eq, Option.bind_some]
  generalize hk : b.toNat = k
  induction k using Nat.strongRecOn generalizing a b o with
  | ind k ih =>
    rw [iterC_step]
    by_cases h : b = 0
    · subst h; simp [mul_zero]
    · have hlt : (shr8 b 1).toNat < k := by
        have : b.toNat ≠ 0 := fun e => h (UInt8.toNat_inj.1 (by simpa using e))
        have := b.toNat_lt
        simp [shr8]; omega
      simp only [if_neg h]
      by_cases h1 : b &&& 1 = 1
      · simp only [if_pos h1, Option.bind_some]
        rw [ih _ hlt _ _ _ rfl, mul_step a b, (bit_and b).1 h1]
        simp [sel, UInt8.xor_assoc]
      · simp only [if_neg h1, Option.bind_some]
        have h0 : bit b 0 = false := by cases hb : bit b 0 with | false => rfl | true => exact absurd ((bit_and b).2 hb) h1
        rw [ih _ hlt _ _ _ rfl, mul_step a b, h0]
        simp [sel]
theorem Slow_eq (a b : UInt8) : field_Slow a b = some (mul a b) := by
  unfold field_Slow
  rw [Slow_loop]; simp

theorem shr_bit (b : UInt8) : (List.range 8).all (fun k => decide ((shr8 b k % 2 = 1) ↔ b.toNat.testBit k = true)) = true := by
  revert b; refine all8 ?_; decide +kernel
theorem shr_bit' (b : UInt8) (k : Nat) (h : k < 8) : (shr8 b k % 2 = 1) ↔ b.toNat.testBit k = true := by
  have := List.all_eq_true.1 (shr_bit b) k (List.mem_range.2 h)
  exact of_decide_eq_true this
theorem refMul_eq (a b : UInt8) : ref02_Mul a b = some (mul a b) := by
  unfold ref02_Mul
  have ha := a.toNat_lt
  refine bind_of (iterC_count (fun k => (((cl a.toNat b.toNat k : Nat) : Int), (k : Int))) 8 ((cl a.toNat b.toNat 8 : Nat) : Int) rfl ?_ ?_) ?_
  rotate_left 2
  · have hl := cl_lt a.toNat b.toNat ha 8 (Nat.le_refl _)
    have hr := ref_eq a b
    generalize cl a.toNat b.toNat 8 = p at hl hr ⊢
    -- seven steps
    have hP : ∀ i, rds p (i + 1) = if (rds p i).testBit (14 - i) then rds p i ^^^ (283 <<< (6 - i)) else rds p i := fun i => rfl
    have hlt : ∀ i, rds p i < 32768 := by
      intro i
      induction i with
      | zero => exact hl
      | succ i ih =>
        rw [hP]; split
        · refine Nat.xor_lt_two_pow (n := 15) ih ?_
          have : 2 ^ (6 - i) ≤ 2 ^ 6 := Nat.pow_le_pow_right (by decide) (by omega)
          rw [Nat.shiftLeft_eq]; omega
        · exact ih
    have h7 : rds p 7 = rd 7 p := rfl
    refine bind_of (iterC_count (fun i => (((rds p i : Nat) : Int), 14 - (i : Int))) 7 ((rds p 7 : Nat) : Int) (by simp [rds]) ?_ ?_) ?_
    rotate_left 2
    · simp only [h7, hr]
      rw [ofInt_nat]
    · intro i hi
      have e1 : (14 - (i : Int)) = ((14 - i : Nat) : Int) := by omega
      have e2 : wI (14 - (i : Int) - 8) = ((6 - i : Nat) : Int) := by rw [wI_of (by omega) (by omega)]; omega
      have e3 : wI (14 - (i : Int) - 1) = 14 - ((i + 1 : Nat) : Int) := by rw [wI_of (by omega) (by omega)]; omega
      simp only [e2, e3]
      rw [if_pos (by omega), e1, cnt_nat]
      simp only [Option.bind_some, cnt_nat]
      rw [shrI_nat _ _ (by omega)]
      have e4 := remI_nat (rds p i >>> (14 - i)) 2 (by decide)
      have e5 : ((2 : Nat) : Int) = 2 := rfl
      rw [e5] at e4
      rw [e4, hP]
      have e6 : (rds p i).testBit (14 - i) = decide (rds p i >>> (14 - i) % 2 = 1) := by rw [Nat.testBit_eq_decide_div_mod_eq, Nat.shiftRight_eq_div_pow]
      simp only [Option.bind_some, e6]
      by_cases hc : rds p i >>> (14 - i) % 2 = 1
      · rw [if_pos (by omega), if_pos (decide_eq_true hc)]
        have h2 : 2 ^ (6 - i) ≤ 2 ^ 6 := Nat.pow_le_pow_right (by decide) (by omega)
        have e7 := shlI_nat 283 (6 - i) (by omega) (by omega)
        have e8 : ((283 : Nat) : Int) = 283 := rfl
        rw [e8] at e7
        rw [e7, xorI_nat _ _ (by have := hlt i; omega) (by rw [Nat.shiftLeft_eq]; omega)]
      · rw [if_neg (by omega), if_neg (fun e => hc (of_decide_eq_true e))]
    · rw [if_neg (by omega)]
  · intro i hi
    rw [if_pos (by omega)]
    simp only [cnt_nat, Option.bind_some, cl]
    have e3 : wI ((i : Int) + 1) = ((i + 1 : Nat) : Int) := by rw [wI_of (by omega) (by omega)]; omega
    have h2 : 2 ^ i ≤ 2 ^ 7 := Nat.pow_le_pow_right (by decide) (by omega)
    have h3 : a.toNat * 2 ^ i ≤ a.toNat * 2 ^ 7 := Nat.mul_le_mul_left _ h2
    rw [e3]
    by_cases hc : b.toNat.testBit i = true
    · rw [if_pos ((shr_bit' b i hi).2 hc), if_pos hc, shlI_nat _ _ (by omega) (by omega), xorI_nat _ _ (by have := cl_lt a.toNat b.toNat ha i (by omega); omega) (by rw [Nat.shiftLeft_eq]; omega)]
    · rw [if_neg (fun e => hc ((shr_bit' b i hi).1 e)), if_neg hc]
  · rw [if_neg (by omega)]
end Gk

/- What the field's functions come to, in plain Lean. No condition but lengths. -/
import Derived.Test.YteinpdignnpbgaaF1
import Derived.Test.YteinpdignnpbgaaMb
import Derived.Test.YteinpdignnpbgaaFb
set_option linter.unusedSimpArgs false
namespace Gk
open Gf
theorem idx_nat {α : Type} (l : List α) (n : Nat) : idx l (n : Int) = l[n]? := by simp [idx]
theorem idx_lg (a : UInt8) : idx lgT (a.toNat : Int) = some (lg a : Int) := by rw [idx_nat, lgT_get]
theorem idx_pw (n : Nat) (h : n < 510) : idx pwT (n : Int) = some (pw n) := by rw [idx_nat, pwT_get n h]
theorem Mul_eq (a b : UInt8) : field_Mul true a b = some (mul a b) := by
  unfold field_Mul
  rw [if_neg (by simp)]
  by_cases ha : a = 0
  · rw [if_pos ha, ha, zero_mul]
  · by_cases hb : b = 0
    · rw [if_neg ha, if_pos hb, hb, mul_zero]
    · have h1 := lg_lt a
      have h2 := lg_lt b
      have e : wI ((lg a : Int) + (lg b : Int)) = ((lg a + lg b : Nat) : Int) := by rw [wI_of (by omega) (by omega)]; omega
      rw [if_neg ha, if_neg hb]
      simp only [grd, idx_lg, Option.bind_some, e, idx_pw _ (show lg a + lg b < 510 by omega), mul_pw ha hb, if_true]
theorem Inv_eq (a : UInt8) : field_Inv true a = some (if a = 0 then (0, 7) else (inv a, 0)) := by
  unfold field_Inv
  rw [if_neg (by simp)]
  by_cases ha : a = 0
  · rw [if_pos ha, if_pos ha]
  · have h1 := lg_lt a
    have e : wI (255 - (lg a : Int)) = ((255 - lg a : Nat) : Int) := by rw [wI_of (by omega) (by omega)]; omega
    rw [if_neg ha, if_neg ha]
    simp only [grd, idx_lg, Option.bind_some, e, idx_pw _ (show 255 - lg a < 510 by omega), if_true, inv, if_neg ha]
theorem Div_eq (a b : UInt8) : field_Div true a b = some (if b = 0 then (0, 7) else (mul a (inv b), 0)) := by
  unfold field_Div
  simp only [Inv_eq, Option.bind_some, Mul_eq]
  by_cases hb : b = 0
  · simp [hb]
  · simp [hb]
/-- A power, of whatever whole number. -/
def powZ (a : UInt8) (n : Int) : UInt8 := if n = 0 then 1 else if a = 0 then 0 else pw (lg a * (n % 255).toNat)
theorem Pow_eq (a : UInt8) (n : Int) : field_Pow true a n = some (powZ a n) := by
  unfold field_Pow powZ
  by_cases hn : n = 0
  · simp [hn]
  · by_cases ha : a = 0
    · simp [hn, ha]
    · have h1 := lg_lt a
      have e1 : remI n 255 = some (n.tmod 255) := by simp [remI]
      have b1 : -255 < n.tmod 255 ∧ n.tmod 255 < 255 := ⟨by have := Int.lt_tmod_of_pos n (b := 255) (by decide); omega, Int.tmod_lt_of_pos n (by decide)⟩
      have e2 : wI (n.tmod 255 + 255) = n.tmod 255 + 255 := wI_of (by omega) (by omega)
      have e3 : (n.tmod 255 + 255).tmod 255 = ((n % 255).toNat : Int) := by
        rw [Int.tmod_eq_emod_of_nonneg (by omega)]
        have := Int.mul_tdiv_add_tmod n 255
        omega
      have e4 : remI (n.tmod 255 + 255) 255 = some ((n % 255).toNat : Int) := by simp [remI, e3]
      have hk : (n % 255).toNat < 255 := by omega
      generalize (n % 255).toNat = k at hk e4
      have hm : lg a * k < 65025 := Nat.mul_lt_mul'' h1 hk
      have e5 : wI ((lg a : Int) * (k : Int)) = ((lg a * k : Nat) : Int) := by rw [← Int.natCast_mul, wI_nat (by omega)]
      have e6 : remI ((lg a * k : Nat) : Int) 255 = some (((lg a * k) % 255 : Nat) : Int) := remI_nat _ 255 (by decide)
      rw [if_neg (by simp), if_neg hn, if_neg ha, if_neg hn, if_neg ha]
      simp only [e1, Option.bind_some, e2, e4, grd, if_true, idx_lg, e5, e6]
      rw [idx_pw _ (by omega)]
      simp [pw_mod]
end Gk

/- Rows of bytes, sums of rows, the document's inverses and powers, in plain Lean. No condition. -/
import Derived.Test.YtabcmfkmddlaaaaMc
set_option linter.unusedSimpArgs false
set_option linter.unusedVariables false
namespace Gk
open Gf
theorem makeL_nat {α : Type} (n : Nat) (z : α) (h : n ≤ most) : makeL (n : Int) z = some (List.replicate n z) := by
  unfold makeL; rw [if_pos ⟨by omega, by omega⟩]; simp
theorem copyL_all {α : Type} (z : α) (a : List α) : copyL (List.replicate a.length z) 0 a = a := by
  unfold copyL; simp
/-- A row, and a number times another one added. -/
def sumL (a : List UInt8) (c : UInt8) (b : List UInt8) : List UInt8 := a.mapIdx fun j x => x ^^^ mul c (b.getD j 0)
def sumTo (a : List UInt8) (c : UInt8) (b : List UInt8) (i : Nat) : List UInt8 := a.mapIdx fun j x => if j < i then x ^^^ mul c (b.getD j 0) else x
theorem sumL_len (a : List UInt8) (c : UInt8) (b : List UInt8) : (sumL a c b).length = a.length := by simp [sumL]
theorem sumTo_len (a : List UInt8) (c : UInt8) (b : List UInt8) (i : Nat) : (sumTo a c b i).length = a.length := by simp [sumTo]
theorem sumTo_set (a : List UInt8) (c : UInt8) (b : List UInt8) (i : Nat) (x : UInt8) (h : a[i]? = some x) (y : UInt8) (hb : b[i]? = some y) : (sumTo a c b i).set i (x ^^^ mul c y) = sumTo a c b (i + 1) := by
  apply List.ext_getElem?
  intro j
  simp only [sumTo, List.getElem?_set, List.getElem?_mapIdx, List.length_mapIdx]
  have hi := (List.getElem?_eq_some_iff.1 h).1
  by_cases hj : i = j
  · subst hj
    simp [hi, List.getD, hb]
    rw [(List.getElem?_eq_some_iff.1 h).2]
  · rw [if_neg hj]
    have : j < i + 1 ↔ j < i := by omega
    simp [this]
theorem sumTo_get (a : List UInt8) (c : UInt8) (b : List UInt8) (i : Nat) (x : UInt8) (h : a[i]? = some x) : (sumTo a c b i)[i]? = some x := by
  simp [sumTo, List.getElem?_mapIdx, h]
theorem sumTo_end (a : List UInt8) (c : UInt8) (b : List UInt8) (i : Nat) (h : b.length ≤ i ∨ a.length ≤ i) : sumTo a c b i = sumL a c b := by
  apply List.ext_getElem?
  intro j
  simp only [sumTo, sumL, List.getElem?_mapIdx]
  by_cases hj : j < i
  · simp [hj]
  · rcases h with h | h
    · have : b.getD j 0 = 0 := by simp [List.getD, List.getElem?_eq_none (show b.length ≤ j by omega)]
      simp only [hj, this, mul_zero, xor_zero, if_false]
    · simp [List.getElem?_eq_none (show a.length ≤ j by omega)]
theorem minI (a b : Nat) : (if (b : Int) < (a : Int) then (b : Int) else (a : Int)) = ((min a b : Nat) : Int) := by split <;> omega
theorem wI_succ (i : Nat) (h : i < 9223372036854775807) : wI ((i : Int) + 1) = ((i + 1 : Nat) : Int) := by rw [wI_of (by omega) (by omega)]; omega
theorem most_lt : most < 9223372036854775807 := by decide
theorem Sum_eq (a : List UInt8) (c : UInt8) (b : List UInt8) (h : a.length ≤ most) : field_Sum true a c b = some (sumL a c b) := by
  unfold field_Sum
  rw [if_neg (by simp), makeL_nat _ _ h]
  simp only [Option.bind_some, minI, copyL_all]
  have hm := most_lt
  refine bind_of (x := sumL a c b) (iterC_count (fun i => (sumTo a c b i, (i : Int))) (min a.length b.length) (sumL a c b) ?_ ?_ ?_) rfl
  · refine Prod.ext ?_ rfl
    apply List.ext_getElem?
    intro j
    simp [sumTo, List.getElem?_mapIdx]
  · intro i hi
    have h1 : i < a.length := by omega
    have h2 : i < b.length := by omega
    have e1 : a[i]? = some a[i] := by simp [h1]
    have e2 : b[i]? = some b[i] := by simp [h2]
    rw [if_pos (by omega)]
    simp only [idx_nat, sumTo_get a c b i _ e1, e2, Option.bind_some, Mul_eq, wI_succ i (by omega), Int.toNat_natCast]
    rw [sumTo_set a c b i _ e1 _ e2]
  · rw [if_neg (by omega)]
    simp only [sumTo_end a c b _ (show b.length ≤ min a.length b.length ∨ a.length ≤ min a.length b.length by omega)]
theorem Add_eq (a b : UInt8) : field_Add a b = some (a ^^^ b) := rfl
theorem refInv_eq (a : UInt8) : ref02_Inv a = some (inv a) := by
  unfold ref02_Inv
  simp only [refMul_eq, Option.bind_some]
  have e : ∀ k : Nat, k < 256 → UInt8.ofInt (k : Int) = UInt8.ofNat k := by
    intro k hk
    have : (UInt8.ofNat k).toNat = k := by simp; omega
    rw [← this, ofInt_nat, this]
  by_cases ha : a = 0
  · refine bind_of (x := (Sum.inl () : Unit ⊕ UInt8)) (iterC_count (fun i => (1 + (i : Int))) 255 (Sum.inl ()) (by simp) ?_ ?_) ?_
    · intro i hi
      rw [if_pos (by omega)]
      rw [ha]
      simp only [zero_mul]
      rw [if_neg (by decide)]
      have : wI (1 + (i : Int) + 1) = 1 + ((i + 1 : Nat) : Int) := by rw [wI_of (by omega) (by omega)]; omega
      rw [this]
    · rw [if_neg (by omega)]
    · simp [ha, inv_zero]
  · have hn := inv_ne ha
    have hlt := (inv a).toNat_lt
    have hpos : 0 < (inv a).toNat := Nat.pos_of_ne_zero (fun e => hn (UInt8.toNat_inj.1 (by simpa using e)))
    refine bind_of (x := (Sum.inr (inv a) : Unit ⊕ UInt8)) (iterC_count (fun i => (1 + (i : Int))) ((inv a).toNat - 1) (Sum.inr (inv a)) (by simp) ?_ ?_) rfl
    · intro i hi
      rw [if_pos (by omega)]
      have e1 : (1 + (i : Int)) = ((i + 1 : Nat) : Int) := by omega
      have hne : mul a (UInt8.ofInt (1 + (i : Int))) ≠ 1 := by
        intro h
        have h2 := inv_uniq h
        rw [e1, e _ (by omega)] at h2
        have h3 := congrArg UInt8.toNat h2
        simp at h3
        omega
      rw [if_neg hne]
      have : wI (1 + (i : Int) + 1) = 1 + ((i + 1 : Nat) : Int) := by rw [wI_of (by omega) (by omega)]; omega
      rw [this]
    · rw [if_pos (by omega)]
      have e1 : (1 + (((inv a).toNat - 1 : Nat) : Int)) = ((inv a).toNat : Int) := by omega
      rw [e1, ofInt_nat, mul_inv ha, if_pos rfl]
theorem lg_mul {a b : UInt8} (ha : a ≠ 0) (hb : b ≠ 0) : lg (mul a b) = (lg a + lg b) % 255 := by rw [← mul_pw ha hb, lg_pw]
theorem appL_nil {α : Type} (a : List α) (h : a.length ≤ most) : appL [] a = some a := by
  unfold appL; rw [if_pos (by simpa using h)]; simp
end Gk

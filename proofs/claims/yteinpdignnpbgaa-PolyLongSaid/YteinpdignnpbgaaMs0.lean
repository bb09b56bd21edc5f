/- Chapter 3: quotient and rest. No condition but lengths. -/
import Derived.Test.YteinpdignnpbgaaF5
import Derived.Test.YteinpdignnpbgaaMr
set_option linter.unusedSimpArgs false
set_option linter.unusedVariables false
namespace Gk
open Gf

theorem revN_succ (n : Nat) : revN (n + 1) = (n : Int) :: revN n := by
  simp [revN, List.range_succ]
/-- A walk from the top down. -/
theorem foldl_revN {σ : Type} (g : σ → Int → σ) (P : Nat → σ → Prop) (hs : ∀ j s, P (j + 1) s → P j (g s (j : Int))) : ∀ (n : Nat) (s : σ), P n s → P 0 ((revN n).foldl g s)
  | 0, s, h => h
  | n + 1, s, h => by
    rw [revN_succ, List.foldl_cons]
    exact foldl_revN g P hs n _ (hs n s h)
def divStep (d : Nat) (top : UInt8) (Q : List UInt8) (s : List UInt8 × List UInt8) (y : Int) : List UInt8 × List UInt8 :=
  let c := mul (co s.1 (y.toNat + d - 1)) top
  (copyL s.1 y (sumL ((s.1.take (y.toNat + d)).drop y.toNat) c Q), s.2.set y.toNat c)
theorem poly_DivMod_eq (p q : List UInt8) (hp : p.length ≤ 1000) (hq : q.length ≤ 1000) (h0 : trim q ≠ []) : ∃ a b, poly_DivMod true p q = some (a, b, 0) ∧ trim a = a ∧ trim b = b ∧ b.length < (trim q).length ∧ (∀ i, co p i = co b i ^^^ co (pmul a q) i) ∧ a.length ≤ p.length + 1 := by
  have hm := most_lt'
  have h1000 : 2000 ≤ most := by decide
  have ld := List.length_pos_iff.2 h0
  have tq := trim_le q
  have hlead := trim_last q h0
  unfold poly_DivMod
  rw [poly_Trim_eq q (by omega), Option.bind_some, if_neg (by simp), if_neg (by omega), wI_pred _ (by omega) (by omega), idx_co (by omega), co_trim]
  generalize hd : (trim q).length = d at *
  generalize hc : co q (d - 1) = lead at *
  simp only [Inv_eq, Option.bind_some, if_neg hlead]
  unfold slices_Clone_sbytebyte
  rw [appL_nil p (by omega), Option.bind_some]
  have en : (if 0 < wI (wI ((p.length : Int) - (d : Int)) + 1) then wI (wI ((p.length : Int) - (d : Int)) + 1) else 0) = ((p.length + 1 - d : Nat) : Int) := by
    have i1 : wI ((p.length : Int) - (d : Int)) = (p.length : Int) - (d : Int) := wI_of (by omega) (by omega)
    rw [i1, wI_of (by omega) (by omega)]
    split <;> omega
  rw [en, makeL_nat _ _ (by omega), Option.bind_some, List.length_replicate, lim_of (by omega), Option.bind_some]
  generalize hn : p.length + 1 - d = n at *
  have key := rangeL_inv (f := fun (s72 : List UInt8 × List UInt8) (y72 : Int) => ((idx s72.1 ((wI ((wI (y72 + (d : Int))) - 1)))).bind fun c78 => ((field_Mul true c78 (inv lead)).bind fun r79 => ((idx s72.2 y72).bind fun c82 => ((subL s72.1 y72 ((s72.1.length : Int))).bind fun c89 =>
      ((subL s72.1 y72 ((wI (y72 + (d : Int))))).bind fun c90 => ((field_Sum true c90 r79 (trim q)).bind fun r91 => some ((copyL s72.1 y72 r91), (s72.2.set (y72 : Int).toNat r79))))))))) (divStep d (inv lead) (trim q)) (xs := revN n) (s0 := (p, List.replicate n 0))
    (fun _ s => s.1.length = p.length ∧ s.2.length = n) ⟨rfl, by simp⟩ (by
      rintro k ⟨r, t⟩ x _ hx ⟨hr, ht⟩
      simp only at hr ht
      obtain ⟨i, hi, rfl⟩ := mem_revN.1 hx
      have e1 : wI ((i : Int) + (d : Int)) = ((i + d : Nat) : Int) := wI_add _ _ (by omega)
      simp only [e1]
      rw [wI_pred _ (by omega) (by omega), idx_co (by omega), Option.bind_some, Mul_eq, Option.bind_some, idx_co (by omega), Option.bind_some, subL_nat _ _ _ (by omega) (Nat.le_refl _), Option.bind_some, subL_nat _ _ _ (by omega) (by omega), Option.bind_some,
        Sum_eq _ _ _ (by simp; omega), Option.bind_some]
      refine ⟨by simp only [divStep, Int.toNat_natCast], ?_, ?_⟩
      · simp only [divStep]; rw [copyL_len _ _ _ (by omega)]; exact hr
      · simp only [divStep, List.length_set]; exact ht)
  rw [key.1, Option.bind_some]
  have fin := foldl_revN (divStep d (inv lead) (trim q)) (fun j s => s.1.length = p.length ∧ s.2.length = n ∧ j ≤ n ∧ (∀ i, co p i = co s.1 i ^^^ co (pmul s.2 (trim q)) i) ∧ (∀ i, j + d ≤ i + 1 → co s.1 i = 0) ∧ (∀ i, i < j → co s.2 i = 0))
    (by
      rintro j ⟨r, t⟩ ⟨hr, ht, hj, hs, hz, hz2⟩
      simp only at hr ht hs hz hz2
      simp only [divStep, Int.toNat_natCast]
      generalize hc2 : mul (co r (j + d - 1)) (inv lead) = c
      have hl2 : ((r.take (j + d)).drop j).length = d := by simp; omega
      have hl3 : (sumL ((r.take (j + d)).drop j) c (trim q)).length = d := by rw [sumL_len, hl2]
      have hco : ∀ i, co (copyL r (j : Int) (sumL ((r.take (j + d)).drop j) c (trim q))) i = co r i ^^^ (if i < j then 0 else mul c (co (trim q) (i - j))) := by
        intro i
        rw [co_copyL _ _ _ (by rw [hl3]; omega), hl3, co_sumL, hl2]
        by_cases h1 : j ≤ i ∧ i < j + d
        · rw [if_pos h1, if_pos (show i - j < d by omega), if_neg (show ¬ i < j by omega), co_drop, co_take, show j + (i - j) = i by omega, if_pos (show i < j + d by omega)]
        · rw [if_neg h1]
          by_cases h2 : i < j
          · rw [if_pos h2, xor_zero]
          · rw [if_neg h2, co_ge (show (trim q).length ≤ i - j by omega), mul_zero, xor_zero]
      refine ⟨by rw [copyL_len _ _ _ (by omega)]; exact hr, by simpa using ht, by omega, fun i => ?_, fun i hi => ?_, fun i hi => ?_⟩
      · rw [hco i, co_pmul_set t j c _ i (by omega) (hz2 j (by omega)), hs i, xor_xor_swap, xor_self, xor_zero]
      · rw [hco i]
        by_cases h1 : i = j + d - 1
        · subst h1
          rw [if_neg (by omega), show j + d - 1 - j = d - 1 by omega, co_trim, hc, ← hc2, mul_assoc, inv_mul hlead, mul_one, xor_self]
        · rw [hz i (by omega), if_neg (by omega), co_ge (show (trim q).length ≤ i - j by omega), mul_zero, xor_zero]
      · rw [co_set (by omega), if_neg (by omega)]; exact hz2 i (by omega)) n (p, List.replicate n 0)
    ⟨rfl, by simp, Nat.le_refl _, fun i => by
      have : co (pmul (List.replicate n 0) (trim q)) i = 0 := by rw [pmul_simL _ [] _ (fun i => by rw [co_rep, co_nil]) i]; rfl
      rw [this, xor_zero], fun i hi => co_ge (by simp only; omega), fun i _ => co_rep _ _⟩
  generalize (revN n).foldl (divStep d (inv lead) (trim q)) (p, List.replicate n 0) = s at fin
  obtain ⟨r, t⟩ := s
  obtain ⟨hr, ht, _, hs, hz, _⟩ := fin
  simp only at hr ht hs hz
  simp only
  rw [poly_Trim_eq t (by omega), Option.bind_some, poly_Trim_eq r (by omega), Option.bind_some]
  refine ⟨trim t, trim r, rfl, trim_trim t, trim_trim r, ?_, fun i => ?_, ?_⟩
  · have := (trim_bound r (d - 1)).2 (fun i hi => hz i (by omega))
    omega
  · rw [hs i, co_trim]
    congr 1
    exact pmul_sim (trim_sim t).symm (trim_sim q) i
  · have := trim_le t; omega
theorem poly_DivMod_zero (p q : List UInt8) (hq : q.length ≤ most) (h0 : trim q = []) : poly_DivMod true p q = some ([], [], 7) := by
  unfold poly_DivMod
  rw [poly_Trim_eq q hq, Option.bind_some, if_neg (by simp), if_pos (by rw [h0]; rfl)]
theorem poly_DivMod_nil (p q : List UInt8) (hq : q.length ≤ most) : poly_DivMod false p q = some ([], [], 1) := by
  unfold poly_DivMod
  rw [poly_Trim_eq q hq, Option.bind_some, if_pos (by simp)]
end Gk

/- Chapter 3: the polynomial through places and values. No condition but lengths. -/
import Derived.Test.YtabcmfkmddlaaaaMu0
import Derived.Test.YtabcmfkmddlaaaaMw
set_option linter.unusedSimpArgs false
set_option linter.unusedVariables false
namespace Gk
open Gf

/-- What lies at place i behind k rounds of differences. -/
def stg (xs ys : List UInt8) (k i : Nat) : UInt8 := dd (co xs) (co ys) (i - min k i) (min k i)
theorem stg_step (xs ys : List UInt8) (k j : Nat) (h1 : 1 ≤ k) (h2 : k ≤ j) : stg xs ys k j = mul (stg xs ys (k - 1) j ^^^ stg xs ys (k - 1) (j - 1)) (inv (co xs j ^^^ co xs (j - k))) := by
  obtain ⟨m, rfl⟩ : ∃ m, k = m + 1 := ⟨k - 1, by omega⟩
  unfold stg
  have e1 : min (m + 1) j = m + 1 := by omega
  have e2 : min m j = m := by omega
  have e3 : min m (j - 1) = m := by omega
  rw [Nat.add_sub_cancel, e1, e2, e3]
  have e4 : j - m = j - (m + 1) + 1 := by omega
  have e5 : j - 1 - m = j - (m + 1) := by omega
  rw [e4, e5]
  show mul (dd _ _ (j - (m + 1) + 1) m ^^^ dd _ _ (j - (m + 1)) m) (inv (co xs (j - (m + 1) + m + 1) ^^^ co xs (j - (m + 1)))) = _
  rw [show j - (m + 1) + m + 1 = j by omega]
def thStep (xs : List UInt8) (s : List UInt8) (y : Int × UInt8) : List UInt8 := trim (pplus (trim (pmul s [co xs y.1.toNat, 1])) [y.2])
theorem ev_thStep (xs s : List UInt8) (y : Int × UInt8) (x : UInt8) : evp (thStep xs s y) x = y.2 ^^^ mul (evp s x) (x ^^^ co xs y.1.toNat) := by
  unfold thStep
  rw [ev_trim, ev_pplus, ev_trim, ev_pmul, ev_lin, ev_const, xor_comm]
theorem ev_thFold (xs d : List UInt8) (x : UInt8) : ∀ k, k ≤ d.length → evp (((revI d).take k).foldl (thStep xs) []) x = Gf.hn (co xs) (co d) x d.length k
  | 0, _ => rfl
  | k + 1, h => by
    have hg := revI_get d (d.length - 1 - k) (by omega)
    rw [show d.length - 1 - (d.length - 1 - k) = k by omega] at hg
    rw [List.take_add_one, hg, List.foldl_append]
    show evp (thStep xs _ _) x = _
    rw [ev_thStep, ev_thFold xs d x k (by omega)]
    simp only [Int.toNat_natCast]
    rw [← co_lt (show d.length - 1 - k < d.length by omega), show d.length - 1 - k = d.length - (k + 1) by omega]
    rfl
/-! ### The document's answers -/
theorem not_nodup {xs : List UInt8} (h : ¬ xs.Nodup) : ∃ i, i < xs.length ∧ co xs i ∈ xs.take i := by
  refine Classical.byContradiction fun hc => h (List.pairwise_iff_getElem.2 fun i j hi hj hij e => hc ⟨j, hj, ?_⟩)
  rw [co_lt hj, ← e]
  exact List.mem_iff_getElem.2 ⟨i, by simp; omega, by simp⟩
theorem nodup_not {xs : List UInt8} (h : xs.Nodup) (i : Nat) (hi : i < xs.length) : co xs i ∉ xs.take i := fun hm => by
  obtain ⟨j, hj, e⟩ := List.mem_iff_getElem.1 hm
  have hj' : j < i := by simp at hj; omega
  rw [List.getElem_take, ← co_lt (by omega)] at e
  have := co_inj h (by omega) hi e
  omega
theorem ref03_Places_eq (xs : List UInt8) (h : xs.length ≤ most) : ref03_Places xs = some (if xs.length = 0 then 5 else if 255 < xs.length then 4 else if xs.Nodup then 0 else 6) := by
  unfold ref03_Places
  have hm := most_lt'
  by_cases h0 : xs.length = 0
  · rw [if_pos (by omega), if_pos h0]
  rw [if_neg (by omega), if_neg h0]
  by_cases h1 : 255 < xs.length
  · rw [if_pos (by omega), if_pos h1]
  rw [if_neg (by omega), if_neg h1]
  have inner : ∀ i, i < xs.length → iterC (fun s6 : Int => (if s6 < (i : Int) then ((idx xs (i : Int)).bind fun c11 => ((idx xs s6).bind fun c12 => (if c11 = c12 then some (.inr (Sum.inr (α := Unit) (6 : Int))) else some (.inl (wI (s6 + 1)))))) else some (.inr (.inl ())))) 0 = some (if co xs i ∈ xs.take i then Sum.inr 6 else Sum.inl ()) := by
    intro i hi
    obtain ⟨x, e1, e2, e3⟩ := iterC_find (X := Unit ⊕ Int) (body := fun s6 : Int => (if s6 < (i : Int) then ((idx xs (i : Int)).bind fun c11 => ((idx xs s6).bind fun c12 => (if c11 = c12 then some (.inr (Sum.inr (α := Unit) (6 : Int))) else some (.inl (wI (s6 + 1)))))) else some (.inr (.inl ())))) i (fun j => co xs i = co xs j) (.inr 6) (.inl ())
      (fun j hj hb => by rw [if_pos (by omega), idx_co hi, Option.bind_some, idx_co (by omega), Option.bind_some, if_neg hb, wI_succ j (by omega)])
      (fun j hj hb => by rw [if_pos (by omega), idx_co hi, Option.bind_some, idx_co (by omega), Option.bind_some, if_pos hb])
      (by rw [if_neg (by omega)])
    rw [e1]
    by_cases hm : co xs i ∈ xs.take i
    · rw [if_pos hm, e2]
      obtain ⟨j, hj, e⟩ := List.mem_iff_getElem.1 hm
      have hj' : j < i := by simp at hj; omega
      rw [List.getElem_take, ← co_lt (by omega)] at e
      exact ⟨j, hj', e.symm⟩
    · rw [if_neg hm, e3]
      intro j hj e
      refine hm ?_
      rw [e, co_lt (by omega)]
      exact List.mem_iff_getElem.2 ⟨j, by simp; omega, by simp⟩
  obtain ⟨x, e1, e2, e3⟩ := iterC_find (X := Unit ⊕ Int) (body := fun s3 : Int => (if s3 < (xs.length : Int) then ((iterC (fun s6 : Int => (if s6 < s3 then ((idx xs s3).bind fun c11 => ((idx xs s6).bind fun c12 => (if c11 = c12 then some (.inr (Sum.inr (α := Unit) (6 : Int))) else some (.inl (wI (s6 + 1)))))) else some (.inr (.inl ())))) 0).bind
      (Sum.elim (fun y6 => some (.inl (wI (s3 + 1)))) (fun q6 => some (.inr (.inr q6))))) else some (.inr (.inl ())))) xs.length (fun i => co xs i ∈ xs.take i) (.inr 6) (.inl ())
    (fun i hi hb => by rw [if_pos (by omega), inner i hi, if_neg hb, Option.bind_some, Sum.elim_inl, wI_succ i (by omega)])
    (fun i hi hb => by rw [if_pos (by omega), inner i hi, if_pos hb, Option.bind_some, Sum.elim_inr])
    (by rw [if_neg (by omega)])
  rw [e1, Option.bind_some]
  by_cases hn : xs.Nodup
  · rw [e3 (nodup_not hn), if_pos hn]; rfl
  · rw [e2 (not_nodup hn), if_neg hn]; rfl
theorem ref03_Weight_eq (xs : List UInt8) (i : Nat) (x : UInt8) (hi : i < xs.length) (h : xs.length ≤ most) : ref03_Weight xs (i : Int) x = some (wt xs i x) := by
  unfold ref03_Weight
  have hm := most_lt'
  refine bind_of ?_ rfl
  refine iterC_count (fun k => (mul (pe xs i x k) (inv (pe xs i (co xs i) k)), (k : Int))) xs.length _ ?_ ?_ ?_
  · show (1, 0) = (mul 1 (inv 1), ((0 : Nat) : Int))
    rw [one_mul, inv_one]
    rfl
  · intro k hk
    simp only
    rw [if_pos (by omega)]
    by_cases hki : k = i
    · subst hki; rw [if_pos rfl, wI_succ k (by omega)]; simp [pe]
    · rw [if_neg (by omega), idx_co hk, Option.bind_some, idx_co hi, Option.bind_some, refInv_eq, Option.bind_some, refMul_eq, Option.bind_some, refMul_eq, Option.bind_some, wI_succ k (by omega)]
      simp only [pe, if_neg hki, inv_mul2]
      rw [mul_swap4]
  · simp [wt]
/-- Lagrange's term at the i-th place, of the first k places. -/
def ltm (xs ys : List UInt8) (i : Nat) : Nat → List UInt8
  | 0 => [co ys i]
  | k + 1 => if k = i then ltm xs ys i k else trim (pmul (ltm xs ys i k) [mul (inv (co xs i ^^^ co xs k)) (co xs k), inv (co xs i ^^^ co xs k)])
theorem ev_ltm (xs ys : List UInt8) (i : Nat) (x : UInt8) : ∀ k, evp (ltm xs ys i k) x = mul (co ys i) (mul (pe xs i x k) (inv (pe xs i (co xs i) k)))
  | 0 => by
    show evp [co ys i] x = mul (co ys i) (mul 1 (inv 1))
    rw [ev_const, one_mul, inv_one, mul_one]
  | k + 1 => by
    unfold ltm pe
    by_cases hk : k = i
    · rw [if_pos hk, if_pos hk, if_pos hk]; exact ev_ltm xs ys i x k
    · rw [if_neg hk, if_neg hk, if_neg hk, ev_trim, ev_pmul, ev_ltm xs ys i x k, inv_mul2]
      have : evp [mul (inv (co xs i ^^^ co xs k)) (co xs k), inv (co xs i ^^^ co xs k)] x = mul (x ^^^ co xs k) (inv (co xs i ^^^ co xs k)) := by
        show mul (inv (co xs i ^^^ co xs k)) (co xs k) ^^^ mul (inv (co xs i ^^^ co xs k) ^^^ mul 0 x) x = _
        rw [zero_mul, xor_zero, ← mul_add, mul_comm, xor_comm (co xs k)]
      rw [this, mul_assoc, mul_swap4]
theorem ltm_len (xs ys : List UInt8) (i : Nat) : ∀ k, (ltm xs ys i k).length ≤ k + 1 ∧ (i < k → (ltm xs ys i k).length ≤ k)
  | 0 => ⟨by simp [ltm], fun h => by omega⟩
  | k + 1 => by
    obtain ⟨h1, h2⟩ := ltm_len xs ys i k
    unfold ltm
    split
    · exact ⟨by omega, fun _ => h1⟩
    · rename_i hk
      have d2 : dg [mul (inv (co xs i ^^^ co xs k)) (co xs k), inv (co xs i ^^^ co xs k)] ≤ 2 := dg_len _
      refine ⟨?_, fun hi => ?_⟩
      · have := dg_pmul (Nat.le_trans (dg_len _) h1) d2
        unfold dg at this; omega
      · have := dg_pmul (Nat.le_trans (dg_len _) (h2 (by omega))) d2
        unfold dg at this; omega
end Gk

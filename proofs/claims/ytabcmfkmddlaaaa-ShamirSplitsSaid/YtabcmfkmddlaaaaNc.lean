/- Chapter 8: the law ShamirSplits. No condition. -/
import Derived.Test.YtabcmfkmddlaaaaL8c
import Derived.Test.YtabcmfkmddlaaaaNa
set_option linter.unusedSimpArgs false
set_option linter.unusedVariables false
namespace Gk
open Gf
/-- Bytes, cut or filled up with noughts. -/
def mad (b : List UInt8) (n : Nat) : List UInt8 := copyL (List.replicate n 0) 0 b
theorem mad_len (b : List UInt8) (n : Nat) : (mad b n).length = n := by
  have := copyL_len (List.replicate n (0 : UInt8)) 0 b (Nat.zero_le _)
  simpa [mad] using this
theorem Made_eq (b : List UInt8) (n : Nat) (h : n ≤ most) : law08_Made b (n : Int) = some (mad b n) := by
  unfold law08_Made
  rw [makeL_nat _ _ h]; rfl
theorem law08_ShamirSplits_true (t : Int) (s m xs : List UInt8) (exact' : Bool) (lo : -9223372036854775808 ≤ t) (hi : t ≤ 9223372036854775807) : law08_ShamirSplits t s m xs exact' = some true := by
  unfold law08_ShamirSplits
  rw [lives8, Option.bind_some, if_neg (by decide)]
  by_cases hs : 40 < (s.length : Int)
  · rw [if_pos hs]; rfl
  rw [if_neg hs]
  by_cases hm : 500 < (m.length : Int)
  · rw [if_pos hm]; rfl
  rw [if_neg hm]
  by_cases hx : 20 < (xs.length : Int)
  · rw [if_pos hx]; rfl
  rw [if_neg hx]
  have h := h257
  have hmo := most_lt'
  have h1000 : 1000 ≤ most := by decide
  obtain ⟨t', m', e, hm', lo', hi'⟩ : ∃ (t' : Int) (m' : List UInt8), (if exact' = true then ((law08_Made m (wI ((wI ((wI (1 + (wI ((((UInt64.ofInt t) % (12 : UInt64))).toNat : Int)))) - 1)) * (s.length : Int)))).bind fun r17 => some ((wI (1 + (wI ((((UInt64.ofInt t) % (12 : UInt64))).toNat : Int)))), r17)) else some (t, m)) = some (t', m') ∧ m'.length ≤ 500 ∧ -9223372036854775808 ≤ t' ∧ t' ≤ 9223372036854775807 := by
    by_cases he : exact' = true
    · rw [if_pos he]
      have ha : (UInt64.ofInt t % 12).toNat < 12 := by rw [UInt64.toNat_mod]; exact Nat.mod_lt _ (by decide)
      generalize (UInt64.ofInt t % 12).toNat = a at *
      have ea : wI (1 + wI (a : Int)) = ((a + 1 : Nat) : Int) := by rw [wI_nat (by omega), wI_of (by omega) (by omega)]; omega
      have hle : a * s.length ≤ 11 * 40 := Nat.mul_le_mul (by omega) (by omega)
      have e2 : ((a : Int) * (s.length : Int)) = ((a * s.length : Nat) : Int) := (Int.natCast_mul _ _).symm
      rw [ea, wI_pred _ (by omega) (by omega), Nat.add_sub_cancel, e2, wI_nat (by omega), Made_eq _ _ (by omega)]
      exact ⟨_, _, rfl, by rw [mad_len]; omega, by omega, by omega⟩
    · rw [if_neg he]
      exact ⟨_, _, rfl, by omega, lo, hi⟩
  rw [e, Option.bind_some]
  simp only [field_New, Option.bind_some]
  clear e lo hi hm
  have hck := check_eq t' s m' xs (by omega) (by omega)
  have zl : iterC (fun s24 : Bool × Int => (if s24.2 < (xs.length : Int) then ((idx xs s24.2).bind fun c27 => (if s24.1 = true then some (.inl (true, (wI (s24.2 + 1)))) else some (.inl ((decide (c27 = (0 : UInt8))), (wI (s24.2 + 1)))))) else some (.inr s24.1))) (false, 0) = some (decide ((0 : UInt8) ∈ xs)) := by
    refine iterC_count (fun i => (decide ((0 : UInt8) ∈ xs.take i), (i : Int))) xs.length _ (by simp) ?_ ?_
    · intro i hi
      simp only
      rw [if_pos (by omega), idx_co hi, Option.bind_some, wI_succ i (by omega), take_snoc hi]
      by_cases hin : (0 : UInt8) ∈ xs.take i
      · rw [if_pos (by simpa using hin)]; simp [hin]
      · rw [if_neg (by simpa using hin)]; simp [hin, eq_comm]
    · simp
  have hw : (if t' < 1 then some (2 : Int) else (if 255 < t' then some 2 else (if decide ((0 : UInt8) ∈ xs) = true then some 2 else (if (m'.length : Int) = (wI ((wI (t' - 1)) * (s.length : Int))) then some 0 else some 3)))) = some (if ¬ (1 ≤ t' ∧ t' ≤ 255) ∨ 0 ∈ xs then 2 else if m'.length = (t' - 1).toNat * s.length then 0 else 3) := by
    by_cases h1 : t' < 1
    · rw [if_pos h1, if_pos (.inl (by omega))]
    · rw [if_neg h1]
      by_cases h2 : 255 < t'
      · rw [if_pos h2, if_pos (.inl (by omega))]
      · rw [if_neg h2]
        by_cases h3 : (0 : UInt8) ∈ xs
        · rw [if_pos (by simpa using h3), if_pos (.inr h3)]
        · obtain ⟨q, hq⟩ : ∃ q : Nat, t' = ((q + 1 : Nat) : Int) := ⟨(t' - 1).toNat, by omega⟩
          have e : (t' - 1).toNat = q := by omega
          have hle : q * s.length ≤ 254 * 40 := Nat.mul_le_mul (by omega) (by omega)
          have e2 : ((q : Int) * (s.length : Int)) = ((q * s.length : Nat) : Int) := (Int.natCast_mul _ _).symm
          have hneg : ¬ (¬ (1 ≤ t' ∧ t' ≤ 255) ∨ 0 ∈ xs) := by simp [h3]; omega
          rw [if_neg (by simpa using h3), if_neg hneg, e, hq, wI_pred _ (by omega) (by omega), Nat.add_sub_cancel, e2, wI_nat (by omega)]
          by_cases h4 : m'.length = q * s.length
          · rw [if_pos (by rw [h4]), if_pos h4]
          · rw [if_neg (by omega), if_neg h4]
  generalize hc : (if ¬ (1 ≤ t' ∧ t' ≤ 255) ∨ 0 ∈ xs then (2 : Int) else if m'.length = (t' - 1).toNat * s.length then 0 else 3) = c at hck hw
  by_cases hc0 : c = 0
  · subst hc0
    have h1 : ¬ (¬ (1 ≤ t' ∧ t' ≤ 255) ∨ 0 ∈ xs) := fun h' => by rw [if_pos h'] at hc; cases hc
    rw [if_neg h1] at hc
    have h2 : m'.length = (t' - 1).toNat * s.length := by
      split at hc
      · assumption
      · cases hc
    obtain ⟨q, hq⟩ : ∃ q : Nat, t' = ((q + 1 : Nat) : Int) := ⟨(t' - 1).toNat, by have := Classical.not_not.1 (fun h' => h1 (.inl h')); omega⟩
    have hq254 : q ≤ 254 := by have := Classical.not_not.1 (fun h' => h1 (.inl h')); omega
    have h0 : (0 : UInt8) ∉ xs := fun h' => h1 (.inr h')
    have e : (t' - 1).toNat = q := by omega
    rw [e] at h2
    subst hq
    rw [Split_ok q s m' xs hq254 h2 (by omega) (by omega) h0 (by omega), Option.bind_some, zl, Option.bind_some, hw, Option.bind_some]
    simp only
    rw [if_pos trivial, if_pos trivial, if_pos (by simp), MaskSize_eq q _ hq254 (by omega), Option.bind_some, if_pos (by rw [h2])]
    have loop : iterC (fun s45 : Int => (if s45 < (xs.length : Int) then ((idx xs s45).bind fun c48 => ((shamir_Share true ((q + 1 : Nat) : Int) s m' c48).bind fun r49 => (if r49.2 = 0 then ((idx (xs.map (shr s m' q)) s45).bind fun c54 => ((ref08_Share ((q + 1 : Nat) : Int) s m' c48).bind fun r56 => (if c54 = r56 then (if r49.1 = c54 then some (.inl (wI (s45 + 1))) else some (.inr (Sum.inr (α := Unit) false))) else some (.inr (.inr false))))) else some (.inr (.inr false))))) else some (.inr (.inl ())))) 0 = some (.inl ()) := by
      refine iterC_count (fun i => (i : Int)) xs.length _ rfl ?_ ?_
      · intro i hi
        have hne : co xs i ≠ 0 := fun e => h0 (e ▸ co_mem hi)
        have hid : idx (xs.map (shr s m' q)) (i : Int) = some (shr s m' q (co xs i)) := by rw [idx_nat, List.getElem?_map, co_get hi]; rfl
        rw [if_pos (by omega), idx_co hi, Option.bind_some, Share_ok q s m' _ hq254 h2 (by omega) (by omega) hne, Option.bind_some, if_pos rfl, hid, Option.bind_some, ref08_Share_eq q s m' _ hq254 h2 (by omega), Option.bind_some, if_pos rfl, if_pos rfl, wI_succ i (by omega)]
      · simp
    have hck0 := check_eq ((q + 1 : Nat) : Int) s m' [0] (by omega) (by simp; omega)
    rw [if_pos (.inr (by simp))] at hck0
    rw [loop, Option.bind_some, Sum.elim_inl, Split_nil, Option.bind_some, Share_bad _ _ _ _ 2 hck0 (by decide), Option.bind_some]
    simp only
    rw [if_pos trivial, if_pos trivial, MaskSize_bad 0 1 (.inl (by decide)), Option.bind_some, MaskSize_bad 256 1 (.inl (by decide)), Option.bind_some, MaskSize_bad 2 (-1) (.inr (by decide)), Option.bind_some]
    decide
  · rw [Split_bad t' s m' xs c hck hc0, Option.bind_some, zl, Option.bind_some, hw, Option.bind_some]
    simp only
    rw [if_pos trivial, if_neg hc0, if_pos trivial]
    rfl
end Gk

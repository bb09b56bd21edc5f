/- Chapter 8: the law ShamirAts. No condition. -/
import Derived.Test.YtabcmfkmddlaaaaL8b
import Derived.Test.YtabcmfkmddlaaaaNa
set_option linter.unusedSimpArgs false
set_option linter.unusedVariables false
namespace Gk
open Gf
theorem law08_ShamirAts_true (xs : List UInt8) (shares : List (List UInt8)) (x : UInt8) : law08_ShamirAts xs shares x = some true := by
  unfold law08_ShamirAts
  rw [lives8, Option.bind_some, if_neg (by decide)]
  by_cases hx : 12 < (xs.length : Int)
  · rw [if_pos hx]; rfl
  rw [if_neg hx]
  by_cases hs : 12 < (shares.length : Int)
  · rw [if_pos hs]; rfl
  rw [if_neg hs]
  have h := h257
  have hm := most_lt'
  generalize hd : (shares.getD 0 []).length = d
  obtain ⟨r, e1, e2⟩ := iterC_inv (body := fun s12 : Int × Int => (if s12.2 < (shares.length : Int) then ((idx shares s12.2).bind fun c15 => (if 20 < (c15.length : Int) then some (.inr (Sum.inr (α := Int) true)) else ((idx shares 0).bind fun c18 => (if (c15.length : Int) = (c18.length : Int) then some (.inl (s12.1, (wI (s12.2 + 1)))) else some (.inl (3, (wI (s12.2 + 1)))))))) else some (.inr (.inl s12.1))))
    (fun s => ∃ i : Nat, i ≤ shares.length ∧ s.2 = (i : Int) ∧ (∀ r ∈ shares.take i, r.length ≤ 20) ∧ s.1 = if (shares.take i).any (fun r => !decide (r.length = d)) then 3 else 0) (fun s => shares.length - s.2.toNat)
    (fun r => r = .inr true ∨ (∃ w, r = .inl w ∧ (∀ r ∈ shares, r.length ≤ 20) ∧ w = if shares.any (fun r => !decide (r.length = d)) then 3 else 0))
    (by
      rintro ⟨w, _⟩ ⟨i, hi, rfl, h20, hw⟩
      simp only at hw ⊢
      by_cases hlt : i < shares.length
      · have i0 : idx shares 0 = some (shares.getD 0 []) := by
          have := idx_getD (l := shares) (k := 0) (by omega)
          rwa [show ((0 : Nat) : Int) = 0 from rfl] at this
        have htk : shares.take (i + 1) = shares.take i ++ [shares.getD i []] := by rw [List.take_add_one, getD_get hlt]; rfl
        rw [if_pos (by omega), idx_getD hlt, Option.bind_some]
        by_cases h1 : 20 < ((shares.getD i []).length : Int)
        · rw [if_pos h1]; exact .inr ⟨_, rfl, .inl rfl⟩
        · rw [if_neg h1, i0, Option.bind_some, hd, wI_succ i (by omega)]
          have h20' : ∀ r ∈ shares.take (i + 1), r.length ≤ 20 := by
            rw [htk]; intro r hr
            rcases List.mem_append.1 hr with hr | hr
            · exact h20 r hr
            · rw [List.mem_singleton.1 hr]; omega
          by_cases h2 : (shares.getD i []).length = d
          · rw [if_pos (by omega)]
            refine .inl ⟨_, rfl, ⟨i + 1, hlt, rfl, h20', ?_⟩, by simp only [Int.toNat_natCast]; omega⟩
            have hb : (!decide ((shares.getD i []).length = d)) = false := by simp only [decide_eq_true h2]; rfl
            rw [htk, List.any_append, List.any_cons, List.any_nil, Bool.or_false, hb, Bool.or_false]; exact hw
          · rw [if_neg (by omega)]
            refine .inl ⟨_, rfl, ⟨i + 1, hlt, rfl, h20', ?_⟩, by simp only [Int.toNat_natCast]; omega⟩
            have hb : (!decide ((shares.getD i []).length = d)) = true := by simp only [decide_eq_false h2]; rfl
            rw [htk, List.any_append, List.any_cons, List.any_nil, Bool.or_false, hb, Bool.or_true]; rfl
      · obtain rfl : i = shares.length := by omega
        rw [if_neg (by omega)]
        rw [List.take_of_length_le (Nat.le_refl _)] at h20 hw
        exact .inr ⟨_, rfl, .inr ⟨w, rfl, h20, hw⟩⟩) (0, 0) ⟨0, Nat.zero_le _, rfl, by simp, by simp⟩
  rw [e1, Option.bind_some]
  rcases e2 with rfl | ⟨w, rfl, h20, hw⟩
  · rfl
  rw [Sum.elim_inl]
  have hu := unlike_eq shares (by omega) d (fun r hr => by
    have : shares.getD 0 [] = r := by simp [List.getD_eq_getElem?_getD, hr]
    rw [← hd, this])
  simp only [field_New, Option.bind_some, Join_eq, At_nil]
  by_cases hl : xs.length = shares.length
  · rw [if_pos (by omega), Option.bind_some]
    by_cases hU : (shares.any fun r => !decide (r.length = d)) = true
    · rw [hU] at hu hw
      rw [if_pos rfl] at hw
      subst hw
      rw [if_neg (by decide), Option.bind_some, At_form xs shares x hl hu, Option.bind_some, At_form xs shares 0 hl hu, Option.bind_some]
      rfl
    · have hU' : (shares.any fun r => !decide (r.length = d)) = false := by simpa using hU
      rw [hU'] at hu hw
      rw [if_neg (by decide)] at hw
      subst hw
      rw [if_pos rfl, ref03_Places_eq xs (by omega), Option.bind_some]
      have hck := poly_check_eq xs (by omega)
      generalize hc : (if xs.length = 0 then (5 : Int) else if 255 < xs.length then 4 else if xs.Nodup then 0 else 6) = c at hck ⊢
      by_cases hc0 : c = 0
      · subst hc0
        have h0 : xs.length ≠ 0 := fun e => by rw [if_pos e] at hc; cases hc
        have hn : xs.Nodup := by
          rw [if_neg h0, if_neg (by omega)] at hc
          split at hc
          · assumption
          · cases hc
        have hr : ∀ r ∈ shares, r.length = d := by
          rw [List.any_eq_false] at hU'
          intro r hr; simpa using hU' r hr
        have hdl : d ≤ 20 := by rw [← hd]; exact h20 _ (getD_mem (by omega))
        simp only [Option.bind_some]
        rw [At_ok xs shares d x hl h0 (by omega) hn hr (by omega), Option.bind_some, At_ok xs shares d 0 hl h0 (by omega) hn hr (by omega), Option.bind_some, ref08_At_eq xs shares d x hl h0 (by omega) hr (by omega), ref08_At_eq xs shares d 0 hl h0 (by omega) hr (by omega)]
        simp
      · simp only [Option.bind_some]
        rw [At_bad xs shares x c hl hu hck hc0, Option.bind_some, At_bad xs shares 0 c hl hu hck hc0, Option.bind_some]
        simp [hc0]
        decide
  · rw [if_neg (by omega), Option.bind_some, if_neg (by decide), Option.bind_some, At_lens xs shares x hl, Option.bind_some, At_lens xs shares 0 hl, Option.bind_some]
    rfl
end Gk

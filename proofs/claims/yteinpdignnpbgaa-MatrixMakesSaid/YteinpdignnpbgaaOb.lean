/- Chapter 4: the law MatrixMakes. No condition. -/
import Derived.Test.YteinpdignnpbgaaL4b
import Derived.Test.YteinpdignnpbgaaOa
set_option linter.unusedSimpArgs false
set_option linter.unusedVariables false
namespace Gk
open Gf
theorem want_loop (l : List (List UInt8)) (h0 : 0 < l.length) (h1 : l.length ≤ most) : ∃ x : Int, iterC (fun s24 : Int × Int => (if s24.2 < (l.length : Int) then ((idx l s24.2).bind fun c27 => ((idx l 0).bind fun c29 => (if (c27.length : Int) = (c29.length : Int) then some (.inl (s24.1, (wI (s24.2 + 1)))) else some (.inl (1, (wI (s24.2 + 1))))))) else some (.inr s24.1))) (0, 0) = some x ∧ (Rec l (l.getD 0 []).length → x = 0) ∧ (¬ Rec l (l.getD 0 []).length → x = 1) := by
  have hm := most_lt'
  refine iterC_up (fun i (s : Int) => ((∀ j, j < i → (l.getD j []).length = (l.getD 0 []).length) → s = 0) ∧ (¬ (∀ j, j < i → (l.getD j []).length = (l.getD 0 []).length) → s = 1)) l.length _ ⟨fun _ => rfl, fun h => absurd (fun j hj => absurd hj (Nat.not_lt_zero _)) h⟩ ?_ ?_
  · intro i s hi hI
    simp only
    rw [if_pos (by omega), idx_getD hi, Option.bind_some, idx_0 h0, Option.bind_some]
    by_cases e : (l.getD i []).length = (l.getD 0 []).length
    · refine ⟨s, by rw [if_pos (by omega), wI_succ i (by omega)], fun h => hI.1 fun j hj => h j (by omega), fun h => hI.2 fun h2 => h fun j hj => ?_⟩
      by_cases ej : j = i
      · rw [ej]; exact e
      · exact h2 j (by omega)
    · exact ⟨1, by rw [if_neg (by omega), wI_succ i (by omega)], fun h => absurd (h i (by omega)) e, fun _ => rfl⟩
  · intro s hI
    exact ⟨s, by simp, fun h => hI.1 h, fun h => hI.2 h⟩
theorem fits_loop (p : List Int) (n : Nat) (hp : p.length ≤ most) (b : Bool) : iterC (fun s49 : Bool × Int => (if s49.2 < (p.length : Int) then ((idx p s49.2).bind fun c52 => (if s49.1 = true then (if 0 ≤ c52 then some (.inl ((decide (c52 < (n : Int))), (wI (s49.2 + 1)))) else some (.inl (false, (wI (s49.2 + 1))))) else some (.inl (false, (wI (s49.2 + 1)))))) else some (.inr s49.1))) (b, 0) = some (b && p.all (fitP n)) := by
  have hm := most_lt'
  refine iterC_count (fun i => (b && (p.take i).all (fitP n), (i : Int))) p.length _ (by simp) ?_ (by simp)
  intro i hi
  simp only
  rw [if_pos (by omega), idx_gI hi, Option.bind_some, wI_succ i (by omega), take_gI hi, List.all_append]
  cases hb : (b && (p.take i).all (fitP n)) with
  | false => rw [if_neg (by decide), ← Bool.and_assoc, hb, Bool.false_and]
  | true =>
    rw [if_pos rfl, ← Bool.and_assoc, hb, Bool.true_and]
    simp only [List.all_cons, List.all_nil, Bool.and_true, fitP]
    by_cases h : 0 ≤ p.getD i 0
    · rw [if_pos h, decide_eq_true h, Bool.true_and]
    · rw [if_neg h, decide_eq_false h, Bool.false_and]
theorem picked_loop (l : List (List UInt8)) (p : List Int) (hp : p.length ≤ most) (hf : p.all (fitP l.length) = true) (m : List (List UInt8)) (hm : m = p.map fun i => l.getD i.toNat []) : iterC (fun s67 : Int => (if s67 < (m.length : Int) then ((idx m s67).bind fun c70 => ((idx p s67).bind fun c74 => ((idx l c74).bind fun c75 => (if c70 = c75 then some (.inl (wI (s67 + 1))) else some (.inr (Sum.inr (α := Unit) false)))))) else some (.inr (.inl ())))) 0 = some (.inl ()) := by
  have hmo := most_lt'
  have hl : m.length = p.length := by rw [hm, List.length_map]
  refine iterC_count (fun i => (i : Int)) p.length _ rfl ?_ (by simp [hl])
  intro i hi
  have e : m.getD i [] = l.getD (p.getD i 0).toNat [] := by rw [hm]; simp [List.getD_eq_getElem?_getD, hi]
  rw [if_pos (by omega), idx_getD (by omega), Option.bind_some, idx_gI hi, Option.bind_some, idx_int (all_gI hf hi), Option.bind_some, e, if_pos rfl, wI_succ i (by omega)]
theorem none_loop (l : List (List UInt8)) (p : List Int) : iterC (fun s67 : Int => (if s67 < ((([] : List (List UInt8))).length : Int) then ((idx ([] : List (List UInt8)) s67).bind fun c70 => ((idx p s67).bind fun c74 => ((idx l c74).bind fun c75 => (if c70 = c75 then some (.inl (wI (s67 + 1))) else some (.inr (Sum.inr (α := Unit) false)))))) else some (.inr (.inl ())))) 0 = some (.inl ()) :=
  iterC_count (fun i => (i : Int)) 0 _ rfl (fun i hi => absurd hi (Nat.not_lt_zero _)) (by simp)
theorem law04_MatrixMakes_true (l : List (List UInt8)) (p : List Int) : law04_MatrixMakes l p = some true := by
  have hmo := most_lt'
  have h2 := h257
  obtain ⟨fb, hf1, hf2⟩ := few4_eq l
  by_cases hfb : fb = true
  case neg =>
    unfold law04_MatrixMakes
    rw [lives4, Option.bind_some, if_neg (by decide), hf1, Option.bind_some, if_pos (by simp [hfb])]; rfl
  subst hfb
  obtain ⟨ht, h66⟩ := hf2 rfl
  unfold law04_MatrixMakes
  rw [lives4, Option.bind_some, if_neg (by decide), hf1, Option.bind_some, if_neg (by decide)]
  by_cases h70 : 70 < (p.length : Int)
  · rw [if_pos h70]; rfl
  rw [if_neg h70]
  -- the rows that make none
  by_cases hbad : l.length = 0 ∨ 64 < l.length ∨ (l.getD 0 []).length = 0 ∨ 64 < (l.getD 0 []).length
  · rw [New_range l hbad, Option.bind_some]
    refine bind_of (x := 2) ?_ ?_
    · by_cases a1 : (l.length : Int) = 0
      · rw [if_pos a1]
      rw [if_neg a1]
      by_cases a2 : 64 < (l.length : Int)
      · rw [if_pos a2]
      rw [if_neg a2, idx_0 (by omega), Option.bind_some]
      by_cases a3 : ((l.getD 0 []).length : Int) = 0
      · rw [if_pos a3]
      rw [if_neg a3, if_pos (by omega)]
    · rw [if_pos rfl, if_neg (by decide), Size_none]; rfl
  obtain ⟨w, hw, hw0, hw1⟩ := want_loop l (by omega) (by omega)
  have hwant : (if (l.length : Int) = 0 then some 2 else (if 64 < (l.length : Int) then some 2 else ((idx l 0).bind fun c19 => (if (c19.length : Int) = 0 then some 2 else (if 64 < (c19.length : Int) then some 2 else
      ((iterC (fun s24 : Int × Int => (if s24.2 < (l.length : Int) then ((idx l s24.2).bind fun c27 => ((idx l 0).bind fun c29 => (if (c27.length : Int) = (c29.length : Int) then some (.inl (s24.1, (wI (s24.2 + 1)))) else some (.inl (1, (wI (s24.2 + 1))))))) else some (.inr s24.1))) (0, 0)).bind fun x24 => some x24)))))) = some w := by
    have hw := hw
    rw [idx_0 (by omega)] at hw
    rw [if_neg (by omega), if_neg (by omega), idx_0 (by omega), Option.bind_some, if_neg (by omega), if_neg (by omega), hw]; rfl
  by_cases hrec : Rec l (l.getD 0 []).length
  case neg =>
    rw [New_arg l _ (by omega) (by omega) (by omega) (by omega) rfl hrec, Option.bind_some, hwant, Option.bind_some, hw1 hrec, if_pos rfl, if_neg (by decide), Size_none]; rfl
  rw [New_ok l _ (by omega) (by omega) (by omega) (by omega) hrec, Option.bind_some, hwant, Option.bind_some, hw0 hrec, if_pos rfl, if_pos rfl]
  have hS : law04_rows (some l) = some l := rows_some l (by omega) (by omega) (fun i hi => by rw [hrec i hi]; omega)
  have hE : law04_same l l = some true := by rw [same_eq l l (by omega), decide_eq_true rfl]
  have hR1 := Row_bad l (-1) (.inl (by decide))
  have hR2 := Row_bad l (l.length : Int) (.inr (Int.le_refl _))
  cases hfit : (decide (1 ≤ p.length ∧ p.length ≤ 64) && p.all (fitP l.length)) with
  | false =>
    rw [Pick_range l p (by omega) hfit, Option.bind_some]
    have hL := none_loop l p
    by_cases h1 : 1 ≤ (p.length : Int)
    · rw [if_pos h1, fits_loop p l.length (by omega), Option.bind_some]
      have : (decide ((p.length : Int) ≤ 64) && p.all (fitP l.length)) = false := by
        rw [← hfit]; congr 1; rw [decide_eq_decide]; omega
      rw [this, if_neg (by decide), if_pos (by rfl), if_pos rfl, hS, Option.bind_some, hE, Option.bind_some, if_neg (by decide), rows_none, Option.bind_some, hL, Option.bind_some, Sum.elim_inl, hR1, Option.bind_some, hR2]; rfl
    · rw [if_neg h1, fits_loop p l.length (by omega), Option.bind_some, Bool.false_and, if_neg (by decide), if_pos (by rfl), if_pos rfl, hS, Option.bind_some, hE, Option.bind_some, if_neg (by decide), rows_none, Option.bind_some, hL, Option.bind_some, Sum.elim_inl, hR1, Option.bind_some, hR2]; rfl
  | true =>
    rw [Bool.and_eq_true, decide_eq_true_eq] at hfit
    obtain ⟨hp1, hp2⟩ := hfit
    have hL := picked_loop l p (by omega) hp2 _ rfl
    have hP : law04_rows (some (p.map fun i => l.getD i.toNat [])) = some (p.map fun i => l.getD i.toNat []) := by
      refine rows_some _ (by rw [List.length_map]; omega) (by rw [List.length_map]; omega) fun i hi => ?_
      rw [List.length_map] at hi
      have hk := all_gI hp2 hi
      have e : (p.map fun i => l.getD i.toNat []).getD i [] = l.getD (p.getD i 0).toNat [] := by simp [List.getD_eq_getElem?_getD, hi]
      simp only [fitP, Bool.and_eq_true, decide_eq_true_eq] at hk
      rw [e, hrec _ (by omega)]; omega
    rw [Pick_ok l _ p (by omega) hp1 (by omega) (by omega) hrec hp2, Option.bind_some, if_pos (by omega), fits_loop p l.length (by omega), Option.bind_some, hp2, decide_eq_true (show (p.length : Int) ≤ 64 by omega), if_neg (by rw [decide_eq_true (show ((some (p.map fun i => l.getD i.toNat []), (0 : Int)) : Option (List (List UInt8)) × Int).2 = 0 from rfl)]; decide), if_neg (by decide), hS, Option.bind_some, hE, Option.bind_some, if_neg (by decide), hP, Option.bind_some, hL, Option.bind_some, Sum.elim_inl, hR1, Option.bind_some, hR2]; rfl
end Gk

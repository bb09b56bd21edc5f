/- Chapter 3: places, weights. No condition but lengths. -/
import Derived.Test.YtabcmfkmddlaaaaF5
import Derived.Test.YtabcmfkmddlaaaaMr0
import Derived.Test.YtabcmfkmddlaaaaMv
set_option linter.unusedSimpArgs false
set_option linter.unusedVariables false
namespace Gk
open Gf

/-! ### Which places may be -/
theorem mput_keys (m : List (UInt8 × Bool)) (k : UInt8) (v : Bool) (a : UInt8) : a ∈ (mput m k v).map (·.1) ↔ a = k ∨ a ∈ m.map (·.1) := by
  unfold mput
  split
  · rename_i h
    rw [List.map_map]
    have : ((fun x : UInt8 × Bool => x.1) ∘ fun p => if p.1 = k then (p.1, v) else p) = (fun x => x.1) := by
      funext p; simp only [Function.comp]; split <;> rfl
    rw [this]
    exact ⟨fun h => .inr h, fun h' => h'.elim (fun e => e ▸ h) id⟩
  · simp only [List.map_append, List.mem_append, List.map_cons, List.map_nil, List.mem_singleton]
    exact ⟨fun h => h.symm, fun h => h.symm⟩
theorem mput_len (m : List (UInt8 × Bool)) (k : UInt8) (v : Bool) : (mput m k v).length = if k ∈ m.map (·.1) then m.length else m.length + 1 := by
  unfold mput
  split <;> simp
/-- How many unlike numbers there are. -/
theorem seen_inv (xs : List UInt8) (i : Nat) (hi : i < xs.length) (m : List (UInt8 × Bool)) (h : (∀ a, a ∈ m.map (·.1) ↔ a ∈ xs.take i) ∧ m.length ≤ i ∧ (m.length = i ↔ (xs.take i).Nodup)) :
    (∀ a, a ∈ (mput m (co xs i) true).map (·.1) ↔ a ∈ xs.take (i + 1)) ∧ (mput m (co xs i) true).length ≤ i + 1 ∧ ((mput m (co xs i) true).length = i + 1 ↔ (xs.take (i + 1)).Nodup) := by
  obtain ⟨h1, h2, h3⟩ := h
  rw [take_snoc hi]
  refine ⟨fun a => ?_, ?_, ?_⟩
  · rw [mput_keys, h1 a, List.mem_append, List.mem_singleton]
    exact ⟨fun h => h.symm, fun h => h.symm⟩
  · rw [mput_len]; split <;> omega
  · rw [mput_len, List.nodup_append]
    by_cases hk : co xs i ∈ m.map (·.1)
    · rw [if_pos hk]
      refine ⟨fun h => by omega, fun h => ?_⟩
      exact absurd rfl (h.2.2 _ ((h1 _).1 hk) _ (by simp))
    · rw [if_neg hk]
      refine ⟨fun h => ⟨h3.1 (by omega), by simp, fun a ha b hb e => ?_⟩, fun h => by rw [h3.2 h.1]⟩
      rw [List.mem_singleton] at hb
      subst hb; subst e
      exact hk ((h1 _).2 ha)
theorem poly_check_eq (xs : List UInt8) (h : xs.length ≤ most) : poly_check true xs = some (if xs.length = 0 then 5 else if 255 < xs.length then 4 else if xs.Nodup then 0 else 6) := by
  unfold poly_check
  have hm := most_lt'
  obtain ⟨m, e1, e2, e3⟩ := iterC_up (s0 := ([] : List (UInt8 × Bool))) (fun i m => (∀ a, a ∈ m.map (·.1) ↔ a ∈ xs.take i) ∧ m.length ≤ i ∧ (m.length = i ↔ (xs.take i).Nodup)) xs.length (fun m : List (UInt8 × Bool) => m.length ≤ xs.length ∧ (m.length = xs.length ↔ xs.Nodup))
    (body := fun s4 : (List (UInt8 × Bool)) × Int => (if s4.2 < (xs.length : Int) then ((idx xs s4.2).bind fun c7 => some (.inl ((mput s4.1 c7 true), (wI (s4.2 + 1))))) else some (.inr s4.1)))
    ⟨by simp, by simp, by simp⟩
    (fun i m hi hI => ⟨_, by simp only; rw [if_pos (by omega), idx_co hi, Option.bind_some, wI_succ i (by omega)], seen_inv xs i hi m hI⟩)
    (fun m hI => ⟨m, by simp, hI.2.1, by rw [hI.2.2, List.take_of_length_le (Nat.le_refl _)]⟩)
  rw [e1, Option.bind_some, if_neg (by simp)]
  by_cases h0 : xs.length = 0
  · rw [if_pos (by omega), if_pos h0]
  · rw [if_neg (by omega), if_neg h0]
    by_cases h1 : 255 < xs.length
    · rw [if_pos (by omega), if_pos h1]
    · rw [if_neg (by omega), if_neg h1]
      by_cases h2 : xs.Nodup
      · rw [if_pos h2, if_pos (by rw [e3.2 h2])]
      · rw [if_neg h2, if_neg (fun e => h2 (e3.1 (by omega)))]
theorem poly_check_nil (xs : List UInt8) (h : xs.length ≤ most) : poly_check false xs = some 1 := by
  unfold poly_check
  have hm := most_lt'
  obtain ⟨m, e1, _⟩ := iterC_up (s0 := ([] : List (UInt8 × Bool))) (fun i m => True) xs.length (fun m : List (UInt8 × Bool) => True)
    (body := fun s4 : (List (UInt8 × Bool)) × Int => (if s4.2 < (xs.length : Int) then ((idx xs s4.2).bind fun c7 => some (.inl ((mput s4.1 c7 true), (wI (s4.2 + 1))))) else some (.inr s4.1)))
    trivial
    (fun i m hi hI => ⟨_, by simp only; rw [if_pos (by omega), idx_co hi, Option.bind_some, wI_succ i (by omega)], trivial⟩)
    (fun m hI => ⟨m, by simp, trivial⟩)
  rw [e1, Option.bind_some, if_pos (by simp)]

/-! ### Weights -/
def wts (xs : List UInt8) (x : UInt8) : List UInt8 := (List.range xs.length).map fun i => wt xs i x
theorem wts_len (xs : List UInt8) (x : UInt8) : (wts xs x).length = xs.length := by simp [wts]
theorem co_wts (xs : List UInt8) (x : UInt8) (i : Nat) (h : i < xs.length) : co (wts xs x) i = wt xs i x := by
  simp [co, wts, List.getD_eq_getElem?_getD, h]
theorem poly_Weights_bad (xs : List UInt8) (x : UInt8) (e : Int) (h : poly_check true xs = some e) (he : e ≠ 0) : poly_Weights true xs x = some ([], e) := by
  unfold poly_Weights
  rw [h, Option.bind_some, if_neg he]
theorem poly_Weights_nil (xs : List UInt8) (x : UInt8) (h : xs.length ≤ most) : poly_Weights false xs x = some ([], 1) := by
  unfold poly_Weights
  rw [poly_check_nil xs h, Option.bind_some, if_neg (by decide)]
theorem poly_Weights_eq (xs : List UInt8) (x : UInt8) (h0 : xs.length ≠ 0) (h1 : xs.length ≤ 255) (hn : xs.Nodup) : poly_Weights true xs x = some (wts xs x, 0) := by
  unfold poly_Weights
  have hm := most_lt'
  have hh := h257
  rw [poly_check_eq xs (by omega), if_neg h0, if_neg (by omega), if_pos hn, Option.bind_some, if_pos rfl, makeL_nat _ _ (by omega), Option.bind_some]
  obtain ⟨s, e1, e2⟩ := iterC_up (s0 := List.replicate xs.length (0 : UInt8)) (fun i s => s.length = xs.length ∧ ∀ j, j < i → co s j = wt xs j x) xs.length (fun s : List UInt8 => s = wts xs x)
    (body := fun s7 : List UInt8 × Int => (if s7.2 < (xs.length : Int) then ((idx xs s7.2).bind fun c10 => ((iterC (fun s11 : UInt8 × UInt8 × Int => (if s11.2.2 < (xs.length : Int) then ((idx xs s11.2.2).bind fun c14 => (if s11.2.2 = s7.2 then some (.inl (s11.1, s11.2.1, (wI (s11.2.2 + 1)))) else
      ((field_Add x c14).bind fun r16 => ((field_Mul true s11.1 r16).bind fun r18 => ((field_Add c10 c14).bind fun r20 => ((field_Mul true s11.2.1 r20).bind fun r22 => some (.inl (r18, r22, (wI (s11.2.2 + 1)))))))))) else some (.inr (s11.1, s11.2.1)))) ((1 : UInt8), (1 : UInt8), 0)).bind fun x11 =>
      ((field_Div true x11.1 x11.2).bind fun r26 => ((idx s7.1 s7.2).bind fun c28 => some (.inl ((s7.1.set (s7.2 : Int).toNat r26.1), (wI (s7.2 + 1)))))))) else some (.inr s7.1)))
    ⟨by simp, fun j hj => absurd hj (Nat.not_lt_zero _)⟩
    (fun i s hi hI => by
      obtain ⟨hl, hs⟩ := hI
      have inner : iterC (fun s11 : UInt8 × UInt8 × Int => (if s11.2.2 < (xs.length : Int) then ((idx xs s11.2.2).bind fun c14 => (if s11.2.2 = (i : Int) then some (.inl (s11.1, s11.2.1, (wI (s11.2.2 + 1)))) else
          ((field_Add x c14).bind fun r16 => ((field_Mul true s11.1 r16).bind fun r18 => ((field_Add (co xs i) c14).bind fun r20 => ((field_Mul true s11.2.1 r20).bind fun r22 => some (.inl (r18, r22, (wI (s11.2.2 + 1)))))))))) else some (.inr (s11.1, s11.2.1)))) ((1 : UInt8), (1 : UInt8), 0)
          = some (pe xs i x xs.length, pe xs i (co xs i) xs.length) := by
        refine iterC_count (fun k => (pe xs i x k, pe xs i (co xs i) k, (k : Int))) xs.length _ rfl ?_ ?_
        · intro k hk
          simp only
          rw [if_pos (by omega), idx_co hk, Option.bind_some]
          by_cases hki : k = i
          · subst hki
            rw [if_pos rfl, wI_succ k (by omega)]
            simp [pe]
          · rw [if_neg (by omega)]
            simp only [Add_eq, Mul_eq, Option.bind_some]
            rw [wI_succ k (by omega)]
            simp [pe, hki]
        · simp
      refine ⟨s.set i (wt xs i x), ?_, by simpa using hl, fun j hj => ?_⟩
      · simp only
        rw [if_pos (by omega), idx_co hi, Option.bind_some, inner, Option.bind_some, Div_eq, if_neg (pe_ne hn hi _ (Nat.le_refl _)), Option.bind_some, idx_co (by omega), Option.bind_some, wI_succ i (by omega), Int.toNat_natCast]
        rfl
      · rw [co_set (by omega)]
        by_cases hji : j = i
        · rw [if_pos hji, hji]
        · rw [if_neg hji]; exact hs j (by omega))
    (fun s hI => ⟨s, by simp, eq_of_co (by rw [wts_len, hI.1]) (fun j => by
      by_cases hj : j < xs.length
      · rw [hI.2 j hj, co_wts xs x j hj]
      · rw [co_ge (by omega), co_ge (by rw [wts_len]; omega)])⟩)
  rw [e1, Option.bind_some, e2]

/-! ### Where a vanishing polynomial vanishes -/
theorem ev_van : ∀ (xs o : List UInt8) (y : UInt8), evp (xs.foldl vanStep o) y = 0 ↔ evp o y = 0 ∨ y ∈ xs
  | [], o, y => by simp
  | a :: xs, o, y => by
    rw [List.foldl_cons, ev_van xs (vanStep o a) y]
    have : evp (vanStep o a) y = mul (evp o y) (y ^^^ a) := by unfold vanStep; rw [ev_trim, ev_pmul, ev_lin]
    rw [this, List.mem_cons]
    constructor
    · rintro (h | h)
      · rcases mul_eq_zero h with h | h
        · exact .inl h
        · exact .inr (.inl (xor_eq_zero h))
      · exact .inr (.inr h)
    · rintro (h | h | h)
      · exact .inl (by rw [h, zero_mul])
      · exact .inl (by rw [h, xor_self, mul_zero])
      · exact .inr h
theorem van_root (xs : List UInt8) (y : UInt8) : evp (van xs) y = 0 ↔ y ∈ xs := by
  unfold van
  rw [ev_van]
  have : evp [1] y = 1 := by show 1 ^^^ mul 0 y = 1; rw [zero_mul, xor_zero]
  rw [this]
  constructor
  · rintro (h | h)
    · exact absurd h (by decide)
    · exact h
  · exact .inr
end Gk

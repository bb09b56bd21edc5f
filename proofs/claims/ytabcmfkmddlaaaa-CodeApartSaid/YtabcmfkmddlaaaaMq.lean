/- What chapter 3's functions come to, in plain Lean. No condition but lengths. -/
import Derived.Test.YtabcmfkmddlaaaaF3
import Derived.Test.YtabcmfkmddlaaaaF4
import Derived.Test.YtabcmfkmddlaaaaMd
import Derived.Test.YtabcmfkmddlaaaaMp
import Derived.Test.YtabcmfkmddlaaaaMz
set_option linter.unusedSimpArgs false
set_option linter.unusedVariables false
namespace Gk
open Gf

/-! ### Trim and degree -/
theorem degI_eq (p : List UInt8) : degI p = ((trim p).length : Int) - 1 := by
  unfold degI
  have hb := (trim_bound p (trim p).length).1 (Nat.le_refl _)
  by_cases h : trim p = []
  · rw [firstNZ_none, h]; · rfl
    intro x hx
    obtain ⟨k, hk, rfl⟩ := mem_revI hx
    rw [← co_lt hk]; exact trim_nil h k
  · have hpos := List.length_pos_iff.2 h
    have hle := trim_le p
    generalize hn : (trim p).length = n at *
    have hg := revI_get p (n - 1) (by omega)
    rw [show p.length - 1 - (n - 1) = p.length - n by omega] at hg
    obtain ⟨hlt, hge⟩ := List.getElem?_eq_some_iff.1 hg
    have hsplit : revI p = (revI p).take (p.length - n) ++ (((n - 1 : Nat) : Int), p[n - 1]) :: (revI p).drop (p.length - n + 1) := by
      rw [← hge, ← List.drop_eq_getElem_cons hlt, List.take_append_drop]
    rw [hsplit, firstNZ_stop]
    · omega
    · intro x hx
      obtain ⟨i, hi, rfl⟩ := List.getElem_of_mem hx
      rw [List.getElem_take]
      rw [List.length_take, revI_len] at hi
      have h1 := revI_get p (p.length - 1 - i) (by omega)
      rw [show p.length - 1 - (p.length - 1 - i) = i by omega] at h1
      obtain ⟨h2, h3⟩ := List.getElem?_eq_some_iff.1 h1
      rw [h3, ← co_lt (by omega)]
      exact hb _ (by omega)
    · rw [← co_lt (by omega), ← hn]
      exact trim_last p h
theorem poly_Degree_eq (p : List UInt8) (h : p.length ≤ most) : poly_Degree p = some (((trim p).length : Int) - 1) := by
  unfold poly_Degree
  rw [if_pos (by have := most_lt'; omega), degI_eq]
theorem poly_Trim_eq (p : List UInt8) (h : p.length ≤ most) : poly_Trim p = some (trim p) := by
  unfold poly_Trim
  have hl := trim_le p
  have hm := most_lt'
  rw [poly_Degree_eq p h, Option.bind_some, show ((trim p).length : Int) - 1 + 1 = ((trim p).length : Int) by omega, wI_nat (by omega)]
  have := subL_nat p 0 (trim p).length (Nat.zero_le _) hl
  rw [show ((0 : Nat) : Int) = 0 from rfl] at this
  rw [this, Option.bind_some, List.drop_zero, ← trim_take]
  unfold slices_Clone_sbytebyte
  rw [appL_nil _ (by omega)]; rfl
/-! ### Values -/
theorem revI_snd (p : List UInt8) : (revI p).map (·.2) = p.reverse := by
  simp only [revI, List.map_reverse]
  congr 1
  apply List.ext_getElem?
  intro i
  rw [List.getElem?_map, List.getElem?_mapIdx]
  cases p[i]? <;> rfl
theorem foldl_revI {σ : Type} (g : σ → UInt8 → σ) (p : List UInt8) (s : σ) : (revI p).foldl (fun s y => g s y.2) s = p.foldr (fun c s => g s c) s := by
  have : (revI p).foldl (fun s y => g s y.2) s = ((revI p).map (·.2)).foldl g s := by rw [List.foldl_map]
  rw [this, revI_snd, List.foldl_reverse]
theorem ev_foldr (x : UInt8) : ∀ p : List UInt8, p.foldr (fun c s => mul s x ^^^ c) 0 = evp p x
  | [] => rfl
  | c :: p => by
    rw [List.foldr_cons, ev_foldr x p]
    show mul (evp p x) x ^^^ c = c ^^^ mul (evp p x) x
    rw [xor_comm]
theorem ev_snoc (x c : UInt8) : ∀ p : List UInt8, evp (p ++ [c]) x = evp p x ^^^ mul c (pow x p.length)
  | [] => by show c ^^^ mul 0 x = 0 ^^^ mul c 1; rw [zero_mul, xor_zero, zero_xor, mul_one]
  | a :: p => by
    show a ^^^ mul (evp (p ++ [c]) x) x = (a ^^^ mul (evp p x) x) ^^^ mul c (mul (pow x p.length) x)
    rw [ev_snoc x c p, add_mul, xor_assoc, mul_assoc]
theorem ref03_Eval_eq (p : List UInt8) (x : UInt8) (h : p.length ≤ most) : ref03_Eval p x = some (evp p x) := by
  unfold ref03_Eval
  have hm := most_lt'
  refine bind_of ?_ rfl
  refine iterC_count (fun i => (evp (p.take i) x, pow x i, (i : Int))) p.length (evp p x) rfl ?_ ?_
  · intro i hi
    simp only
    rw [if_pos (by omega), idx_co hi]
    simp only [Option.bind_some, refMul_eq]
    rw [take_snoc hi, ev_snoc, List.length_take, Nat.min_eq_left (by omega), wI_succ i (by omega)]
    rfl
  · simp

/-! ### Sums -/
theorem maxI (a b : Nat) : (if (a : Int) < (b : Int) then (b : Int) else (a : Int)) = ((max a b : Nat) : Int) := by split <;> omega
/-- p and, beside it, q, added number by number. -/
theorem addLoop (M : Nat) (p q : List UInt8) (hp : p.length ≤ M) (hq : q.length ≤ M) (hM : M ≤ most) {body : List UInt8 × Int → Option ((List UInt8 × Int) ⊕ List UInt8)}
    (hb1 : ∀ (s : List UInt8) (i : Nat), i < q.length → i < s.length → body (s, (i : Int)) = some (.inl (s.set i (co s i ^^^ co q i), ((i + 1 : Nat) : Int))))
    (hb2 : ∀ s : List UInt8, body (s, (q.length : Int)) = some (.inr s)) :
    ∃ x, iterC body (copyL (List.replicate M 0) 0 p, 0) = some x ∧ x.length = M ∧ ∀ j, co x j = co p j ^^^ co q j := by
  refine iterC_up (fun i s => s.length = M ∧ ∀ j, co s j = co p j ^^^ (if j < i then co q j else 0)) q.length _ ?_ ?_ ?_
  · refine ⟨?_, fun j => ?_⟩
    · have := copyL_len (List.replicate M (0 : UInt8)) 0 p (Nat.zero_le _)
      simpa using this
    · have := co_copyL (List.replicate M 0) 0 p (by simpa using hp) j
      rw [show ((0 : Nat) : Int) = 0 from rfl] at this
      rw [this, co_rep]
      simp only [Nat.zero_le, true_and, Nat.zero_add, Nat.sub_zero, Nat.not_lt_zero, if_false, xor_zero]
      split
      · rfl
      · rw [co_ge (by omega)]
  · rintro i s hi ⟨hl, hs⟩
    refine ⟨_, hb1 s i hi (by omega), by simpa using hl, fun j => ?_⟩
    rw [co_set (by omega)]
    by_cases hj : j = i
    · subst hj; rw [if_pos rfl, hs j, if_neg (by omega), if_pos (by omega), xor_zero]
    · rw [if_neg hj, hs j]
      have : j < i + 1 ↔ j < i := by omega
      simp only [this]
  · rintro s ⟨hl, hs⟩
    refine ⟨s, hb2 s, hl, fun j => ?_⟩
    rw [hs j]
    split
    · rfl
    · rw [co_ge (show q.length ≤ j by omega)]
/-! ### Products -/
theorem mulLoop (P Q : List UInt8) (M : Nat) (hM : M = P.length + Q.length - 1) (hQ : Q ≠ []) (hm : P.length + Q.length ≤ most) {body : List UInt8 × Int → Option ((List UInt8 × Int) ⊕ List UInt8)}
    (hb1 : ∀ (s : List UInt8) (i : Nat), i < P.length → s.length = M → body (s, (i : Int)) = some (.inl (copyL s (i : Int) (sumL ((s.take (i + Q.length)).drop i) (co P i) Q), ((i + 1 : Nat) : Int))))
    (hb2 : ∀ s : List UInt8, body (s, (P.length : Int)) = some (.inr s)) :
    ∃ x, iterC body (List.replicate M 0, 0) = some x ∧ x.length = M ∧ ∀ j, co x j = co (pmul P Q) j := by
  have lq := List.length_pos_iff.2 hQ
  refine iterC_up (fun i s => s.length = M ∧ ∀ j, co s j = co (pmul (P.take i) Q) j) P.length _ ⟨by simp, fun j => by rw [co_rep]; simp [pmul, co_nil]⟩ ?_ ?_
  · rintro i s hi ⟨hl, hs⟩
    have hlen : (sumL ((s.take (i + Q.length)).drop i) (co P i) Q).length = Q.length := by rw [sumL_len]; simp; omega
    refine ⟨_, hb1 s i hi hl, by rw [copyL_len _ _ _ (by omega), hl], fun j => ?_⟩
    rw [co_copyL _ _ _ (by rw [hlen]; omega), hlen, take_snoc hi, co_pmul_snoc, ← hs j, List.length_take, Nat.min_eq_left (Nat.le_of_lt hi), co_sumL]
    by_cases h1 : i ≤ j ∧ j < i + Q.length
    · have hl2 : ((s.take (i + Q.length)).drop i).length = Q.length := by simp; omega
      rw [if_pos h1, if_neg (show ¬ j < i by omega), hl2, if_pos (show j - i < Q.length by omega), co_drop, co_take, show i + (j - i) = j by omega, if_pos (show j < i + Q.length by omega)]
    · rw [if_neg h1]
      by_cases h2 : j < i
      · rw [if_pos h2, xor_zero]
      · rw [if_neg h2, co_ge (show Q.length ≤ j - i by omega), mul_zero, xor_zero]
  · rintro s ⟨hl, hs⟩
    exact ⟨s, hb2 s, hl, fun j => by rw [hs j, List.take_of_length_le (Nat.le_refl _)]⟩
theorem poly_Mul_eq (p q : List UInt8) (hp : p.length ≤ most) (hq : q.length ≤ most) (h : trim p = [] ∨ trim q = [] ∨ (trim p).length + (trim q).length ≤ 257) : poly_Mul true p q = some (trim (pmul p q), 0) := by
  unfold poly_Mul
  rw [poly_Trim_eq p hp, Option.bind_some, poly_Trim_eq q hq, Option.bind_some, if_neg (by simp)]
  have hs : trim (pmul p q) = trim (pmul (trim p) (trim q)) := trim_ext _ _ (pmul_sim (trim_sim p).symm (trim_sim q).symm)
  by_cases h1 : trim p = []
  · rw [if_pos (by rw [h1]; rfl), hs, h1]; rfl
  · have l1 := List.length_pos_iff.2 h1
    rw [if_neg (by omega)]
    by_cases h2 : trim q = []
    · rw [if_pos (by rw [h2]; rfl), hs, h2, trim_ext _ [] (pmul_nilR _)]; rfl
    · have l2 := List.length_pos_iff.2 h2
      have h3 : (trim p).length + (trim q).length ≤ 257 := by rcases h with h | h | h <;> first | exact absurd h h1 | exact absurd h h2 | exact h
      rw [if_neg (by omega), wI_add _ _ (by omega), wI_pred _ (by omega) (by omega), if_neg (by omega), makeL_nat _ _ (by have := h257; omega), Option.bind_some]
      obtain ⟨x, e1, e2, e3⟩ := mulLoop (trim p) (trim q) _ rfl h2 (by have := h257; omega)
        (body := fun s12 : List UInt8 × Int => (if s12.2 < ((trim p).length : Int) then ((idx (trim p) s12.2).bind fun c15 => ((subL s12.1 s12.2 ((s12.1.length : Int))).bind fun c18 => ((subL s12.1 s12.2 ((wI (s12.2 + ((trim q).length : Int))))).bind fun c19 =>
          ((field_Sum true c19 c15 (trim q)).bind fun r20 => some (.inl ((copyL s12.1 s12.2 r20), (wI (s12.2 + 1)))))))) else some (.inr s12.1)))
        (fun s i hi hl => by
          simp only
          rw [if_pos (by omega), idx_co hi, Option.bind_some, subL_nat _ _ _ (by omega) (Nat.le_refl _), Option.bind_some, wI_add _ _ (by omega), subL_nat _ _ _ (by omega) (by omega), Option.bind_some,
            Sum_eq _ _ _ (by have := h257; simp; omega), Option.bind_some, wI_succ i (by omega)])
        (fun s => by simp)
      rw [e1, Option.bind_some, hs]
      congr 2
      refine eq_of_co ?_ (fun j => by rw [e3, co_trim])
      rw [e2, pmul_trim_len (trim_trim p) (trim_trim q) h1 h2]
theorem poly_Mul_long (p q : List UInt8) (hp : p.length ≤ most) (hq : q.length ≤ most) (h1 : trim p ≠ []) (h2 : trim q ≠ []) (h : 257 < (trim p).length + (trim q).length) : poly_Mul true p q = some ([], 4) := by
  unfold poly_Mul
  have l1 := List.length_pos_iff.2 h1
  have l2 := List.length_pos_iff.2 h2
  have t1 := trim_le p
  have t2 := trim_le q
  have hm : most + most < 9223372036854775807 := by decide
  rw [poly_Trim_eq p hp, Option.bind_some, poly_Trim_eq q hq, Option.bind_some, if_neg (by simp), if_neg (by omega), if_neg (by omega), wI_add _ _ (by omega), wI_pred _ (by omega) (by omega), if_pos (by omega)]
theorem poly_Mul_nil (p q : List UInt8) (hp : p.length ≤ most) (hq : q.length ≤ most) : poly_Mul false p q = some ([], 1) := by
  unfold poly_Mul
  rw [poly_Trim_eq p hp, Option.bind_some, poly_Trim_eq q hq, Option.bind_some, if_pos (by simp)]
end Gk

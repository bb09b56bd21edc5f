/- Interpolation over GF(256): roots, Lagrange's and Newton's way. Plain. No condition. -/
import Derived.Test.YtabcmfkmddlaaaaMp
set_option linter.unusedSimpArgs false
set_option linter.unusedVariables false
namespace Gf

/-! ### Degrees -/
/-- How many numbers a polynomial has, without noughts at the end. -/
def dg (p : List UInt8) : Nat := (trim p).length
theorem dg_le {p : List UInt8} {n : Nat} : dg p ≤ n ↔ ∀ i, n ≤ i → co p i = 0 := trim_bound p n
theorem dg_len (p : List UInt8) : dg p ≤ p.length := trim_le p
theorem dg_sim {p q : List UInt8} (h : Sim p q) : dg p = dg q := congrArg List.length (trim_ext _ _ h)
theorem dg_pplus {p q : List UInt8} {n : Nat} (hp : dg p ≤ n) (hq : dg q ≤ n) : dg (pplus p q) ≤ n :=
  dg_le.2 fun i hi => by rw [co_pplus, dg_le.1 hp i hi, dg_le.1 hq i hi, xor_zero]
theorem dg_map {p : List UInt8} {n : Nat} (c : UInt8) (hp : dg p ≤ n) : dg (p.map (mul c)) ≤ n :=
  dg_le.2 fun i hi => by rw [co_map, dg_le.1 hp i hi, mul_zero]
theorem dg_pmul {p q : List UInt8} {a b : Nat} (hp : dg p ≤ a) (hq : dg q ≤ b) : dg (pmul p q) ≤ a + b - 1 :=
  dg_le.2 fun i hi => by
    rw [← pmul_sim (trim_sim p) (trim_sim q) i]
    exact co_pmul_ge (by unfold dg at hp hq; omega)
theorem dg_lin (a : UInt8) : dg [a, 1] ≤ 2 := dg_len _
theorem ev_lin (a x : UInt8) : evp [a, 1] x = x ^^^ a := by
  show a ^^^ mul (1 ^^^ mul 0 x) x = x ^^^ a
  rw [zero_mul, xor_zero, one_mul, xor_comm]

/-! ### A polynomial with as many roots as numbers is nothing -/
def syn : List UInt8 → UInt8 → List UInt8
  | [], _ => []
  | _ :: p, a => evp p a :: syn p a
theorem co_syn : ∀ (p : List UInt8) (a : UInt8) (i : Nat), co (syn p a) i = evp (p.drop (i + 1)) a
  | [], a, i => by simp [syn, co_nil, evp]
  | c :: p, a, 0 => by simp [syn, co_zero]
  | c :: p, a, i + 1 => by
    show co (evp p a :: syn p a) (i + 1) = _
    rw [co_succ, co_syn p a i]; rfl
theorem ev_drop : ∀ (p : List UInt8) (a : UInt8) (i : Nat), evp (p.drop i) a = co p i ^^^ mul (evp (p.drop (i + 1)) a) a
  | [], a, i => by simp [co_nil, evp, zero_mul]
  | c :: p, a, 0 => by simp [co_zero, evp]
  | c :: p, a, i + 1 => by rw [List.drop_succ_cons, List.drop_succ_cons, co_succ]; exact ev_drop p a i
theorem ev_syn : ∀ (p : List UInt8) (a x : UInt8), evp p x = mul (x ^^^ a) (evp (syn p a) x) ^^^ evp p a
  | [], a, x => by simp [syn, evp, mul_zero]
  | c :: p, a, x => by
    show c ^^^ mul (evp p x) x = mul (x ^^^ a) (evp p a ^^^ mul (evp (syn p a) x) x) ^^^ (c ^^^ mul (evp p a) a)
    rw [ev_syn p a x, mul_add, add_mul, add_mul x a (evp p a), mul_assoc, mul_comm x (evp p a), mul_comm a (evp p a)]
    generalize mul (x ^^^ a) (mul (evp (syn p a) x) x) = A
    generalize mul (evp p a) x = B
    generalize mul (evp p a) a = C
    simp only [xor_comm, xor_left_comm, xor_assoc]
    rw [xor_self, xor_zero]
theorem roots : ∀ (xs : List UInt8), xs.Nodup → ∀ p : List UInt8, dg p ≤ xs.length → (∀ a ∈ xs, evp p a = 0) → ∀ i, co p i = 0
  | [], _, p, hd, _, i => dg_le.1 hd i (Nat.zero_le _)
  | a :: xs, hn, p, hd, hz, i => by
    rw [List.nodup_cons] at hn
    have ha := hz a (by simp)
    have hs : ∀ i, co (syn p a) i = 0 := by
      refine roots xs hn.2 (syn p a) (dg_le.2 fun i hi => ?_) (fun b hb => ?_)
      · rw [co_syn]
        refine ev_zero _ a fun j => ?_
        have : co (p.drop (i + 1)) j = co p (i + 1 + j) := by simp [co, List.getD_eq_getElem?_getD]
        rw [this]
        exact dg_le.1 hd _ (by simp only [List.length_cons]; omega)
      · have h1 := ev_syn p a b
        rw [hz b (by simp [hb]), ha, xor_zero] at h1
        rcases mul_eq_zero h1.symm with h | h
        · exact absurd (xor_eq_zero h) (fun e => hn.1 (e ▸ hb))
        · exact h
    have h2 := ev_drop p a i
    rw [← co_syn, hs i, zero_mul, xor_zero] at h2
    rw [← h2]
    cases i with
    | zero => rw [List.drop_zero]; exact ha
    | succ i => rw [← co_syn]; exact hs i
/-- Two polynomials of few enough numbers that agree at as many places are one. -/
theorem agree {xs : List UInt8} (hn : xs.Nodup) {p q : List UInt8} (hp : dg p ≤ xs.length) (hq : dg q ≤ xs.length) (h : ∀ a ∈ xs, evp p a = evp q a) : Sim p q := by
  intro i
  have := roots xs hn (pplus p q) (dg_pplus hp hq) (fun a ha => by rw [ev_pplus, h a ha, xor_self]) i
  rw [co_pplus] at this
  exact xor_eq_zero this

/-! ### Products over all places but one -/
def pe (xs : List UInt8) (i : Nat) (x : UInt8) : Nat → UInt8
  | 0 => 1
  | n + 1 => if n = i then pe xs i x n else mul (pe xs i x n) (x ^^^ co xs n)
def pep (xs : List UInt8) (i : Nat) : Nat → List UInt8
  | 0 => [1]
  | n + 1 => if n = i then pep xs i n else pmul (pep xs i n) [co xs n, 1]
theorem ev_pep (xs : List UInt8) (i : Nat) (x : UInt8) : ∀ n, evp (pep xs i n) x = pe xs i x n
  | 0 => by show 1 ^^^ mul 0 x = 1; rw [zero_mul, xor_zero]
  | n + 1 => by
    unfold pep pe
    split
    · exact ev_pep xs i x n
    · rw [ev_pmul, ev_pep xs i x n, ev_lin]
theorem dg_pep (xs : List UInt8) (i : Nat) : ∀ n, dg (pep xs i n) ≤ n + 1 ∧ (i < n → dg (pep xs i n) ≤ n)
  | 0 => ⟨dg_len _, fun h => by omega⟩
  | n + 1 => by
    obtain ⟨h1, h2⟩ := dg_pep xs i n
    unfold pep
    split
    · rename_i h; exact ⟨by omega, fun _ => h1⟩
    · rename_i h
      refine ⟨?_, fun hi => ?_⟩
      · have := dg_pmul h1 (dg_lin (co xs n)); omega
      · have := dg_pmul (h2 (by omega)) (dg_lin (co xs n)); omega
theorem pe_zero (xs : List UInt8) (i j : Nat) (hij : j ≠ i) : ∀ n, j < n → pe xs i (co xs j) n = 0
  | n + 1, h => by
    unfold pe
    by_cases hj : j = n
    · subst hj; rw [if_neg hij, xor_self, mul_zero]
    · have := pe_zero xs i j hij n (by omega)
      split
      · exact this
      · rw [this, zero_mul]
theorem co_inj {xs : List UInt8} (hn : xs.Nodup) {i j : Nat} (hi : i < xs.length) (hj : j < xs.length) (h : co xs i = co xs j) : i = j := by
  rw [co_lt hi, co_lt hj] at h
  rcases Nat.lt_trichotomy i j with h1 | h1 | h1
  · exact absurd h (List.pairwise_iff_getElem.1 hn i j hi hj h1)
  · exact h1
  · exact absurd h.symm (List.pairwise_iff_getElem.1 hn j i hj hi h1)
theorem pe_ne {xs : List UInt8} (hn : xs.Nodup) {i : Nat} (hi : i < xs.length) : ∀ n, n ≤ xs.length → pe xs i (co xs i) n ≠ 0
  | 0, _ => by show (1 : UInt8) ≠ 0; decide
  | n + 1, h => by
    unfold pe
    have := pe_ne hn hi n (by omega)
    split
    · exact this
    · rename_i hne
      exact mul_ne this (fun e => hne (co_inj hn (by omega) hi (xor_eq_zero e).symm))
/-- What the value at the i-th place counts for that at x. -/
def wt (xs : List UInt8) (i : Nat) (x : UInt8) : UInt8 := mul (pe xs i x xs.length) (inv (pe xs i (co xs i) xs.length))
/-- Sums. -/
def sm (f : Nat → UInt8) : Nat → UInt8
  | 0 => 0
  | n + 1 => sm f n ^^^ f n
theorem sm_one (f : Nat → UInt8) (j : Nat) : ∀ n, (∀ i, i < n → i ≠ j → f i = 0) → sm f n = if j < n then f j else 0
  | 0, _ => rfl
  | n + 1, h => by
    unfold sm
    rw [sm_one f j n (fun i hi => h i (by omega))]
    by_cases hj : j < n
    · rw [if_pos hj, if_pos (by omega), h n (by omega) (by omega), xor_zero]
    · rw [if_neg hj, zero_xor]
      by_cases hn : n = j
      · subst hn; rw [if_pos (by omega)]
      · rw [if_neg (by omega)]; exact h n (by omega) hn
theorem sm_congr {f g : Nat → UInt8} : ∀ n, (∀ i, i < n → f i = g i) → sm f n = sm g n
  | 0, _ => rfl
  | n + 1, h => by unfold sm; rw [sm_congr n (fun i hi => h i (by omega)), h n (by omega)]
/-- Lagrange's polynomial of these factors. -/
def lag (xs : List UInt8) (f : Nat → UInt8) : Nat → List UInt8
  | 0 => []
  | m + 1 => pplus (lag xs f m) ((pep xs m xs.length).map (mul (f m)))
theorem ev_lag (xs : List UInt8) (f : Nat → UInt8) (x : UInt8) : ∀ m, evp (lag xs f m) x = sm (fun i => mul (f i) (pe xs i x xs.length)) m
  | 0 => rfl
  | m + 1 => by
    unfold lag sm
    rw [ev_pplus, ev_lag xs f x m, ev_map, ev_pep]
theorem dg_lag (xs : List UInt8) (f : Nat → UInt8) : ∀ m, m ≤ xs.length → dg (lag xs f m) ≤ xs.length
  | 0, _ => Nat.zero_le _
  | m + 1, h => dg_pplus (dg_lag xs f m (by omega)) (dg_map _ ((dg_pep xs m xs.length).2 (by omega)))
/-- The values that Lagrange's polynomial has at the places. -/
theorem lag_at {xs : List UInt8} (hn : xs.Nodup) (ys : Nat → UInt8) {j : Nat} (hj : j < xs.length) : evp (lag xs (fun i => mul (ys i) (inv (pe xs i (co xs i) xs.length))) xs.length) (co xs j) = ys j := by
  rw [ev_lag, sm_one _ j _ (fun i hi hne => by rw [pe_zero xs i j (Ne.symm hne) _ hj, mul_zero]), if_pos hj, mul_assoc, inv_mul (pe_ne hn hj _ (Nat.le_refl _)), mul_one]
theorem mem_co {xs : List UInt8} {a : UInt8} (h : a ∈ xs) : ∃ j, j < xs.length ∧ a = co xs j := by
  obtain ⟨j, hj, rfl⟩ := List.getElem_of_mem h
  exact ⟨j, hj, (co_lt hj).symm⟩
theorem co_mem {xs : List UInt8} {j : Nat} (h : j < xs.length) : co xs j ∈ xs := by rw [co_lt h]; exact List.getElem_mem h
/-- The value anywhere, by the values at the places. -/
theorem lagrange {xs : List UInt8} (hn : xs.Nodup) {p : List UInt8} (hp : dg p ≤ xs.length) (x : UInt8) : evp p x = sm (fun i => mul (wt xs i x) (evp p (co xs i))) xs.length := by
  have h1 : Sim p (lag xs (fun i => mul (evp p (co xs i)) (inv (pe xs i (co xs i) xs.length))) xs.length) :=
    agree hn hp (dg_lag _ _ _ (Nat.le_refl _)) (fun a ha => by
      obtain ⟨j, hj, rfl⟩ := mem_co ha
      rw [lag_at hn (fun i => evp p (co xs i)) hj])
  rw [ev_sim _ _ x h1, ev_lag]
  refine sm_congr _ fun i _ => ?_
  unfold wt
  rw [mul_assoc, mul_comm (inv _) (pe xs i x xs.length), mul_comm (evp p (co xs i))]
end Gf

/- Newton's divided differences give the polynomial through places and values. Plain. No condition. -/
import Derived.Test.YtabcmfkmddlaaaaMv
set_option linter.unusedSimpArgs false
set_option linter.unusedVariables false
namespace Gf
theorem inv_one : inv 1 = 1 := (inv_uniq (mul_one 1)).symm
theorem mul_swap4 (a b c d : UInt8) : mul (mul a b) (mul c d) = mul (mul a c) (mul b d) := by rw [mul_assoc, mul_assoc, mul_left_comm b]
theorem inv_mul2 (a b : UInt8) : inv (mul a b) = mul (inv a) (inv b) := by
  by_cases ha : a = 0
  · rw [ha, zero_mul, inv_zero, zero_mul]
  · by_cases hb : b = 0
    · rw [hb, mul_zero, inv_zero, mul_zero]
    · refine (inv_uniq ?_).symm
      rw [mul_assoc, mul_left_comm b, mul_inv hb, mul_one, mul_inv ha]
theorem co_pmul_lin : ∀ (p : List UInt8) (a : UInt8) (i : Nat), co (pmul p [a, 1]) (i + 1) = mul (co p (i + 1)) a ^^^ co p i
  | [], a, i => by simp [pmul, co_nil, zero_mul]
  | c :: p, a, 0 => by
    rw [co_pmul_succ, co_succ, co_zero, co_succ, co_zero, mul_one]
    cases p with
    | nil => simp [pmul, co_nil, zero_mul]
    | cons d p => rw [co_pmul_zero, co_zero, co_zero, xor_comm]
  | c :: p, a, i + 1 => by
    have : co [a, 1] (i + 1 + 1) = 0 := co_ge (by simp)
    rw [co_pmul_succ, co_pmul_lin p a i, this, mul_zero, zero_xor, co_succ, co_succ]
theorem ev_const (c x : UInt8) : evp [c] x = c := by show c ^^^ mul 0 x = c; rw [zero_mul, xor_zero]

/-- Divided differences, from place a on, over m + 1 places. -/
def dd (xs ys : Nat → UInt8) (a : Nat) : Nat → UInt8
  | 0 => ys a
  | m + 1 => mul (dd xs ys (a + 1) m ^^^ dd xs ys a m) (inv (xs (a + m + 1) ^^^ xs a))
/-- The polynomial through the places a .. a + m (Neville's way). -/
def nev (xs ys : Nat → UInt8) (a : Nat) : Nat → List UInt8
  | 0 => [ys a]
  | m + 1 => (pplus (pmul (nev xs ys (a + 1) m) [xs a, 1]) (pmul (nev xs ys a m) [xs (a + m + 1), 1])).map (mul (inv (xs (a + m + 1) ^^^ xs a)))
theorem dg_nev (xs ys : Nat → UInt8) : ∀ (m a : Nat), dg (nev xs ys a m) ≤ m + 1
  | 0, a => dg_len _
  | m + 1, a => by
    refine dg_map _ (dg_pplus ?_ ?_)
    · have := dg_pmul (dg_nev xs ys m (a + 1)) (dg_lin (xs a)); omega
    · have := dg_pmul (dg_nev xs ys m a) (dg_lin (xs (a + m + 1))); omega
theorem co_nev (xs ys : Nat → UInt8) : ∀ (m a : Nat), co (nev xs ys a m) m = dd xs ys a m
  | 0, a => rfl
  | m + 1, a => by
    unfold nev dd
    rw [co_map, co_pplus, co_pmul_lin, co_pmul_lin, co_nev xs ys m (a + 1), co_nev xs ys m a, dg_le.1 (dg_nev xs ys m (a + 1)) (m + 1) (Nat.le_refl _), dg_le.1 (dg_nev xs ys m a) (m + 1) (Nat.le_refl _), zero_mul, zero_mul, zero_xor, zero_xor, mul_comm]
theorem ev_nev (xs ys : Nat → UInt8) : ∀ (m a : Nat), (∀ i j, a ≤ i → i < j → j ≤ a + m → xs i ≠ xs j) → ∀ j, a ≤ j → j ≤ a + m → evp (nev xs ys a m) (xs j) = ys j
  | 0, a, _, j, h1, h2 => by
    obtain rfl : j = a := by omega
    exact ev_const _ _
  | m + 1, a, hd, j, h1, h2 => by
    have hne : xs (a + m + 1) ^^^ xs a ≠ 0 := fun e => hd a (a + m + 1) (Nat.le_refl _) (by omega) (by omega) (xor_eq_zero e).symm
    unfold nev
    rw [ev_map, ev_pplus, ev_pmul, ev_pmul, ev_lin, ev_lin]
    by_cases ha : j = a
    · subst ha
      rw [xor_self, mul_zero, zero_xor, ev_nev xs ys m j (fun i k h3 h4 h5 => hd i k h3 h4 (by omega)) j (Nat.le_refl _) (by omega), mul_comm (ys j), ← mul_assoc, xor_comm (xs j), inv_mul hne, one_mul]
    · by_cases hb : j = a + m + 1
      · subst hb
        rw [xor_self, mul_zero, xor_zero, ev_nev xs ys m (a + 1) (fun i k h3 h4 h5 => hd i k (by omega) h4 (by omega)) (a + m + 1) (by omega) (by omega), mul_comm (ys _), ← mul_assoc, inv_mul hne, one_mul]
      · rw [ev_nev xs ys m (a + 1) (fun i k h3 h4 h5 => hd i k (by omega) h4 (by omega)) j (by omega) (by omega), ev_nev xs ys m a (fun i k h3 h4 h5 => hd i k h3 h4 (by omega)) j h1 (by omega), ← mul_add,
          xor_xor_swap, xor_self, zero_xor, mul_comm (ys j), ← mul_assoc, xor_comm (xs a), inv_mul hne, one_mul]

/-- The product of all x less one of the first m places. -/
def pip (xs : Nat → UInt8) : Nat → List UInt8
  | 0 => [1]
  | m + 1 => pmul (pip xs m) [xs m, 1]
def pi (xs : Nat → UInt8) (x : UInt8) : Nat → UInt8
  | 0 => 1
  | m + 1 => mul (pi xs x m) (x ^^^ xs m)
theorem ev_pip (xs : Nat → UInt8) (x : UInt8) : ∀ m, evp (pip xs m) x = pi xs x m
  | 0 => ev_const 1 x
  | m + 1 => by unfold pip pi; rw [ev_pmul, ev_pip xs x m, ev_lin]
theorem dg_pip (xs : Nat → UInt8) : ∀ m, dg (pip xs m) ≤ m + 1
  | 0 => dg_len _
  | m + 1 => by have := dg_pmul (dg_pip xs m) (dg_lin (xs m)); unfold pip; omega
theorem co_pip (xs : Nat → UInt8) : ∀ m, co (pip xs m) m = 1
  | 0 => rfl
  | m + 1 => by unfold pip; rw [co_pmul_lin, co_pip xs m, dg_le.1 (dg_pip xs m) (m + 1) (Nat.le_refl _), zero_mul, zero_xor]
theorem pi_zero (xs : Nat → UInt8) : ∀ (m j : Nat), j < m → pi xs (xs j) m = 0
  | m + 1, j, h => by
    unfold pi
    by_cases hj : j = m
    · subst hj; rw [xor_self, mul_zero]
    · rw [pi_zero xs m j (by omega), zero_mul]
/-- Newton's sum of the first m. -/
def ns (xs ys : Nat → UInt8) (x : UInt8) : Nat → UInt8 := sm (fun i => mul (dd xs ys 0 i) (pi xs x i))
theorem ns_nev (xs ys : Nat → UInt8) (x : UInt8) : ∀ m, (∀ i j, i < j → j ≤ m → xs i ≠ xs j) → evp (nev xs ys 0 m) x = ns xs ys x (m + 1)
  | 0, _ => by
    show evp [ys 0] x = 0 ^^^ mul (ys 0) 1
    rw [ev_const, mul_one, zero_xor]
  | m + 1, hd => by
    have ih := ns_nev xs ys x m (fun i j h1 h2 => hd i j h1 (by omega))
    have hpl : ((List.range (m + 1)).map xs).length = m + 1 := by simp
    have hnd : ((List.range (m + 1)).map xs).Nodup := by
      refine List.pairwise_iff_getElem.2 fun i j hi hj hij => ?_
      simp only [List.getElem_map, List.getElem_range]
      simp only [List.length_map, List.length_range] at hi hj
      exact hd i j hij (by omega)
    have h0 : Sim (pplus (nev xs ys 0 (m + 1)) ((pip xs (m + 1)).map (mul (dd xs ys 0 (m + 1))))) (nev xs ys 0 m) := by
      refine agree hnd ?_ ?_ ?_
      · rw [hpl]
        refine dg_le.2 fun i hi => ?_
        rw [co_pplus, co_map]
        by_cases h1 : i = m + 1
        · subst h1; rw [co_nev, co_pip, mul_one, xor_self]
        · rw [dg_le.1 (dg_nev xs ys (m + 1) 0) i (by omega), dg_le.1 (dg_pip xs (m + 1)) i (by omega), mul_zero, xor_zero]
      · rw [hpl]; exact dg_nev xs ys m 0
      · intro a ha
        obtain ⟨j, hj, rfl⟩ := List.mem_map.1 ha
        have hj' : j < m + 1 := by simpa using hj
        rw [ev_pplus, ev_map, ev_pip, pi_zero xs (m + 1) j hj', mul_zero, xor_zero, ev_nev xs ys (m + 1) 0 (fun i k _ h2 h3 => hd i k h2 (by omega)) j (Nat.zero_le _) (by omega),
          ev_nev xs ys m 0 (fun i k _ h2 h3 => hd i k h2 (by omega)) j (Nat.zero_le _) (by omega)]
    have h1 := ev_sim _ _ x h0
    rw [ev_pplus, ev_map, ev_pip, ih] at h1
    show evp (nev xs ys 0 (m + 1)) x = ns xs ys x (m + 1) ^^^ mul (dd xs ys 0 (m + 1)) (pi xs x (m + 1))
    rw [← h1, xor_assoc, xor_self, xor_zero]
/-- Newton's sum has the values at the places. -/
theorem ns_at (xs ys : Nat → UInt8) (n : Nat) (hd : ∀ i j, i < j → j < n → xs i ≠ xs j) (j : Nat) (hj : j < n) : ns xs ys (xs j) n = ys j := by
  obtain ⟨m, rfl⟩ : ∃ m, n = m + 1 := ⟨n - 1, by omega⟩
  rw [← ns_nev xs ys (xs j) m (fun i k h1 h2 => hd i k h1 (by omega))]
  exact ev_nev xs ys m 0 (fun i k _ h2 h3 => hd i k h2 (by omega)) j (Nat.zero_le _) (by omega)
/-- From the last one down. -/
def hn (xs c : Nat → UInt8) (x : UInt8) (n : Nat) : Nat → UInt8
  | 0 => 0
  | k + 1 => c (n - (k + 1)) ^^^ mul (hn xs c x n k) (x ^^^ xs (n - (k + 1)))
theorem hn_ns (xs c : Nat → UInt8) (x : UInt8) (n : Nat) : ∀ k, k ≤ n → sm (fun i => mul (c i) (pi xs x i)) (n - k) ^^^ mul (hn xs c x n k) (pi xs x (n - k)) = sm (fun i => mul (c i) (pi xs x i)) n
  | 0, _ => by
    show sm (fun i => mul (c i) (pi xs x i)) n ^^^ mul 0 _ = _
    rw [zero_mul, xor_zero]
  | k + 1, h => by
    have ih := hn_ns xs c x n k (by omega)
    rw [show n - k = (n - (k + 1)) + 1 by omega] at ih
    rw [← ih]
    show sm _ (n - (k + 1)) ^^^ mul (c (n - (k + 1)) ^^^ mul (hn xs c x n k) (x ^^^ xs (n - (k + 1)))) (pi xs x (n - (k + 1))) = (sm _ (n - (k + 1)) ^^^ mul (c (n - (k + 1))) (pi xs x (n - (k + 1)))) ^^^ mul (hn xs c x n k) (mul (pi xs x (n - (k + 1))) (x ^^^ xs (n - (k + 1))))
    rw [add_mul, xor_assoc, mul_assoc, mul_comm (x ^^^ _)]
end Gf

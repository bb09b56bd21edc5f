/- Pure loops: how they are shown to end, and with what. Numbers of Go as plain numbers. No condition. -/
import Derived.Test.YtabcmfkmddlaaaaGh
namespace Gk
theorem iterC_inv {S X : Type} {body : S → Option (S ⊕ X)} (I : S → Prop) (m : S → Nat) (post : X → Prop)
    (step : ∀ s, I s → (∃ s', body s = some (.inl s') ∧ I s' ∧ m s' < m s) ∨ ∃ x, body s = some (.inr x) ∧ post x) (s : S) (h : I s) : ∃ x, iterC body s = some x ∧ post x := by
  generalize hk : m s = k
  induction k using Nat.strongRecOn generalizing s with
  | ind k ih =>
    rw [iterC_step]
    rcases step s h with ⟨s', hb, hI, hm⟩ | ⟨x, hb, hp⟩
    · obtain ⟨x, hx, hp⟩ := ih (m s') (by omega) s' hI rfl
      exact ⟨x, by rw [hb]; simpa using hx, hp⟩
    · exact ⟨x, by rw [hb]; rfl, hp⟩
theorem bind_of {α β : Type} {o : Option α} {g : α → Option β} {x : α} {r : Option β} (h : o = some x) (h2 : g x = r) : o.bind g = r := by rw [h]; exact h2
/-- A loop over σ × Int that counts from 0 to n. -/
theorem iterC_up {σ X : Type} {body : σ × Int → Option ((σ × Int) ⊕ X)} {s0 : σ} (I : Nat → σ → Prop) (n : Nat) (post : X → Prop) (h0 : I 0 s0)
    (hstep : ∀ (i : Nat) (s : σ), i < n → I i s → ∃ s', body (s, (i : Int)) = some (.inl (s', ((i + 1 : Nat) : Int))) ∧ I (i + 1) s')
    (hend : ∀ s, I n s → ∃ x, body (s, (n : Int)) = some (.inr x) ∧ post x) : ∃ x, iterC body (s0, 0) = some x ∧ post x := by
  refine iterC_inv (fun s => ∃ i : Nat, i ≤ n ∧ s.2 = (i : Int) ∧ I i s.1) (fun s => n - s.2.toNat) post ?_ (s0, 0) ⟨0, Nat.zero_le _, rfl, h0⟩
  rintro ⟨s, _⟩ ⟨i, hi, rfl, hI⟩
  by_cases h : i < n
  · obtain ⟨s', hb, hI'⟩ := hstep i s h hI
    exact .inl ⟨_, hb, ⟨i + 1, h, rfl, hI'⟩, by simp only [Int.toNat_natCast]; omega⟩
  · obtain rfl : i = n := by omega
    exact .inr (hend s hI)
/-- The same from k0 on. -/
theorem iterC_from {σ X : Type} {body : σ × Int → Option ((σ × Int) ⊕ X)} {s0 : σ} (I : Nat → σ → Prop) (k0 n : Nat) (hk : k0 ≤ n) (post : X → Prop) (h0 : I k0 s0)
    (hstep : ∀ (i : Nat) (s : σ), k0 ≤ i → i < n → I i s → ∃ s', body (s, (i : Int)) = some (.inl (s', ((i + 1 : Nat) : Int))) ∧ I (i + 1) s')
    (hend : ∀ s, I n s → ∃ x, body (s, (n : Int)) = some (.inr x) ∧ post x) : ∃ x, iterC body (s0, (k0 : Int)) = some x ∧ post x := by
  refine iterC_inv (fun s => ∃ i : Nat, k0 ≤ i ∧ i ≤ n ∧ s.2 = (i : Int) ∧ I i s.1) (fun s => n - s.2.toNat) post ?_ (s0, (k0 : Int)) ⟨k0, Nat.le_refl _, hk, rfl, h0⟩
  rintro ⟨s, _⟩ ⟨i, hki, hi, rfl, hI⟩
  by_cases h : i < n
  · obtain ⟨s', hb, hI'⟩ := hstep i s hki h hI
    exact .inl ⟨_, hb, ⟨i + 1, by omega, h, rfl, hI'⟩, by simp only [Int.toNat_natCast]; omega⟩
  · obtain rfl : i = n := by omega
    exact .inr (hend s hI)
/-- A loop over σ × Int that counts down, from n - 1 to k. -/
theorem iterC_dn {σ X : Type} {body : σ × Int → Option ((σ × Int) ⊕ X)} {s0 : σ} (I : Nat → σ → Prop) (k n : Nat) (hk : k ≤ n) (post : X → Prop) (h0 : I n s0)
    (hstep : ∀ (j : Nat) (s : σ), k ≤ j → j < n → I (j + 1) s → ∃ s', body (s, (j : Int)) = some (.inl (s', (j : Int) - 1)) ∧ I j s')
    (hend : ∀ s, I k s → ∃ x, body (s, (k : Int) - 1) = some (.inr x) ∧ post x) : ∃ x, iterC body (s0, (n : Int) - 1) = some x ∧ post x := by
  refine iterC_inv (fun s => ∃ j : Nat, k ≤ j ∧ j ≤ n ∧ s.2 = (j : Int) - 1 ∧ I j s.1) (fun s => (s.2 + 1).toNat) post ?_ (s0, (n : Int) - 1) ⟨n, hk, Nat.le_refl _, rfl, h0⟩
  rintro ⟨s, _⟩ ⟨j, hkj, hj, rfl, hI⟩
  by_cases h : k < j
  · obtain ⟨j, rfl⟩ : ∃ i, j = i + 1 := ⟨j - 1, by omega⟩
    obtain ⟨s', hb, hI'⟩ := hstep j s (by omega) (by omega) hI
    refine .inl ⟨(s', (j : Int) - 1), ?_, ⟨j, by omega, by omega, rfl, hI'⟩, by simp only; omega⟩
    rw [show ((j + 1 : Nat) : Int) - 1 = (j : Int) by omega]; exact hb
  · obtain rfl : j = k := by omega
    exact .inr (hend s hI)
/-- A search from 0 to n. -/
theorem iterC_find {X : Type} {body : Int → Option (Int ⊕ X)} (n : Nat) (bad : Nat → Prop) [DecidablePred bad] (hit fin : X)
    (h1 : ∀ i, i < n → ¬ bad i → body (i : Int) = some (.inl ((i + 1 : Nat) : Int))) (h2 : ∀ i, i < n → bad i → body (i : Int) = some (.inr hit)) (h3 : body (n : Int) = some (.inr fin)) :
    ∃ x, iterC body 0 = some x ∧ ((∃ i, i < n ∧ bad i) → x = hit) ∧ ((∀ i, i < n → ¬ bad i) → x = fin) := by
  refine iterC_inv (body := body) (fun s => ∃ i : Nat, i ≤ n ∧ s = (i : Int) ∧ ∀ j, j < i → ¬ bad j) (fun s => n - s.toNat) _ ?_ 0 ⟨0, Nat.zero_le _, rfl, fun j hj => absurd hj (Nat.not_lt_zero _)⟩
  rintro _ ⟨i, hi, rfl, hb⟩
  by_cases h : i < n
  · by_cases hbi : bad i
    · exact .inr ⟨hit, h2 i h hbi, fun _ => rfl, fun hall => absurd hbi (hall i h)⟩
    · refine .inl ⟨_, h1 i h hbi, ⟨i + 1, h, rfl, fun j hj => ?_⟩, by simp only [Int.toNat_natCast]; omega⟩
      by_cases hji : j = i
      · rw [hji]; exact hbi
      · exact hb j (by omega)
  · obtain rfl : i = n := by omega
    exact .inr ⟨fin, h3, fun ⟨j, hj, hbj⟩ => absurd hbj (hb j hj), fun _ => rfl⟩
/-- A loop that counts. -/
theorem iterC_range {S X : Type} {body : S → Option (S ⊕ X)} (s : Nat → S) (k : Nat) {x : X} (hs : ∀ i, i < k → body (s i) = some (.inl (s (i + 1)))) (he : body (s k) = some (.inr x)) : iterC body (s 0) = some x := by
  have : ∀ j, j ≤ k → iterC body (s (k - j)) = some x := by
    intro j
    induction j with
    | zero => intro _; rw [iterC_step, Nat.sub_zero, he]; rfl
    | succ j ih =>
      intro hj
      rw [iterC_step, hs (k - (j + 1)) (by omega)]
      have e : k - (j + 1) + 1 = k - j := by omega
      rw [e]; exact ih (by omega)
  have h := this k (Nat.le_refl _)
  rwa [Nat.sub_self] at h
theorem iterC_count {S X : Type} {body : S → Option (S ⊕ X)} {s0 : S} (s : Nat → S) (k : Nat) (x : X) (h0 : s0 = s 0) (hs : ∀ i, i < k → body (s i) = some (.inl (s (i + 1)))) (he : body (s k) = some (.inr x)) : iterC body s0 = some x := by
  rw [h0]; exact iterC_range s k hs he
/-- A loop that counts, and may leave early, at j. -/
theorem iterC_until {S X : Type} {body : S → Option (S ⊕ X)} (s : Nat → S) (k : Nat) {x : X} (hs : ∀ i, i < k → body (s i) = some (.inl (s (i + 1)))) (he : body (s k) = some (.inr x)) (j : Nat) (hj : j ≤ k) : iterC body (s j) = some x := by
  have := iterC_range (body := body) (fun i => s (j + i)) (k - j) (x := x) (fun i hi => hs (j + i) (by omega)) (by simpa [show j + (k - j) = k by omega] using he)
  simpa using this

theorem wI_nat {n : Nat} (h : n < 9223372036854775808) : wI (n : Int) = n := wI_of (by omega) (by omega)
theorem cnt_nat (n : Nat) : cnt (n : Int) = some n := by simp [cnt]
theorem remI_nat (a b : Nat) (h : 0 < b) : remI (a : Int) (b : Int) = some ((a % b : Nat) : Int) := by
  unfold remI; rw [if_neg (by omega)]; rw [← Int.ofNat_tmod]
theorem divI_nat (a b : Nat) (h : 0 < b) (ha : a < 9223372036854775808) : divI (a : Int) (b : Int) = some ((a / b : Nat) : Int) := by
  unfold divI; rw [if_neg (by omega), ← Int.ofNat_tdiv, wI_nat (Nat.lt_of_le_of_lt (Nat.div_le_self _ _) ha)]
theorem shrI_nat (a n : Nat) (h : n ≤ 64) : shrI (a : Int) n = ((a >>> n : Nat) : Int) := by
  unfold shrI; rw [Nat.min_eq_left h, Nat.shiftRight_eq_div_pow]
  have h2 : (2 ^ n : Int) = ((2 ^ n : Nat) : Int) := by norm_cast
  rw [h2, Int.fdiv_eq_ediv_of_nonneg _ (Int.natCast_nonneg _)]
  norm_cast
theorem shlI_nat (a n : Nat) (h : n ≤ 64) (hb : a * 2 ^ n < 9223372036854775808) : shlI (a : Int) n = ((a <<< n : Nat) : Int) := by
  unfold shlI; rw [Nat.min_eq_left h, Nat.shiftLeft_eq, ← wI_nat hb]
  norm_cast
theorem xorI_nat (a b : Nat) (ha : a < 9223372036854775808) (hb : b < 9223372036854775808) : xorI (a : Int) (b : Int) = ((a ^^^ b : Nat) : Int) := by
  unfold xorI
  have h : (BitVec.ofInt 64 (a : Int) ^^^ BitVec.ofInt 64 (b : Int)).toNat = a ^^^ b := by
    rw [BitVec.toNat_xor, BitVec.ofInt_natCast, BitVec.ofInt_natCast, BitVec.toNat_ofNat, BitVec.toNat_ofNat, Nat.mod_eq_of_lt (by omega), Nat.mod_eq_of_lt (by omega)]
  rw [h]
  exact wI_nat (Nat.xor_lt_two_pow (n := 63) ha hb)
end Gk

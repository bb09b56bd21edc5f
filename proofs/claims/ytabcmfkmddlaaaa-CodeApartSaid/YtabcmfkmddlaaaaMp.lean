/- Polynomials over GF(256), as lists of numbers, the lowest first. Plain. No condition. -/
import Derived.Test.YtabcmfkmddlaaaaMa
set_option linter.unusedSimpArgs false
namespace Gf

/-- The number at a place. -/
def co (p : List UInt8) (i : Nat) : UInt8 := p.getD i 0
theorem co_nil (i : Nat) : co [] i = 0 := by simp [co]
theorem co_zero (c : UInt8) (p : List UInt8) : co (c :: p) 0 = c := rfl
theorem co_succ (c : UInt8) (p : List UInt8) (i : Nat) : co (c :: p) (i + 1) = co p i := by simp [co]
theorem co_ge {p : List UInt8} {i : Nat} (h : p.length ≤ i) : co p i = 0 := by simp [co, List.getD_eq_getElem?_getD, List.getElem?_eq_none h]
theorem co_lt {p : List UInt8} {i : Nat} (h : i < p.length) : co p i = p[i] := by simp [co, List.getD_eq_getElem?_getD, h]
theorem co_get {p : List UInt8} {i : Nat} (h : i < p.length) : p[i]? = some (co p i) := by rw [co_lt h]; simp [h]
theorem co_rep (n i : Nat) : co (List.replicate n 0) i = 0 := by
  simp only [co, List.getD_eq_getElem?_getD, List.getElem?_replicate]; split <;> rfl
theorem co_map (c : UInt8) (p : List UInt8) (i : Nat) : co (p.map (mul c)) i = mul c (co p i) := by
  simp only [co, List.getD_eq_getElem?_getD, List.getElem?_map]
  cases p[i]? <;> simp [mul_zero]
theorem co_set {p : List UInt8} {j : Nat} (h : j < p.length) (c : UInt8) (i : Nat) : co (p.set j c) i = if i = j then c else co p i := by
  simp only [co, List.getD_eq_getElem?_getD, List.getElem?_set]
  by_cases hij : j = i
  · subst hij; simp [h]
  · simp [hij, Ne.symm hij]
/-- The same numbers everywhere. -/
def Sim (p q : List UInt8) : Prop := ∀ i, co p i = co q i
theorem Sim.refl (p : List UInt8) : Sim p p := fun _ => rfl
theorem Sim.symm {p q : List UInt8} (h : Sim p q) : Sim q p := fun i => (h i).symm
theorem Sim.trans {p q r : List UInt8} (h : Sim p q) (k : Sim q r) : Sim p r := fun i => (h i).trans (k i)

/-! ### Without noughts at the end -/
def trim : List UInt8 → List UInt8
  | [] => []
  | c :: p => if trim p = [] ∧ c = 0 then [] else c :: trim p
theorem co_trim : ∀ (p : List UInt8) (i : Nat), co (trim p) i = co p i
  | [], i => rfl
  | c :: p, i => by
    unfold trim
    split
    · rename_i h
      rw [co_nil]
      cases i with
      | zero => rw [co_zero, h.2]
      | succ i => rw [co_succ, ← co_trim p i, h.1, co_nil]
    · cases i with
      | zero => rfl
      | succ i => rw [co_succ, co_succ, co_trim p i]
theorem trim_sim (p : List UInt8) : Sim (trim p) p := co_trim p
theorem trim_zero : ∀ (p : List UInt8), (∀ i, co p i = 0) → trim p = []
  | [], _ => rfl
  | c :: p, h => by
    unfold trim
    rw [if_pos ⟨trim_zero p (fun i => by rw [← co_succ c p i]; exact h (i + 1)), by rw [← co_zero c p]; exact h 0⟩]
theorem trim_ext : ∀ (p q : List UInt8), Sim p q → trim p = trim q
  | [], q, h => (trim_zero q (fun i => by rw [← h i, co_nil])).symm
  | c :: p, [], h => trim_zero (c :: p) (fun i => by rw [h i, co_nil])
  | c :: p, d :: q, h => by
    have h0 : c = d := by have := h 0; rwa [co_zero, co_zero] at this
    have h1 : trim p = trim q := trim_ext p q (fun i => by have := h (i + 1); rwa [co_succ, co_succ] at this)
    unfold trim
    rw [h0, h1]
theorem trim_trim (p : List UInt8) : trim (trim p) = trim p := trim_ext _ _ (trim_sim p)
theorem trim_le : ∀ (p : List UInt8), (trim p).length ≤ p.length
  | [] => Nat.le_refl _
  | c :: p => by
    unfold trim
    split
    · exact Nat.zero_le _
    · have := trim_le p; simp only [List.length_cons]; omega
theorem trim_last : ∀ (p : List UInt8), trim p ≠ [] → co p ((trim p).length - 1) ≠ 0
  | [], h => absurd rfl h
  | c :: p, h => by
    unfold trim at h ⊢
    split
    · rename_i h'; rw [if_pos h'] at h; exact absurd rfl h
    · rename_i h'
      simp only [List.length_cons, Nat.add_sub_cancel]
      cases ht : trim p with
      | nil =>
        rw [List.length_nil, co_zero]
        exact fun e => h' ⟨ht, e⟩
      | cons d q =>
        have := trim_last p (by rw [ht]; simp)
        rw [ht] at this
        simp only [List.length_cons, Nat.add_sub_cancel] at this ⊢
        rwa [co_succ]
theorem trim_nil {p : List UInt8} (h : trim p = []) (i : Nat) : co p i = 0 := by rw [← co_trim, h, co_nil]
/-- What is above the degree is 0. -/
theorem trim_bound (p : List UInt8) (n : Nat) : (trim p).length ≤ n ↔ ∀ i, n ≤ i → co p i = 0 := by
  constructor
  · intro h i hi
    rw [← co_trim]; exact co_ge (Nat.le_trans h hi)
  · intro h
    refine Nat.le_of_not_lt fun hlt => ?_
    have hne : trim p ≠ [] := fun e => by rw [e] at hlt; simp at hlt
    exact trim_last p hne (h _ (by omega))
theorem trim_take : ∀ (p : List UInt8), trim p = p.take (trim p).length
  | [] => rfl
  | c :: p => by
    unfold trim
    split
    · rfl
    · simp only [List.length_cons, List.take_succ_cons]
      rw [← trim_take p]
theorem trim_id {p : List UInt8} (h : p ≠ [] → co p (p.length - 1) ≠ 0) : trim p = p := by
  by_cases hp : p = []
  · rw [hp]; rfl
  · have h1 : p.length ≤ (trim p).length := Nat.le_of_not_lt fun hlt => by
      have hpos := List.length_pos_iff.2 hp
      exact h hp ((trim_bound p (p.length - 1)).1 (by omega) _ (Nat.le_refl _))
    rw [trim_take p, List.take_of_length_le h1]
theorem sim_of_trim {p q : List UInt8} (h : trim p = trim q) : Sim p q := (trim_sim p).symm.trans (h ▸ trim_sim q)

/-! ### Values -/
def evp : List UInt8 → UInt8 → UInt8
  | [], _ => 0
  | c :: p, x => c ^^^ mul (evp p x) x
theorem ev_zero : ∀ (p : List UInt8) (x : UInt8), (∀ i, co p i = 0) → evp p x = 0
  | [], _, _ => rfl
  | c :: p, x, h => by
    have h0 : c = 0 := by rw [← co_zero c p]; exact h 0
    unfold evp
    rw [h0, ev_zero p x (fun i => by rw [← co_succ c p i]; exact h (i + 1)), zero_mul, zero_xor]
theorem ev_sim : ∀ (p q : List UInt8) (x : UInt8), Sim p q → evp p x = evp q x
  | [], q, x, h => (ev_zero q x (fun i => by rw [← h i, co_nil])).symm
  | c :: p, [], x, h => ev_zero (c :: p) x (fun i => by rw [h i, co_nil])
  | c :: p, d :: q, x, h => by
    have h0 : c = d := by have := h 0; rwa [co_zero, co_zero] at this
    unfold evp
    rw [h0, ev_sim p q x (fun i => by have := h (i + 1); rwa [co_succ, co_succ] at this)]
theorem ev_trim (p : List UInt8) (x : UInt8) : evp (trim p) x = evp p x := ev_sim _ _ x (trim_sim p)

/-! ### Sums and products -/
def pplus : List UInt8 → List UInt8 → List UInt8
  | [], q => q
  | p, [] => p
  | a :: p, b :: q => (a ^^^ b) :: pplus p q
theorem pplus_nil (p : List UInt8) : pplus p [] = p := by cases p <;> rfl
theorem co_pplus : ∀ (p q : List UInt8) (i : Nat), co (pplus p q) i = co p i ^^^ co q i
  | [], q, i => by rw [co_nil, zero_xor]; rfl
  | a :: p, [], i => by rw [co_nil, xor_zero]; rfl
  | a :: p, b :: q, 0 => rfl
  | a :: p, b :: q, i + 1 => by
    show co ((a ^^^ b) :: pplus p q) (i + 1) = _
    rw [co_succ, co_succ, co_succ]; exact co_pplus p q i
theorem pplus_len : ∀ (p q : List UInt8), (pplus p q).length = max p.length q.length
  | [], q => by simp [pplus]
  | a :: p, [] => by simp [pplus]
  | a :: p, b :: q => by simp only [pplus, List.length_cons, pplus_len p q]; omega
theorem ev_pplus : ∀ (p q : List UInt8) (x : UInt8), evp (pplus p q) x = evp p x ^^^ evp q x
  | [], q, x => by show evp q x = 0 ^^^ evp q x; rw [zero_xor]
  | a :: p, [], x => by show evp (a :: p) x = evp (a :: p) x ^^^ 0; rw [xor_zero]
  | a :: p, b :: q, x => by
    show (a ^^^ b) ^^^ mul (evp (pplus p q) x) x = (a ^^^ mul (evp p x) x) ^^^ (b ^^^ mul (evp q x) x)
    rw [ev_pplus p q x, add_mul, xor_xor_swap]
theorem ev_map (c : UInt8) : ∀ (p : List UInt8) (x : UInt8), evp (p.map (mul c)) x = mul c (evp p x)
  | [], x => (mul_zero c).symm
  | a :: p, x => by
    show mul c a ^^^ mul (evp (p.map (mul c)) x) x = mul c (a ^^^ mul (evp p x) x)
    rw [ev_map c p x, mul_add, mul_assoc]
def pmul : List UInt8 → List UInt8 → List UInt8
  | [], _ => []
  | c :: p, q => pplus (q.map (mul c)) (0 :: pmul p q)
theorem co_pmul_zero (c : UInt8) (p q : List UInt8) : co (pmul (c :: p) q) 0 = mul c (co q 0) := by
  unfold pmul; rw [co_pplus, co_map, co_zero, xor_zero]
theorem co_pmul_succ (c : UInt8) (p q : List UInt8) (i : Nat) : co (pmul (c :: p) q) (i + 1) = mul c (co q (i + 1)) ^^^ co (pmul p q) i := by
  show co (pplus (q.map (mul c)) (0 :: pmul p q)) (i + 1) = _
  rw [co_pplus, co_map, co_succ]
theorem pmul_len : ∀ (p q : List UInt8), (pmul p q).length ≤ p.length + q.length
  | [], q => by simp [pmul]
  | c :: p, q => by
    have := pmul_len p q
    simp only [pmul, pplus_len, List.length_map, List.length_cons]; omega
theorem ev_pmul : ∀ (p q : List UInt8) (x : UInt8), evp (pmul p q) x = mul (evp p x) (evp q x)
  | [], q, x => (zero_mul _).symm
  | c :: p, q, x => by
    show evp (pplus (q.map (mul c)) (0 :: pmul p q)) x = mul (c ^^^ mul (evp p x) x) (evp q x)
    rw [ev_pplus, ev_map, add_mul]
    show mul c (evp q x) ^^^ (0 ^^^ mul (evp (pmul p q) x) x) = _
    rw [zero_xor, ev_pmul p q x, mul_assoc, mul_assoc, mul_comm (evp q x) x]
/-- One number more on top. -/
theorem co_pmul_snoc : ∀ (p : List UInt8) (c : UInt8) (q : List UInt8) (i : Nat), co (pmul (p ++ [c]) q) i = co (pmul p q) i ^^^ (if i < p.length then 0 else mul c (co q (i - p.length)))
  | [], c, q, i => by
    cases i with
    | zero => rw [List.nil_append, co_pmul_zero]; simp [pmul, co_nil, zero_xor]
    | succ i => rw [List.nil_append, co_pmul_succ]; simp [pmul, co_nil, zero_xor, xor_zero]
  | a :: p, c, q, i => by
    cases i with
    | zero => rw [List.cons_append, co_pmul_zero, co_pmul_zero]; simp [xor_zero]
    | succ i =>
      rw [List.cons_append, co_pmul_succ, co_pmul_succ, co_pmul_snoc p c q i, xor_assoc]
      simp only [List.length_cons, Nat.add_lt_add_iff_right, Nat.add_sub_add_right]
/-- A number is set where there was 0. -/
theorem co_pmul_set : ∀ (p : List UInt8) (j : Nat) (c : UInt8) (q : List UInt8) (i : Nat), j < p.length → co p j = 0 → co (pmul (p.set j c) q) i = co (pmul p q) i ^^^ (if i < j then 0 else mul c (co q (i - j)))
  | [], j, c, q, i, h, _ => by simp at h
  | a :: p, 0, c, q, i, _, h0 => by
    rw [co_zero] at h0; subst h0
    rw [List.set_cons_zero]
    cases i with
    | zero => rw [co_pmul_zero, co_pmul_zero, zero_mul, zero_xor]; simp
    | succ i => rw [co_pmul_succ, co_pmul_succ, zero_mul, zero_xor, xor_comm]; simp
  | a :: p, j + 1, c, q, i, h, h0 => by
    rw [co_succ] at h0
    rw [List.set_cons_succ]
    cases i with
    | zero => rw [co_pmul_zero, co_pmul_zero]; simp [xor_zero]
    | succ i =>
      rw [co_pmul_succ, co_pmul_succ, co_pmul_set p j c q i (by simpa using h) h0, xor_assoc]
      simp only [Nat.add_lt_add_iff_right, Nat.add_sub_add_right]
theorem pmul_simL : ∀ (p p' q : List UInt8), Sim p p' → Sim (pmul p q) (pmul p' q)
  | [], [], q, _ => Sim.refl _
  | [], d :: p', q, h => by
    have h0 : d = 0 := by have := h 0; rw [co_nil, co_zero] at this; exact this.symm
    have h1 := pmul_simL [] p' q (fun i => by have := h (i + 1); rwa [co_nil, co_succ] at this)
    intro i
    cases i with
    | zero => rw [co_pmul_zero, h0, zero_mul]; rfl
    | succ i => rw [co_pmul_succ, h0, zero_mul, zero_xor, ← h1 i]; rfl
  | c :: p, [], q, h => by
    have h0 : c = 0 := by have := h 0; rwa [co_nil, co_zero] at this
    have h1 := pmul_simL p [] q (fun i => by have := h (i + 1); rwa [co_nil, co_succ] at this)
    intro i
    cases i with
    | zero => rw [co_pmul_zero, h0, zero_mul]; rfl
    | succ i => rw [co_pmul_succ, h0, zero_mul, zero_xor, h1 i]; rfl
  | c :: p, d :: p', q, h => by
    have h0 : c = d := by have := h 0; rwa [co_zero, co_zero] at this
    have h1 := pmul_simL p p' q (fun i => by have := h (i + 1); rwa [co_succ, co_succ] at this)
    intro i
    cases i with
    | zero => rw [co_pmul_zero, co_pmul_zero, h0]
    | succ i => rw [co_pmul_succ, co_pmul_succ, h0, h1 i]
theorem pmul_simR : ∀ (p q q' : List UInt8), Sim q q' → Sim (pmul p q) (pmul p q')
  | [], q, q', _ => Sim.refl _
  | c :: p, q, q', h => by
    have h1 := pmul_simR p q q' h
    intro i
    cases i with
    | zero => rw [co_pmul_zero, co_pmul_zero, h 0]
    | succ i => rw [co_pmul_succ, co_pmul_succ, h (i + 1), h1 i]
theorem pmul_sim {p p' q q' : List UInt8} (h : Sim p p') (k : Sim q q') : Sim (pmul p q) (pmul p' q') := (pmul_simL p p' q h).trans (pmul_simR p' q q' k)
theorem pplus_sim {p p' q q' : List UInt8} (h : Sim p p') (k : Sim q q') : Sim (pplus p q) (pplus p' q') := fun i => by rw [co_pplus, co_pplus, h i, k i]
theorem pplus_comm (p q : List UInt8) : Sim (pplus p q) (pplus q p) := fun i => by rw [co_pplus, co_pplus, xor_comm]
/-- Products go through sums. -/
theorem pmul_addL : ∀ (p q o : List UInt8), Sim (pmul (pplus p q) o) (pplus (pmul p o) (pmul q o))
  | [], q, o => by
    intro i; rw [co_pplus]
    show co (pmul q o) i = co [] i ^^^ co (pmul q o) i
    rw [co_nil, zero_xor]
  | a :: p, [], o => by
    intro i; rw [co_pplus]
    show co (pmul (a :: p) o) i = co (pmul (a :: p) o) i ^^^ co [] i
    rw [co_nil, xor_zero]
  | a :: p, b :: q, o => by
    have h1 := pmul_addL p q o
    intro i
    rw [co_pplus]
    show co (pmul ((a ^^^ b) :: pplus p q) o) i = _
    cases i with
    | zero => rw [co_pmul_zero, co_pmul_zero, co_pmul_zero, add_mul]
    | succ i => rw [co_pmul_succ, co_pmul_succ, co_pmul_succ, h1 i, co_pplus, add_mul, xor_xor_swap]
/-- The number on top of a product. -/
theorem co_pmul_top : ∀ (p q : List UInt8) (m : Nat), p ≠ [] → (∀ i, m < i → co q i = 0) → co (pmul p q) (p.length - 1 + m) = mul (co p (p.length - 1)) (co q m)
  | [], q, m, h, _ => absurd rfl h
  | [c], q, m, _, hq => by
    simp only [List.length_cons, List.length_nil, Nat.zero_add, Nat.sub_self, co_zero]
    cases m with
    | zero => rw [co_pmul_zero]
    | succ m => rw [co_pmul_succ]; simp [pmul, co_nil, xor_zero]
  | c :: d :: p, q, m, _, hq => by
    have h1 := co_pmul_top (d :: p) q m (by simp) hq
    simp only [List.length_cons, Nat.add_sub_cancel] at h1 ⊢
    rw [show p.length + 1 + m = (p.length + m) + 1 by omega, co_pmul_succ, hq (p.length + m + 1) (by omega), mul_zero, zero_xor, co_succ]
    exact h1
/-- A product of what has no noughts at its end has none either. -/
theorem pmul_trim_len {p q : List UInt8} (hp : trim p = p) (hq : trim q = q) (hp0 : p ≠ []) (hq0 : q ≠ []) : (trim (pmul p q)).length = p.length + q.length - 1 := by
  have lp := List.length_pos_iff.2 hp0
  have lq := List.length_pos_iff.2 hq0
  have t1 : co p (p.length - 1) ≠ 0 := by have := trim_last p (by rw [hp]; exact hp0); rwa [hp] at this
  have t2 : co q (q.length - 1) ≠ 0 := by have := trim_last q (by rw [hq]; exact hq0); rwa [hq] at this
  have top := co_pmul_top p q (q.length - 1) hp0 (fun i hi => co_ge (by omega))
  have hle : (trim (pmul p q)).length ≤ p.length + q.length - 1 := by
    refine (trim_bound _ _).2 fun i hi => ?_
    exact go p q i (by omega)
  refine Nat.le_antisymm hle (Nat.le_of_not_lt fun hlt => ?_)
  have := (trim_bound (pmul p q) (p.length + q.length - 2)).1 (by omega) (p.length - 1 + (q.length - 1)) (by omega)
  rw [top] at this
  exact mul_ne t1 t2 this
where
  go : ∀ (p q : List UInt8) (i : Nat), p.length + q.length ≤ i + 1 → co (pmul p q) i = 0
  | [], q, i, _ => co_nil i
  | c :: p, q, i, h => by
    simp only [List.length_cons] at h
    cases i with
    | zero => rw [co_pmul_zero, co_ge (by omega), mul_zero]
    | succ i => rw [co_pmul_succ, co_ge (by omega), mul_zero, zero_xor]; exact go p q i (by omega)
theorem co_pmul_ge {p q : List UInt8} {i : Nat} (h : p.length + q.length ≤ i + 1) : co (pmul p q) i = 0 := pmul_trim_len.go p q i h
theorem pmul_nilR (p : List UInt8) : Sim (pmul p []) [] := by
  intro i
  induction p generalizing i with
  | nil => rfl
  | cons c p ih =>
    rw [co_nil]
    cases i with
    | zero => rw [co_pmul_zero, co_nil, mul_zero]
    | succ i => rw [co_pmul_succ, co_nil, mul_zero, zero_xor, ih i, co_nil]
end Gf

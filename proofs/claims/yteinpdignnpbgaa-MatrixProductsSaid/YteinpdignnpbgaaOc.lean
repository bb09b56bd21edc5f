/- Chapter 4: products of matrices, in plain Lean. No condition but lengths. -/
import Derived.Test.YteinpdignnpbgaaL4c
import Derived.Test.YteinpdignnpbgaaOa
set_option linter.unusedSimpArgs false
set_option linter.unusedVariables false
namespace Gk
open Gf
/-- Row times column. -/
def dot (r v : List UInt8) (d : Nat) : UInt8 := sm (fun k => mul (co r k) (co v k)) d
def tm (m : List (List UInt8)) (v : List UInt8) (d : Nat) : List UInt8 := (List.range m.length).map fun i => dot (m.getD i []) v d
def colm (o : List (List UInt8)) (j d : Nat) : List UInt8 := (List.range d).map fun k => co (o.getD k []) j
def mm (m o : List (List UInt8)) (d c : Nat) : List (List UInt8) := (List.range m.length).map fun i => (List.range c).map fun j => sm (fun k => mul (co (m.getD i []) k) (co (o.getD k []) j)) d
theorem tm_len (m : List (List UInt8)) (v : List UInt8) (d : Nat) : (tm m v d).length = m.length := by simp [tm]
theorem mm_len (m o : List (List UInt8)) (d c : Nat) : (mm m o d c).length = m.length := by simp [mm]
theorem co_tm (m : List (List UInt8)) (v : List UInt8) (d i : Nat) (h : i < m.length) : co (tm m v d) i = dot (m.getD i []) v d := by unfold tm; rw [co_tab, if_pos h]
theorem getD_mm (m o : List (List UInt8)) (d c i : Nat) (h : i < m.length) : (mm m o d c).getD i [] = (List.range c).map fun j => sm (fun k => mul (co (m.getD i []) k) (co (o.getD k []) j)) d := by unfold mm; rw [getD_tab _ _ _ h]
theorem mm_rec (m o : List (List UInt8)) (d c : Nat) : Rec (mm m o d c) c := fun i hi => by
  rw [mm_len] at hi
  rw [getD_mm _ _ _ _ _ hi]; simp
/-- A loop that writes a row's numbers one by one, the row alone. -/
theorem num_loop {body : List UInt8 × Int → Option ((List UInt8 × Int) ⊕ List UInt8)} (l : List UInt8) (n : Nat) (hn : l.length = n) (f : Nat → UInt8)
    (hs : ∀ k, k < n → body (updB l f k, (k : Int)) = some (.inl ((updB l f k).set k (f k), ((k + 1 : Nat) : Int))))
    (he : ∀ s, body (s, (n : Int)) = some (.inr s)) : iterC body (l, 0) = some ((List.range n).map f) := by
  refine iterC_count (fun k => (updB l f k, (k : Int))) n _ ?_ ?_ ?_
  · rw [updB_zero]; rfl
  · intro k hk
    rw [hs k hk, updB_succ _ _ _ (by omega)]
  · rw [he, ← hn, updB_end]
theorem Times_ok (m : List (List UInt8)) (v : List UInt8) (d : Nat) (h0 : 0 < m.length) (h1 : m.length ≤ most) (hr : Rec m d) (hv : v.length = d) (hd : d ≤ most) : matrix_Times (some m) true v = some (tm m v d, 0) := by
  unfold matrix_Times
  have hmo := most_lt'
  rw [Size_some m h0, Option.bind_some, if_neg (by decide), if_neg (by simp), if_pos (by rw [hr 0 h0, hv]), Option.bind_some, makeL_nat _ _ h1, Option.bind_some]
  refine bind_of (num_loop _ m.length (by simp) (fun i => dot (m.getD i []) v d) (fun i hi => ?_) (fun s => by simp)) rfl
  simp only
  have hU := updB_len (List.replicate m.length (0 : UInt8)) (fun i => dot (m.getD i []) v d) i
  have hG := co_updB (List.replicate m.length (0 : UInt8)) (fun i => dot (m.getD i []) v d) i i (by simpa using hi)
  rw [if_neg (by omega), co_rep] at hG
  rw [List.length_replicate] at hU
  generalize updB (List.replicate m.length (0 : UInt8)) (fun i => dot (m.getD i []) v d) i = s at hU hG ⊢
  rw [if_pos (by omega), idx_getD hi, Option.bind_some]
  refine bind_of (iterC_count (fun k => (s.set i (dot (m.getD i []) v k), (k : Int))) d (s.set i (dot (m.getD i []) v d)) ?_ ?_ ?_) (by rw [wI_succ i (by omega)])
  · congr 1
    refine eq_of_co (by simp) fun j => ?_
    rw [co_set (by omega)]
    by_cases e : j = i
    · rw [if_pos e, e, hG]; rfl
    · rw [if_neg e]
  · intro k hk
    have hrk := hr i hi
    simp only
    rw [if_pos (by omega), idx_co (by omega), Option.bind_some, idx_co (by simpa [hU] using hi), Option.bind_some, idx_co (by omega), Option.bind_some, Mul_eq, Option.bind_some, wI_succ k (by omega), Int.toNat_natCast, co_set (by omega), if_pos rfl, List.set_set]
    rfl
  · have hrk := hr i hi
    simp only
    rw [if_neg (by omega)]
theorem Times_bad (m : List (List UInt8)) (v : List UInt8) (d : Nat) (h0 : 0 < m.length) (hr : Rec m d) (hv : v.length ≠ d) : matrix_Times (some m) true v = some ([], 1) := by
  unfold matrix_Times
  rw [Size_some m h0, Option.bind_some, if_neg (by decide), if_neg (by simp), if_neg (by have := hr 0 h0; simp only; omega)]
theorem Mul_ok (m o : List (List UInt8)) (d c : Nat) (h0 : 0 < m.length) (h1 : m.length ≤ most) (hr : Rec m d) (d0 : 0 < d) (hd : d ≤ most) (ho : o.length = d) (hc : Rec o c) (hcm : c ≤ most) : matrix_Mul (some m) true (some o) = some (some (mm m o d c), 0) := by
  unfold matrix_Mul
  have hmo := most_lt'
  have hc0 := hc 0 (by omega)
  rw [Size_some m h0, Option.bind_some, Size_some o (by omega), Option.bind_some, if_neg (by decide), if_neg (by simp), if_neg (by simp), if_pos (by rw [hr 0 h0, ho]), Option.bind_some, hc0, blank_eq _ _ h1 hcm, Option.bind_some]
  refine bind_of (rows_loop _ m.length (by simp) (fun i => (List.range c).map fun j => sm (fun k => mul (co (m.getD i []) k) (co (o.getD k []) j)) d) (fun i hi => ?_) (fun s => by simp)) rfl
  simp only
  have hU := updR_len (List.replicate m.length (List.replicate c (0 : UInt8))) (fun i => (List.range c).map fun j => sm (fun k => mul (co (m.getD i []) k) (co (o.getD k []) j)) d) i
  have hG := getD_updR (List.replicate m.length (List.replicate c (0 : UInt8))) (fun i => (List.range c).map fun j => sm (fun k => mul (co (m.getD i []) k) (co (o.getD k []) j)) d) i i (by simpa using hi)
  rw [if_neg (by omega), getD_rep _ hi] at hG
  rw [List.length_replicate] at hU
  generalize updR (List.replicate m.length (List.replicate c (0 : UInt8))) (fun i => (List.range c).map fun j => sm (fun k => mul (co (m.getD i []) k) (co (o.getD k []) j)) d) i = s at hU hG ⊢
  rw [if_pos (by omega), idx_getD hi, Option.bind_some]
  refine bind_of (iterC_count (fun k => (s.set i ((List.range c).map fun j => sm (fun k => mul (co (m.getD i []) k) (co (o.getD k []) j)) k), (k : Int))) d (s.set i ((List.range c).map fun j => sm (fun k => mul (co (m.getD i []) k) (co (o.getD k []) j)) d)) ?_ ?_ ?_) (by rw [wI_succ i (by omega)])
  · congr 1
    have : (List.range c).map (fun j => sm (fun k => mul (co (m.getD i []) k) (co (o.getD k []) j)) 0) = s.getD i [] := by
      rw [hG]
      refine eq_of_co (by simp) fun j => ?_
      rw [co_tab, co_rep]
      split <;> rfl
    rw [this, set_getD]
  · intro k hk
    have hrk := hr i hi
    have hck := hc k (by omega)
    simp only
    rw [if_pos (by omega), idx_co (by omega), Option.bind_some, idx_set (by omega), Option.bind_some, Option.bind_some, idx_getD (by omega), Option.bind_some, Sum_eq _ _ _ (by simpa using hcm), Option.bind_some, wI_succ k (by omega), Int.toNat_natCast, List.set_set]
    have : sumL ((List.range c).map fun j => sm (fun k => mul (co (m.getD i []) k) (co (o.getD k []) j)) k) (co (m.getD i []) k) (o.getD k []) = (List.range c).map fun j => sm (fun k => mul (co (m.getD i []) k) (co (o.getD k []) j)) (k + 1) := by
      refine eq_of_co (by simp [sumL_len]) fun j => ?_
      rw [co_sumL, co_tab, co_tab, List.length_map, List.length_range]
      by_cases hj : j < c
      · rw [if_pos hj, if_pos hj, if_pos hj]; rfl
      · rw [if_neg hj, if_neg hj]
    rw [this]
  · have hrk := hr i hi
    simp only
    rw [if_neg (by omega)]
theorem Mul_bad (m o : List (List UInt8)) (d : Nat) (h0 : 0 < m.length) (ho : 0 < o.length) (hr : Rec m d) (hd : o.length ≠ d) : matrix_Mul (some m) true (some o) = some (none, 1) := by
  unfold matrix_Mul
  rw [Size_some m h0, Option.bind_some, Size_some o ho, Option.bind_some, if_neg (by decide), if_neg (by simp), if_neg (by simp), if_neg (by have := hr 0 h0; simp only; omega)]
theorem Mul_none (m : List (List UInt8)) (h0 : 0 < m.length) : matrix_Mul (some m) true none = some (none, 1) := by
  unfold matrix_Mul
  rw [Size_some m h0, Option.bind_some, Size_none, Option.bind_some, if_neg (by decide), if_neg (by simp), if_pos (by rfl)]
theorem Mul_nofield (m o : List (List UInt8)) (h0 : 0 < m.length) (ho : 0 < o.length) : matrix_Mul (some m) false (some o) = some (none, 1) := by
  unfold matrix_Mul
  rw [Size_some m h0, Option.bind_some, Size_some o ho, Option.bind_some, if_pos (by decide)]
theorem refTimes_eq (m : List (List UInt8)) (v : List UInt8) (d : Nat) (h1 : m.length ≤ most) (hr : Rec m d) (hv : d ≤ v.length) (hd : d ≤ most) : ref04_Times m v = some (tm m v d) := by
  unfold ref04_Times
  have hmo := most_lt'
  refine bind_of ?_ rfl
  refine iterC_count (fun i => ((List.range i).map fun i => dot (m.getD i []) v d, (i : Int))) m.length _ rfl ?_ (by simp [tm])
  intro i hi
  simp only
  rw [if_pos (by omega), idx_getD hi, Option.bind_some]
  have hrk := hr i hi
  refine bind_of (iterC_count (fun k => (dot (m.getD i []) v k, (k : Int))) d (dot (m.getD i []) v d) rfl ?_ ?_) ?_
  · intro k hk
    simp only
    rw [if_pos (by omega), idx_co (by omega), Option.bind_some, idx_co (by omega), Option.bind_some, refMul_eq, Option.bind_some, wI_succ k (by omega)]
    rfl
  · simp only
    rw [if_neg (by omega)]
  · rw [appL_ok _ _ (by simp; omega) rfl, Option.bind_some, wI_succ i (by omega), List.range_succ, List.map_append]
    rfl
theorem refMul4_eq (m o : List (List UInt8)) (d c : Nat) (h1 : m.length ≤ most) (hr : Rec m d) (d0 : 0 < d) (hd : d ≤ most) (ho : o.length = d) (hc : Rec o c) (hcm : c ≤ most) : ref04_Mul m o = some (mm m o d c) := by
  unfold ref04_Mul
  have hmo := most_lt'
  have hc0 := hc 0 (by omega)
  refine bind_of ?_ rfl
  refine iterC_count (fun i => ((List.range i).map fun i => (List.range c).map fun j => sm (fun k => mul (co (m.getD i []) k) (co (o.getD k []) j)) d, (i : Int))) m.length _ rfl ?_ (by simp [mm])
  intro i hi
  simp only
  rw [if_pos (by omega), idx_getD hi, Option.bind_some, idx_0 (by omega), Option.bind_some]
  have hrk := hr i hi
  refine bind_of (iterC_count (fun j => ((List.range j).map fun j => sm (fun k => mul (co (m.getD i []) k) (co (o.getD k []) j)) d, (j : Int))) c ((List.range c).map fun j => sm (fun k => mul (co (m.getD i []) k) (co (o.getD k []) j)) d) rfl ?_ ?_) ?_
  · intro j hj
    simp only
    rw [if_pos (by omega)]
    refine bind_of (iterC_count (fun k => (sm (fun k => mul (co (m.getD i []) k) (co (o.getD k []) j)) k, (k : Int))) d (sm (fun k => mul (co (m.getD i []) k) (co (o.getD k []) j)) d) rfl ?_ ?_) ?_
    · intro k hk
      have hck := hc k (by omega)
      simp only
      rw [if_pos (by omega), idx_co (by omega), Option.bind_some, idx_getD (by omega), Option.bind_some, idx_co (by omega), Option.bind_some, refMul_eq, Option.bind_some, wI_succ k (by omega)]
      rfl
    · simp only
      rw [if_neg (by omega)]
    · rw [appL_ok _ _ (by simp; omega) rfl, Option.bind_some, wI_succ j (by omega), List.range_succ, List.map_append]
      rfl
  · simp only
    rw [if_neg (by omega)]
  · rw [appL_ok _ _ (by simp; omega) rfl, Option.bind_some, wI_succ i (by omega), List.range_succ, List.map_append]
    rfl
/-! ### Rows of numbers, filled up with noughts -/
def sqr (b : List UInt8) (n c : Nat) : List (List UInt8) := (List.range n).map fun i => (List.range c).map fun k => co b (i * c + k)
theorem sqr_len (b : List UInt8) (n c : Nat) : (sqr b n c).length = n := by simp [sqr]
theorem sqr_rec (b : List UInt8) (n c : Nat) : Rec (sqr b n c) c := fun i hi => by
  rw [sqr_len] at hi
  unfold sqr; rw [getD_tab _ _ _ hi]; simp
theorem wI_mul (a b : Nat) (h : a * b < 9223372036854775808) : wI ((a : Int) * (b : Int)) = ((a * b : Nat) : Int) := by
  rw [← Int.natCast_mul]; exact wI_nat h
theorem square_eq (b : List UInt8) (n c : Nat) (hn : n ≤ 100) (hc : c ≤ 100) : law04_square b (n : Int) (c : Int) = some (sqr b n c) := by
  unfold law04_square
  have h2 := h257
  rw [makeL_nat _ _ (by omega), Option.bind_some]
  refine bind_of (rows_loop (body := fun s5 : List (List UInt8) × Int => (if s5.2 < ((List.replicate n ([] : List UInt8)).length : Int) then ((makeL (c : Int) (0 : UInt8)).bind fun c8 => ((idx s5.1 s5.2).bind fun c12 => ((idx ((s5.1.set (s5.2 : Int).toNat c8)) s5.2).bind fun c17 => ((iterC (fun s19 : List (List UInt8) × Int => (if s19.2 < (c17.length : Int) then (if (wI ((wI (s5.2 * (c : Int))) + s19.2)) < (b.length : Int) then ((idx s19.1 s5.2).bind fun c25 => ((idx b ((wI ((wI (s5.2 * (c : Int))) + s19.2)))).bind fun c27 => ((idx c25 s19.2).bind fun c28 => some (.inl ((s19.1.set (s5.2 : Int).toNat (c25.set (s19.2 : Int).toNat c27)), (wI (s19.2 + 1))))))) else some (.inl (s19.1, (wI (s19.2 + 1))))) else some (.inr s19.1))) ((s5.1.set (s5.2 : Int).toNat c8), 0)).bind fun x19 => some (.inl (x19, (wI (s5.2 + 1)))))))) else some (.inr s5.1))) (List.replicate n ([] : List UInt8)) n (by simp) (fun i => (List.range c).map fun k => co b (i * c + k)) (fun i hi => ?_) (fun s => by simp)) rfl
  simp only
  have hU := updR_len (List.replicate n ([] : List UInt8)) (fun i => (List.range c).map fun k => co b (i * c + k)) i
  rw [List.length_replicate] at hU
  generalize updR (List.replicate n ([] : List UInt8)) (fun i => (List.range c).map fun k => co b (i * c + k)) i = s at hU ⊢
  have hU2 : i < (s.set i (List.replicate c (0 : UInt8))).length := by rw [List.length_set]; omega
  rw [if_pos (by rw [List.length_replicate]; omega), makeL_nat _ _ (by omega), Option.bind_some, idx_getD (by omega), Option.bind_some, Int.toNat_natCast, idx_set (by omega), Option.bind_some]
  have hic : i * c ≤ 10000 := by
    have := Nat.mul_le_mul (show i ≤ 100 by omega) hc; omega
  have hgi : (s.set i (List.replicate c (0 : UInt8))).getD i [] = List.replicate c 0 := by rw [getD_set (by omega), if_pos rfl]
  have hlc : (List.replicate c (0 : UInt8)).length = c := List.length_replicate ..
  refine bind_of (row_loop _ i c hU2 (by rw [hgi]; simp) (fun k => co b (i * c + k)) (fun k hk => ?_) (fun s => by simp)) (by rw [wI_succ i (by omega), List.set_set])
  simp only
  rw [if_pos (by rw [hlc]; omega), wI_mul i c (by omega), wI_add (i * c) k (by omega), hgi, wI_succ k (by omega)]
  by_cases hb : i * c + k < b.length
  · rw [if_pos (by omega), idx_set hU2, Option.bind_some, idx_co hb, Option.bind_some, idx_updB _ _ _ _ (by rw [hlc]; omega), Option.bind_some, Int.toNat_natCast, List.set_set]
  · rw [if_neg (by omega)]
    have : (updB (List.replicate c (0 : UInt8)) (fun k => co b (i * c + k)) k).set k (co b (i * c + k)) = updB (List.replicate c (0 : UInt8)) (fun k => co b (i * c + k)) k := by
      refine eq_of_co (by simp) fun j => ?_
      rw [co_set (by rw [updB_len, hlc]; exact hk)]
      by_cases e : j = k
      · rw [if_pos e, e, co_updB _ _ _ _ (by rw [hlc]; exact hk), if_neg (by omega), co_rep, co_ge (by omega)]
      · rw [if_neg e]
    rw [this]
theorem side8 (n : Int) : ∃ k : Nat, 1 ≤ k ∧ k ≤ 8 ∧ wI (1 + wI (((UInt64.ofInt n % (8 : UInt64)).toNat : Nat) : Int)) = (k : Int) := by
  have h : (UInt64.ofInt n % (8 : UInt64)).toNat < 8 := by
    rw [UInt64.toNat_mod]; exact Nat.mod_lt _ (by decide)
  refine ⟨1 + (UInt64.ofInt n % (8 : UInt64)).toNat, by omega, by omega, ?_⟩
  generalize (UInt64.ofInt n % (8 : UInt64)).toNat = j at h ⊢
  rw [wI_nat (by omega), wI_of (by omega) (by omega)]; omega
theorem law04_MatrixProducts_true (n k c : Int) (a b v : List UInt8) (lo0 : -9223372036854775808 ≤ n) (hi0 : n ≤ 9223372036854775807) (lo1 : -9223372036854775808 ≤ k) (hi1 : k ≤ 9223372036854775807) (lo2 : -9223372036854775808 ≤ c) (hi2 : c ≤ 9223372036854775807) : law04_MatrixProducts n k c a b v = some true := by
  have h2 := h257
  unfold law04_MatrixProducts
  obtain ⟨n, n0, n1, en⟩ := side8 n
  obtain ⟨k, k0, k1, ek⟩ := side8 k
  obtain ⟨c, c0, c1, ec⟩ := side8 c
  simp only [en, ek, ec]
  rw [lives4, Option.bind_some, if_neg (by decide), field_New, Option.bind_some, square_eq _ _ _ (by omega) (by omega), Option.bind_some, square_eq _ _ _ (by omega) (by omega), Option.bind_some]
  have lx := sqr_len a n k
  have ly := sqr_len b k c
  have rx := sqr_rec a n k
  have ry := sqr_rec b k c
  generalize sqr a n k = x at lx rx ⊢
  generalize sqr b k c = y at ly ry ⊢
  have lp := mm_len x y k c
  have rp := mm_rec x y k c
  rw [New_ok x k (by omega) (by omega) (by omega) (by omega) rx, Option.bind_some, New_ok y c (by omega) (by omega) (by omega) (by omega) ry, Option.bind_some, Mul_ok x y k c (by omega) (by omega) rx (by omega) (by omega) ly ry (by omega), Option.bind_some, if_pos rfl, if_pos rfl, if_pos rfl,
    rows_some _ (by omega) (by omega) (fun i hi => by rw [rp i hi]; omega), Option.bind_some, refMul4_eq x y k c (by omega) rx (by omega) (by omega) ly ry (by omega), Option.bind_some, same_eq _ _ (by omega), Option.bind_some, decide_eq_true rfl, if_neg (by decide)]
  have hJ : ∃ e, matrix_Mul (some y) true (some y) = some e ∧ (decide (e.2 = 0) == decide ((k : Int) = (c : Int))) = true := by
    by_cases h : k = c
    · exact ⟨_, Mul_ok y y c c (by omega) (by omega) ry (by omega) (by omega) (by omega) ry (by omega), by simp [h]⟩
    · exact ⟨_, Mul_bad y y c (by omega) (by omega) ry (by omega), by
        have : ¬ (k : Int) = (c : Int) := by omega
        simp [this]⟩
  obtain ⟨e, hJ1, hJ2⟩ := hJ
  by_cases hv : v.length = k
  · rw [Times_ok x v k (by omega) (by omega) rx hv (by omega), Option.bind_some, if_pos (by omega), if_pos rfl, refTimes_eq x v k (by omega) rx (by omega) (by omega), Option.bind_some, if_pos rfl, Option.bind_some, Sum.elim_inl, hJ1, Option.bind_some, Mul_none x (by omega), Option.bind_some, Mul_nofield x y (by omega) (by omega), Option.bind_some, if_pos hJ2]
    rfl
  · rw [Times_bad x v k (by omega) rx hv, Option.bind_some, if_neg (by omega), if_pos rfl, Option.bind_some, Sum.elim_inl, hJ1, Option.bind_some, Mul_none x (by omega), Option.bind_some, Mul_nofield x y (by omega) (by omega), Option.bind_some, if_pos hJ2]
    rfl
end Gk

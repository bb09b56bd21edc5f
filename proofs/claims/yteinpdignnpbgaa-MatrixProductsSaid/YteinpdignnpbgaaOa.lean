/- Chapter 4 in plain Lean: what makes matrices, and products. No condition but lengths. -/
import Derived.Test.YteinpdignnpbgaaL4a
import Derived.Test.YteinpdignnpbgaaMz
set_option linter.unusedSimpArgs false
set_option linter.unusedVariables false
namespace Gk
open Gf

theorem size_eq (n : Int) : matrix_size n = some (decide (1 ≤ n ∧ n ≤ 64)) := by
  unfold matrix_size
  by_cases h : 1 ≤ n
  · rw [if_pos h]; simp [h]
  · rw [if_neg h]; simp [h]
theorem blank_eq (n c : Nat) (hn : n ≤ most) (hc : c ≤ most) : matrix_blank (n : Int) (c : Int) = some (List.replicate n (List.replicate c 0)) := by
  unfold matrix_blank
  have hm := most_lt'
  rw [makeL_nat _ _ hn, Option.bind_some]
  refine bind_of ?_ rfl
  obtain ⟨x, e1, e2⟩ := iterC_up (s0 := List.replicate n ([] : List UInt8)) (fun i s => s.length = n ∧ ∀ j, j < i → s.getD j [] = List.replicate c 0) n (fun x : List (List UInt8) => x = List.replicate n (List.replicate c 0))
    (body := fun s9 : List (List UInt8) × Int => (if s9.2 < ((List.replicate n ([] : List UInt8)).length : Int) then ((makeL (c : Int) (0 : UInt8)).bind fun c14 => ((idx s9.1 s9.2).bind fun c19 => some (.inl ((s9.1.set (s9.2 : Int).toNat c14), (wI (s9.2 + 1)))))) else some (.inr s9.1)))
    ⟨by simp, fun j hj => absurd hj (Nat.not_lt_zero _)⟩
    (fun i s hi hI => by
      obtain ⟨hl, hs⟩ := hI
      refine ⟨s.set i (List.replicate c 0), ?_, by simpa using hl, fun j hj => ?_⟩
      · simp only
        rw [if_pos (by rw [List.length_replicate]; omega), makeL_nat _ _ hc, Option.bind_some, idx_getD (by omega), Option.bind_some, wI_succ i (by omega), Int.toNat_natCast]
      · rw [getD_set (by omega)]
        by_cases hji : j = i
        · rw [if_pos hji]
        · rw [if_neg hji]; exact hs j (by omega))
    (fun s hI => ⟨s, by simp, rows_ext (by rw [hI.1]; simp) (fun j hj => by rw [hI.2 j (by omega), getD_rep _ (by omega)])⟩)
  rw [e1, e2]
/-- Rows of one length d. -/
def Rec (l : List (List UInt8)) (d : Nat) : Prop := ∀ i, i < l.length → (l.getD i []).length = d
theorem New_ok (l : List (List UInt8)) (d : Nat) (h0 : 0 < l.length) (h1 : l.length ≤ 64) (d0 : 0 < d) (d1 : d ≤ 64) (hr : Rec l d) : matrix_New l = some (some l, 0) := by
  unfold matrix_New
  have hm := h257
  have hd := hr 0 h0
  rw [size_eq, Option.bind_some, if_neg (by simp; omega), idx_0 h0, Option.bind_some, hd, size_eq, Option.bind_some, if_neg (by simp; omega), Option.bind_some, hd, blank_eq _ _ (by omega) (by omega), Option.bind_some]
  obtain ⟨x, e1, e2⟩ := iterC_up (s0 := List.replicate l.length (List.replicate d (0 : UInt8))) (fun i s => s.length = l.length ∧ ∀ j, j < l.length → s.getD j [] = if j < i then l.getD j [] else List.replicate d 0) l.length (fun x : List (List UInt8) ⊕ (Option (List (List UInt8)) × Int) => x = .inl l)
    (body := fun s15 : List (List UInt8) × Int => (if s15.2 < (l.length : Int) then ((idx l s15.2).bind fun c18 => ((some (l.getD 0 [])).bind fun c20 => (if (c18.length : Int) = (c20.length : Int) then ((idx s15.1 s15.2).bind fun c23 => some (.inl ((s15.1.set (s15.2 : Int).toNat (copyL c23 0 c18)), (wI (s15.2 + 1))))) else some (.inr (.inr ((none : Option (List (List UInt8))), 1)))))) else some (.inr (.inl s15.1))))
    ⟨by simp, fun j hj => by rw [getD_rep _ hj, if_neg (by omega)]⟩
    (fun i s hi hI => by
      obtain ⟨hl, hs⟩ := hI
      refine ⟨s.set i (l.getD i []), ?_, by simpa using hl, fun j hj => ?_⟩
      · simp only
        rw [if_pos (by omega), idx_getD hi, Option.bind_some, Option.bind_some, hd, hr i hi, if_pos rfl, idx_getD (by omega), Option.bind_some, hs i hi, if_neg (by omega), wI_succ i (by omega), Int.toNat_natCast]
        rw [show copyL (List.replicate d (0 : UInt8)) 0 (l.getD i []) = l.getD i [] from by
          have := copyL_all (0 : UInt8) (l.getD i [])
          rwa [hr i hi] at this]
      · rw [getD_set (by omega)]
        by_cases hji : j = i
        · rw [if_pos hji, if_pos (by omega), hji]
        · rw [if_neg hji, hs j hj]
          by_cases h2 : j < i
          · rw [if_pos h2, if_pos (by omega)]
          · rw [if_neg h2, if_neg (by omega)])
    (fun s hI => ⟨_, by simp, congrArg Sum.inl (rows_ext hI.1 (fun j hj => by rw [hI.2 j (by omega), if_pos (by omega)]))⟩)
  rw [e1, Option.bind_some, e2, Sum.elim_inl]
theorem New_range (l : List (List UInt8)) (h : l.length = 0 ∨ 64 < l.length ∨ (l.getD 0 []).length = 0 ∨ 64 < (l.getD 0 []).length) : matrix_New l = some (none, 2) := by
  unfold matrix_New
  rw [size_eq, Option.bind_some]
  by_cases h0 : 1 ≤ l.length ∧ l.length ≤ 64
  · generalize hd : (l.getD 0 []).length = d at h
    rw [if_neg (by simp; omega), idx_0 (by omega), Option.bind_some, hd, size_eq, Option.bind_some, if_pos (by simp; omega)]
  · rw [if_pos (by simp; omega)]
theorem New_arg (l : List (List UInt8)) (d : Nat) (h0 : 0 < l.length) (h1 : l.length ≤ 64) (d0 : 0 < d) (d1 : d ≤ 64) (hd : (l.getD 0 []).length = d) (hr : ¬ Rec l d) : matrix_New l = some (none, 1) := by
  unfold matrix_New
  have hm := h257
  rw [size_eq, Option.bind_some, if_neg (by simp; omega), idx_0 h0, Option.bind_some, hd, size_eq, Option.bind_some, if_neg (by simp; omega), Option.bind_some, hd, blank_eq _ _ (by omega) (by omega), Option.bind_some]
  obtain ⟨x, e1, e2⟩ := iterC_inv (body := fun s15 : List (List UInt8) × Int => (if s15.2 < (l.length : Int) then ((idx l s15.2).bind fun c18 => ((some (l.getD 0 [])).bind fun c20 => (if (c18.length : Int) = (c20.length : Int) then ((idx s15.1 s15.2).bind fun c23 => some (.inl ((s15.1.set (s15.2 : Int).toNat (copyL c23 0 c18)), (wI (s15.2 + 1))))) else some (.inr (.inr ((none : Option (List (List UInt8))), 1)))))) else some (.inr (.inl s15.1))))
    (fun s => ∃ i : Nat, i ≤ l.length ∧ s.2 = (i : Int) ∧ s.1.length = l.length ∧ ∀ j, j < i → (l.getD j []).length = d) (fun s => l.length - s.2.toNat) (fun x : List (List UInt8) ⊕ (Option (List (List UInt8)) × Int) => x = .inr (none, 1))
    (by
      rintro ⟨s, _⟩ ⟨i, hi, rfl, hl, hs⟩
      by_cases h : i < l.length
      · by_cases hb : (l.getD i []).length = d
        · refine .inl ⟨(s.set i (copyL (s.getD i []) 0 (l.getD i [])), ((i + 1 : Nat) : Int)), ?_, ⟨i + 1, h, rfl, by simpa using hl, fun j hj => ?_⟩, by simp only [Int.toNat_natCast]; omega⟩
          · simp only
            rw [if_pos (by omega), idx_getD h, Option.bind_some, Option.bind_some, hd, if_pos (by omega), idx_getD (show i < s.length by simp only at hl; omega), Option.bind_some, wI_succ i (by omega), Int.toNat_natCast]
          · by_cases hji : j = i
            · rw [hji]; exact hb
            · exact hs j (by omega)
        · refine .inr ⟨_, ?_, rfl⟩
          simp only
          rw [if_pos (by omega), idx_getD h, Option.bind_some, Option.bind_some, hd, if_neg (by omega)]
      · exact absurd (fun j hj => hs j (by omega)) hr)
    (List.replicate l.length (List.replicate d (0 : UInt8)), 0) ⟨0, Nat.zero_le _, rfl, by simp, fun j hj => absurd hj (Nat.not_lt_zero _)⟩
  rw [e1, Option.bind_some, e2, Sum.elim_inr]
theorem Size_some (l : List (List UInt8)) (h0 : 0 < l.length) : matrix_Size (some l) = some ((l.length : Int), ((l.getD 0 []).length : Int)) := by
  unfold matrix_Size
  rw [if_neg (by simp), Option.bind_some, idx_0 h0, Option.bind_some]
theorem Size_none : matrix_Size none = some (0, 0) := by
  rfl
theorem Row_ok (l : List (List UInt8)) (i : Nat) (h : i < l.length) (hm : (l.getD i []).length ≤ most) : matrix_Row (some l) (i : Int) = some (l.getD i []) := by
  unfold matrix_Row slices_Clone_sbytebyte
  rw [if_neg (by simp), if_neg (by omega), Option.bind_some, if_neg (by omega), idx_getD h, Option.bind_some, appL_nil _ hm, Option.bind_some]
theorem Row_bad (l : List (List UInt8)) (i : Int) (h : i < 0 ∨ (l.length : Int) ≤ i) : matrix_Row (some l) i = some [] := by
  unfold matrix_Row
  rw [if_neg (by simp)]
  by_cases h1 : i < 0
  · rw [if_pos h1]
  · rw [if_neg h1, Option.bind_some, if_pos (by omega)]
theorem rows_some (l : List (List UInt8)) (h0 : 0 < l.length) (h1 : l.length ≤ most) (hm : ∀ i, i < l.length → (l.getD i []).length ≤ most) : law04_rows (some l) = some l := by
  unfold law04_rows
  have hmo := most_lt'
  rw [Size_some l h0, Option.bind_some]
  refine bind_of ?_ rfl
  refine iterC_count (fun i => (l.take i, (i : Int))) l.length _ rfl ?_ ?_
  · intro i hi
    simp only
    rw [if_pos (by omega), Row_ok l i hi (hm i hi), Option.bind_some, appL_ok _ _ (by simp; omega) rfl, Option.bind_some, wI_succ i (by omega), rows_snoc hi]
  · simp
theorem rows_none : law04_rows none = some [] := by
  unfold law04_rows
  rw [Size_none, Option.bind_some]
  refine bind_of ?_ rfl
  exact iterC_count (fun i => ([], (i : Int))) 0 _ rfl (fun i hi => absurd hi (Nat.not_lt_zero _)) (by simp)
theorem same_eq (a b : List (List UInt8)) (ha : a.length ≤ most) : law04_same a b = some (decide (a = b)) := by
  unfold law04_same
  have hmo := most_lt'
  by_cases hl : a.length = b.length
  · rw [if_pos (by omega)]
    obtain ⟨x, e1, e2, e3⟩ := iterC_find (X := Unit ⊕ Bool) (body := fun s2 : Int => (if s2 < (a.length : Int) then ((idx a s2).bind fun c7 => ((idx b s2).bind fun c9 => (if c7 = c9 then some (.inl (wI (s2 + 1))) else some (.inr (.inr false))))) else some (.inr (.inl ())))) a.length (fun i => a.getD i [] ≠ b.getD i []) (.inr false) (.inl ())
      (fun i hi hb => by rw [if_pos (by omega), idx_getD hi, Option.bind_some, idx_getD (by omega), Option.bind_some, if_pos (Classical.not_not.1 hb), wI_succ i (by omega)])
      (fun i hi hb => by rw [if_pos (by omega), idx_getD hi, Option.bind_some, idx_getD (by omega), Option.bind_some, if_neg hb])
      (by rw [if_neg (by omega)])
    rw [e1, Option.bind_some]
    by_cases hall : ∀ i, i < a.length → ¬ a.getD i [] ≠ b.getD i []
    · rw [e3 hall, Sum.elim_inl, decide_eq_true (rows_ext hl fun i hi => Classical.not_not.1 (hall i hi))]
    · rw [e2 (Classical.byContradiction fun hc => hall fun i hi hb => hc ⟨i, hi, hb⟩), Sum.elim_inr, decide_eq_false]
      rintro rfl
      exact hall fun i hi hb => hb rfl
  · rw [if_neg (by omega), decide_eq_false (fun e => hl (by rw [e]))]
theorem few4_eq (l : List (List UInt8)) : ∃ b, law04_few l = some b ∧ (b = true → l.length ≤ 66 ∧ ∀ i, i < l.length → (l.getD i []).length ≤ 66) := by
  unfold law04_few
  by_cases h : 66 < (l.length : Int)
  · exact ⟨false, by rw [if_pos h], fun e => by cases e⟩
  rw [if_neg h]
  obtain ⟨x, e1, e2, e3⟩ := iterC_find (X := Unit ⊕ Bool) (body := fun s2 : Int => (if s2 < (l.length : Int) then ((idx l s2).bind fun c5 => (if 66 < (c5.length : Int) then some (.inr (Sum.inr (α := Unit) false)) else some (.inl (wI (s2 + 1))))) else some (.inr (.inl ())))) l.length (fun i => 66 < (l.getD i []).length) (.inr false) (.inl ())
    (fun i hi hb => by rw [if_pos (by omega), idx_getD hi, Option.bind_some, if_neg (by omega), wI_succ i (by omega)])
    (fun i hi hb => by rw [if_pos (by omega), idx_getD hi, Option.bind_some, if_pos (by omega)])
    (by rw [if_neg (by omega)])
  rw [e1, Option.bind_some]
  by_cases hall : ∀ i, i < l.length → ¬ 66 < (l.getD i []).length
  · rw [e3 hall]
    exact ⟨true, rfl, fun _ => ⟨by omega, fun i hi => by have := hall i hi; omega⟩⟩
  · rw [e2 (Classical.byContradiction fun hc => hall fun i hi hb => hc ⟨i, hi, hb⟩)]
    exact ⟨false, rfl, fun e => by cases e⟩

/-! ### Rows that are picked -/
def fitP (n : Nat) (i : Int) : Bool := decide (0 ≤ i) && decide (i < (n : Int))
theorem idx_int {l : List (List UInt8)} {i : Int} (h : fitP l.length i = true) : idx l i = some (l.getD i.toNat []) := by
  simp only [fitP, Bool.and_eq_true, decide_eq_true_eq] at h
  obtain ⟨k, rfl⟩ := Int.eq_ofNat_of_zero_le h.1
  rw [idx_getD (by have := h.2; omega)]; rfl
theorem idx_gI {l : List Int} {k : Nat} (h : k < l.length) : idx l (k : Int) = some (l.getD k 0) := by rw [idx_nat]; simp [List.getD_eq_getElem?_getD, h]
theorem take_gI {l : List Int} {k : Nat} (h : k < l.length) : l.take (k + 1) = l.take k ++ [l.getD k 0] := by
  rw [List.take_add_one]; simp [List.getD_eq_getElem?_getD, h]
theorem Pick_any (l : List (List UInt8)) (p : List Int) : anyO (fun y => matrix_Pick_1 y (some l)) p = some (!p.all (fitP l.length)) := by
  rw [anyO_all _ (fun i => !fitP l.length i)]
  · simp [List.all_eq_not_any_not]
  · intro i _
    unfold matrix_Pick_1 fitP
    by_cases h : i < 0
    · rw [if_pos h, decide_eq_false (show ¬ 0 ≤ i by omega)]; rfl
    · rw [if_neg h, Option.bind_some, decide_eq_true (show 0 ≤ i by omega), Bool.true_and]
      congr 1
      by_cases h2 : i < (l.length : Int)
      · rw [decide_eq_true h2, decide_eq_false (by omega)]; rfl
      · rw [decide_eq_false h2, decide_eq_true (by omega)]; rfl
theorem Pick_range (l : List (List UInt8)) (p : List Int) (hp : p.length ≤ most) (h : (decide (1 ≤ p.length ∧ p.length ≤ 64) && p.all (fitP l.length)) = false) : matrix_Pick (some l) p = some (none, 2) := by
  unfold matrix_Pick
  have hmo := most_lt'
  rw [if_neg (by simp), size_eq, Option.bind_some]
  by_cases h1 : 1 ≤ p.length ∧ p.length ≤ 64
  · rw [if_neg (by simp; omega), lim_of (by omega), Option.bind_some, Pick_any, Option.bind_some]
    rw [decide_eq_true h1, Bool.true_and] at h
    rw [h, if_pos (by rfl)]
  · rw [if_pos (by simp; omega)]
theorem all_gI {l : List Int} {f : Int → Bool} (h : l.all f = true) {k : Nat} (hk : k < l.length) : f (l.getD k 0) = true := by
  rw [List.all_eq_true] at h
  exact h _ (by simp [List.getD_eq_getElem?_getD, hk])
theorem Pick_ok (l : List (List UInt8)) (d : Nat) (p : List Int) (h0 : 0 < l.length) (h1 : 1 ≤ p.length ∧ p.length ≤ 64) (d0 : 0 < d) (d1 : d ≤ 64) (hr : Rec l d) (hf : p.all (fitP l.length) = true) : matrix_Pick (some l) p = some (some (p.map fun i => l.getD i.toNat []), 0) := by
  unfold matrix_Pick
  have hmo := h257
  rw [if_neg (by simp), size_eq, Option.bind_some, if_neg (by simp; omega), lim_of (by omega), Option.bind_some, Pick_any, Option.bind_some, hf, if_neg (by decide)]
  refine bind_of (x := p.map fun i => l.getD i.toNat []) ?_ ?_
  · refine iterC_count (fun i => ((p.take i).map fun i => l.getD i.toNat [], (i : Int))) p.length _ rfl ?_ ?_
    · intro i hi
      simp only
      rw [if_pos (by omega), idx_gI hi, Option.bind_some, Option.bind_some, idx_int (all_gI hf hi), Option.bind_some, appL_ok _ _ (by simp; omega) rfl, Option.bind_some, wI_succ i (by omega), take_gI hi, List.map_append]
      rfl
    · simp
  · rw [New_ok _ d (by rw [List.length_map]; omega) (by rw [List.length_map]; omega) d0 d1]
    · rfl
    · intro i hi
      rw [List.length_map] at hi
      have hk := all_gI hf hi
      have : (p.map fun i => l.getD i.toNat []).getD i [] = l.getD (p.getD i 0).toNat [] := by simp [List.getD_eq_getElem?_getD, hi]
      rw [this]
      refine hr _ ?_
      simp only [fitP, Bool.and_eq_true, decide_eq_true_eq] at hk
      omega

/-! ### Vandermonde's -/
def vdm (xs : List UInt8) (c : Nat) : List (List UInt8) := (List.range xs.length).map fun i => (List.range c).map fun (k : Nat) => powZ (co xs i) (k : Int)
theorem Vandermonde_ok (xs : List UInt8) (c : Nat) (h0 : 0 < xs.length) (h1 : xs.length ≤ 64) (c0 : 0 < c) (c1 : c ≤ 64) : matrix_Vandermonde true xs (c : Int) = some (some (vdm xs c), 0) := by
  unfold matrix_Vandermonde
  have hmo := h257
  rw [if_neg (by decide), size_eq, Option.bind_some, if_neg (by simp; omega), size_eq, Option.bind_some, if_neg (by simp; omega), blank_eq _ _ (by omega) (by omega), Option.bind_some]
  refine bind_of (x := vdm xs c) ?_ rfl
  refine rows_loop _ xs.length (by simp) _ (fun i hi => ?_) (fun s => by simp)
  simp only
  have hU := updR_len (List.replicate xs.length (List.replicate c (0 : UInt8))) (fun i => (List.range c).map fun (k : Nat) => powZ (co xs i) (k : Int)) i
  have hG := getD_updR (List.replicate xs.length (List.replicate c (0 : UInt8))) (fun i => (List.range c).map fun (k : Nat) => powZ (co xs i) (k : Int)) i i (by simpa using hi)
  rw [if_neg (by omega), getD_rep _ hi] at hG
  rw [List.length_replicate] at hU
  generalize updR (List.replicate xs.length (List.replicate c (0 : UInt8))) (fun i => (List.range c).map fun (k : Nat) => powZ (co xs i) (k : Int)) i = s at hU hG ⊢
  rw [if_pos (by omega), idx_co hi, Option.bind_some]
  refine bind_of (row_loop s i c (by omega) (by rw [hG]; simp) (fun (k : Nat) => powZ (co xs i) (k : Int)) (fun k hk => ?_) (fun s => by simp)) (by rw [wI_succ i (by omega)])
  simp only
  rw [if_pos (by omega), idx_set (by omega), Option.bind_some, Pow_eq, Option.bind_some, idx_updB _ _ _ _ (by rw [hG]; simpa using hk), Option.bind_some, wI_succ k (by omega), Int.toNat_natCast, Int.toNat_natCast, List.set_set]
theorem lives4 : law04_lives = some true := by
  unfold law04_lives
  rw [field_New, Option.bind_some]
  have e := Vandermonde_ok [1, 2] 2 (by decide) (by decide) (by decide) (by decide)
  rw [show ((2 : Nat) : Int) = 2 from rfl] at e
  have hv : vdm [1, 2] 2 = [[1, 1], [1, 2]] := by decide +kernel
  rw [e, Option.bind_some, if_pos rfl, hv]
  have e2 := Row_ok [[1, 1], [1, 2]] 1 (by decide) (by decide)
  rw [show ((1 : Nat) : Int) = 1 from rfl] at e2
  rw [e2]
  decide +kernel
end Gk

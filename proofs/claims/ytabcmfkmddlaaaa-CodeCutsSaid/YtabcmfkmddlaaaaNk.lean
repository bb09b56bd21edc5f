/- Chapter 9: bytes that are cut and glued; the law CodeCuts. No condition. -/
import Derived.Test.YtabcmfkmddlaaaaL9d
import Derived.Test.YtabcmfkmddlaaaaNg
set_option linter.unusedSimpArgs false
set_option linter.unusedVariables false
namespace Gk
open Gf
def psz (n t : Nat) : Nat := n / t + (if 0 < n % t then 1 else 0)
theorem psz_spec (n t : Nat) (h : 0 < t) : n ≤ psz n t * t ∧ ∀ k, k < psz n t → k * t < n := by
  have h1 := Nat.div_add_mod n t
  have h2 := Nat.mod_lt n h
  unfold psz
  rw [Nat.mul_comm] at h1
  constructor
  · rw [Nat.add_mul]
    split
    · rw [Nat.one_mul]; omega
    · rw [Nat.zero_mul]; omega
  · intro k hk
    split at hk
    · have := Nat.mul_le_mul_right t (show k ≤ n / t by omega)
      omega
    · have := Nat.mul_le_mul_right t (show k + 1 ≤ n / t by omega)
      rw [Nat.add_mul, Nat.one_mul] at this
      omega
theorem PartSize_eq (n t : Nat) (h0 : 1 ≤ t) (h1 : t ≤ 255) (hn : n ≤ most) : code_PartSize (n : Int) (t : Int) = some (psz n t : Int) := by
  unfold code_PartSize psz
  have hmo := most_lt'
  have hdiv := Nat.div_le_self n t
  rw [member_eq, decide_eq_true (by omega), Option.bind_some, if_neg (by decide), if_neg (by omega), divI_nat _ _ (by omega) (by omega), Option.bind_some, remI_nat _ _ (by omega), Option.bind_some]
  by_cases h : 0 < n % t
  · rw [if_pos (by omega), if_pos h, wI_succ _ (by omega)]
  · rw [if_neg (by omega), if_neg h]; rfl
theorem PartSize_bad (n t : Int) (h : ¬ (1 ≤ t ∧ t ≤ 255)) : code_PartSize n t = some 0 := by
  unfold code_PartSize
  rw [member_eq, decide_eq_false h, Option.bind_some, if_pos (by rfl)]
def cutR (b : List UInt8) (t N : Nat) : List (List UInt8) := (List.range t).map fun i => (List.range N).map fun k => co b (i * N + k)
theorem cutR_len (b : List UInt8) (t N : Nat) : (cutR b t N).length = t := by simp [cutR]
theorem cutR_flat (b : List UInt8) (N : Nat) : ∀ t, (cutR b t N).flatten = (List.range (t * N)).map (co b)
  | 0 => by simp [cutR]
  | t + 1 => by
    have e : cutR b (t + 1) N = cutR b t N ++ [(List.range N).map fun k => co b (t * N + k)] := by unfold cutR; rw [List.range_succ, List.map_append]; rfl
    rw [e, List.flatten_append, cutR_flat b N t, Nat.add_mul, Nat.one_mul, List.range_add, List.map_append]
    simp [Function.comp]
theorem Cut_ok (b : List UInt8) (t : Nat) (h0 : 1 ≤ t) (h1 : t ≤ 255) (hb : b.length ≤ 300) : code_Cut b (t : Int) = some (cutR b t (psz b.length t), 0) := by
  unfold code_Cut
  have hmo := h257
  have hm9 : 100000 ≤ most := by decide
  obtain ⟨p1, p2⟩ := psz_spec b.length t (by omega)
  have hN : psz b.length t * t ≤ 600 := by
    by_cases h : psz b.length t = 0
    · rw [h]; omega
    · have := p2 (psz b.length t - 1) (by omega)
      have e : psz b.length t = (psz b.length t - 1) + 1 := by omega
      rw [e, Nat.add_mul, Nat.one_mul]; omega
  rw [member_eq, decide_eq_true (by omega), Option.bind_some, if_neg (by decide), PartSize_eq _ _ h0 h1 (by omega), Option.bind_some]
  generalize psz b.length t = N at p1 p2 hN ⊢
  have hNt : N ≤ N * t := Nat.le_mul_of_pos_right _ (by omega)
  have wm : ∀ i, i ≤ t → wI ((i : Int) * (N : Int)) = ((i * N : Nat) : Int) := fun i hi => by
    have := Nat.mul_le_mul_right N hi
    rw [Nat.mul_comm t N] at this
    rw [← Int.natCast_mul]; exact wI_nat (by omega)
  rw [show wI ((N : Int) * (t : Int)) = ((N * t : Nat) : Int) by rw [← Int.natCast_mul]; exact wI_nat (by omega), makeL_nat _ _ (by omega), Option.bind_some]
  refine bind_of (iterC_count (fun i => (cutR b i N, (i : Int))) t (cutR b t N) rfl ?_ (by simp)) rfl
  intro i hi
  have hle := Nat.mul_le_mul_right N (show i + 1 ≤ t by omega)
  rw [Nat.mul_comm t N] at hle
  have hi1 : (i + 1) * N = i * N + N := by rw [Nat.add_mul, Nat.one_mul]
  have hcl : (copyL (List.replicate (N * t) (0 : UInt8)) 0 b).length = N * t := by
    have := copyL_len (List.replicate (N * t) (0 : UInt8)) 0 b (Nat.zero_le _)
    rwa [List.length_replicate] at this
  have hcc : ∀ j, co (copyL (List.replicate (N * t) (0 : UInt8)) 0 b) j = co b j := fun j => by
    have := co_copyL (List.replicate (N * t) (0 : UInt8)) 0 b (by rw [List.length_replicate]; omega) j
    rw [show ((0 : Nat) : Int) = 0 from rfl] at this
    rw [this, co_rep]
    split
    · rfl
    · rw [co_ge (by omega)]
  have hrow : ((copyL (List.replicate (N * t) (0 : UInt8)) 0 b).take ((i + 1) * N)).drop (i * N) = (List.range N).map fun k => co b (i * N + k) := by
    refine eq_of_co (by rw [List.length_drop, List.length_take, hcl]; simp; omega) fun k => ?_
    rw [co_drop, co_take, co_tab]
    by_cases hk : k < N
    · rw [if_pos (by omega), if_pos hk, hcc]
    · rw [if_neg (by omega), if_neg hk]
  simp only
  rw [if_pos (by omega), wm i (by omega), wI_succ i (by omega), wm (i + 1) (by omega), subL_nat _ _ _ (by omega) (by omega), Option.bind_some, hrow]
  unfold slices_Clone_sbytebyte
  rw [appL_nil _ (by simp; omega), Option.bind_some, appL_ok _ _ (by rw [cutR_len]; simp; omega) rfl, Option.bind_some]
  unfold cutR
  rw [List.range_succ, List.map_append]
  rfl
theorem Cut_bad (b : List UInt8) (t : Int) (h : ¬ (1 ≤ t ∧ t ≤ 255)) : code_Cut b t = some ([], 2) := by
  unfold code_Cut
  rw [member_eq, decide_eq_false h, Option.bind_some, if_pos (by rfl)]
theorem Glue_ok (l : List (List UInt8)) (n : Nat) (h : l.flatten.length ≤ most) (hl : l.length ≤ most) (hn : n ≤ l.flatten.length) : code_Glue l (n : Int) = some (l.flatten.take n, 0) := by
  unfold code_Glue
  rw [Concat_eq l h hl, Option.bind_some, if_neg (by omega), if_neg (by omega)]
  unfold subL3
  rw [if_pos (by omega)]
  simp
theorem Glue_bad (l : List (List UInt8)) (n : Int) (h : l.flatten.length ≤ most) (hl : l.length ≤ most) (hn : n < 0 ∨ (l.flatten.length : Int) < n) : code_Glue l n = some ([], 2) := by
  unfold code_Glue
  rw [Concat_eq l h hl, Option.bind_some]
  by_cases h0 : n < 0
  · rw [if_pos h0]
  · rw [if_neg h0, if_pos (by omega)]
theorem refCut_eq (b : List UInt8) (t : Nat) (h0 : 1 ≤ t) (h1 : t ≤ 255) (hb : b.length ≤ 300) : ref09_Cut b (t : Int) = some (cutR b t (psz b.length t)) := by
  unfold ref09_Cut
  have hmo := h257
  have hm9 : 100000 ≤ most := by decide
  obtain ⟨p1, p2⟩ := psz_spec b.length t (by omega)
  generalize hNe : psz b.length t = N at p1 p2 ⊢
  have hN : N * t ≤ 600 := by
    by_cases h : N = 0
    · rw [h]; omega
    · have := p2 (N - 1) (by omega)
      have e : N = (N - 1) + 1 := by omega
      rw [e, Nat.add_mul, Nat.one_mul]; omega
  have hNt : N ≤ N * t := Nat.le_mul_of_pos_right _ (by omega)
  refine bind_of (iterC_count (fun i => (i : Int)) N (N : Int) rfl ?_ ?_) ?_
  · intro i hi
    have := p2 i hi
    rw [show wI ((i : Int) * (t : Int)) = ((i * t : Nat) : Int) by rw [← Int.natCast_mul]; exact wI_nat (by omega), if_pos (by omega), wI_succ i (by omega)]
  · rw [show wI ((N : Int) * (t : Int)) = ((N * t : Nat) : Int) by rw [← Int.natCast_mul]; exact wI_nat (by omega), if_neg (by omega)]
  rw [makeL_nat _ _ (by omega), Option.bind_some]
  refine bind_of (rows_loop (List.replicate t ([] : List UInt8)) t (by simp) (fun i => (List.range N).map fun k => co b (i * N + k)) (fun i hi => ?_) (fun s => by simp)) rfl
  simp only
  have hU := updR_len (List.replicate t ([] : List UInt8)) (fun i => (List.range N).map fun k => co b (i * N + k)) i
  have hG := getD_updR (List.replicate t ([] : List UInt8)) (fun i => (List.range N).map fun k => co b (i * N + k)) i i (by simpa using hi)
  rw [if_neg (by omega), getD_rep _ hi] at hG
  rw [List.length_replicate] at hU
  generalize updR (List.replicate t ([] : List UInt8)) (fun i => (List.range N).map fun k => co b (i * N + k)) i = s at hU hG ⊢
  have hle := Nat.mul_le_mul_right N (show i + 1 ≤ t by omega)
  rw [Nat.mul_comm t N, Nat.add_mul, Nat.one_mul] at hle
  rw [if_pos (by rw [List.length_replicate]; omega), show wI ((i : Int) * (N : Int)) = ((i * N : Nat) : Int) by rw [← Int.natCast_mul]; exact wI_nat (by omega)]
  refine bind_of (iterC_count (fun k => (s.set i ((List.range k).map fun k => co b (i * N + k)), (k : Int))) N (s.set i ((List.range N).map fun k => co b (i * N + k))) ?_ ?_ (by simp)) (by rw [wI_succ i (by omega)])
  · congr 1
    have := set_getD s i
    rw [hG] at this
    exact this.symm
  · intro k hk
    simp only
    rw [if_pos (by omega), wI_add _ _ (by omega)]
    have hx : ((if ((i * N + k : Nat) : Int) < (b.length : Int) then ((idx b ((i * N + k : Nat) : Int)).bind fun c19 => some c19) else some (0 : UInt8))) = some (co b (i * N + k)) := by
      by_cases hlt : i * N + k < b.length
      · rw [if_pos (by omega), idx_co hlt]; rfl
      · rw [if_neg (by omega), co_ge (by omega)]
    rw [hx, Option.bind_some, idx_set (by omega), Option.bind_some, appL_ok _ _ (by simp; omega) rfl, Option.bind_some, Int.toNat_natCast, List.set_set, wI_succ k (by omega), List.range_succ, List.map_append]
    rfl
theorem law09_CodeCuts_true (b : List UInt8) (t size : Int) (lo : -9223372036854775808 ≤ t) (hi : t ≤ 9223372036854775807) (lo' : -9223372036854775808 ≤ size) (hi' : size ≤ 9223372036854775807) : law09_CodeCuts b t size = some true := by
  have hmo := h257
  have hm9 : 100000 ≤ most := by decide
  unfold law09_CodeCuts
  rw [lives9, Option.bind_some, if_neg (by decide)]
  by_cases h300 : 300 < (b.length : Int)
  · rw [if_pos h300]; rfl
  rw [if_neg h300]
  by_cases hbad : 1 ≤ t ∧ t ≤ 255
  case neg =>
    rw [Cut_bad b t hbad, PartSize_bad _ t hbad]
    by_cases a1 : 20 < t
    · rw [if_pos a1, if_neg (by omega), Option.bind_some, if_neg (by omega), if_pos (by omega)]; rfl
    · rw [if_neg a1, Option.bind_some, if_pos (by omega)]; rfl
  by_cases a1 : 20 < t
  · rw [if_pos a1, if_pos hbad.2]; rfl
  rw [if_neg a1]
  obtain ⟨k, rfl⟩ := Int.eq_ofNat_of_zero_le (show 0 ≤ t by omega)
  rw [Cut_ok b k (by omega) (by omega) (by omega), Option.bind_some, if_neg (by omega), if_neg (by omega), refCut_eq b k (by omega) (by omega) (by omega), Option.bind_some, PartSize_eq _ _ (by omega) (by omega) (by omega)]
  obtain ⟨p1, p2⟩ := psz_spec b.length k (by omega)
  generalize hNe : psz b.length k = N at p1 p2 ⊢
  have hN : N * k ≤ 600 := by
    by_cases h : N = 0
    · rw [h]; omega
    · have := p2 (N - 1) (by omega)
      have e : N = (N - 1) + 1 := by omega
      rw [e, Nat.add_mul, Nat.one_mul]; omega
  have hfl : (cutR b k N).flatten.length = k * N := by rw [cutR_flat]; simp
  have hl := cutR_len b k N
  have hr0 : ((cutR b k N).getD 0 []).length = N := by unfold cutR; rw [getD_tab _ _ _ (by omega)]; simp
  have hid : idx (cutR b k N) 0 = some ((cutR b k N).getD 0 []) := idx_0 (by omega)
  have hloop : iterC (fun s85 : Int => (if s85 < ((cutR b k N).length : Int) then ((idx (cutR b k N) s85).bind fun c90 => ((idx (cutR b k N) s85).bind fun c92 => (if c90 = c92 then some (.inl (wI (s85 + 1))) else some (.inr (Sum.inr (α := Unit) false))))) else some (.inr (.inl ())))) 0 = some (.inl ()) := by
    refine iterC_count (fun i => (i : Int)) k _ rfl ?_ (by rw [if_neg (by omega)])
    intro i hi
    rw [if_pos (by omega), idx_getD (by omega), Option.bind_some, Option.bind_some, if_pos rfl, wI_succ i (by omega)]
  have hg1 : code_Glue (cutR b k N) (b.length : Int) = some (b, 0) := by
    rw [Glue_ok _ _ (by rw [hfl, Nat.mul_comm]; omega) (by omega) (by rw [hfl, Nat.mul_comm]; exact p1), cutR_flat]
    congr 2
    refine eq_of_co (by rw [List.length_take, List.length_map, List.length_range, Nat.mul_comm k N]; omega) fun j => ?_
    rw [co_take, co_tab]
    by_cases hj : j < b.length
    · rw [if_pos hj, if_pos (by rw [Nat.mul_comm]; omega)]
    · rw [if_neg hj, co_ge (by omega)]
  rw [if_pos rfl, if_pos (by rw [hl]), hid, Option.bind_some, Option.bind_some, if_pos (by rw [hr0]), hloop, Option.bind_some, Sum.elim_inl, hg1, Option.bind_some]
  have hkN : wI ((k : Int) * (N : Int)) = ((k * N : Nat) : Int) := by rw [← Int.natCast_mul]; exact wI_nat (by rw [Nat.mul_comm]; omega)
  by_cases hs : size < 0 ∨ ((k * N : Nat) : Int) < size
  · rw [Glue_bad (cutR b k N) size (by rw [hfl, Nat.mul_comm]; omega) (by omega) (by rw [hfl]; exact hs), Option.bind_some, if_pos rfl, if_pos rfl]
    by_cases h1 : size < 0
    · rw [if_pos h1]; rfl
    · rw [if_neg h1, Option.bind_some, hr0, hkN, if_pos (by omega)]; rfl
  · obtain ⟨z, rfl⟩ := Int.eq_ofNat_of_zero_le (show 0 ≤ size by omega)
    rw [Glue_ok (cutR b k N) z (by rw [hfl, Nat.mul_comm]; omega) (by omega) (by rw [hfl]; have := hs; omega), Option.bind_some, if_pos rfl, if_pos rfl, if_neg (by omega), Option.bind_some, hr0, hkN, if_neg (by omega), if_pos rfl]
    congr 1
    rw [decide_eq_true_eq, List.length_take, hfl]
    omega
end Gk

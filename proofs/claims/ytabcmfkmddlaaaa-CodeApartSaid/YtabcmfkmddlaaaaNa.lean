/- Chapter 8 in plain Lean: shares, and what shares tell. No condition but lengths. -/
import Derived.Test.YtabcmfkmddlaaaaL8a
import Derived.Test.YtabcmfkmddlaaaaMu0
import Derived.Test.YtabcmfkmddlaaaaMz
import Derived.Test.YtabcmfkmddlaaaaMx0
set_option linter.unusedSimpArgs false
set_option linter.unusedVariables false
namespace Gk
open Gf

/-! ### Shares -/
def rowsp (m : List UInt8) (n q i : Nat) : List UInt8 := (List.range q).map fun k => co m (k * n + i)
theorem rowsp_len (m : List UInt8) (n q i : Nat) : (rowsp m n q i).length = q := by simp [rowsp]
theorem co_rowsp (m : List UInt8) (n q i k : Nat) (h : k < q) : co (rowsp m n q i) k = co m (k * n + i) := by
  simp [co, rowsp, List.getD_eq_getElem?_getD, h]
/-- The polynomial of a byte: the secret's, and those of the mask's rows. -/
def colp (s m : List UInt8) (q i : Nat) : List UInt8 := co s i :: rowsp m s.length q i
theorem colp_len (s m : List UInt8) (q i : Nat) : (colp s m q i).length = q + 1 := by simp [colp, rowsp_len]
/-- The share at x. -/
def shr (s m : List UInt8) (q : Nat) (x : UInt8) : List UInt8 := (List.range s.length).map fun i => evp (colp s m q i) x
theorem shr_len (s m : List UInt8) (q : Nat) (x : UInt8) : (shr s m q x).length = s.length := by simp [shr]
theorem co_shr (s m : List UInt8) (q : Nat) (x : UInt8) (i : Nat) (h : i < s.length) : co (shr s m q x) i = evp (colp s m q i) x := by
  unfold shr; rw [co_tab, if_pos h]
theorem share_eq (s m : List UInt8) (q : Nat) (x : UInt8) (hm : m.length = q * s.length) (hs : s.length ≤ most) (hmm : m.length ≤ most) : shamir_share true s m x = some (shr s m q x) := by
  unfold shamir_share
  have hmo := most_lt'
  rw [makeL_nat _ _ hs, Option.bind_some]
  by_cases h0 : s.length = 0
  · have hs0 : s = [] := List.eq_nil_of_length_eq_zero h0
    subst hs0
    have hm0 : m.length = 0 := by rw [hm]; simp
    have : iterC (fun s3 : List UInt8 × Int => (if 0 ≤ s3.2 then (if 0 < ((([] : List UInt8)).length : Int) then ((subL m s3.2 ((wI (s3.2 + ((([] : List UInt8)).length : Int))))).bind fun c7 => ((field_Sum true c7 x s3.1).bind fun r8 => some (.inl (r8, (wI (s3.2 - ((([] : List UInt8)).length : Int))))))) else some (.inr s3.1)) else some (.inr s3.1))) (List.replicate ([] : List UInt8).length 0, (wI ((m.length : Int) - ((([] : List UInt8)).length : Int)))) = some ([] : List UInt8) := by
      rw [iterC_step]; simp
    rw [this, Option.bind_some, Sum_eq _ _ _ (by simp)]
    rfl
  · generalize hn : s.length = n at *
    have key : iterC (fun s3 : List UInt8 × Int => (if 0 ≤ s3.2 then (if 0 < (n : Int) then ((subL m s3.2 ((wI (s3.2 + (n : Int))))).bind fun c7 => ((field_Sum true c7 x s3.1).bind fun r8 => some (.inl (r8, (wI (s3.2 - (n : Int))))))) else some (.inr s3.1)) else some (.inr s3.1))) (List.replicate n 0, (wI ((m.length : Int) - (n : Int)))) = some ((List.range n).map fun i => evp (rowsp m n q i) x) := by
      refine iterC_count (fun j => ((List.range n).map (fun i => evp ((rowsp m n q i).drop (q - j)) x), ((((q - j) * n : Nat) : Int) - (n : Int)))) q _ ?_ ?_ ?_
      · rw [Nat.sub_zero, ← hm, wI_of (by omega) (by omega)]
        congr 1
        refine eq_of_co (by simp) fun i => ?_
        rw [co_rep, co_tab]
        split
        · rw [List.drop_of_length_le (by rw [rowsp_len]; omega)]; rfl
        · rfl
      · intro j hj
        obtain ⟨r, hr⟩ : ∃ r, q - j = r + 1 := ⟨q - j - 1, by omega⟩
        have e1 : (q - j) * n = r * n + n := by rw [hr, Nat.succ_mul]
        have e2 : q - (j + 1) = r := by omega
        have hle : r * n + n ≤ m.length := by rw [hm, ← e1]; exact Nat.mul_le_mul_right n (Nat.sub_le q j)
        simp only
        rw [e1, show (((r * n + n : Nat) : Int) - (n : Int)) = ((r * n : Nat) : Int) by omega, if_pos (by omega), if_pos (by omega), wI_add _ _ (by omega), subL_nat _ _ _ (by omega) hle, Option.bind_some,
          Sum_eq _ _ _ (by simp; omega), Option.bind_some, wI_of (by omega) (by omega), e2]
        congr 3
        refine eq_of_co ?_ fun i => ?_
        · rw [sumL_len]; simp; omega
        · have hl : ((m.take (r * n + n)).drop (r * n)).length = n := by simp; omega
          rw [co_sumL, hl]
          by_cases hi : i < n
          · rw [if_pos hi, co_drop, co_take, if_pos (by omega), co_tab, if_pos hi, co_tab, if_pos hi, ev_drop _ x r, co_rowsp m n q i r (by omega), hr, mul_comm x]
          · rw [if_neg hi, co_tab, if_neg hi]
      · simp only
        rw [Nat.sub_self, Nat.zero_mul, if_neg (by omega)]
        congr 2
    rw [key, Option.bind_some, Sum_eq _ _ _ (by omega), Option.bind_some]
    congr 1
    refine eq_of_co (by rw [sumL_len, shr_len]) fun i => ?_
    rw [co_sumL, co_tab]
    by_cases hi : i < n
    · rw [if_pos (by omega), if_pos hi, co_shr _ _ _ _ _ (by omega)]
      unfold colp
      rw [hn]
      show _ = co s i ^^^ mul (evp (rowsp m n q i) x) x
      rw [mul_comm x]
    · rw [if_neg (by omega), co_ge (by rw [shr_len]; omega)]

/-! ### What is refused -/
theorem Contains_eq (xs : List UInt8) (v : UInt8) (h : xs.length ≤ most) : slices_Contains_sbytebyte xs v = some (decide (v ∈ xs)) := by
  unfold slices_Contains_sbytebyte slices_Index_sbytebyte
  have hm := most_lt'
  obtain ⟨x, e1, e2⟩ := iterC_inv (body := fun s1 : Int => (if s1 < (xs.length : Int) then ((idx xs s1).bind fun c4 => (if v = c4 then some (.inr (Sum.inr (α := Unit) s1)) else some (.inl (wI (s1 + 1))))) else some (.inr (.inl ()))))
    (fun s => ∃ i : Nat, i ≤ xs.length ∧ s = (i : Int) ∧ ∀ j, j < i → co xs j ≠ v) (fun s => xs.length - s.toNat) (fun r => (r = .inl () ∧ v ∉ xs) ∨ ∃ i : Nat, r = .inr (i : Int) ∧ v ∈ xs)
    (by
      rintro _ ⟨i, hi, rfl, hb⟩
      by_cases hlt : i < xs.length
      · rw [if_pos (by omega), idx_co hlt, Option.bind_some]
        by_cases he : v = co xs i
        · rw [if_pos he]; exact .inr ⟨_, rfl, .inr ⟨i, rfl, he ▸ co_mem hlt⟩⟩
        · rw [if_neg he, wI_succ i (by omega)]
          refine .inl ⟨_, rfl, ⟨i + 1, hlt, rfl, fun j hj => ?_⟩, by simp only [Int.toNat_natCast]; omega⟩
          by_cases hji : j = i
          · subst hji; exact fun e => he e.symm
          · exact hb j (by omega)
      · obtain rfl : i = xs.length := by omega
        rw [if_neg (by omega)]
        refine .inr ⟨_, rfl, .inl ⟨rfl, fun hv => ?_⟩⟩
        obtain ⟨j, hj, rfl⟩ := mem_co hv
        exact hb j hj rfl) 0 ⟨0, Nat.zero_le _, rfl, fun j hj => absurd hj (Nat.not_lt_zero _)⟩
  rw [e1, Option.bind_some]
  rcases e2 with ⟨rfl, hv⟩ | ⟨i, rfl, hv⟩
  · simp [hv]
  · simp [hv]
theorem threshold_eq (t : Int) : shamir_threshold t = some (decide (1 ≤ t ∧ t ≤ 255)) := by
  unfold shamir_threshold
  by_cases h : 1 ≤ t
  · rw [if_pos h]; simp [h]
  · rw [if_neg h]; simp [h]
theorem MaskSize_bad (t size : Int) (h : ¬ (1 ≤ t ∧ t ≤ 255) ∨ size < 0) : shamir_MaskSize t size = some 0 := by
  unfold shamir_MaskSize
  rw [threshold_eq, Option.bind_some]
  by_cases ht : 1 ≤ t ∧ t ≤ 255
  · have hsz := h.resolve_left (fun h => h ht)
    rw [if_neg (by simp [ht]), if_pos hsz]
  · rw [if_pos (by simp [ht])]
theorem MaskSize_eq (q n : Nat) (hq : q ≤ 254) (hn : n ≤ most) : shamir_MaskSize ((q + 1 : Nat) : Int) (n : Int) = some ((q * n : Nat) : Int) := by
  unfold shamir_MaskSize
  have hle : q * n ≤ 254 * most := Nat.mul_le_mul hq hn
  have hmm : 254 * most < 9223372036854775807 := by decide
  have e : ((q : Int) * (n : Int)) = ((q * n : Nat) : Int) := (Int.natCast_mul _ _).symm
  rw [threshold_eq, Option.bind_some, if_neg (by simp; omega), if_neg (by omega), wI_pred _ (by omega) (by omega), Nat.add_sub_cancel, e, wI_nat (by omega)]
theorem check_eq (t : Int) (s m xs : List UInt8) (hs : s.length ≤ most) (hx : xs.length ≤ most) : shamir_check true t s m xs = some (if ¬ (1 ≤ t ∧ t ≤ 255) ∨ 0 ∈ xs then 2 else if m.length = (t - 1).toNat * s.length then 0 else 3) := by
  unfold shamir_check
  rw [if_neg (by simp), threshold_eq, Option.bind_some]
  by_cases ht : 1 ≤ t ∧ t ≤ 255
  · rw [if_neg (by simp [ht]), Contains_eq _ _ hx, Option.bind_some]
    by_cases h0 : (0 : UInt8) ∈ xs
    · rw [if_pos (by simpa using h0), if_pos (.inr h0)]
    · obtain ⟨q, hq⟩ : ∃ q : Nat, t = ((q + 1 : Nat) : Int) := ⟨(t - 1).toNat, by omega⟩
      have e : (t - 1).toNat = q := by omega
      rw [if_neg (by simpa using h0), if_neg (by simp [h0]; omega), e, hq, MaskSize_eq q _ (by omega) hs, Option.bind_some]
      by_cases hl : m.length = q * s.length
      · rw [if_pos (by rw [hl]), if_pos hl]
      · rw [if_neg (by omega), if_neg hl]
  · rw [if_pos (by simp only [decide_eq_false ht]; rfl), if_pos (.inl ht)]
theorem check_nil (t : Int) (s m xs : List UInt8) : shamir_check false t s m xs = some 1 := by
  unfold shamir_check; rw [if_pos (by simp)]
theorem Share_ok (q : Nat) (s m : List UInt8) (x : UInt8) (hq : q ≤ 254) (hm : m.length = q * s.length) (hs : s.length ≤ most) (hmm : m.length ≤ most) (hx : x ≠ 0) : shamir_Share true ((q + 1 : Nat) : Int) s m x = some (shr s m q x, 0) := by
  unfold shamir_Share
  have e : (((q + 1 : Nat) : Int) - 1).toNat = q := by omega
  have h1 := h257
  rw [check_eq _ _ _ _ hs (by simp; omega), e, if_neg (by simp [Ne.symm hx]; omega), if_pos hm, Option.bind_some, if_pos rfl, share_eq s m q x hm hs hmm]
  rfl
theorem Split_ok (q : Nat) (s m xs : List UInt8) (hq : q ≤ 254) (hm : m.length = q * s.length) (hs : s.length ≤ most) (hmm : m.length ≤ most) (hx : (0 : UInt8) ∉ xs) (hxl : xs.length ≤ most) : shamir_Split true ((q + 1 : Nat) : Int) s m xs = some (xs.map (shr s m q), 0) := by
  unfold shamir_Split
  have e : (((q + 1 : Nat) : Int) - 1).toNat = q := by omega
  have hmo := most_lt'
  rw [check_eq _ _ _ _ hs hxl, e, if_neg (by simp [hx]; omega), if_pos hm, Option.bind_some, if_pos rfl]
  refine bind_of ?_ rfl
  refine iterC_count (fun i => ((xs.take i).map (shr s m q), (i : Int))) xs.length _ rfl ?_ ?_
  · intro i hi
    simp only
    rw [if_pos (by omega), idx_co hi, Option.bind_some, share_eq s m q _ hm hs hmm, Option.bind_some]
    unfold appL
    rw [if_pos (by simp; omega), Option.bind_some, wI_succ i (by omega), take_snoc hi, List.map_append]
    rfl
  · simp
theorem Split_bad (t : Int) (s m xs : List UInt8) (e : Int) (h : shamir_check true t s m xs = some e) (he : e ≠ 0) : shamir_Split true t s m xs = some ([], e) := by
  unfold shamir_Split
  rw [h, Option.bind_some, if_neg he]
theorem Split_nil (t : Int) (s m xs : List UInt8) : shamir_Split false t s m xs = some ([], 1) := by
  unfold shamir_Split
  rw [check_nil, Option.bind_some, if_neg (by decide)]
theorem Share_bad (t : Int) (s m : List UInt8) (x : UInt8) (e : Int) (h : shamir_check true t s m [x] = some e) (he : e ≠ 0) : shamir_Share true t s m x = some ([], e) := by
  unfold shamir_Share
  rw [h, Option.bind_some, if_neg he]

/-! ### What shares tell -/
theorem unlike_eq (l : List (List UInt8)) (h : l.length ≤ most) (d : Nat) (hd : ∀ r, l[0]? = some r → r.length = d) : shamir_unlike l = some (l.any fun r => !decide (r.length = d)) := by
  unfold shamir_unlike
  have hm := most_lt'
  rw [lim_of (by omega), Option.bind_some, anyO_all _ (fun r => !decide (r.length = d))]
  · rfl
  · intro x hx
    have hpos : 0 < l.length := List.length_pos_of_mem hx
    have h0 : l[0]? = some l[0] := by simp
    unfold shamir_unlike_1
    have : idx l 0 = some l[0] := by
      have := idx_nat l 0
      rw [show ((0 : Nat) : Int) = 0 from rfl] at this
      rw [this, h0]
    rw [this, Option.bind_some, hd _ h0]
    congr 1
    rw [Bool.not_inj_iff, decide_eq_decide]
    omega
/-- What shares tell of x. -/
def atv (xs : List UInt8) (shares : List (List UInt8)) (d : Nat) (x : UInt8) : List UInt8 := (List.range d).map fun i => sm (fun k => mul (wt xs k x) (co (shares.getD k []) i)) xs.length
theorem At_ok (xs : List UInt8) (shares : List (List UInt8)) (d : Nat) (x : UInt8) (hl : xs.length = shares.length) (h0 : xs.length ≠ 0) (h1 : xs.length ≤ 255) (hn : xs.Nodup) (hr : ∀ r ∈ shares, r.length = d) (hd : d ≤ most) :
    shamir_At true xs shares x = some (atv xs shares d x, 0) := by
  unfold shamir_At
  have hm := most_lt'
  have hh := h257
  have hany : (shares.any fun r => !decide (r.length = d)) = false := by
    rw [List.any_eq_false]; intro r hr'; simp [hr r hr']
  have i0 : idx shares 0 = some (shares.getD 0 []) := by
    have := idx_getD (l := shares) (k := 0) (by omega)
    rwa [show ((0 : Nat) : Int) = 0 from rfl] at this
  have hd0 : (shares.getD 0 []).length = d := hr _ (getD_mem (by omega))
  rw [if_neg (by simp), if_pos (by omega), unlike_eq shares (by omega) d (fun r h => hr r (List.mem_of_getElem? h)), Option.bind_some, hany, if_neg (by decide), poly_Weights_eq xs x h0 h1 hn, Option.bind_some, if_pos rfl, i0, Option.bind_some, hd0, makeL_nat _ _ hd, Option.bind_some]
  refine bind_of ?_ rfl
  refine iterC_count (fun j => ((List.range d).map (fun i => sm (fun k => mul (wt xs k x) (co (shares.getD k []) i)) j), (j : Int))) xs.length _ ?_ ?_ ?_
  · congr 1
    refine eq_of_co (by simp) fun i => ?_
    rw [co_rep, co_tab]; split <;> rfl
  · intro j hj
    simp only
    rw [if_pos (by omega), idx_getD (by omega), Option.bind_some, idx_co (by rw [wts_len]; exact hj), Option.bind_some, co_wts xs x j hj, Sum_eq _ _ _ (by simpa using hd), Option.bind_some, wI_succ j (by omega)]
    congr 3
    refine eq_of_co (by rw [sumL_len]; simp) fun i => ?_
    rw [co_sumL, co_tab, co_tab]
    simp only [List.length_map, List.length_range]
    split
    · rfl
    · rfl
  · simp only
    rw [if_neg (by omega)]
    rfl
theorem At_lens (xs : List UInt8) (shares : List (List UInt8)) (x : UInt8) (hl : xs.length ≠ shares.length) : shamir_At true xs shares x = some ([], 1) := by
  unfold shamir_At
  rw [if_neg (by simp), if_neg (by omega)]
theorem At_nil (xs : List UInt8) (shares : List (List UInt8)) (x : UInt8) : shamir_At false xs shares x = some ([], 1) := by
  unfold shamir_At
  rw [if_pos (by simp)]
theorem At_form (xs : List UInt8) (shares : List (List UInt8)) (x : UInt8) (hl : xs.length = shares.length) (h : shamir_unlike shares = some true) : shamir_At true xs shares x = some ([], 3) := by
  unfold shamir_At
  rw [if_neg (by simp), if_pos (by omega), h, Option.bind_some, if_pos rfl]
theorem At_bad (xs : List UInt8) (shares : List (List UInt8)) (x : UInt8) (e : Int) (hl : xs.length = shares.length) (h : shamir_unlike shares = some false) (hc : poly_check true xs = some e) (he : e ≠ 0) : shamir_At true xs shares x = some ([], e) := by
  unfold shamir_At
  rw [if_neg (by simp), if_pos (by omega), h, Option.bind_some, if_neg (by decide), poly_Weights_bad xs x e hc he, Option.bind_some, if_neg he]
theorem Join_eq (f : Bool) (xs : List UInt8) (shares : List (List UInt8)) : shamir_Join f xs shares = shamir_At f xs shares 0 := by
  unfold shamir_Join
  cases shamir_At f xs shares 0 <;> rfl
theorem ref08_At_eq (xs : List UInt8) (shares : List (List UInt8)) (d : Nat) (x : UInt8) (hl : xs.length = shares.length) (h0 : xs.length ≠ 0) (h1 : xs.length ≤ 255) (hr : ∀ r ∈ shares, r.length = d) (hd : d ≤ most) : ref08_At xs shares x = some (atv xs shares d x) := by
  unfold ref08_At
  have hm := most_lt'
  have hh := h257
  have i0 : idx shares 0 = some (shares.getD 0 []) := by
    have := idx_getD (l := shares) (k := 0) (by omega)
    rwa [show ((0 : Nat) : Int) = 0 from rfl] at this
  have hd0 : (shares.getD 0 []).length = d := hr _ (getD_mem (by omega))
  rw [i0, Option.bind_some, hd0]
  refine bind_of ?_ rfl
  refine iterC_count (fun j => ((List.range j).map (fun i => sm (fun k => mul (wt xs k x) (co (shares.getD k []) i)) xs.length), (j : Int))) d _ rfl ?_ ?_
  · intro i hi
    have inner : iterC (fun s9 : UInt8 × Int => (if s9.2 < (xs.length : Int) then ((idx shares s9.2).bind fun c14 => ((idx c14 (i : Int)).bind fun c16 => ((ref03_Weight xs s9.2 x).bind fun r17 => ((ref02_Mul r17 c16).bind fun r19 => some (.inl ((s9.1 ^^^ r19), (wI (s9.2 + 1)))))))) else some (.inr s9.1))) ((0 : UInt8), 0) = some (sm (fun k => mul (wt xs k x) (co (shares.getD k []) i)) xs.length) := by
      refine iterC_count (fun k => (sm (fun k => mul (wt xs k x) (co (shares.getD k []) i)) k, (k : Int))) xs.length _ rfl ?_ ?_
      · intro k hk
        simp only
        rw [if_pos (by omega), idx_getD (by omega), Option.bind_some, idx_co (by rw [hr _ (getD_mem (by omega))]; exact hi), Option.bind_some, ref03_Weight_eq xs k x hk (by omega), Option.bind_some, refMul_eq, Option.bind_some, wI_succ k (by omega)]
        rfl
      · simp
    simp only
    rw [if_pos (by omega), inner, Option.bind_some]
    unfold appL
    rw [if_pos (by simp; omega), Option.bind_some, wI_succ i (by omega), List.range_succ, List.map_append]
    rfl
  · simp only
    rw [if_neg (by omega)]
    rfl
theorem ref08_Share_eq (q : Nat) (s m : List UInt8) (x : UInt8) (hq : q ≤ 254) (hm : m.length = q * s.length) (hs : s.length ≤ 100000) : ref08_Share ((q + 1 : Nat) : Int) s m x = some (shr s m q x) := by
  unfold ref08_Share
  have hmo := most_lt'
  have hbig : 254 * 100000 + 100000 ≤ most := by decide
  refine bind_of ?_ rfl
  refine iterC_count (fun j => ((List.range j).map (fun i => evp (colp s m q i) x), (j : Int))) s.length _ rfl ?_ ?_
  · intro i hi
    have inner : iterC (fun s12 : List UInt8 × Int => (if s12.2 < ((q + 1 : Nat) : Int) then ((idx m ((wI ((wI ((wI (s12.2 - 1)) * (s.length : Int))) + (i : Int))))).bind fun c15 => ((appL s12.1 (([c15] : List UInt8))).bind fun c18 => some (.inl (c18, (wI (s12.2 + 1)))))) else some (.inr s12.1))) (([co s i] : List UInt8), 1) = some (colp s m q i) := by
      refine iterC_count (fun k => (co s i :: rowsp m s.length k i, ((k + 1 : Nat) : Int))) q _ ?_ ?_ ?_
      · rfl
      · intro k hk
        have hle : k * s.length + s.length ≤ m.length := by
          rw [hm, ← Nat.succ_mul]; exact Nat.mul_le_mul_right _ hk
        have hle2 : k * s.length ≤ 254 * 100000 := Nat.mul_le_mul (by omega) hs
        have e3 : ((k : Int) * (s.length : Int)) = ((k * s.length : Nat) : Int) := (Int.natCast_mul _ _).symm
        simp only
        rw [if_pos (by omega), wI_pred _ (by omega) (by omega), Nat.add_sub_cancel, e3, wI_nat (by omega), wI_add _ _ (by omega), idx_co (by omega), Option.bind_some]
        unfold appL
        rw [if_pos (by simp [rowsp_len]; omega), Option.bind_some, wI_succ (k + 1) (by omega)]
        simp only [rowsp, List.range_succ, List.map_append, List.cons_append]
        rfl
      · simp only
        rw [if_neg (by omega)]
        rfl
    simp only
    rw [if_pos (by omega), idx_co hi, Option.bind_some, inner, Option.bind_some, ref03_Eval_eq _ _ (by rw [colp_len]; omega), Option.bind_some]
    unfold appL
    rw [if_pos (by simp; omega), Option.bind_some, wI_succ i (by omega), List.range_succ, List.map_append]
    rfl
  · simp only
    rw [if_neg (by omega)]
    rfl
theorem lives8 : law08_lives = some true := by
  unfold law08_lives
  simp only [field_New, Option.bind_some]
  have h1 : (1 : Nat) ≤ most := by decide
  have e1 := Split_ok 1 [5] [3] [1, 2] (by decide) rfl (by simpa using h1) (by simpa using h1) (by decide) (by decide)
  rw [show (((1 + 1 : Nat)) : Int) = 2 from rfl] at e1
  rw [e1, Option.bind_some, Join_eq, At_ok [1, 2] _ 1 0 rfl (by decide) (by decide) (by decide) (by decide +kernel) h1, Option.bind_some]
  have e2 : List.map (shr [5] [3] 1) [1, 2] = [[6], [3]] := by decide +kernel
  simp only [e2]
  decide +kernel
end Gk

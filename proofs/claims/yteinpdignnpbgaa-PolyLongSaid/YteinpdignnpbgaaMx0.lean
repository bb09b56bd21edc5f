/- Chapter 3: the polynomial through places and values. No condition but lengths. -/
import Derived.Test.YteinpdignnpbgaaMu0
import Derived.Test.YteinpdignnpbgaaMw
set_option linter.unusedSimpArgs false
set_option linter.unusedVariables false
namespace Gk
open Gf

/-- What lies at place i behind k rounds of differences. -/
def stg (xs ys : List UInt8) (k i : Nat) : UInt8 := dd (co xs) (co ys) (i - min k i) (min k i)
theorem stg_step (xs ys : List UInt8) (k j : Nat) (h1 : 1 ≤ k) (h2 : k ≤ j) : stg xs ys k j = mul (stg xs ys (k - 1) j ^^^ stg xs ys (k - 1) (j - 1)) (inv (co xs j ^^^ co xs (j - k))) := by
  obtain ⟨m, rfl⟩ : ∃ m, k = m + 1 := ⟨k - 1, by omega⟩
  unfold stg
  have e1 : min (m + 1) j = m + 1 := by omega
  have e2 : min m j = m := by omega
  have e3 : min m (j - 1) = m := by omega
  rw [Nat.add_sub_cancel, e1, e2, e3]
  have e4 : j - m = j - (m + 1) + 1 := by omega
  have e5 : j - 1 - m = j - (m + 1) := by omega
  rw [e4, e5]
  show mul (dd _ _ (j - (m + 1) + 1) m ^^^ dd _ _ (j - (m + 1)) m) (inv (co xs (j - (m + 1) + m + 1) ^^^ co xs (j - (m + 1)))) = _
  rw [show j - (m + 1) + m + 1 = j by omega]
def thStep (xs : List UInt8) (s : List UInt8) (y : Int × UInt8) : List UInt8 := trim (pplus (trim (pmul s [co xs y.1.toNat, 1])) [y.2])
theorem ev_thStep (xs s : List UInt8) (y : Int × UInt8) (x : UInt8) : evp (thStep xs s y) x = y.2 ^^^ mul (evp s x) (x ^^^ co xs y.1.toNat) := by
  unfold thStep
  rw [ev_trim, ev_pplus, ev_trim, ev_pmul, ev_lin, ev_const, xor_comm]
theorem ev_thFold (xs d : List UInt8) (x : UInt8) : ∀ k, k ≤ d.length → evp (((revI d).take k).foldl (thStep xs) []) x = Gf.hn (co xs) (co d) x d.length k
  | 0, _ => rfl
  | k + 1, h => by
    have hg := revI_get d (d.length - 1 - k) (by omega)
    rw [show d.length - 1 - (d.length - 1 - k) = k by omega] at hg
    rw [List.take_add_one, hg, List.foldl_append]
    show evp (thStep xs _ _) x = _
    rw [ev_thStep, ev_thFold xs d x k (by omega)]
    simp only [Int.toNat_natCast]
    rw [← co_lt (show d.length - 1 - k < d.length by omega), show d.length - 1 - k = d.length - (k + 1) by omega]
    rfl
theorem poly_Through_ok (xs ys : List UInt8) (hl : xs.length = ys.length) (h0 : xs.length ≠ 0) (h1 : xs.length ≤ 255) (hn : xs.Nodup) :
    ∃ N, poly_Through true xs ys = some (N, 0) ∧ trim N = N ∧ dg N ≤ xs.length ∧ ∀ j, j < xs.length → evp N (co xs j) = co ys j := by
  unfold poly_Through
  have hm := most_lt'
  have hh := h257
  rw [if_pos (by omega), poly_check_eq xs (by omega), if_neg h0, if_neg (by omega), if_pos hn, Option.bind_some, if_pos rfl]
  unfold slices_Clone_sbytebyte
  rw [appL_nil ys (by omega), Option.bind_some]
  obtain ⟨d, e1, e2, e3⟩ := iterC_from (s0 := ys) (fun k d => d.length = xs.length ∧ ∀ i, i < xs.length → co d i = stg xs ys (k - 1) i) 1 xs.length (by omega) (fun d : List UInt8 => d.length = xs.length ∧ ∀ i, i < xs.length → co d i = dd (co xs) (co ys) 0 i)
    (body := fun s17 : List UInt8 × Int => (if s17.2 < (s17.1.length : Int) then ((iterC (fun s20 : List UInt8 × Int => (if s17.2 ≤ s20.2 then ((idx s20.1 s20.2).bind fun c25 => ((idx s20.1 ((wI (s20.2 - 1)))).bind fun c26 => ((idx xs s20.2).bind fun c27 => ((idx xs ((wI (s20.2 - s17.2)))).bind fun c28 =>
      ((field_Add c25 c26).bind fun r29 => ((field_Add c27 c28).bind fun r31 => ((field_Div true r29 r31).bind fun r33 => some (.inl ((s20.1.set (s20.2 : Int).toNat r33.1), (wI (s20.2 - 1))))))))))) else some (.inr s20.1))) (s17.1, (wI ((s17.1.length : Int) - 1)))).bind fun x20 => some (.inl (x20, (wI (s17.2 + 1))))) else some (.inr s17.1)))
    ⟨hl.symm, fun i hi => by simp [stg, dd]⟩
    (fun k d hk hkn hI => by
      obtain ⟨dl, hd⟩ := hI
      obtain ⟨d', f1, f2, f3⟩ := iterC_dn (s0 := d) (fun j s => s.length = xs.length ∧ ∀ i, i < xs.length → co s i = if j ≤ i then stg xs ys k i else stg xs ys (k - 1) i) k xs.length (by omega) (fun s : List UInt8 => s.length = xs.length ∧ ∀ i, i < xs.length → co s i = stg xs ys k i)
        (body := fun s20 : List UInt8 × Int => (if (k : Int) ≤ s20.2 then ((idx s20.1 s20.2).bind fun c25 => ((idx s20.1 ((wI (s20.2 - 1)))).bind fun c26 => ((idx xs s20.2).bind fun c27 => ((idx xs ((wI (s20.2 - (k : Int))))).bind fun c28 =>
          ((field_Add c25 c26).bind fun r29 => ((field_Add c27 c28).bind fun r31 => ((field_Div true r29 r31).bind fun r33 => some (.inl ((s20.1.set (s20.2 : Int).toNat r33.1), (wI (s20.2 - 1))))))))))) else some (.inr s20.1)))
        ⟨dl, fun i hi => by rw [if_neg (by omega)]; exact hd i hi⟩
        (fun j s hkj hj hI => by
          obtain ⟨sl, hs⟩ := hI
          have hne : co xs j ^^^ co xs (j - k) ≠ 0 := fun e => by
            have := co_inj hn hj (by omega) (xor_eq_zero e)
            omega
          refine ⟨s.set j (stg xs ys k j), ?_, by simpa using sl, fun i hi => ?_⟩
          · simp only
            rw [if_pos (by omega), idx_co (by omega), Option.bind_some, wI_pred j (by omega) (by omega), idx_co (by omega), Option.bind_some, idx_co hj, Option.bind_some, wI_sub j k hkj (by omega), idx_co (by omega), Option.bind_some,
              Add_eq, Option.bind_some, Add_eq, Option.bind_some, Div_eq, if_neg hne, Option.bind_some, Int.toNat_natCast, hs j hj, if_neg (by omega), hs (j - 1) (by omega), if_neg (by omega), ← stg_step xs ys k j hk hkj]
            congr 3; omega
          · rw [co_set (by omega)]
            by_cases hij : i = j
            · rw [if_pos hij, if_pos (by omega), hij]
            · rw [if_neg hij, hs i hi]
              have : (j + 1 ≤ i) ↔ (j ≤ i) := by omega
              simp only [this])
        (fun s hI => ⟨s, by simp only; rw [if_neg (by omega)], hI.1, fun i hi => by
          rw [hI.2 i hi]
          by_cases h : k ≤ i
          · rw [if_pos h]
          · rw [if_neg h]
            unfold stg
            rw [show min (k - 1) i = min k i by omega]⟩)
      refine ⟨d', ?_, f2, fun i hi => by rw [f3 i hi, Nat.add_sub_cancel]⟩
      simp only
      rw [if_pos (by omega), dl, wI_of (by omega) (by omega), f1, Option.bind_some, wI_succ k (by omega)])
    (fun d hI => ⟨d, by simp only; rw [if_neg (by omega)], hI.1, fun i hi => by
      rw [hI.2 i hi]
      unfold stg
      rw [show min (xs.length - 1) i = i by omega, Nat.sub_self]⟩)
  rw [show ((1 : Nat) : Int) = 1 from rfl] at e1
  rw [e1, Option.bind_some, lim_of (by omega), Option.bind_some]
  have key := rangeL_inv (f := fun (s55 : List UInt8) (y55 : (Int × UInt8)) => ((idx xs y55.1).bind fun c61 => ((poly_Mul true s55 ([c61, (1 : UInt8)] : List UInt8)).bind fun r65 => ((poly_Add r65.1 ([y55.2] : List UInt8)).bind fun r81 => some r81)))) (thStep xs) (xs := revI d) (s0 := [])
    (fun k s => s.length ≤ k ∧ trim s = s) ⟨Nat.le_refl _, rfl⟩ (by
      rintro k s ⟨y, c⟩ hk hy ⟨hs, ht⟩
      obtain ⟨i, hi, e⟩ := mem_revI hy
      simp only [Prod.mk.injEq] at e
      obtain ⟨rfl, rfl⟩ := e
      rw [revI_len] at hk
      have ds : dg s ≤ k := Nat.le_trans (dg_len s) hs
      have d1 := dg_pmul ds (dg_lin (co xs i))
      have l1 : (trim (pmul s [co xs i, 1])).length ≤ k + 1 := by unfold dg at d1; omega
      simp only
      rw [idx_co (by omega), Option.bind_some, poly_Mul_eq _ _ (by omega) (by simp; omega) (.inr (.inr (by
        have := dg_lin (co xs i)
        unfold dg at this ds
        omega))), Option.bind_some, poly_Add_eq _ _ (by simp only; omega) (by simp; omega), Option.bind_some]
      refine ⟨by simp only [thStep, Int.toNat_natCast], ?_, trim_trim _⟩
      have h3 := trim_le (pplus (trim (pmul s [co xs i, 1])) [d[i]])
      rw [pplus_len] at h3
      simp only [thStep, Int.toNat_natCast]
      simp only [List.length_cons, List.length_nil] at h3
      omega)
  rw [key.1, Option.bind_some]
  refine ⟨_, rfl, key.2.2, ?_, fun j hj => ?_⟩
  · have := key.2.1
    rw [revI_len, e2] at this
    exact Nat.le_trans (dg_len _) this
  · have h2 := ev_thFold xs d (co xs j) d.length (Nat.le_refl _)
    rw [List.take_of_length_le (by rw [revI_len]; omega)] at h2
    rw [h2]
    have h3 := hn_ns (co xs) (co d) (co xs j) d.length d.length (Nat.le_refl _)
    rw [Nat.sub_self] at h3
    have h4 : mul (Gf.hn (co xs) (co d) (co xs j) d.length d.length) (pi (co xs) (co xs j) 0) = Gf.hn (co xs) (co d) (co xs j) d.length d.length := mul_one _
    rw [h4] at h3
    have h5 : sm (fun i => mul (co d i) (pi (co xs) (co xs j) i)) 0 = 0 := rfl
    rw [h5, zero_xor] at h3
    rw [h3, e2]
    have h6 := ns_at (co xs) (co ys) xs.length (fun a b h h' e => absurd (co_inj hn (by omega) h' e) (by omega)) j hj
    rw [← h6]
    exact sm_congr _ fun i hi => by rw [e3 i hi]
theorem poly_Through_bad (xs ys : List UInt8) (e : Int) (hl : xs.length = ys.length) (h : poly_check true xs = some e) (he : e ≠ 0) : poly_Through true xs ys = some ([], e) := by
  unfold poly_Through
  rw [if_pos (by omega), h, Option.bind_some, if_neg he]
theorem poly_Through_lens (f : Bool) (xs ys : List UInt8) (hl : xs.length ≠ ys.length) : poly_Through f xs ys = some ([], 1) := by
  unfold poly_Through
  rw [if_neg (by omega)]
theorem poly_Through_nil (xs ys : List UInt8) (h : xs.length ≤ most) (hl : xs.length = ys.length) : poly_Through false xs ys = some ([], 1) := by
  unfold poly_Through
  rw [if_pos (by omega), poly_check_nil xs h, Option.bind_some, if_neg (by decide)]

/-! ### The document's answers -/
theorem not_nodup {xs : List UInt8} (h : ¬ xs.Nodup) : ∃ i, i < xs.length ∧ co xs i ∈ xs.take i := by
  refine Classical.byContradiction fun hc => h (List.pairwise_iff_getElem.2 fun i j hi hj hij e => hc ⟨j, hj, ?_⟩)
  rw [co_lt hj, ← e]
  exact List.mem_iff_getElem.2 ⟨i, by simp; omega, by simp⟩
theorem nodup_not {xs : List UInt8} (h : xs.Nodup) (i : Nat) (hi : i < xs.length) : co xs i ∉ xs.take i := fun hm => by
  obtain ⟨j, hj, e⟩ := List.mem_iff_getElem.1 hm
  have hj' : j < i := by simp at hj; omega
  rw [List.getElem_take, ← co_lt (by omega)] at e
  have := co_inj h (by omega) hi e
  omega
theorem ref03_Places_eq (xs : List UInt8) (h : xs.length ≤ most) : ref03_Places xs = some (if xs.length = 0 then 5 else if 255 < xs.length then 4 else if xs.Nodup then 0 else 6) := by
  unfold ref03_Places
  have hm := most_lt'
  by_cases h0 : xs.length = 0
  · rw [if_pos (by omega), if_pos h0]
  rw [if_neg (by omega), if_neg h0]
  by_cases h1 : 255 < xs.length
  · rw [if_pos (by omega), if_pos h1]
  rw [if_neg (by omega), if_neg h1]
  have inner : ∀ i, i < xs.length → iterC (fun s6 : Int => (if s6 < (i : Int) then ((idx xs (i : Int)).bind fun c11 => ((idx xs s6).bind fun c12 => (if c11 = c12 then some (.inr (Sum.inr (α := Unit) (6 : Int))) else some (.inl (wI (s6 + 1)))))) else some (.inr (.inl ())))) 0 = some (if co xs i ∈ xs.take i then Sum.inr 6 else Sum.inl ()) := by
    intro i hi
    obtain ⟨x, e1, e2, e3⟩ := iterC_find (X := Unit ⊕ Int) (body := fun s6 : Int => (if s6 < (i : Int) then ((idx xs (i : Int)).bind fun c11 => ((idx xs s6).bind fun c12 => (if c11 = c12 then some (.inr (Sum.inr (α := Unit) (6 : Int))) else some (.inl (wI (s6 + 1)))))) else some (.inr (.inl ())))) i (fun j => co xs i = co xs j) (.inr 6) (.inl ())
      (fun j hj hb => by rw [if_pos (by omega), idx_co hi, Option.bind_some, idx_co (by omega), Option.bind_some, if_neg hb, wI_succ j (by omega)])
      (fun j hj hb => by rw [if_pos (by omega), idx_co hi, Option.bind_some, idx_co (by omega), Option.bind_some, if_pos hb])
      (by rw [if_neg (by omega)])
    rw [e1]
    by_cases hm : co xs i ∈ xs.take i
    · rw [if_pos hm, e2]
      obtain ⟨j, hj, e⟩ := List.mem_iff_getElem.1 hm
      have hj' : j < i := by simp at hj; omega
      rw [List.getElem_take, ← co_lt (by omega)] at e
      exact ⟨j, hj', e.symm⟩
    · rw [if_neg hm, e3]
      intro j hj e
      refine hm ?_
      rw [e, co_lt (by omega)]
      exact List.mem_iff_getElem.2 ⟨j, by simp; omega, by simp⟩
  obtain ⟨x, e1, e2, e3⟩ := iterC_find (X := Unit ⊕ Int) (body := fun s3 : Int => (if s3 < (xs.length : Int) then ((iterC (fun s6 : Int => (if s6 < s3 then ((idx xs s3).bind fun c11 => ((idx xs s6).bind fun c12 => (if c11 = c12 then some (.inr (Sum.inr (α := Unit) (6 : Int))) else some (.inl (wI (s6 + 1)))))) else some (.inr (.inl ())))) 0).bind
      (Sum.elim (fun y6 => some (.inl (wI (s3 + 1)))) (fun q6 => some (.inr (.inr q6))))) else some (.inr (.inl ())))) xs.length (fun i => co xs i ∈ xs.take i) (.inr 6) (.inl ())
    (fun i hi hb => by rw [if_pos (by omega), inner i hi, if_neg hb, Option.bind_some, Sum.elim_inl, wI_succ i (by omega)])
    (fun i hi hb => by rw [if_pos (by omega), inner i hi, if_pos hb, Option.bind_some, Sum.elim_inr])
    (by rw [if_neg (by omega)])
  rw [e1, Option.bind_some]
  by_cases hn : xs.Nodup
  · rw [e3 (nodup_not hn), if_pos hn]; rfl
  · rw [e2 (not_nodup hn), if_neg hn]; rfl
theorem ref03_Weight_eq (xs : List UInt8) (i : Nat) (x : UInt8) (hi : i < xs.length) (h : xs.length ≤ most) : ref03_Weight xs (i : Int) x = some (wt xs i x) := by
  unfold ref03_Weight
  have hm := most_lt'
  refine bind_of ?_ rfl
  refine iterC_count (fun k => (mul (pe xs i x k) (inv (pe xs i (co xs i) k)), (k : Int))) xs.length _ ?_ ?_ ?_
  · show (1, 0) = (mul 1 (inv 1), ((0 : Nat) : Int))
    rw [one_mul, inv_one]
    rfl
  · intro k hk
    simp only
    rw [if_pos (by omega)]
    by_cases hki : k = i
    · subst hki; rw [if_pos rfl, wI_succ k (by omega)]; simp [pe]
    · rw [if_neg (by omega), idx_co hk, Option.bind_some, idx_co hi, Option.bind_some, refInv_eq, Option.bind_some, refMul_eq, Option.bind_some, refMul_eq, Option.bind_some, wI_succ k (by omega)]
      simp only [pe, if_neg hki, inv_mul2]
      rw [mul_swap4]
  · simp [wt]
/-- Lagrange's term at the i-th place, of the first k places. -/
def ltm (xs ys : List UInt8) (i : Nat) : Nat → List UInt8
  | 0 => [co ys i]
  | k + 1 => if k = i then ltm xs ys i k else trim (pmul (ltm xs ys i k) [mul (inv (co xs i ^^^ co xs k)) (co xs k), inv (co xs i ^^^ co xs k)])
theorem ev_ltm (xs ys : List UInt8) (i : Nat) (x : UInt8) : ∀ k, evp (ltm xs ys i k) x = mul (co ys i) (mul (pe xs i x k) (inv (pe xs i (co xs i) k)))
  | 0 => by
    show evp [co ys i] x = mul (co ys i) (mul 1 (inv 1))
    rw [ev_const, one_mul, inv_one, mul_one]
  | k + 1 => by
    unfold ltm pe
    by_cases hk : k = i
    · rw [if_pos hk, if_pos hk, if_pos hk]; exact ev_ltm xs ys i x k
    · rw [if_neg hk, if_neg hk, if_neg hk, ev_trim, ev_pmul, ev_ltm xs ys i x k, inv_mul2]
      have : evp [mul (inv (co xs i ^^^ co xs k)) (co xs k), inv (co xs i ^^^ co xs k)] x = mul (x ^^^ co xs k) (inv (co xs i ^^^ co xs k)) := by
        show mul (inv (co xs i ^^^ co xs k)) (co xs k) ^^^ mul (inv (co xs i ^^^ co xs k) ^^^ mul 0 x) x = _
        rw [zero_mul, xor_zero, ← mul_add, mul_comm, xor_comm (co xs k)]
      rw [this, mul_assoc, mul_swap4]
theorem ltm_len (xs ys : List UInt8) (i : Nat) : ∀ k, (ltm xs ys i k).length ≤ k + 1 ∧ (i < k → (ltm xs ys i k).length ≤ k)
  | 0 => ⟨by simp [ltm], fun h => by omega⟩
  | k + 1 => by
    obtain ⟨h1, h2⟩ := ltm_len xs ys i k
    unfold ltm
    split
    · exact ⟨by omega, fun _ => h1⟩
    · rename_i hk
      have d2 : dg [mul (inv (co xs i ^^^ co xs k)) (co xs k), inv (co xs i ^^^ co xs k)] ≤ 2 := dg_len _
      refine ⟨?_, fun hi => ?_⟩
      · have := dg_pmul (Nat.le_trans (dg_len _) h1) d2
        unfold dg at this; omega
      · have := dg_pmul (Nat.le_trans (dg_len _) (h2 (by omega))) d2
        unfold dg at this; omega
theorem ref03_Through_eq (xs ys : List UInt8) (hl : xs.length = ys.length) (h : xs.length ≤ 1000) : ∃ out, ref03_Through xs ys = some (trim out) ∧ dg out ≤ xs.length ∧ ∀ x, evp out x = sm (fun i => mul (co ys i) (wt xs i x)) xs.length := by
  unfold ref03_Through
  have hm := most_lt'
  have h1000 : 2000 ≤ most := by decide
  rw [makeL_nat _ _ (by omega), Option.bind_some]
  obtain ⟨out, e1, e2, e3⟩ := iterC_up (s0 := List.replicate xs.length (0 : UInt8)) (fun i s => s.length = xs.length ∧ ∀ x, evp s x = sm (fun i => mul (co ys i) (wt xs i x)) i) xs.length (fun s : List UInt8 => s.length = xs.length ∧ ∀ x, evp s x = sm (fun i => mul (co ys i) (wt xs i x)) xs.length)
    (body := fun s4 : List UInt8 × Int => (if s4.2 < (xs.length : Int) then ((idx ys s4.2).bind fun c7 => ((iterC (fun s10 : List UInt8 × Int => (if s10.2 < (xs.length : Int) then (if s10.2 = s4.2 then some (.inl (s10.1, (wI (s10.2 + 1)))) else ((idx xs s4.2).bind fun c16 => ((idx xs s10.2).bind fun c17 =>
      ((ref02_Inv (c16 ^^^ c17)).bind fun r18 => ((idx xs s10.2).bind fun c20 => ((ref02_Mul r18 c20).bind fun r21 => ((ref03_Mul s10.1 ([r21, r18] : List UInt8)).bind fun r25 => some (.inl (r25, (wI (s10.2 + 1))))))))))) else some (.inr s10.1))) (([c7] : List UInt8), 0)).bind fun x10 =>
      ((iterC (fun s29 : List UInt8 × Int => (if s29.2 < (x10.length : Int) then ((idx s29.1 s29.2).bind fun c34 => ((idx x10 s29.2).bind fun c35 => some (.inl ((s29.1.set (s29.2 : Int).toNat ((c34 ^^^ c35))), (wI (s29.2 + 1)))))) else some (.inr s29.1))) (s4.1, 0)).bind fun x29 => some (.inl (x29, (wI (s4.2 + 1))))))) else some (.inr s4.1)))
    ⟨by simp, fun x => ev_zero _ x (fun i => co_rep _ _)⟩
    (fun i s hi hI => by
      obtain ⟨sl, hs⟩ := hI
      have inner : iterC (fun s10 : List UInt8 × Int => (if s10.2 < (xs.length : Int) then (if s10.2 = (i : Int) then some (.inl (s10.1, (wI (s10.2 + 1)))) else ((idx xs (i : Int)).bind fun c16 => ((idx xs s10.2).bind fun c17 =>
          ((ref02_Inv (c16 ^^^ c17)).bind fun r18 => ((idx xs s10.2).bind fun c20 => ((ref02_Mul r18 c20).bind fun r21 => ((ref03_Mul s10.1 ([r21, r18] : List UInt8)).bind fun r25 => some (.inl (r25, (wI (s10.2 + 1))))))))))) else some (.inr s10.1))) (([co ys i] : List UInt8), 0) = some (ltm xs ys i xs.length) := by
        refine iterC_count (fun k => (ltm xs ys i k, (k : Int))) xs.length _ rfl ?_ ?_
        · intro k hk
          simp only
          rw [if_pos (by omega)]
          by_cases hki : k = i
          · subst hki; rw [if_pos rfl, wI_succ k (by omega)]; simp [ltm]
          · have l1 := (ltm_len xs ys i k).1
            rw [if_neg (by omega), idx_co hi, Option.bind_some, idx_co hk, Option.bind_some, refInv_eq, Option.bind_some, Option.bind_some, refMul_eq, Option.bind_some, ref03_Mul_eq _ _ (by simp; omega), Option.bind_some, wI_succ k (by omega)]
            simp only [ltm, if_neg hki]
        · simp
      have tl := (ltm_len xs ys i xs.length).2 hi
      obtain ⟨s', f1, f2, f3⟩ := iterC_up (s0 := s) (fun k t => t.length = xs.length ∧ ∀ j, co t j = co s j ^^^ (if j < k then co (ltm xs ys i xs.length) j else 0)) (ltm xs ys i xs.length).length (fun t : List UInt8 => t.length = xs.length ∧ ∀ j, co t j = co s j ^^^ co (ltm xs ys i xs.length) j)
        (body := fun s29 : List UInt8 × Int => (if s29.2 < ((ltm xs ys i xs.length).length : Int) then ((idx s29.1 s29.2).bind fun c34 => ((idx (ltm xs ys i xs.length) s29.2).bind fun c35 => some (.inl ((s29.1.set (s29.2 : Int).toNat ((c34 ^^^ c35))), (wI (s29.2 + 1)))))) else some (.inr s29.1)))
        ⟨sl, fun j => by rw [if_neg (by omega), xor_zero]⟩
        (fun k t hk hI => by
          obtain ⟨tl', ht⟩ := hI
          refine ⟨t.set k (co t k ^^^ co (ltm xs ys i xs.length) k), ?_, by simpa using tl', fun j => ?_⟩
          · simp only
            rw [if_pos (by omega), idx_co (by omega), Option.bind_some, idx_co hk, Option.bind_some, wI_succ k (by omega), Int.toNat_natCast]
          · rw [co_set (by omega)]
            by_cases hjk : j = k
            · subst hjk; rw [if_pos rfl, ht j, if_neg (by omega), if_pos (by omega), xor_zero]
            · rw [if_neg hjk, ht j]
              have : j < k + 1 ↔ j < k := by omega
              simp only [this])
        (fun t hI => ⟨t, by simp, hI.1, fun j => by
          rw [hI.2 j]
          split
          · rfl
          · rw [co_ge (show (ltm xs ys i xs.length).length ≤ j by omega)]⟩)
      refine ⟨s', ?_, f2, fun x => ?_⟩
      · simp only
        rw [if_pos (by omega), idx_co (by omega), Option.bind_some, inner, Option.bind_some, f1, Option.bind_some, wI_succ i (by omega)]
      · rw [ev_sim s' (pplus s (ltm xs ys i xs.length)) x (fun j => by rw [f3, co_pplus]), ev_pplus, hs x, ev_ltm]
        rfl)
    (fun s hI => ⟨s, by simp, hI⟩)
  rw [e1, Option.bind_some, ref03_Trim_eq out (by omega)]
  exact ⟨out, rfl, by rw [← e2]; exact dg_len out, e3⟩
end Gk

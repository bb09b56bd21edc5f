/- Parts Mu0, Mw, Mx0, Na, Ng, Nk, Hs, Fs, F17, L17, Qk, one behind the other. What is proved: said at the head of each part. No condition beside those said there. -/
import Derived.Test.YtmbnjinlfeopaaaRows
import Derived.Orders
import Derived.Deep.Draws
import Derived.Laws.World
import Derived.KernelRfl
import Derived.OrdersIn
import Derived.TacticsIn
import Derived.RangeFuncCalls
import Derived.Deep.LoopGhost
import Derived.Tactics
import Derived.Sort.LoopGhostIn
import Derived.RangeFuncLeaves
import Derived.RangeFuncNested
import Derived.RangeFuncRecord
import Derived.Laws.Sem
import Derived.OwnWalk
import Derived.RangeFuncWrites
import Derived.Laws.IdiomCopy
import Derived.WalkKit
import Derived.ProofKit
import Derived.OpenShut
import Derived.ChangeOld
import Derived.Below
import Derived.Test.YtmbnjinlfeopaaaProg
import Derived.MapKept
import Derived.Lib.AppendZerosOnto
import Derived.Laws.CopyRow
import Derived.Laws.Cells
import Derived.Lib.SlBytesConst
import Derived.Test.YtmbnjinlfeopaaaZPStripeSpreads1
import Derived.Test.YtmbnjinlfeopaaaZPStripeSpreads2
import Derived.Test.YtmbnjinlfeopaaaZPStripeSpreads3
import Derived.Test.YtmbnjinlfeopaaaZPStripeSpreads4
import Derived.Test.YtmbnjinlfeopaaaZPStripeSpreads5
set_option maxRecDepth 100000
set_option maxHeartbeats 8000000
set_option linter.unusedVariables false
set_option linter.unusedSimpArgs false
/- Chapter 3: places, weights. No condition but lengths. -/
namespace Gk
open Gf
theorem mput_keys (m : List (UInt8 × Bool)) (k : UInt8) (v : Bool) (a : UInt8) : a ∈ (mput m k v).map (·.1) ↔ a = k ∨ a ∈ m.map (·.1) := by
  unfold mput
  split
  · rename_i h
    rw [List.map_map]
    have : ((fun x : UInt8 × Bool => x.1) ∘ fun p => if p.1 = k then (p.1, v) else p) = (fun x => x.1) := by
      funext p; simp only [Function.comp]; split <;> rfl
    rw [this]
    exact ⟨fun h => .inr h, fun h' => h'.elim (fun e => e ▸ h) id⟩
  · simp only [List.map_append, List.mem_append, List.map_cons, List.map_nil, List.mem_singleton]
    exact ⟨fun h => h.symm, fun h => h.symm⟩
theorem mput_len (m : List (UInt8 × Bool)) (k : UInt8) (v : Bool) : (mput m k v).length = if k ∈ m.map (·.1) then m.length else m.length + 1 := by
  unfold mput
  split <;> simp
theorem seen_inv (xs : List UInt8) (i : Nat) (hi : i < xs.length) (m : List (UInt8 × Bool)) (h : (∀ a, a ∈ m.map (·.1) ↔ a ∈ xs.take i) ∧ m.length ≤ i ∧ (m.length = i ↔ (xs.take i).Nodup)) :
    (∀ a, a ∈ (mput m (co xs i) true).map (·.1) ↔ a ∈ xs.take (i + 1)) ∧ (mput m (co xs i) true).length ≤ i + 1 ∧ ((mput m (co xs i) true).length = i + 1 ↔ (xs.take (i + 1)).Nodup) := by
  obtain ⟨h1, h2, h3⟩ := h
  rw [take_snoc hi]
  refine ⟨fun a => ?_, ?_, ?_⟩
  · rw [mput_keys, h1 a, List.mem_append, List.mem_singleton]
    exact ⟨fun h => h.symm, fun h => h.symm⟩
  · rw [mput_len]; split <;> omega
  · rw [mput_len, List.nodup_append]
    by_cases hk : co xs i ∈ m.map (·.1)
    · rw [if_pos hk]
      refine ⟨fun h => by omega, fun h => ?_⟩
      exact absurd rfl (h.2.2 _ ((h1 _).1 hk) _ (by simp))
    · rw [if_neg hk]
      refine ⟨fun h => ⟨h3.1 (by omega), by simp, fun a ha b hb e => ?_⟩, fun h => by rw [h3.2 h.1]⟩
      rw [List.mem_singleton] at hb
      subst hb; subst e
      exact hk ((h1 _).2 ha)
theorem poly_check_eq (xs : List UInt8) (h : xs.length ≤ most) : poly_check true xs = some (if xs.length = 0 then 5 else if 255 < xs.length then 4 else if xs.Nodup then 0 else 6) := by
  unfold poly_check
  have hm := most_lt'
  obtain ⟨m, e1, e2, e3⟩ := iterC_up (s0 := ([] : List (UInt8 × Bool))) (fun i m => (∀ a, a ∈ m.map (·.1) ↔ a ∈ xs.take i) ∧ m.length ≤ i ∧ (m.length = i ↔ (xs.take i).Nodup)) xs.length (fun m : List (UInt8 × Bool) => m.length ≤ xs.length ∧ (m.length = xs.length ↔ xs.Nodup))
    (body := fun s4 : (List (UInt8 × Bool)) × Int => (if s4.2 < (xs.length : Int) then ((idx xs s4.2).bind fun c7 => some (.inl ((mput s4.1 c7 true), (wI (s4.2 + 1))))) else some (.inr s4.1)))
    ⟨by simp, by simp, by simp⟩
    (fun i m hi hI => ⟨_, by simp only; rw [if_pos (by omega), idx_co hi, obs, wI_succ i (by omega)], seen_inv xs i hi m hI⟩)
    (fun m hI => ⟨m, by simp, hI.2.1, by rw [hI.2.2, List.take_of_length_le (Nat.le_refl _)]⟩)
  rw [e1, obs, if_neg (by simp)]
  by_cases h0 : xs.length = 0
  · rw [if_pos (by omega), if_pos h0]
  · rw [if_neg (by omega), if_neg h0]
    by_cases h1 : 255 < xs.length
    · rw [if_pos (by omega), if_pos h1]
    · rw [if_neg (by omega), if_neg h1]
      by_cases h2 : xs.Nodup
      · rw [if_pos h2, if_pos (by rw [e3.2 h2])]
      · rw [if_neg h2, if_neg (fun e => h2 (e3.1 (by omega)))]
def wts (xs : List UInt8) (x : UInt8) : List UInt8 := (List.range xs.length).map fun i => wt xs i x
theorem wts_len (xs : List UInt8) (x : UInt8) : (wts xs x).length = xs.length := by simp [wts]
theorem co_wts (xs : List UInt8) (x : UInt8) (i : Nat) (h : i < xs.length) : co (wts xs x) i = wt xs i x := by
  simp [co, wts, List.getD_eq_getElem?_getD, h]
theorem poly_Weights_eq (xs : List UInt8) (x : UInt8) (h0 : xs.length ≠ 0) (h1 : xs.length ≤ 255) (hn : xs.Nodup) : poly_Weights true xs x = some (wts xs x, 0) := by
  unfold poly_Weights
  have hm := most_lt'
  have hh := h257
  rw [poly_check_eq xs (by omega), if_neg h0, if_neg (by omega), if_pos hn, obs, if_pos rfl, makeL_nat _ _ (by omega), obs]
  obtain ⟨s, e1, e2⟩ := iterC_up (s0 := List.replicate xs.length (0 : UInt8)) (fun i s => s.length = xs.length ∧ ∀ j, j < i → co s j = wt xs j x) xs.length (fun s : List UInt8 => s = wts xs x)
    (body := fun s7 : List UInt8 × Int => (if s7.2 < (xs.length : Int) then ((idx xs s7.2).bind fun c10 => ((iterC (fun s11 : UInt8 × UInt8 × Int => (if s11.2.2 < (xs.length : Int) then ((idx xs s11.2.2).bind fun c14 => (if s11.2.2 = s7.2 then some (.inl (s11.1, s11.2.1, (wI (s11.2.2 + 1)))) else
      ((field_Add x c14).bind fun r16 => ((field_Mul true s11.1 r16).bind fun r18 => ((field_Add c10 c14).bind fun r20 => ((field_Mul true s11.2.1 r20).bind fun r22 => some (.inl (r18, r22, (wI (s11.2.2 + 1)))))))))) else some (.inr (s11.1, s11.2.1)))) ((1 : UInt8), (1 : UInt8), 0)).bind fun x11 =>
      ((field_Div true x11.1 x11.2).bind fun r26 => ((idx s7.1 s7.2).bind fun c28 => some (.inl ((s7.1.set (s7.2 : Int).toNat r26.1), (wI (s7.2 + 1)))))))) else some (.inr s7.1)))
    ⟨by simp, fun j hj => absurd hj (Nat.not_lt_zero _)⟩
    (fun i s hi hI => by
      obtain ⟨hl, hs⟩ := hI
      have inner : iterC (fun s11 : UInt8 × UInt8 × Int => (if s11.2.2 < (xs.length : Int) then ((idx xs s11.2.2).bind fun c14 => (if s11.2.2 = (i : Int) then some (.inl (s11.1, s11.2.1, (wI (s11.2.2 + 1)))) else
          ((field_Add x c14).bind fun r16 => ((field_Mul true s11.1 r16).bind fun r18 => ((field_Add (co xs i) c14).bind fun r20 => ((field_Mul true s11.2.1 r20).bind fun r22 => some (.inl (r18, r22, (wI (s11.2.2 + 1)))))))))) else some (.inr (s11.1, s11.2.1)))) ((1 : UInt8), (1 : UInt8), 0)
          = some (pe xs i x xs.length, pe xs i (co xs i) xs.length) := by
        refine iterC_count (fun k => (pe xs i x k, pe xs i (co xs i) k, (k : Int))) xs.length _ rfl ?_ ?_
        · intro k hk
          simp only
          rw [if_pos (by omega), idx_co hk, obs]
          by_cases hki : k = i
          · subst hki
            rw [if_pos rfl, wI_succ k (by omega)]
            simp [pe]
          · rw [if_neg (by omega)]
            simp only [Add_eq, Mul_eq, obs]
            rw [wI_succ k (by omega)]
            simp [pe, hki]
        · simp
      refine ⟨s.set i (wt xs i x), ?_, by simpa using hl, fun j hj => ?_⟩
      · simp only
        rw [if_pos (by omega), idx_co hi, obs, inner, obs, Div_eq, if_neg (pe_ne hn hi _ (Nat.le_refl _)), obs, idx_co (by omega), obs, wI_succ i (by omega), Int.toNat_natCast]
        rfl
      · rw [co_set (by omega)]
        by_cases hji : j = i
        · rw [if_pos hji, hji]
        · rw [if_neg hji]; exact hs j (by omega))
    (fun s hI => ⟨s, by simp, eq_of_co (by rw [wts_len, hI.1]) (fun j => by
      by_cases hj : j < xs.length
      · rw [hI.2 j hj, co_wts xs x j hj]
      · rw [co_ge (by omega), co_ge (by rw [wts_len]; omega)])⟩)
  rw [e1, obs, e2]
end Gk

/- Newton's divided differences give the polynomial through places and values. Plain. No condition. -/
namespace Gf
theorem inv_one : inv 1 = 1 := (inv_uniq (mul_one 1)).symm
theorem mul_swap4 (a b c d : UInt8) : mul (mul a b) (mul c d) = mul (mul a c) (mul b d) := by rw [mul_assoc, mul_assoc, mul_left_comm b]
theorem inv_mul2 (a b : UInt8) : inv (mul a b) = mul (inv a) (inv b) := by
  by_cases ha : a = 0
  · rw [ha, zero_mul, inv_zero, zero_mul]
  · by_cases hb : b = 0
    · rw [hb, mul_zero, inv_zero, mul_zero]
    · refine (inv_uniq ?_).symm
      rw [mul_assoc, mul_left_comm b, mul_inv hb, mul_one, mul_inv ha]
def hn (xs c : Nat → UInt8) (x : UInt8) (n : Nat) : Nat → UInt8
  | 0 => 0
  | k + 1 => c (n - (k + 1)) ^^^ mul (hn xs c x n k) (x ^^^ xs (n - (k + 1)))
end Gf

/- Chapter 3: the polynomial through places and values. No condition but lengths. -/
namespace Gk
open Gf
theorem ref03_Weight_eq (xs : List UInt8) (i : Nat) (x : UInt8) (hi : i < xs.length) (h : xs.length ≤ most) : ref03_Weight xs (i : Int) x = some (wt xs i x) := by
  unfold ref03_Weight
  have hm := most_lt'
  refine bind_of ?_ rfl
  refine iterC_count (fun k => (mul (pe xs i x k) (inv (pe xs i (co xs i) k)), (k : Int))) xs.length _ ?_ ?_ ?_
  · show (1, 0) = (mul 1 (inv 1), ((0 : Nat) : Int))
    rw [one_mul, inv_one]
    rfl
  · intro k hk
    simp only
    rw [if_pos (by omega)]
    by_cases hki : k = i
    · subst hki; rw [if_pos rfl, wI_succ k (by omega)]; simp [pe]
    · rw [if_neg (by omega), idx_co hk, obs, idx_co hi, obs, refInv_eq, obs, refMul_eq, obs, refMul_eq, obs, wI_succ k (by omega)]
      simp only [pe, if_neg hki, inv_mul2]
      rw [mul_swap4]
  · simp [wt]
end Gk

/- Chapter 8 in plain Lean: shares, and what shares tell. No condition but lengths. -/
namespace Gk
open Gf
def rowsp (m : List UInt8) (n q i : Nat) : List UInt8 := (List.range q).map fun k => co m (k * n + i)
theorem rowsp_len (m : List UInt8) (n q i : Nat) : (rowsp m n q i).length = q := by simp [rowsp]
theorem co_rowsp (m : List UInt8) (n q i k : Nat) (h : k < q) : co (rowsp m n q i) k = co m (k * n + i) := by
  simp [co, rowsp, List.getD_eq_getElem?_getD, h]
def colp (s m : List UInt8) (q i : Nat) : List UInt8 := co s i :: rowsp m s.length q i
theorem colp_len (s m : List UInt8) (q i : Nat) : (colp s m q i).length = q + 1 := by simp [colp, rowsp_len]
def shr (s m : List UInt8) (q : Nat) (x : UInt8) : List UInt8 := (List.range s.length).map fun i => evp (colp s m q i) x
theorem shr_len (s m : List UInt8) (q : Nat) (x : UInt8) : (shr s m q x).length = s.length := by simp [shr]
theorem co_shr (s m : List UInt8) (q : Nat) (x : UInt8) (i : Nat) (h : i < s.length) : co (shr s m q x) i = evp (colp s m q i) x := by
  unfold shr; rw [co_tab, if_pos h]
theorem share_eq (s m : List UInt8) (q : Nat) (x : UInt8) (hm : m.length = q * s.length) (hs : s.length ≤ most) (hmm : m.length ≤ most) : shamir_share true s m x = some (shr s m q x) := by
  unfold shamir_share
  have hmo := most_lt'
  rw [makeL_nat _ _ hs, obs]
  by_cases h0 : s.length = 0
  · have hs0 : s = [] := List.eq_nil_of_length_eq_zero h0
    subst hs0
    have hm0 : m.length = 0 := by rw [hm]; simp
    have : iterC (fun s3 : List UInt8 × Int => (if 0 ≤ s3.2 then (if 0 < ((([] : List UInt8)).length : Int) then ((subL m s3.2 ((wI (s3.2 + ((([] : List UInt8)).length : Int))))).bind fun c7 => ((field_Sum true c7 x s3.1).bind fun r8 => some (.inl (r8, (wI (s3.2 - ((([] : List UInt8)).length : Int))))))) else some (.inr s3.1)) else some (.inr s3.1))) (List.replicate ([] : List UInt8).length 0, (wI ((m.length : Int) - ((([] : List UInt8)).length : Int)))) = some ([] : List UInt8) := by
      rw [iterC_step]; simp
    rw [this, obs, Sum_eq _ _ _ (by simp)]
    rfl
  · generalize hn : s.length = n at *
    have key : iterC (fun s3 : List UInt8 × Int => (if 0 ≤ s3.2 then (if 0 < (n : Int) then ((subL m s3.2 ((wI (s3.2 + (n : Int))))).bind fun c7 => ((field_Sum true c7 x s3.1).bind fun r8 => some (.inl (r8, (wI (s3.2 - (n : Int))))))) else some (.inr s3.1)) else some (.inr s3.1))) (List.replicate n 0, (wI ((m.length : Int) - (n : Int)))) = some ((List.range n).map fun i => evp (rowsp m n q i) x) := by
      refine iterC_count (fun j => ((List.range n).map (fun i => evp ((rowsp m n q i).drop (q - j)) x), ((((q - j) * n : Nat) : Int) - (n : Int)))) q _ ?_ ?_ ?_
      · rw [Nat.sub_zero, ← hm, wI_of (by omega) (by omega)]
        congr 1
        refine eq_of_co (by simp) fun i => ?_
        rw [co_rep, co_tab]
        split
        · rw [List.drop_of_length_le (by rw [rowsp_len]; omega)]; rfl
        · rfl
      · intro j hj
        obtain ⟨r, hr⟩ : ∃ r, q - j = r + 1 := ⟨q - j - 1, by omega⟩
        have e1 : (q - j) * n = r * n + n := by rw [hr, Nat.succ_mul]
        have e2 : q - (j + 1) = r := by omega
        have hle : r * n + n ≤ m.length := by rw [hm, ← e1]; exact Nat.mul_le_mul_right n (Nat.sub_le q j)
        simp only
        rw [e1, show (((r * n + n : Nat) : Int) - (n : Int)) = ((r * n : Nat) : Int) by omega, if_pos (by omega), if_pos (by omega), wI_add _ _ (by omega), subL_nat _ _ _ (by omega) hle, obs,
          Sum_eq _ _ _ (by simp; omega), obs, wI_of (by omega) (by omega), e2]
        congr 3
        refine eq_of_co ?_ fun i => ?_
        · rw [sumL_len]; simp; omega
        · have hl : ((m.take (r * n + n)).drop (r * n)).length = n := by simp; omega
          rw [co_sumL, hl]
          by_cases hi : i < n
          · rw [if_pos hi, co_drop, co_take, if_pos (by omega), co_tab, if_pos hi, co_tab, if_pos hi, ev_drop _ x r, co_rowsp m n q i r (by omega), hr, mul_comm x]
          · rw [if_neg hi, co_tab, if_neg hi]
      · simp only
        rw [Nat.sub_self, Nat.zero_mul, if_neg (by omega)]
        congr 2
    rw [key, obs, Sum_eq _ _ _ (by omega), obs]
    congr 1
    refine eq_of_co (by rw [sumL_len, shr_len]) fun i => ?_
    rw [co_sumL, co_tab]
    by_cases hi : i < n
    · rw [if_pos (by omega), if_pos hi, co_shr _ _ _ _ _ (by omega)]
      unfold colp
      rw [hn]
      show _ = co s i ^^^ mul (evp (rowsp m n q i) x) x
      rw [mul_comm x]
    · rw [if_neg (by omega), co_ge (by rw [shr_len]; omega)]
theorem Contains_eq (xs : List UInt8) (v : UInt8) (h : xs.length ≤ most) : slices_Contains_sbytebyte xs v = some (decide (v ∈ xs)) := by
  unfold slices_Contains_sbytebyte slices_Index_sbytebyte
  have hm := most_lt'
  obtain ⟨x, e1, e2⟩ := iterC_inv (body := fun s1 : Int => (if s1 < (xs.length : Int) then ((idx xs s1).bind fun c4 => (if v = c4 then some (.inr (Sum.inr (α := Unit) s1)) else some (.inl (wI (s1 + 1))))) else some (.inr (.inl ()))))
    (fun s => ∃ i : Nat, i ≤ xs.length ∧ s = (i : Int) ∧ ∀ j, j < i → co xs j ≠ v) (fun s => xs.length - s.toNat) (fun r => (r = .inl () ∧ v ∉ xs) ∨ ∃ i : Nat, r = .inr (i : Int) ∧ v ∈ xs)
    (by
      rintro _ ⟨i, hi, rfl, hb⟩
      by_cases hlt : i < xs.length
      · rw [if_pos (by omega), idx_co hlt, obs]
        by_cases he : v = co xs i
        · rw [if_pos he]; exact .inr ⟨_, rfl, .inr ⟨i, rfl, he ▸ co_mem hlt⟩⟩
        · rw [if_neg he, wI_succ i (by omega)]
          refine .inl ⟨_, rfl, ⟨i + 1, hlt, rfl, fun j hj => ?_⟩, by simp only [Int.toNat_natCast]; omega⟩
          by_cases hji : j = i
          · subst hji; exact fun e => he e.symm
          · exact hb j (by omega)
      · obtain rfl : i = xs.length := by omega
        rw [if_neg (by omega)]
        refine .inr ⟨_, rfl, .inl ⟨rfl, fun hv => ?_⟩⟩
        obtain ⟨j, hj, rfl⟩ := mem_co hv
        exact hb j hj rfl) 0 ⟨0, Nat.zero_le _, rfl, fun j hj => absurd hj (Nat.not_lt_zero _)⟩
  rw [e1, obs]
  rcases e2 with ⟨rfl, hv⟩ | ⟨i, rfl, hv⟩
  · simp [hv]
  · simp [hv]
theorem threshold_eq (t : Int) : shamir_threshold t = some (decide (1 ≤ t ∧ t ≤ 255)) := by
  unfold shamir_threshold
  by_cases h : 1 ≤ t
  · rw [if_pos h]; simp [h]
  · rw [if_neg h]; simp [h]
theorem MaskSize_eq (q n : Nat) (hq : q ≤ 254) (hn : n ≤ most) : shamir_MaskSize ((q + 1 : Nat) : Int) (n : Int) = some ((q * n : Nat) : Int) := by
  unfold shamir_MaskSize
  have hle : q * n ≤ 254 * most := Nat.mul_le_mul hq hn
  have hmm : 254 * most < 9223372036854775807 := by decide
  have e : ((q : Int) * (n : Int)) = ((q * n : Nat) : Int) := (Int.natCast_mul _ _).symm
  rw [threshold_eq, obs, if_neg (by simp; omega), if_neg (by omega), wI_pred _ (by omega) (by omega), Nat.add_sub_cancel, e, wI_nat (by omega)]
theorem check_eq (t : Int) (s m xs : List UInt8) (hs : s.length ≤ most) (hx : xs.length ≤ most) : shamir_check true t s m xs = some (if ¬ (1 ≤ t ∧ t ≤ 255) ∨ 0 ∈ xs then 2 else if m.length = (t - 1).toNat * s.length then 0 else 3) := by
  unfold shamir_check
  rw [if_neg (by simp), threshold_eq, obs]
  by_cases ht : 1 ≤ t ∧ t ≤ 255
  · rw [if_neg (by simp [ht]), Contains_eq _ _ hx, obs]
    by_cases h0 : (0 : UInt8) ∈ xs
    · rw [if_pos (by simpa using h0), if_pos (.inr h0)]
    · obtain ⟨q, hq⟩ : ∃ q : Nat, t = ((q + 1 : Nat) : Int) := ⟨(t - 1).toNat, by omega⟩
      have e : (t - 1).toNat = q := by omega
      rw [if_neg (by simpa using h0), if_neg (by simp [h0]; omega), e, hq, MaskSize_eq q _ (by omega) hs, obs]
      by_cases hl : m.length = q * s.length
      · rw [if_pos (by rw [hl]), if_pos hl]
      · rw [if_neg (by omega), if_neg hl]
  · rw [if_pos (by simp only [decide_eq_false ht]; rfl), if_pos (.inl ht)]
theorem Split_ok (q : Nat) (s m xs : List UInt8) (hq : q ≤ 254) (hm : m.length = q * s.length) (hs : s.length ≤ most) (hmm : m.length ≤ most) (hx : (0 : UInt8) ∉ xs) (hxl : xs.length ≤ most) : shamir_Split true ((q + 1 : Nat) : Int) s m xs = some (xs.map (shr s m q), 0) := by
  unfold shamir_Split
  have e : (((q + 1 : Nat) : Int) - 1).toNat = q := by omega
  have hmo := most_lt'
  rw [check_eq _ _ _ _ hs hxl, e, if_neg (by simp [hx]; omega), if_pos hm, obs, if_pos rfl]
  refine bind_of ?_ rfl
  refine iterC_count (fun i => ((xs.take i).map (shr s m q), (i : Int))) xs.length _ rfl ?_ ?_
  · intro i hi
    simp only
    rw [if_pos (by omega), idx_co hi, obs, share_eq s m q _ hm hs hmm, obs]
    unfold appL
    rw [if_pos (by simp; omega), obs, wI_succ i (by omega), take_snoc hi, List.map_append]
    rfl
  · simp
theorem unlike_eq (l : List (List UInt8)) (h : l.length ≤ most) (d : Nat) (hd : ∀ r, l[0]? = some r → r.length = d) : shamir_unlike l = some (l.any fun r => !decide (r.length = d)) := by
  unfold shamir_unlike
  have hm := most_lt'
  rw [lim_of (by omega), obs, anyO_all _ (fun r => !decide (r.length = d))]
  · rfl
  · intro x hx
    have hpos : 0 < l.length := List.length_pos_of_mem hx
    have h0 : l[0]? = some l[0] := by simp
    unfold shamir_unlike_1
    have : idx l 0 = some l[0] := by
      have := idx_nat l 0
      rw [show ((0 : Nat) : Int) = 0 from rfl] at this
      rw [this, h0]
    rw [this, obs, hd _ h0]
    congr 1
    rw [Bool.not_inj_iff, decide_eq_decide]
    omega
def atv (xs : List UInt8) (shares : List (List UInt8)) (d : Nat) (x : UInt8) : List UInt8 := (List.range d).map fun i => sm (fun k => mul (wt xs k x) (co (shares.getD k []) i)) xs.length
theorem At_ok (xs : List UInt8) (shares : List (List UInt8)) (d : Nat) (x : UInt8) (hl : xs.length = shares.length) (h0 : xs.length ≠ 0) (h1 : xs.length ≤ 255) (hn : xs.Nodup) (hr : ∀ r ∈ shares, r.length = d) (hd : d ≤ most) :
    shamir_At true xs shares x = some (atv xs shares d x, 0) := by
  unfold shamir_At
  have hm := most_lt'
  have hh := h257
  have hany : (shares.any fun r => !decide (r.length = d)) = false := by
    rw [List.any_eq_false]; intro r hr'; simp [hr r hr']
  have i0 : idx shares 0 = some (shares.getD 0 []) := by
    have := idx_getD (l := shares) (k := 0) (by omega)
    rwa [show ((0 : Nat) : Int) = 0 from rfl] at this
  have hd0 : (shares.getD 0 []).length = d := hr _ (getD_mem (by omega))
  rw [if_neg (by simp), if_pos (by omega), unlike_eq shares (by omega) d (fun r h => hr r (List.mem_of_getElem? h)), obs, hany, if_neg (by decide), poly_Weights_eq xs x h0 h1 hn, obs, if_pos rfl, i0, obs, hd0, makeL_nat _ _ hd, obs]
  refine bind_of ?_ rfl
  refine iterC_count (fun j => ((List.range d).map (fun i => sm (fun k => mul (wt xs k x) (co (shares.getD k []) i)) j), (j : Int))) xs.length _ ?_ ?_ ?_
  · congr 1
    refine eq_of_co (by simp) fun i => ?_
    rw [co_rep, co_tab]; split <;> rfl
  · intro j hj
    simp only
    rw [if_pos (by omega), idx_getD (by omega), obs, idx_co (by rw [wts_len]; exact hj), obs, co_wts xs x j hj, Sum_eq _ _ _ (by simpa using hd), obs, wI_succ j (by omega)]
    congr 3
    refine eq_of_co (by rw [sumL_len]; simp) fun i => ?_
    rw [co_sumL, co_tab, co_tab]
    simp only [List.length_map, List.length_range]
    split
    · rfl
    · rfl
  · simp only
    rw [if_neg (by omega)]
    rfl
theorem ref08_At_eq (xs : List UInt8) (shares : List (List UInt8)) (d : Nat) (x : UInt8) (hl : xs.length = shares.length) (h0 : xs.length ≠ 0) (h1 : xs.length ≤ 255) (hr : ∀ r ∈ shares, r.length = d) (hd : d ≤ most) : ref08_At xs shares x = some (atv xs shares d x) := by
  unfold ref08_At
  have hm := most_lt'
  have hh := h257
  have i0 : idx shares 0 = some (shares.getD 0 []) := by
    have := idx_getD (l := shares) (k := 0) (by omega)
    rwa [show ((0 : Nat) : Int) = 0 from rfl] at this
  have hd0 : (shares.getD 0 []).length = d := hr _ (getD_mem (by omega))
  rw [i0, obs, hd0]
  refine bind_of ?_ rfl
  refine iterC_count (fun j => ((List.range j).map (fun i => sm (fun k => mul (wt xs k x) (co (shares.getD k []) i)) xs.length), (j : Int))) d _ rfl ?_ ?_
  · intro i hi
    have inner : iterC (fun s9 : UInt8 × Int => (if s9.2 < (xs.length : Int) then ((idx shares s9.2).bind fun c14 => ((idx c14 (i : Int)).bind fun c16 => ((ref03_Weight xs s9.2 x).bind fun r17 => ((ref02_Mul r17 c16).bind fun r19 => some (.inl ((s9.1 ^^^ r19), (wI (s9.2 + 1)))))))) else some (.inr s9.1))) ((0 : UInt8), 0) = some (sm (fun k => mul (wt xs k x) (co (shares.getD k []) i)) xs.length) := by
      refine iterC_count (fun k => (sm (fun k => mul (wt xs k x) (co (shares.getD k []) i)) k, (k : Int))) xs.length _ rfl ?_ ?_
      · intro k hk
        simp only
        rw [if_pos (by omega), idx_getD (by omega), obs, idx_co (by rw [hr _ (getD_mem (by omega))]; exact hi), obs, ref03_Weight_eq xs k x hk (by omega), obs, refMul_eq, obs, wI_succ k (by omega)]
        rfl
      · simp
    simp only
    rw [if_pos (by omega), inner, obs]
    unfold appL
    rw [if_pos (by simp; omega), obs, wI_succ i (by omega), List.range_succ, List.map_append]
    rfl
  · simp only
    rw [if_neg (by omega)]
    rfl
theorem ref08_Share_eq (q : Nat) (s m : List UInt8) (x : UInt8) (hq : q ≤ 254) (hm : m.length = q * s.length) (hs : s.length ≤ 100000) : ref08_Share ((q + 1 : Nat) : Int) s m x = some (shr s m q x) := by
  unfold ref08_Share
  have hmo := most_lt'
  have hbig : 254 * 100000 + 100000 ≤ most := by decide
  refine bind_of ?_ rfl
  refine iterC_count (fun j => ((List.range j).map (fun i => evp (colp s m q i) x), (j : Int))) s.length _ rfl ?_ ?_
  · intro i hi
    have inner : iterC (fun s12 : List UInt8 × Int => (if s12.2 < ((q + 1 : Nat) : Int) then ((idx m ((wI ((wI ((wI (s12.2 - 1)) * (s.length : Int))) + (i : Int))))).bind fun c15 => ((appL s12.1 (([c15] : List UInt8))).bind fun c18 => some (.inl (c18, (wI (s12.2 + 1)))))) else some (.inr s12.1))) (([co s i] : List UInt8), 1) = some (colp s m q i) := by
      refine iterC_count (fun k => (co s i :: rowsp m s.length k i, ((k + 1 : Nat) : Int))) q _ ?_ ?_ ?_
      · rfl
      · intro k hk
        have hle : k * s.length + s.length ≤ m.length := by
          rw [hm, ← Nat.succ_mul]; exact Nat.mul_le_mul_right _ hk
        have hle2 : k * s.length ≤ 254 * 100000 := Nat.mul_le_mul (by omega) hs
        have e3 : ((k : Int) * (s.length : Int)) = ((k * s.length : Nat) : Int) := (Int.natCast_mul _ _).symm
        simp only
        rw [if_pos (by omega), wI_pred _ (by omega) (by omega), Nat.add_sub_cancel, e3, wI_nat (by omega), wI_add _ _ (by omega), idx_co (by omega), obs]
        unfold appL
        rw [if_pos (by simp [rowsp_len]; omega), obs, wI_succ (k + 1) (by omega)]
        simp only [rowsp, List.range_succ, List.map_append, List.cons_append]
        rfl
      · simp only
        rw [if_neg (by omega)]
        rfl
    simp only
    rw [if_pos (by omega), idx_co hi, obs, inner, obs, ref03_Eval_eq _ _ (by rw [colp_len]; omega), obs]
    unfold appL
    rw [if_pos (by simp; omega), obs, wI_succ i (by omega), List.range_succ, List.map_append]
    rfl
  · simp only
    rw [if_neg (by omega)]
    rfl
end Gk

/- Chapter 9 in plain Lean: pieces of parts. No condition but lengths. -/
namespace Gk
open Gf
def plc (n : Nat) : List UInt8 := (List.range n).map fun i => UInt8.ofNat (i + 1)
theorem plc_len (n : Nat) : (plc n).length = n := by simp [plc]
theorem co_plc (n i : Nat) (h : i < n) : co (plc n) i = UInt8.ofNat (i + 1) := by unfold plc; rw [co_tab, if_pos h]
theorem plc_nodup (n : Nat) (h : n ≤ 255) : (plc n).Nodup := by
  refine List.pairwise_iff_getElem.2 fun i j hi hj hij e => ?_
  rw [plc_len] at hi hj
  simp only [plc, List.getElem_map, List.getElem_range] at e
  have := congrArg UInt8.toNat e
  rw [UInt8.toNat_ofNat', UInt8.toNat_ofNat'] at this
  omega
theorem ofInt_nat' (n : Nat) : UInt8.ofInt (n : Int) = UInt8.ofNat n := by
  apply UInt8.toNat_inj.1
  simp [UInt8.ofInt]
  omega
theorem places_eq (n : Nat) (h : n ≤ 255) : code_places (n : Int) = some (plc n) := by
  unfold code_places
  have h2 := h257
  rw [makeL_nat _ _ (by omega), obs]
  obtain ⟨x, e1, e2⟩ := iterC_up (s0 := List.replicate n (0 : UInt8)) (fun i s => s.length = n ∧ ∀ j, j < i → co s j = UInt8.ofNat (j + 1)) n (fun x : List UInt8 => x = plc n)
    (body := fun s4 : List UInt8 × Int => (if s4.2 < ((List.replicate n (0 : UInt8)).length : Int) then ((idx s4.1 s4.2).bind fun c7 => some (.inl ((s4.1.set (s4.2 : Int).toNat ((UInt8.ofInt ((wI (s4.2 + 1)))))), (wI (s4.2 + 1))))) else some (.inr s4.1)))
    ⟨by simp, fun j hj => absurd hj (Nat.not_lt_zero _)⟩
    (fun i s hi hI => by
      obtain ⟨hl, hs⟩ := hI
      refine ⟨s.set i (UInt8.ofNat (i + 1)), ?_, by simpa using hl, fun j hj => ?_⟩
      · simp only
        rw [if_pos (by rw [List.length_replicate]; omega), idx_co (by omega), obs, wI_succ i (by omega), ofInt_nat', Int.toNat_natCast]
      · rw [co_set (by omega)]
        by_cases hji : j = i
        · rw [if_pos hji, hji]
        · rw [if_neg hji]; exact hs j (by omega))
    (fun s hI => ⟨s, by simp, eq_of_co (by rw [hI.1, plc_len]) (fun j => by
      by_cases hj : j < n
      · rw [hI.2 j hj, co_plc n j hj]
      · rw [co_ge (by omega), co_ge (by rw [plc_len]; omega)])⟩)
  rw [e1, obs, e2]
theorem refPlaces_eq (n : Nat) (h : n ≤ 255) : ref09_Places (n : Int) = some (plc n) := by
  unfold ref09_Places
  have h2 := h257
  refine bind_of ?_ rfl
  refine iterC_count (fun i => ((List.range i).map (fun i => UInt8.ofNat (i + 1)), ((i + 1 : Nat) : Int))) n _ rfl ?_ ?_
  · intro i hi
    simp only
    unfold appL
    rw [if_pos (by omega), if_pos (by simp; omega), obs, ofInt_nat', wI_succ (i + 1) (by omega), List.range_succ, List.map_append]
    rfl
  · simp only
    rw [if_neg (by omega)]
    rfl
theorem member_eq (t : Int) : code_member t = some (decide (1 ≤ t ∧ t ≤ 255)) := threshold_eq t
theorem cunlike_eq (l : List (List UInt8)) (h : l.length ≤ most) : code_unlike l = some (l.any fun r => !decide (r.length = (l.getD 0 []).length)) :=
  unlike_eq l h _ (fun r hr => by
    have : l.getD 0 [] = r := by simp [List.getD_eq_getElem?_getD, hr]
    rw [this])
theorem atv_at (xs : List UInt8) (shares : List (List UInt8)) (d j : Nat) (hn : xs.Nodup) (hj : j < xs.length) (hd : (shares.getD j []).length = d) : atv xs shares d (co xs j) = shares.getD j [] := by
  refine eq_of_co (by unfold atv; rw [List.length_map, List.length_range, hd]) fun i => ?_
  unfold atv
  rw [co_tab]
  by_cases hi : i < d
  · rw [if_pos hi, sm_one _ j _ (fun k hk hne => by
      unfold wt
      rw [pe_zero xs k j (Ne.symm hne) _ hj, zero_mul, zero_mul]), if_pos hj]
    unfold wt
    rw [mul_inv (pe_ne hn hj _ (Nat.le_refl _)), one_mul]
  · rw [if_neg hi, co_ge (by omega)]
def pc (parts : List (List UInt8)) (x : Nat) : List UInt8 := atv (plc parts.length) parts (parts.getD 0 []).length (UInt8.ofNat x)
theorem Piece_ok (parts : List (List UInt8)) (x : Nat) (h0 : parts.length ≠ 0) (h1 : parts.length ≤ 255) (hx0 : 1 ≤ x) (hx1 : x ≤ 255) (hU : (parts.any fun r => !decide (r.length = (parts.getD 0 []).length)) = false) (hd : (parts.getD 0 []).length ≤ most) :
    code_Piece true parts (x : Int) = some (pc parts x, 0) := by
  unfold code_Piece
  have hr : ∀ r ∈ parts, r.length = (parts.getD 0 []).length := by
    rw [List.any_eq_false] at hU
    intro r hr; simpa using hU r hr
  have h2 := h257
  have pl := plc_len parts.length
  rw [if_neg (by simp), member_eq, obs, if_neg (by simp; omega), member_eq, obs, if_neg (by simp; omega), cunlike_eq parts (by omega), hU, obs, if_neg (by decide)]
  by_cases hle : x ≤ parts.length
  · have hlt : x - 1 < parts.length := by omega
    rw [if_pos (by omega), wI_pred x hx0 (by omega), idx_getD hlt, obs]
    unfold slices_Clone_sbytebyte
    rw [appL_nil _ (by rw [hr _ (getD_mem hlt)]; exact hd), obs]
    have := atv_at (plc parts.length) parts (parts.getD 0 []).length (x - 1) (plc_nodup _ h1) (by omega) (hr _ (getD_mem hlt))
    rw [co_plc _ _ hlt, show x - 1 + 1 = x by omega] at this
    unfold pc
    rw [this]
  · rw [if_neg (by omega), places_eq _ h1, obs, ofInt_nat', At_ok _ parts _ _ pl (by omega) (by omega) (plc_nodup _ h1) hr hd]
    rfl
theorem refPiece_eq (parts : List (List UInt8)) (x : Nat) (h0 : parts.length ≠ 0) (h1 : parts.length ≤ 255) (hU : (parts.any fun r => !decide (r.length = (parts.getD 0 []).length)) = false) (hd : (parts.getD 0 []).length ≤ most) :
    ref09_Piece parts (x : Int) = some (pc parts x) := by
  unfold ref09_Piece
  have hr : ∀ r ∈ parts, r.length = (parts.getD 0 []).length := by
    rw [List.any_eq_false] at hU
    intro r hr; simpa using hU r hr
  have pl := plc_len parts.length
  rw [refPlaces_eq _ h1, obs, ofInt_nat', ref08_At_eq _ parts _ _ pl (by omega) (by omega) hr hd]
  rfl
theorem Encode_ok (parts : List (List UInt8)) (n : Nat) (h0 : parts.length ≠ 0) (hn : parts.length ≤ n) (h1 : n ≤ 255) (hU : (parts.any fun r => !decide (r.length = (parts.getD 0 []).length)) = false) (hd : (parts.getD 0 []).length ≤ most) :
    code_Encode true (n : Int) parts = some ((List.range n).map fun i => pc parts (i + 1), 0) := by
  unfold code_Encode
  have h2 := h257
  rw [if_neg (by simp), if_neg (by omega), if_neg (by omega), if_neg (by omega), cunlike_eq parts (by omega), hU, obs, if_neg (by decide)]
  have : iterC (fun s8 : List (List UInt8) × Int => (if s8.2 < (n : Int) then ((code_Piece true parts (wI (s8.2 + 1))).bind fun r11 => (if r11.2 = 0 then ((appL s8.1 (([r11.1] : List (List UInt8)))).bind fun c16 => some (.inl (c16, (wI (s8.2 + 1))))) else some (.inr (Sum.inr (α := List (List UInt8)) (([] : List (List UInt8)), r11.2))))) else some (.inr (.inl s8.1)))) (([] : List (List UInt8)), 0) = some (.inl ((List.range n).map fun i => pc parts (i + 1))) := by
    refine iterC_count (fun i => ((List.range i).map fun i => pc parts (i + 1), (i : Int))) n _ rfl ?_ ?_
    · intro i hi
      simp only
      rw [if_pos (by omega), wI_succ i (by omega), Piece_ok parts (i + 1) h0 (by omega) (by omega) (by omega) hU hd, obs, if_pos rfl]
      unfold appL
      rw [if_pos (by simp; omega), obs, List.range_succ, List.map_append]
      rfl
    · simp
  rw [this, obs, Sum.elim_inl]
end Gk

/- Chapter 9: bytes that are cut and glued; the law CodeCuts. No condition. -/
namespace Gk
open Gf
def psz (n t : Nat) : Nat := n / t + (if 0 < n % t then 1 else 0)
theorem psz_spec (n t : Nat) (h : 0 < t) : n ≤ psz n t * t ∧ ∀ k, k < psz n t → k * t < n := by
  have h1 := Nat.div_add_mod n t
  have h2 := Nat.mod_lt n h
  unfold psz
  rw [Nat.mul_comm] at h1
  constructor
  · rw [Nat.add_mul]
    split
    · rw [Nat.one_mul]; omega
    · rw [Nat.zero_mul]; omega
  · intro k hk
    split at hk
    · have := Nat.mul_le_mul_right t (show k ≤ n / t by omega)
      omega
    · have := Nat.mul_le_mul_right t (show k + 1 ≤ n / t by omega)
      rw [Nat.add_mul, Nat.one_mul] at this
      omega
theorem PartSize_eq (n t : Nat) (h0 : 1 ≤ t) (h1 : t ≤ 255) (hn : n ≤ most) : code_PartSize (n : Int) (t : Int) = some (psz n t : Int) := by
  unfold code_PartSize psz
  have hmo := most_lt'
  have hdiv := Nat.div_le_self n t
  rw [member_eq, decide_eq_true (by omega), obs, if_neg (by decide), if_neg (by omega), divI_nat _ _ (by omega) (by omega), obs, remI_nat _ _ (by omega), obs]
  by_cases h : 0 < n % t
  · rw [if_pos (by omega), if_pos h, wI_succ _ (by omega)]
  · rw [if_neg (by omega), if_neg h]; rfl
def cutR (b : List UInt8) (t N : Nat) : List (List UInt8) := (List.range t).map fun i => (List.range N).map fun k => co b (i * N + k)
theorem cutR_len (b : List UInt8) (t N : Nat) : (cutR b t N).length = t := by simp [cutR]
theorem Cut_ok (b : List UInt8) (t : Nat) (h0 : 1 ≤ t) (h1 : t ≤ 255) (hb : b.length ≤ 2000) : code_Cut b (t : Int) = some (cutR b t (psz b.length t), 0) := by
  unfold code_Cut
  have hmo := h257
  have hm9 : 100000 ≤ most := by decide
  obtain ⟨p1, p2⟩ := psz_spec b.length t (by omega)
  have hN : psz b.length t * t ≤ 3000 := by
    by_cases h : psz b.length t = 0
    · rw [h]; omega
    · have := p2 (psz b.length t - 1) (by omega)
      have e : psz b.length t = (psz b.length t - 1) + 1 := by omega
      rw [e, Nat.add_mul, Nat.one_mul]; omega
  rw [member_eq, decide_eq_true (by omega), obs, if_neg (by decide), PartSize_eq _ _ h0 h1 (by omega), obs]
  generalize psz b.length t = N at p1 p2 hN ⊢
  have hNt : N ≤ N * t := Nat.le_mul_of_pos_right _ (by omega)
  have wm : ∀ i, i ≤ t → wI ((i : Int) * (N : Int)) = ((i * N : Nat) : Int) := fun i hi => by
    have := Nat.mul_le_mul_right N hi
    rw [Nat.mul_comm t N] at this
    rw [← Int.natCast_mul]; exact wI_nat (by omega)
  rw [show wI ((N : Int) * (t : Int)) = ((N * t : Nat) : Int) by rw [← Int.natCast_mul]; exact wI_nat (by omega), makeL_nat _ _ (by omega), obs]
  refine bind_of (iterC_count (fun i => (cutR b i N, (i : Int))) t (cutR b t N) rfl ?_ (by simp)) rfl
  intro i hi
  have hle := Nat.mul_le_mul_right N (show i + 1 ≤ t by omega)
  rw [Nat.mul_comm t N] at hle
  have hi1 : (i + 1) * N = i * N + N := by rw [Nat.add_mul, Nat.one_mul]
  have hcl : (copyL (List.replicate (N * t) (0 : UInt8)) 0 b).length = N * t := by
    have := copyL_len (List.replicate (N * t) (0 : UInt8)) 0 b (Nat.zero_le _)
    rwa [List.length_replicate] at this
  have hcc : ∀ j, co (copyL (List.replicate (N * t) (0 : UInt8)) 0 b) j = co b j := fun j => by
    have := co_copyL (List.replicate (N * t) (0 : UInt8)) 0 b (by rw [List.length_replicate]; omega) j
    rw [show ((0 : Nat) : Int) = 0 from rfl] at this
    rw [this, co_rep]
    split
    · rfl
    · rw [co_ge (by omega)]
  have hrow : ((copyL (List.replicate (N * t) (0 : UInt8)) 0 b).take ((i + 1) * N)).drop (i * N) = (List.range N).map fun k => co b (i * N + k) := by
    refine eq_of_co (by rw [List.length_drop, List.length_take, hcl]; simp; omega) fun k => ?_
    rw [co_drop, co_take, co_tab]
    by_cases hk : k < N
    · rw [if_pos (by omega), if_pos hk, hcc]
    · rw [if_neg (by omega), if_neg hk]
  simp only
  rw [if_pos (by omega), wm i (by omega), wI_succ i (by omega), wm (i + 1) (by omega), subL_nat _ _ _ (by omega) (by omega), obs, hrow]
  unfold slices_Clone_sbytebyte
  rw [appL_nil _ (by simp; omega), obs, appL_ok _ _ (by rw [cutR_len]; simp; omega) rfl, obs]
  unfold cutR
  rw [List.range_succ, List.map_append]
  rfl
theorem refCut_eq (b : List UInt8) (t : Nat) (h0 : 1 ≤ t) (h1 : t ≤ 255) (hb : b.length ≤ 2000) : ref09_Cut b (t : Int) = some (cutR b t (psz b.length t)) := by
  unfold ref09_Cut
  have hmo := h257
  have hm9 : 100000 ≤ most := by decide
  obtain ⟨p1, p2⟩ := psz_spec b.length t (by omega)
  generalize hNe : psz b.length t = N at p1 p2 ⊢
  have hN : N * t ≤ 3000 := by
    by_cases h : N = 0
    · rw [h]; omega
    · have := p2 (N - 1) (by omega)
      have e : N = (N - 1) + 1 := by omega
      rw [e, Nat.add_mul, Nat.one_mul]; omega
  have hNt : N ≤ N * t := Nat.le_mul_of_pos_right _ (by omega)
  refine bind_of (iterC_count (fun i => (i : Int)) N (N : Int) rfl ?_ ?_) ?_
  · intro i hi
    have := p2 i hi
    rw [show wI ((i : Int) * (t : Int)) = ((i * t : Nat) : Int) by rw [← Int.natCast_mul]; exact wI_nat (by omega), if_pos (by omega), wI_succ i (by omega)]
  · rw [show wI ((N : Int) * (t : Int)) = ((N * t : Nat) : Int) by rw [← Int.natCast_mul]; exact wI_nat (by omega), if_neg (by omega)]
  rw [makeL_nat _ _ (by omega), obs]
  refine bind_of (rows_loop (List.replicate t ([] : List UInt8)) t (by simp) (fun i => (List.range N).map fun k => co b (i * N + k)) (fun i hi => ?_) (fun s => by simp)) rfl
  simp only
  have hU := updR_len (List.replicate t ([] : List UInt8)) (fun i => (List.range N).map fun k => co b (i * N + k)) i
  have hG := getD_updR (List.replicate t ([] : List UInt8)) (fun i => (List.range N).map fun k => co b (i * N + k)) i i (by simpa using hi)
  rw [if_neg (by omega), getD_rep _ hi] at hG
  rw [List.length_replicate] at hU
  generalize updR (List.replicate t ([] : List UInt8)) (fun i => (List.range N).map fun k => co b (i * N + k)) i = s at hU hG ⊢
  have hle := Nat.mul_le_mul_right N (show i + 1 ≤ t by omega)
  rw [Nat.mul_comm t N, Nat.add_mul, Nat.one_mul] at hle
  rw [if_pos (by rw [List.length_replicate]; omega), show wI ((i : Int) * (N : Int)) = ((i * N : Nat) : Int) by rw [← Int.natCast_mul]; exact wI_nat (by omega)]
  refine bind_of (iterC_count (fun k => (s.set i ((List.range k).map fun k => co b (i * N + k)), (k : Int))) N (s.set i ((List.range N).map fun k => co b (i * N + k))) ?_ ?_ (by simp)) (by rw [wI_succ i (by omega)])
  · congr 1
    have := set_getD s i
    rw [hG] at this
    exact this.symm
  · intro k hk
    simp only
    rw [if_pos (by omega), wI_add _ _ (by omega)]
    have hx : ((if ((i * N + k : Nat) : Int) < (b.length : Int) then ((idx b ((i * N + k : Nat) : Int)).bind fun c19 => some c19) else some (0 : UInt8))) = some (co b (i * N + k)) := by
      by_cases hlt : i * N + k < b.length
      · rw [if_pos (by omega), idx_co hlt]; rfl
      · rw [if_neg (by omega), co_ge (by omega)]
    rw [hx, obs, idx_set (by omega), obs, appL_ok _ _ (by simp; omega) rfl, obs, Int.toNat_natCast, List.set_set, wI_succ k (by omega), List.range_succ, List.map_append]
    rfl
end Gk

/- Structs of whole numbers, as values and behind pointers. No condition. -/
namespace Gk
open Go Go.RowKit
structure TyG (P : Program) (t e : TypeId) (n : Nat) : Prop where
  agg : ∀ w, (isAgg t).run P w = .ok true w
  size : ∀ w, (Go.sizeOf t).run P w = .ok n w
  esz : ∀ w, (Go.sizeOf e).run P w = .ok 1 w
  eagg : ∀ w, (isAgg e).run P w = .ok false w
section
variable {P : Program} {o : Oper} {f : Nat → Value} {w : World} {x y : Operand} {t e T : TypeId} {g m n j : Nat} {cs : Array Value} {u v : Value} {α : Type} {enc : α → Value} {l l' : List α} {i : Int} {a b : α}
theorem run_loadSegG (A : TyG P t e n) (h : Blk w g T cs) {us : List Value} (hs : Seg cs m us) (hl : us.length = n) : (loadVar t ⟨g, m, none⟩).run P w = .ok (.agg us.toArray) w := by
  have := run_loadCells_list (P := P) w ⟨g, m, none⟩ us (fun j v hj => by
    have hlt : j < us.length := (List.getElem?_eq_some_iff.1 hj).1
    rw [add_off, h.cell, hs j hlt]; exact hj)
  rw [hl] at this
  simp [loadVar, A.agg, A.size, this]
theorem q_loadG (ho : o.op = .load t x) (A : TyG P t e n) (hx : ev f x = .pointer (some ⟨g, m, none⟩)) (h : Blk w g T cs) (hs : Seg cs m (l.map enc)) (hl : l.length = n) : Qt P o f w (ag enc l) := by
  intro w' hE
  have := run_loadSegG (w := w') A (h.ext hE) hs (by simpa using hl)
  simp [execOp, ho, hx, Instr.loadAt, Instr.sureAddr, this, ag, ac]
theorem stp_storeG (L1 L2 : List Value) (ho : o.op = .store t x y) (A : TyG P t e n) (hx : ev f x = bp g) (hy : ev f y = ag enc l') (hl : l.length = n) (hl' : l'.length = n) (h : Blk w g T (ac enc l)) (hc : ∀ x, (enc x).oneCell' = true)
    {K : Value → World → Prop} (hk : ∀ w', Blk w' g T (ac enc l') → Gr w w' (bp g) → Lift w w' (L1 ++ bp g :: L2) (L1 ++ bp g :: L2) → K undef w') : Stp P o f w K := by
  have hrun := run_storeCells_at (P := P) g 0 T (l'.map enc) 0 (ac enc l) w h (by simp [ac]; omega) (fun v hv => by obtain ⟨x, _, rfl⟩ := List.mem_map.1 hv; exact hc x)
  have e0 : spl (ac enc l) 0 (l'.map enc) = ac enc l' := spl_all (by rw [ac_size]; omega)
  have hb : Blk (w.setRow g (spl (ac enc l) 0 (l'.map enc))) g T (spl (ac enc l) 0 (l'.map enc)) := setRow_heap w g _ _ T _ h
  have hg : w.grownBy (w.setRow g (spl (ac enc l) 0 (l'.map enc))) (some g) := ⟨rfl, rfl, rfl, by simp [World.setRow], fun k _ hk => setRow_other w g k _ (fun e => hk (by rw [e]))⟩
  have hgr : Gr w (w.setRow g (spl (ac enc l) 0 (l'.map enc))) (bp g) := Gr.of hg
  refine stp_of_skip (w' := w.setRow g (spl (ac enc l) 0 (l'.map enc))) ?_ (hk _ (by rw [e0] at hb; rw [e0]; exact hb) hgr (Lift.own L1 L2 hgr (Nx.refl _ _)))
  have hsz : (ac enc l').size = n := by rw [ac_size]; exact hl'
  simp only [Nat.add_zero] at hrun
  have hrun' : (storeCells ⟨g, 0, none⟩ (ac enc l').toList).run P w = .ok () (w.setRow g (spl (ac enc l) 0 (l'.map enc))) := by simpa [ac, spl] using hrun
  simp [execOp, ho, hx, hy, Instr.storeAt, Instr.sureAddr, storeVar, ag, Value.cells, A.size, hsz, hrun']
theorem q_fldS (ho : o.op = .fieldAddr t x j) (hf : ∀ (a : Addr) (w : World), (Instr.fieldAt t (.pointer (some a)) j).run P w = .ok (.pointer (some (a.add j))) w) (hx : ev f x = bp g) : Qa P o f (bpo g (0 + (j : Int).toNat)) := by
  intro w'
  simp [execOp, ho, hx, hf, add_off]
theorem q_loadEG (ho : o.op = .load e x) (A : TyG P t e n) (hx : ev f x = bpo g (m + i.toNat)) (h : Blk w g T cs) (hs : Seg cs m (l.map enc)) (hi : idx l i = some a) : Qt P o f w (enc a) := by
  obtain ⟨h0, h1, h2⟩ := idx_some.1 hi
  refine q_loadB ho A.eagg hx h ?_
  rw [hs i.toNat (by simpa using h1)]
  simp [h1, h2]
theorem stp_storeXG (L1 L2 : List Value) (ho : o.op = .store e x y) (A : TyG P t e n) (hx : ev f x = bpo g (0 + i.toNat)) (hy : ev f y = enc b) (h : Blk w g T (ac enc l)) (hi : idx l i = some a) (hc : (enc b).oneCell' = true)
    {K : Value → World → Prop} (hk : ∀ w', Blk w' g T (ac enc (l.set i.toNat b)) → Gr w w' (bp g) → Lift w w' (L1 ++ bp g :: L2) (L1 ++ bp g :: L2) → K undef w') : Stp P o f w K := by
  obtain ⟨h0, h1, h2⟩ := idx_some.1 hi
  exact stp_storeB ho A.esz hx hy h (by rw [ac_size]; omega) hc fun w' hB hg => hk w' (by rw [Nat.zero_add, ac_set] at hB; exact hB) (Gr.of hg) (Lift.own L1 L2 (Gr.of hg) (Nx.refl _ _))
theorem bs2 {i j : Nat} {a b a' b' : Value} (h : a = a') (k : b = b') : ([(i, a), (j, b)] : List (Nat × Value)).toArray = #[(i, a'), (j, b')] := by rw [h, k]
theorem bs3 {i j m : Nat} {a b c a' b' c' : Value} (h : a = a') (k : b = b') (q : c = c') : ([(i, a), (j, b), (m, c)] : List (Nat × Value)).toArray = #[(i, a'), (j, b'), (m, c')] := by rw [h, k, q]
theorem q_buildS {parts : Array (Nat × Operand)} (ho : o.op = .build t parts) {ps : Array (Nat × Value)} (hp : (parts.map fun p => (p.1, ev f p.2)) = ps) (h : ∀ w, (Instr.build t ps).run P w = .ok v w) : Qa P o f v := by
  intro w'
  have : (parts.map fun (i, x) => (i, ev f x)) = ps := hp
  simp [execOp, ho, this, h]
end
section
variable {P : Program} {fn : Func} {n : Nat} {R : Ending → World → Prop} {f : Nat → Value} {w : World} {t e T : TypeId} {a g m : Nat} {α : Type} {enc : α → Value} {l : List α}
theorem rtcG1 (A : TyG P T e m) (hr : fn.results = #[.cell a T]) (ha : Nat.blt a n = true) (hv : f a = bp g) (hB : Blk w g t (ac enc l)) (hl : l.length = m) (hm : f n = undef) (h : R (.returned (ag enc l)) w) : Rt P fn n R .ret f w := by
  have hrun := run_loadSegG A hB (seg_self enc l) (by simpa using hl)
  refine .inl ⟨by rw [hm]; rfl, ag enc l, ?_, h⟩
  have hg : (fr n f).tmps.getD a undef = bp g := by rw [fr_getD n f a ha, hv]
  simp [results, hr, ← Array.getD_eq_getD_getElem?, hg, asAddr, hrun, ag, ac]
end
end Gk

/- This seat's struct of whole numbers: Shape. No condition. -/
namespace Gk
open Go Go.Proofs Go.RowKit
theorem G25 : TyG Try.prog 25 3 4 := ⟨Try.isAgg25, Try.sizeOf25, Try.sizeOf3, Try.isAgg3⟩
theorem Z25 : ∀ w, (zeroValue 25).run Try.prog w = .ok (ag i64 (List.replicate 4 (0 : Int))) w := fun w => by rw [Try.zeroValue25]; rfl
theorem fieldS0 (a : Addr) (w : World) : (Instr.fieldAt 25 (.pointer (some a)) 0).run Try.prog w = .ok (.pointer (some (a.add 0))) w := by simp [Instr.fieldAt, Instr.sureAddr, fieldPlace]
theorem fieldS1 (a : Addr) (w : World) : (Instr.fieldAt 25 (.pointer (some a)) 1).run Try.prog w = .ok (.pointer (some (a.add 1))) w := by simp [Instr.fieldAt, Instr.sureAddr, fieldPlace]
theorem fieldS2 (a : Addr) (w : World) : (Instr.fieldAt 25 (.pointer (some a)) 2).run Try.prog w = .ok (.pointer (some (a.add 2))) w := by simp [Instr.fieldAt, Instr.sureAddr, fieldPlace]
theorem fieldS3 (a : Addr) (w : World) : (Instr.fieldAt 25 (.pointer (some a)) 3).run Try.prog w = .ok (.pointer (some (a.add 3))) w := by simp [Instr.fieldAt, Instr.sureAddr, fieldPlace]
theorem buildS_0_2_3 (a b c : Int) : ∀ w, (Instr.build 25 #[(0, i64 a), (2, i64 b), (3, i64 c)]).run Try.prog w = .ok (ag i64 [a, 0, b, c]) w := fun w => by
  unfold Instr.build
  simp only [Sem.run_bind, Z25, Result.andThen_ok, run_underlying Try.underlying25]
  simp [Try.sizeOf3, Instr.fill, Value.cells, ag, ac, i64, List.replicate]
theorem buildS_1_2 (a b : Int) : ∀ w, (Instr.build 25 #[(1, i64 a), (2, i64 b)]).run Try.prog w = .ok (ag i64 [0, a, b, 0]) w := fun w => by
  unfold Instr.build
  simp only [Sem.run_bind, Z25, Result.andThen_ok, run_underlying Try.underlying25]
  simp [Try.sizeOf3, Instr.fill, Value.cells, ag, ac, i64, List.replicate]
end Gk

/- Printed by gen.py: for each Go function a pure function, and that the Go code comes to it. No condition beside the equation that says what the pure function gives. -/
namespace Gk
open Go Go.Proofs
noncomputable def stripe_Shape_Right (a0s : List Int) : Option Bool :=
((idx a0s 0).bind fun c4 =>
(if 0 ≤ c4 then
(if c4 < 2 then
((idx a0s 1).bind fun c7 =>
(if 1 ≤ c7 then
((idx a0s 2).bind fun c9 =>
(if c7 ≤ c9 then
(if c9 ≤ 255 then
((idx a0s 3).bind fun c12 =>
(if 0 ≤ c12 then some (decide (c12 ≤ 127))
else some false))
else some false)
else some false))
else some false))
else some false)
else some false))
theorem stripe_Shape_Right_calls (a0s : List Int) (r : Bool) (w0 : World) (H : stripe_Shape_Right a0s = some r) :
    Calls Try.prog 26 [(ag i64 a0s)].toArray w0 (fun e w' => e = .returned (.bool r) ∧ Ext w0 w') := by
  have hE : Ext w0 w0 := Ext.refl w0; unfold stripe_Shape_Right at H; refine calls_W (n := 38) Try.func26 rfl rfl rfl ?_; refine W_seq <| W_rg <| ?_; refine wls rfl rfl (stp_boxL (v := (ag i64 a0s)) (cs := (ac i64 a0s)) [] rfl rfl rfl ?_); intro g1 w1 o1 n1 g1r l1; have x1 := grown_ext g1r; have n3 := Nw.ext hE n1; have e2 := hE.trans x1; refine av (.bool false) rfl rfl <| wnt <| W_seq <| W_rg <| ?_; obtain ⟨c4, hc4, H⟩ := bsi H; refine wa rfl (q_fldS (j := 0) rfl fieldS0 rfl) <| wq rfl (q_loadEG (m := 0) rfl G25 rfl o1 (seg_self _ _) hc4) <| wa rfl (q_geI rfl rfl rfl) <| ?_; refine wlb rfl rfl (q_move (v := (.bool ((decide (0 ≤ c4))))) rfl rfl) (fun hb5 => ?_) (fun hb5 => ?_)
  · replace H := ifp hb5 H; refine wa rfl (q_fldS (j := 0) rfl fieldS0 rfl) <| wq rfl (q_loadEG (m := 0) rfl G25 rfl o1 (seg_self _ _) hc4) <| wa rfl (q_ltI rfl rfl rfl) <| wa rfl (q_pick_t (v := (.bool ((decide (c4 < 2))))) rfl rfl rfl) <| ?_; refine wlb rfl rfl (q_move (v := (.bool ((decide (c4 < 2))))) rfl rfl) (fun hb6 => ?_) (fun hb6 => ?_)
    · replace H := ifp hb6 H; obtain ⟨c7, hc7, H⟩ := bsi H; refine wa rfl (q_fldS (j := 1) rfl fieldS1 rfl) <| wq rfl (q_loadEG (m := 0) rfl G25 rfl o1 (seg_self _ _) hc7) <| wa rfl (q_geI rfl rfl rfl) <| wa rfl (q_pick_t (v := (.bool ((decide (1 ≤ c7))))) rfl rfl rfl) <| ?_; refine wlb rfl rfl (q_move (v := (.bool ((decide (1 ≤ c7))))) rfl rfl) (fun hb8 => ?_) (fun hb8 => ?_)
      · replace H := ifp hb8 H; refine wa rfl (q_fldS (j := 1) rfl fieldS1 rfl) <| wq rfl (q_loadEG (m := 0) rfl G25 rfl o1 (seg_self _ _) hc7) <| ?_; obtain ⟨c9, hc9, H⟩ := bsi H; refine wa rfl (q_fldS (j := 2) rfl fieldS2 rfl) <| wq rfl (q_loadEG (m := 0) rfl G25 rfl o1 (seg_self _ _) hc9) <| wa rfl (q_leI rfl rfl rfl) <| wa rfl (q_pick_t (v := (.bool ((decide (c7 ≤ c9))))) rfl rfl rfl) <| ?_; refine wlb rfl rfl (q_move (v := (.bool ((decide (c7 ≤ c9))))) rfl rfl) (fun hb10 => ?_) (fun hb10 => ?_)
        · replace H := ifp hb10 H; refine wa rfl (q_fldS (j := 2) rfl fieldS2 rfl) <| wq rfl (q_loadEG (m := 0) rfl G25 rfl o1 (seg_self _ _) hc9) <| wa rfl (q_leI rfl rfl rfl) <| wa rfl (q_pick_t (v := (.bool ((decide (c9 ≤ 255))))) rfl rfl rfl) <| ?_; refine wlb rfl rfl (q_move (v := (.bool ((decide (c9 ≤ 255))))) rfl rfl) (fun hb11 => ?_) (fun hb11 => ?_)
          · replace H := ifp hb11 H; obtain ⟨c12, hc12, H⟩ := bsi H; refine wa rfl (q_fldS (j := 3) rfl fieldS3 rfl) <| wq rfl (q_loadEG (m := 0) rfl G25 rfl o1 (seg_self _ _) hc12) <| wa rfl (q_geI rfl rfl rfl) <| wa rfl (q_pick_t (v := (.bool ((decide (0 ≤ c12))))) rfl rfl rfl) <| ?_; refine wlb rfl rfl (q_move (v := (.bool ((decide (0 ≤ c12))))) rfl rfl) (fun hb13 => ?_) (fun hb13 => ?_)
            · replace H := ifp hb13 H; refine wa rfl (q_fldS (j := 3) rfl fieldS3 rfl) <| wq rfl (q_loadEG (m := 0) rfl G25 rfl o1 (seg_self _ _) hc12) <| wa rfl (q_leI rfl rfl rfl) <| wa rfl (q_pick_t (v := (.bool ((decide (c12 ≤ 127))))) rfl rfl rfl) <| av (.bool ((decide (c12 ≤ 127)))) rfl rfl <| wnt <| W_ret <| ?_; obtain rfl := osi H; refine rt1 (.bool ((decide (c12 ≤ 127)))) rfl rfl rfl rfl ?_; exact ⟨rfl, e2⟩
            replace H := ifn hb13 H; refine wlk rfl rfl <| wlk rfl rfl <| wlk rfl rfl <| wa rfl (q_pick_f (v := (.bool false)) rfl rfl rfl) <| av (.bool false) rfl rfl <| wnt <| W_ret <| ?_; obtain rfl := osi H; refine rt1 (.bool false) rfl rfl rfl rfl ?_; exact ⟨rfl, e2⟩
          replace H := ifn hb11 H; refine wlk rfl rfl <| wlk rfl rfl <| wlk rfl rfl <| wa rfl (q_pick_f (v := (.bool false)) rfl rfl rfl) <| mv (.bool false) rfl rfl <| wlk rfl rfl <| wlk rfl rfl <| wlk rfl rfl <| ?_; refine wa rfl (q_pick_f (v := (.bool false)) rfl rfl rfl) <| av (.bool false) rfl rfl <| wnt <| W_ret <| ?_; obtain rfl := osi H; refine rt1 (.bool false) rfl rfl rfl rfl ?_; exact ⟨rfl, e2⟩
        replace H := ifn hb10 H; refine wlk rfl rfl <| wlk rfl rfl <| wlk rfl rfl <| wa rfl (q_pick_f (v := (.bool false)) rfl rfl rfl) <| mv (.bool false) rfl rfl <| wlk rfl rfl <| wlk rfl rfl <| wlk rfl rfl <| ?_; refine wa rfl (q_pick_f (v := (.bool false)) rfl rfl rfl) <| mv (.bool false) rfl rfl <| wlk rfl rfl <| wlk rfl rfl <| wlk rfl rfl <| wa rfl (q_pick_f (v := (.bool false)) rfl rfl rfl) <| av (.bool false) rfl rfl <| wnt <| ?_; refine W_ret ?_; obtain rfl := osi H; refine rt1 (.bool false) rfl rfl rfl rfl ?_; exact ⟨rfl, e2⟩
      replace H := ifn hb8 H; refine wlk rfl rfl <| wlk rfl rfl <| wlk rfl rfl <| wlk rfl rfl <| wlk rfl rfl <| wa rfl (q_pick_f (v := (.bool false)) rfl rfl rfl) <| mv (.bool false) rfl rfl <| wlk rfl rfl <| ?_; refine wlk rfl rfl <| wlk rfl rfl <| wa rfl (q_pick_f (v := (.bool false)) rfl rfl rfl) <| mv (.bool false) rfl rfl <| wlk rfl rfl <| wlk rfl rfl <| wlk rfl rfl <| wa rfl (q_pick_f (v := (.bool false)) rfl rfl rfl) <| ?_; refine mv (.bool false) rfl rfl <| wlk rfl rfl <| wlk rfl rfl <| wlk rfl rfl <| wa rfl (q_pick_f (v := (.bool false)) rfl rfl rfl) <| av (.bool false) rfl rfl <| wnt <| W_ret <| ?_; obtain rfl := osi H; refine rt1 (.bool false) rfl rfl rfl rfl ?_; exact ⟨rfl, e2⟩
    replace H := ifn hb6 H; refine wlk rfl rfl <| wlk rfl rfl <| wlk rfl rfl <| wa rfl (q_pick_f (v := (.bool false)) rfl rfl rfl) <| mv (.bool false) rfl rfl <| wlk rfl rfl <| wlk rfl rfl <| wlk rfl rfl <| ?_; refine wlk rfl rfl <| wlk rfl rfl <| wa rfl (q_pick_f (v := (.bool false)) rfl rfl rfl) <| mv (.bool false) rfl rfl <| wlk rfl rfl <| wlk rfl rfl <| wlk rfl rfl <| wa rfl (q_pick_f (v := (.bool false)) rfl rfl rfl) <| ?_; refine mv (.bool false) rfl rfl <| wlk rfl rfl <| wlk rfl rfl <| wlk rfl rfl <| wa rfl (q_pick_f (v := (.bool false)) rfl rfl rfl) <| mv (.bool false) rfl rfl <| wlk rfl rfl <| wlk rfl rfl <| ?_; refine wlk rfl rfl <| wa rfl (q_pick_f (v := (.bool false)) rfl rfl rfl) <| av (.bool false) rfl rfl <| wnt <| W_ret <| ?_; obtain rfl := osi H; refine rt1 (.bool false) rfl rfl rfl rfl ?_; exact ⟨rfl, e2⟩
  replace H := ifn hb5 H; refine wlk rfl rfl <| wlk rfl rfl <| wlk rfl rfl <| wa rfl (q_pick_f (v := (.bool false)) rfl rfl rfl) <| mv (.bool false) rfl rfl <| wlk rfl rfl <| wlk rfl rfl <| wlk rfl rfl <| ?_; refine wa rfl (q_pick_f (v := (.bool false)) rfl rfl rfl) <| mv (.bool false) rfl rfl <| wlk rfl rfl <| wlk rfl rfl <| wlk rfl rfl <| wlk rfl rfl <| wlk rfl rfl <| wa rfl (q_pick_f (v := (.bool false)) rfl rfl rfl) <| ?_; refine mv (.bool false) rfl rfl <| wlk rfl rfl <| wlk rfl rfl <| wlk rfl rfl <| wa rfl (q_pick_f (v := (.bool false)) rfl rfl rfl) <| mv (.bool false) rfl rfl <| wlk rfl rfl <| wlk rfl rfl <| ?_; refine wlk rfl rfl <| wa rfl (q_pick_f (v := (.bool false)) rfl rfl rfl) <| mv (.bool false) rfl rfl <| wlk rfl rfl <| wlk rfl rfl <| wlk rfl rfl <| wa rfl (q_pick_f (v := (.bool false)) rfl rfl rfl) <| av (.bool false) rfl rfl <| ?_; refine wnt <| W_ret <| ?_; obtain rfl := osi H; refine rt1 (.bool false) rfl rfl rfl rfl ?_; exact ⟨rfl, e2⟩
noncomputable def stripe_Shape_RowSize (a0s : List Int) : Option Int :=
((lenA 4 a0s).bind fun c4 =>
((stripe_Shape_Right a0s).bind fun r5 =>
(if (!r5) = true then some 0
else
((idx a0s 0).bind fun c8 =>
(if c8 = 0 then some 440
else
((idx a0s 1).bind fun c10 =>
((code_PartSize 473 c10).bind fun r11 => some r11)))))))
theorem stripe_Shape_RowSize_calls (a0s : List Int) (r : Int) (w0 : World) (H : stripe_Shape_RowSize a0s = some r) :
    Calls Try.prog 12 [(ag i64 a0s)].toArray w0 (fun e w' => e = .returned (i64 r) ∧ Ext w0 w') := by
  have hE : Ext w0 w0 := Ext.refl w0; unfold stripe_Shape_RowSize at H; refine calls_W (n := 14) Try.func12 rfl rfl rfl ?_; refine W_seq <| W_rg <| ?_; refine wls rfl rfl (stp_boxL (v := (ag i64 a0s)) (cs := (ac i64 a0s)) [] rfl rfl rfl ?_); intro g1 w1 o1 n1 g1r l1; have x1 := grown_ext g1r; have n3 := Nw.ext hE n1; have e2 := hE.trans x1; refine av (i64 0) rfl rfl <| wnt <| W_seq <| W_block <| W_seq <| W_rg <| ?_; obtain ⟨c4, hc4, H⟩ := bsi H; refine wq rfl (q_loadG (m := 0) rfl G25 rfl o1 (seg_self _ _) (lenA_eq hc4)) ?_; obtain ⟨r5, hr5, H⟩ := bsi H; refine wls rfl rfl (stp_call (vs := [(ag i64 a0s)]) Try.func26 rfl rfl rfl (ar1 rfl) (stripe_Shape_Right_calls a0s  r5 _  hr5) ?_); rintro _ w5 ⟨rfl, x5⟩; refine ⟨_, rfl, ?_⟩; replace o1 := o1.ext x5; have e6 := e2.trans x5; refine wa rfl (q_not rfl rfl) <| av (.bool ((!r5))) rfl rfl <| wnt <| ?_; refine W_cond _ rfl rfl (fun hb7 => ?_) (fun hb7 => ?_)
  · replace H := (if_pos hb7).symm.trans H; refine W_seq <| W_rg <| av (i64 0) rfl rfl <| wnt <| W_ret <| bk_r <| th_r <| ?_; obtain rfl := osi H; refine rt1 (i64 0) rfl rfl rfl rfl ?_; exact ⟨rfl, e6⟩
  replace H := (if_neg (ne_true_of_eq_false hb7)).symm.trans H; refine W_seq <| W_rg <| ?_; obtain ⟨c8, hc8, H⟩ := bsi H; refine wa rfl (q_fldS (j := 0) rfl fieldS0 rfl) <| wq rfl (q_loadEG (m := 0) rfl G25 rfl o1 (seg_self _ _) hc8) <| wa rfl (q_eqI rfl rfl rfl) <| av (.bool ((decide (c8 = 0)))) rfl rfl <| wnt <| ?_; refine W_cond _ rfl rfl (fun hb9 => ?_) (fun hb9 => ?_)
  · replace H := ifp hb9 H; refine W_seq <| W_rg <| av (i64 440) rfl rfl <| wnt <| W_ret <| bk_r <| th_r <| ?_; obtain rfl := osi H; refine rt1 (i64 440) rfl rfl rfl rfl ?_; exact ⟨rfl, e6⟩
  replace H := ifn hb9 H; refine W_skip <| bk_n <| W_th <| W_seq <| W_rg <| ?_; obtain ⟨c10, hc10, H⟩ := bsi H; refine wa rfl (q_fldS (j := 1) rfl fieldS1 rfl) <| wq rfl (q_loadEG (m := 0) rfl G25 rfl o1 (seg_self _ _) hc10) <| ?_; obtain ⟨r11, hr11, H⟩ := bsi H; refine wls rfl rfl (stp_call (vs := [(i64 473), (i64 c10)]) Try.func27 rfl rfl rfl (ar2 rfl rfl) (code_PartSize_calls 473 c10  r11 _  hr11) ?_); rintro _ w11 ⟨rfl, x11⟩; refine ⟨_, rfl, ?_⟩; replace o1 := o1.ext x11; have e12 := e6.trans x11; refine av (i64 r11) rfl rfl <| wnt <| W_ret <| ?_; obtain rfl := osi H; refine rt1 (i64 r11) rfl rfl rfl rfl ?_; exact ⟨rfl, e12⟩
noncomputable def stripe_Shape_Need (a0s : List Int) : Option Int :=
((lenA 4 a0s).bind fun c4 =>
((stripe_Shape_Right a0s).bind fun r5 =>
(if (!r5) = true then some 0
else
((idx a0s 0).bind fun c8 =>
(if c8 = 0 then
((idx a0s 1).bind fun c10 =>
((shamir_MaskSize c10 440).bind fun r11 => some r11))
else some 32)))))
theorem stripe_Shape_Need_calls (a0s : List Int) (r : Int) (w0 : World) (H : stripe_Shape_Need a0s = some r) :
    Calls Try.prog 13 [(ag i64 a0s)].toArray w0 (fun e w' => e = .returned (i64 r) ∧ Ext w0 w') := by
  have hE : Ext w0 w0 := Ext.refl w0; unfold stripe_Shape_Need at H; refine calls_W (n := 14) Try.func13 rfl rfl rfl ?_; refine W_seq <| W_rg <| ?_; refine wls rfl rfl (stp_boxL (v := (ag i64 a0s)) (cs := (ac i64 a0s)) [] rfl rfl rfl ?_); intro g1 w1 o1 n1 g1r l1; have x1 := grown_ext g1r; have n3 := Nw.ext hE n1; have e2 := hE.trans x1; refine av (i64 0) rfl rfl <| wnt <| W_seq <| W_block <| W_seq <| W_rg <| ?_; obtain ⟨c4, hc4, H⟩ := bsi H; refine wq rfl (q_loadG (m := 0) rfl G25 rfl o1 (seg_self _ _) (lenA_eq hc4)) ?_; obtain ⟨r5, hr5, H⟩ := bsi H; refine wls rfl rfl (stp_call (vs := [(ag i64 a0s)]) Try.func26 rfl rfl rfl (ar1 rfl) (stripe_Shape_Right_calls a0s  r5 _  hr5) ?_); rintro _ w5 ⟨rfl, x5⟩; refine ⟨_, rfl, ?_⟩; replace o1 := o1.ext x5; have e6 := e2.trans x5; refine wa rfl (q_not rfl rfl) <| av (.bool ((!r5))) rfl rfl <| wnt <| ?_; refine W_cond _ rfl rfl (fun hb7 => ?_) (fun hb7 => ?_)
  · replace H := (if_pos hb7).symm.trans H; refine W_seq <| W_rg <| av (i64 0) rfl rfl <| wnt <| W_ret <| bk_r <| th_r <| ?_; obtain rfl := osi H; refine rt1 (i64 0) rfl rfl rfl rfl ?_; exact ⟨rfl, e6⟩
  replace H := (if_neg (ne_true_of_eq_false hb7)).symm.trans H; refine W_seq <| W_rg <| ?_; obtain ⟨c8, hc8, H⟩ := bsi H; refine wa rfl (q_fldS (j := 0) rfl fieldS0 rfl) <| wq rfl (q_loadEG (m := 0) rfl G25 rfl o1 (seg_self _ _) hc8) <| wa rfl (q_eqI rfl rfl rfl) <| av (.bool ((decide (c8 = 0)))) rfl rfl <| wnt <| ?_; refine W_cond _ rfl rfl (fun hb9 => ?_) (fun hb9 => ?_)
  · replace H := ifp hb9 H; refine W_seq <| W_rg <| ?_; obtain ⟨c10, hc10, H⟩ := bsi H; refine wa rfl (q_fldS (j := 1) rfl fieldS1 rfl) <| wq rfl (q_loadEG (m := 0) rfl G25 rfl o1 (seg_self _ _) hc10) <| ?_; obtain ⟨r11, hr11, H⟩ := bsi H; refine wls rfl rfl (stp_call (vs := [(i64 c10), (i64 440)]) Try.func28 rfl rfl rfl (ar2 rfl rfl) (shamir_MaskSize_calls c10 440  r11 _  hr11) ?_); rintro _ w11 ⟨rfl, x11⟩; refine ⟨_, rfl, ?_⟩; replace o1 := o1.ext x11; have e12 := e6.trans x11; refine av (i64 r11) rfl rfl <| wnt <| W_ret <| bk_r <| th_r <| ?_; obtain rfl := osi H; refine rt1 (i64 r11) rfl rfl rfl rfl ?_; exact ⟨rfl, e12⟩
  replace H := ifn hb9 H; refine W_skip <| bk_n <| W_th <| W_seq <| W_rg <| av (i64 32) rfl rfl <| wnt <| W_ret <| ?_; obtain rfl := osi H; refine rt1 (i64 32) rfl rfl rfl rfl ?_; exact ⟨rfl, e6⟩
noncomputable def stripe_Shape_places (a0s : List Int) : Option (List UInt8) :=
((idx a0s 2).bind fun c4 =>
((iterC (fun s5 : List UInt8 × Int =>
(if s5.2 < c4 then
((appL s5.1 (([(UInt8.ofInt ((wI (s5.2 + 1))))] : List UInt8))).bind fun c10 => some (.inl (c10, (wI (s5.2 + 1)))))
else some (.inr s5.1))) (([] : List UInt8), 0)).bind fun x5 => some x5))
theorem stripe_Shape_places_calls (a0s : List Int) (r : List UInt8) (w0 : World) (H : stripe_Shape_places a0s = some r) :
    Calls Try.prog 16 [(ag i64 a0s)].toArray w0 (fun e w' => ∃ u0 : Value, e = .returned u0 ∧ Ext w0 w' ∧ Nw w0 u0 ∧ OwK (Sc u8) w' [] 5 u0 r) := by
  have hE : Ext w0 w0 := Ext.refl w0; unfold stripe_Shape_places at H; refine calls_W (n := 18) Try.func16 rfl rfl rfl ?_; refine W_seq <| W_rg <| ?_; refine wls rfl rfl (stp_boxL (v := (ag i64 a0s)) (cs := (ac i64 a0s)) [] rfl rfl rfl ?_); intro g1 w1 o1 n1 g1r l1; have x1 := grown_ext g1r; have n3 := Nw.ext hE n1; have e2 := hE.trans x1; refine av (.slice none 0 0) rfl rfl <| wnt <| W_seq <| W_rg <| av (.slice none 0 0) rfl rfl <| wnt <| W_seq <| W_seq <| ?_; refine W_rg ?_; obtain ⟨c4, hc4, H⟩ := bsi H; refine wa rfl (q_fldS (j := 2) rfl fieldS2 rfl) <| wq rfl (q_loadEG (m := 0) rfl G25 rfl o1 (seg_self _ _) hc4) <| mv (i64 0) rfl rfl <| wnt <| ?_; obtain ⟨x5, G5, H⟩ := bsi H; refine W_mid (fun f w => ∃ v3_15 : Value, f 3 = v3_15 ∧ f 18 = undef ∧ Ext w0 w ∧ OwK (Sc u8) w [v3_15] 5 v3_15 x5 ∧ Nw w0 v3_15) ?_ ?_
  · refine W_block ?_; refine W_loop (fun s5 f w => ∃ v3_13 : Value, f 3 = v3_13 ∧ f 6 = (i64 c4) ∧ f 7 = (i64 s5.2) ∧ f 18 = undef ∧ Ext w0 w ∧ OwK (Sc u8) w [v3_13] 5 v3_13 s5.1 ∧ Nw w0 v3_13) G5 ?_ ?_
    · exact ⟨(.slice none 0 0), rfl, rfl, rfl, rfl, e2, (OwK.nil _ _ _ _), (Nw.nil _)⟩
    rintro s5 _ _ w6 ⟨v3_6, s3_6, s6_6, s7_6, s18_6, hE6, o0_6, n0_6⟩ H5 hr5; refine W_seq <| W_rg <| wa rfl (q_ltI rfl s7_6 s6_6) <| wnt <| W_seq <| ?_; refine W_cond _ rfl rfl (fun hb7 => ?_) (fun hb7 => ?_)
    · replace H5 := ifp hb7 H5; refine W_skip <| W_th <| W_seq <| W_block <| W_seq <| W_rg <| mv (i64 s5.2) rfl s7_6 <| av (i64 s5.2) rfl rfl <| ?_; refine wnt <| W_rg <| mv v3_6 rfl s3_6 <| mv (i64 s5.2) rfl rfl <| wa rfl (q_addI rfl rfl rfl) <| wa rfl (q_cvt8I rfl rfl rfl rfl) <| ?_; refine wls rfl rfl (stp_lit (L := [v3_6]) (R := (Sc u8)) [(u8 ((UInt8.ofInt ((wI (s5.2 + 1))))))] ([(UInt8.ofInt ((wI (s5.2 + 1))))] : List UInt8) rfl T22 rfl (by exact ⟨rfl, rfl, trivial⟩) rfl (litC u8 (oneC_u8) (us := [(u8 ((UInt8.ofInt ((wI (s5.2 + 1))))))]) (l := ([(UInt8.ofInt ((wI (s5.2 + 1))))] : List UInt8)) rfl) rfl (litS u8 (us := [(u8 ((UInt8.ofInt ((wI (s5.2 + 1))))))]) (l := ([(UInt8.ofInt ((wI (s5.2 + 1))))] : List UInt8)) rfl) ?_); intro v8 w8 o8 n8 g8 l8; have x8 := grown_ext g8; have i8 : By w8 [v3_6] v8 (([(UInt8.ofInt ((wI (s5.2 + 1))))] : List UInt8)) := OwK.slk (Sc.stab _) _ o8 (fun k hk => (Old.cons (Old.nil _) o0_6.lt) k (n8 k hk)) (fun _ h => h.2); replace o0_6 := o0_6.extL (Sc.stab _) x8 (Lift.ext x8 _); have e9 := hE6.trans x8; obtain ⟨c10, hc10, H5⟩ := bsi H5; refine wls rfl rfl (stp_append (R := (Sc u8)) (v := v3_6) (u := v8) (Sc.stab _) [] [] rfl T22 rfl rfl o0_6 i8 (fun _ _ h => h) hc10 oc_u8 ?_); intro v10 w10 o10 g10 nx10 l10; replace i8 := i8.lift l10; have e11 := e9.grown g10 n0_6; have n12 := Nw.nxt e9 n0_6 nx10; refine av v10 rfl rfl <| wl_nil <| bk_n <| W_th <| W_rg <| wa rfl (q_addI rfl s7_6 rfl) <| mv (i64 ((wI (s5.2 + 1)))) rfl rfl <| wl_nil <| ?_; obtain rfl := osi H5; exact ⟨_, rfl, v10, rfl, s6_6, rfl, s18_6, e11, o10, n12⟩
    replace H5 := ifn hb7 H5; refine W_exit <| th_x <| ?_; obtain rfl := osi H5; obtain rfl := hr5 _ rfl; refine th_x <| bk_x <| ?_; exact ⟨v3_6, s3_6, s18_6, hE6, o0_6, n0_6⟩
  rintro _ w14 ⟨v3_14, s3_14, s18_14, hE14, o0_14, n0_14⟩; refine W_th <| W_seq <| W_rg <| mv v3_14 rfl s3_14 <| av v3_14 rfl rfl <| wnt <| W_ret <| ?_; obtain rfl := osi H; refine rt1 v3_14 rfl rfl rfl s18_14 ?_; exact ⟨v3_14, rfl, hE14, n0_14, (o0_14.weak (Sc.stab _) (fun _ _ => trivial))⟩
noncomputable def stripe_Shape_check (a0s : List Int) (a1f : Bool) (a2random : List UInt8) : Option Int :=
(if (!a1f) = true then some 1
else
((lenA 4 a0s).bind fun c5 =>
((stripe_Shape_Right a0s).bind fun r6 =>
(if (!r6) = true then some 2
else
((lenA 4 a0s).bind fun c9 =>
((stripe_Shape_Need a0s).bind fun r10 =>
(if (a2random.length : Int) = r10 then some 0
else some 3)))))))
theorem stripe_Shape_check_calls (a0s : List Int) (a1f : Bool) (a2random : List UInt8) (p1 : Value) (p2 : Value) (r : Int) (w0 : World) (hp1 : Fd w0 [] p1 a1f) (hp2 : By w0 [] p2 a2random) (H : stripe_Shape_check a0s a1f a2random = some r) :
    Calls Try.prog 14 [(ag i64 a0s), p1, p2].toArray w0 (fun e w' => e = .returned (i64 r) ∧ Ext w0 w') := by
  have hE : Ext w0 w0 := Ext.refl w0; unfold stripe_Shape_check at H; refine calls_W (n := 20) Try.func14 rfl rfl rfl ?_; refine W_seq <| W_rg <| ?_; refine wls rfl rfl (stp_boxL (v := (ag i64 a0s)) (cs := (ac i64 a0s)) [] rfl rfl rfl ?_); intro g1 w1 o1 n1 g1r l1; have x1 := grown_ext g1r; have n3 := Nw.ext hE n1; have e2 := hE.trans x1; refine av (i64 0) rfl rfl <| wnt <| W_seq <| W_block <| W_seq <| W_rg <| mv p1 rfl rfl <| wa rfl (q_eqF rfl rfl rfl rfl (hp1.lift (Lift.ext e2 _))) <| ?_; refine av (.bool ((!a1f))) rfl rfl <| wnt <| ?_; refine W_cond _ rfl rfl (fun hb4 => ?_) (fun hb4 => ?_)
  · replace H := (if_pos hb4).symm.trans H; refine W_seq <| W_rg <| av (i64 1) rfl rfl <| wnt <| W_ret <| bk_r <| th_r <| ?_; obtain rfl := osi H; refine rt1 (i64 1) rfl rfl rfl rfl ?_; exact ⟨rfl, e2⟩
  replace H := (if_neg (ne_true_of_eq_false hb4)).symm.trans H; refine W_seq <| W_rg <| ?_; obtain ⟨c5, hc5, H⟩ := bsi H; refine wq rfl (q_loadG (m := 0) rfl G25 rfl o1 (seg_self _ _) (lenA_eq hc5)) ?_; obtain ⟨r6, hr6, H⟩ := bsi H; refine wls rfl rfl (stp_call (vs := [(ag i64 a0s)]) Try.func26 rfl rfl rfl (ar1 rfl) (stripe_Shape_Right_calls a0s  r6 _  hr6) ?_); rintro _ w6 ⟨rfl, x6⟩; refine ⟨_, rfl, ?_⟩; replace o1 := o1.ext x6; have e7 := e2.trans x6; refine wa rfl (q_not rfl rfl) <| av (.bool ((!r6))) rfl rfl <| wnt <| ?_; refine W_cond _ rfl rfl (fun hb8 => ?_) (fun hb8 => ?_)
  · replace H := (if_pos hb8).symm.trans H; refine W_seq <| W_rg <| av (i64 2) rfl rfl <| wnt <| W_ret <| bk_r <| th_r <| ?_; obtain rfl := osi H; refine rt1 (i64 2) rfl rfl rfl rfl ?_; exact ⟨rfl, e7⟩
  replace H := (if_neg (ne_true_of_eq_false hb8)).symm.trans H; refine W_seq <| W_rg <| mv p2 rfl rfl <| wa rfl (q_len rfl T22.sl rfl (hp2.lift (Lift.ext e7 _))) <| ?_; obtain ⟨c9, hc9, H⟩ := bsi H; refine wq rfl (q_loadG (m := 0) rfl G25 rfl o1 (seg_self _ _) (lenA_eq hc9)) ?_; obtain ⟨r10, hr10, H⟩ := bsi H; refine wls rfl rfl (stp_call (vs := [(ag i64 a0s)]) Try.func13 rfl rfl rfl (ar1 rfl) (stripe_Shape_Need_calls a0s  r10 _  hr10) ?_); rintro _ w10 ⟨rfl, x10⟩; refine ⟨_, rfl, ?_⟩; replace o1 := o1.ext x10; have e11 := e7.trans x10; refine wa rfl (q_neI rfl rfl rfl) <| av (.bool ((!decide ((a2random.length : Int) = r10)))) rfl rfl <| wnt <| ?_; refine W_cond _ rfl rfl (fun hb12 => ?_) (fun hb12 => ?_)
  · replace H := (if_neg (ndec_t hb12)).symm.trans H; refine W_seq <| W_rg <| av (i64 3) rfl rfl <| wnt <| W_ret <| bk_r <| th_r <| ?_; obtain rfl := osi H; refine rt1 (i64 3) rfl rfl rfl rfl ?_; exact ⟨rfl, e11⟩
  replace H := (if_pos (ndec_f hb12)).symm.trans H; refine W_skip <| bk_n <| W_th <| W_seq <| W_rg <| av (i64 0) rfl rfl <| wnt <| W_ret <| ?_; obtain rfl := osi H; refine rt1 (i64 0) rfl rfl rfl rfl ?_; exact ⟨rfl, e11⟩
noncomputable def stripe_Shape_Spread (a0s : List Int) (a1f : Bool) (a2block : List UInt8) (a3random : List UInt8) : Option (List (List UInt8) × Int) :=
((lenA 4 a0s).bind fun c4 =>
((stripe_Shape_check a0s a1f a3random).bind fun r5 =>
(if r5 = 0 then
(if (a2block.length : Int) = 440 then
((idx a0s 0).bind fun c9 =>
(if c9 = 0 then
((idx a0s 1).bind fun c13 =>
((lenA 4 a0s).bind fun c14 =>
((stripe_Shape_places a0s).bind fun r15 =>
((shamir_Split a1f c13 a2block a3random r15).bind fun r17 => some (r17.1, r17.2)))))
else
((aont_Wrap a1f a3random a2block).bind fun r21 =>
(if r21.2 = 0 then
((idx a0s 1).bind fun c26 =>
((slices_Concat_sbytebyte ([([(1 : UInt8)] : List UInt8), r21.1] : List (List UInt8))).bind fun r31 =>
((code_Cut r31 c26).bind fun r33 =>
(if r33.2 = 0 then
((idx a0s 2).bind fun c36 =>
((code_Encode a1f c36 r33.1).bind fun r37 => some (r37.1, r37.2)))
else some (([] : List (List UInt8)), r33.2)))))
else some (([] : List (List UInt8)), r21.2)))))
else some (([] : List (List UInt8)), 3))
else some (([] : List (List UInt8)), r5))))
theorem stripe_Shape_Spread_calls (a0s : List Int) (a1f : Bool) (a2block : List UInt8) (a3random : List UInt8) (p1 : Value) (p2 : Value) (p3 : Value) (r : List (List UInt8) × Int) (w0 : World) (L0 : List Value) (hL0 : Old w0 L0) (hp1 : Fd w0 [] p1 a1f) (hp2 : By w0 [] p2 a2block) (hp3 : By w0 [] p3 a3random) (H : stripe_Shape_Spread a0s a1f a2block a3random = some r) :
    Calls Try.prog 7 [(ag i64 a0s), p1, p2, p3].toArray w0 (fun e w' => ∃ u0 : Value, e = .returned (.tuple #[u0, (i64 r.2)]) ∧ Ext w0 w' ∧ Nw w0 u0 ∧ OwK By w' (u0 :: L0) 22 u0 r.1) := by
  have hE : Ext w0 w0 := Ext.refl w0; unfold stripe_Shape_Spread at H; refine calls_W (n := 67) Try.func7 rfl rfl rfl ?_; refine W_seq <| W_rg <| ?_; refine wls rfl rfl (stp_boxL (v := (ag i64 a0s)) (cs := (ac i64 a0s)) (L0) rfl rfl rfl ?_); intro g1 w1 o1 n1 g1r l1; have x1 := grown_ext g1r; have n3 := Nw.ext hE n1; have e2 := hE.trans x1; refine av (.slice none 0 0) rfl rfl <| av (i64 0) rfl rfl <| wnt <| W_seq <| W_seq <| W_rg <| ?_; obtain ⟨c4, hc4, H⟩ := bsi H; refine wq rfl (q_loadG (m := 0) rfl G25 rfl o1 (seg_self _ _) (lenA_eq hc4)) <| mv p1 rfl rfl <| mv p3 rfl rfl <| ?_; obtain ⟨r5, hr5, H⟩ := bsi H; refine wls rfl rfl (stp_call (vs := [(ag i64 a0s), p1, p3]) Try.func14 rfl rfl rfl (ar3 rfl rfl rfl) (stripe_Shape_check_calls a0s a1f a3random p1 p3 r5 _ (hp1.lift (Lift.ext e2 _)) (hp3.lift (Lift.ext e2 _)) hr5) ?_); rintro _ w5 ⟨rfl, x5⟩; refine ⟨_, rfl, ?_⟩; replace o1 := o1.ext x5; have e6 := e2.trans x5; refine av (i64 r5) rfl rfl <| wnt <| W_seq <| W_rg <| mv (i64 r5) rfl rfl <| wa rfl (q_neI rfl rfl rfl) <| wnt <| ?_; refine W_cond _ rfl rfl (fun hb7 => ?_) (fun hb7 => ?_)
  · replace H := (if_neg (ndec_t hb7)).symm.trans H; refine W_seq <| W_rg <| mv (i64 r5) rfl rfl <| av (.slice none 0 0) rfl rfl <| av (i64 r5) rfl rfl <| wnt <| W_ret <| th_r <| ?_; obtain rfl := osi H; refine rt2 (.slice none 0 0) (i64 r5) rfl rfl rfl rfl rfl rfl ?_; exact ⟨(.slice none 0 0), rfl, e6, Nw.nil _, (OwK.nil _ _ _ _)⟩
  replace H := (if_pos (ndec_f hb7)).symm.trans H; refine W_skip <| W_th <| W_seq <| W_seq <| W_rg <| mv p2 rfl rfl <| wa rfl (q_len rfl T22.sl rfl (hp2.lift (Lift.ext e6 _))) <| wa rfl (q_neI rfl rfl rfl) <| ?_; refine wnt ?_; refine W_cond _ rfl rfl (fun hb8 => ?_) (fun hb8 => ?_)
  · replace H := (if_neg (ndec_t hb8)).symm.trans H; refine W_seq <| W_rg <| av (.slice none 0 0) rfl rfl <| av (i64 3) rfl rfl <| wnt <| W_ret <| th_r <| ?_; obtain rfl := osi H; refine rt2 (.slice none 0 0) (i64 3) rfl rfl rfl rfl rfl rfl ?_; exact ⟨(.slice none 0 0), rfl, e6, Nw.nil _, (OwK.nil _ _ _ _)⟩
  replace H := (if_pos (ndec_f hb8)).symm.trans H; refine W_skip <| W_th <| W_seq <| W_seq <| W_rg <| ?_; obtain ⟨c9, hc9, H⟩ := bsi H; refine wa rfl (q_fldS (j := 0) rfl fieldS0 rfl) <| wq rfl (q_loadEG (m := 0) rfl G25 rfl o1 (seg_self _ _) hc9) <| wa rfl (q_eqI rfl rfl rfl) <| wnt <| ?_; refine W_cond _ rfl rfl (fun hb10 => ?_) (fun hb10 => ?_)
  · replace H := ifp hb10 H; refine W_seq ?_; refine W_draw [2, 5] [(0, 0), (1, 0), (2, 1), (3, 0), (4, 0), (5, 1), (6, 2), (7, 2), (8, 0), (9, 0), (10, 0), (11, 0)] mixed (by kernel_rfl) (by kernel_rfl) (by kernel_rfl) (by kernel_rfl) ?_; have x11 := Ext.drew w5; replace o1 := o1.ext x11; have e12 := e6.trans x11; refine sv p1 rfl rfl rfl ?_; obtain ⟨c13, hc13, H⟩ := bsi H; refine sa rfl rfl (q_fldS (j := 1) rfl fieldS1 rfl) <| sq rfl rfl (q_loadEG (m := 0) rfl G25 rfl o1 (seg_self _ _) hc13) <| sv p2 rfl rfl rfl <| sv p3 rfl rfl rfl <| ?_; obtain ⟨c14, hc14, H⟩ := bsi H; refine sq rfl rfl (q_loadG (m := 0) rfl G25 rfl o1 (seg_self _ _) (lenA_eq hc14)) ?_; obtain ⟨r15, hr15, H⟩ := bsi H; refine wss rfl rfl rfl (stp_call (vs := [(ag i64 a0s)]) Try.func16 rfl rfl rfl (ar1 rfl) (stripe_Shape_places_calls a0s  r15 _  hr15) ?_); rintro _ w15 ⟨v15, rfl, x15, n15_0, o15_0⟩; refine ⟨_, rfl, x15, ?_⟩; have i15_0 : By w15 ((bp g1) :: L0) v15 r15 := OwK.slk (Sc.stab _) _ (OwK.scal o15_0 (v15 :: ((bp g1) :: L0))) (fun k hk => (Old.cons (hL0.ext e12) o1.ltB) k (n15_0 k hk)) (fun _ h => h.2); replace o1 := o1.ext x15; have e16 := e12.trans x15; obtain ⟨r17, hr17, H⟩ := bsi H; refine wsc rfl (by kernel_rfl) rfl rfl (stp_call (vs := [p1, (i64 c13), p2, p3, v15]) Try.func15 rfl rfl rfl (ar5 rfl rfl rfl rfl rfl) (shamir_Split_calls a1f c13 a2block a3random r15 p1 p2 p3 v15 r17 _ ((bp g1) :: L0) (Old.cons (hL0.ext e16) o1.ltB) (hp1.lift (Lift.ext e16 _)) (hp2.lift (Lift.ext e16 _)) (hp3.lift (Lift.ext e16 _)) (i15_0.lift (Lift.sub (L' := []) (fun _ _ => trivial))) hr17) ?_); rintro _ w17 ⟨v17_0, rfl, x17, n17_0, o17_0⟩; refine ⟨_, rfl, ?_⟩; have o17 : OwK By w17 (v17_0 :: ((bp g1) :: L0)) 22 v17_0 r17.1 := o17_0; have q18 : Nq (bp g1) v17_0 := o1.nq n17_0; replace i15_0 := i15_0.lift (Lift.call _ x17 n17_0); replace o1 := o1.ext x17; have n20 := Nw.ext e16 n17_0; have e19 := e16.trans x17; refine sa rfl rfl (q_extract rfl rfl rfl) <| sa rfl rfl (q_extract rfl rfl rfl) <| sa rfl rfl (q_assign (v := v17_0) rfl rfl) <| sa rfl rfl (q_assign (v := (i64 r17.2)) rfl rfl) <| ?_; refine ws_nil ?_; refine W_th <| W_ret <| th_r <| ?_; obtain rfl := osi H; refine rt2 v17_0 (i64 r17.2) rfl rfl rfl rfl rfl rfl ?_; exact ⟨v17_0, rfl, e19, n20, (o17.weak (SlK.stab (Sc.stab _)) (fun _ h => ⟨h.1, h.2.2⟩))⟩
  replace H := ifn hb10 H; refine W_skip <| W_th <| W_seq <| W_rg <| mv p1 rfl rfl <| mv p3 rfl rfl <| mv p2 rfl rfl <| ?_; obtain ⟨r21, hr21, H⟩ := bsi H; refine wls rfl rfl (stp_call (vs := [p1, p3, p2]) Try.func17 rfl rfl rfl (ar3 rfl rfl rfl) (aont_Wrap_calls a1f a3random a2block p1 p3 p2 r21 _ (hp1.lift (Lift.ext e6 _)) (hp3.lift (Lift.ext e6 _)) (hp2.lift (Lift.ext e6 _)) hr21) ?_); rintro _ w21 ⟨v21_0, rfl, x21, n21_0, o21_0⟩; refine ⟨_, rfl, ?_⟩; have i21_0 : By w21 ((bp g1) :: L0) v21_0 r21.1 := OwK.slk (Sc.stab _) _ (OwK.scal o21_0 (v21_0 :: ((bp g1) :: L0))) (fun k hk => (Old.cons (hL0.ext e6) o1.ltB) k (n21_0 k hk)) (fun _ h => h.2); replace o1 := o1.ext x21; have e22 := e6.trans x21; refine mv (.tuple #[v21_0, (i64 r21.2)]) rfl rfl <| wa rfl (q_extract rfl rfl rfl) <| wa rfl (q_extract rfl rfl rfl) <| av v21_0 rfl rfl <| av (i64 r21.2) rfl rfl <| wnt <| W_seq <| W_seq <| ?_; refine W_rg <| mv (i64 r21.2) rfl rfl <| wa rfl (q_neI rfl rfl rfl) <| wnt <| ?_; refine W_cond _ rfl rfl (fun hb23 => ?_) (fun hb23 => ?_)
  · replace H := (if_neg (ndec_t hb23)).symm.trans H; refine W_seq <| W_rg <| mv (i64 r21.2) rfl rfl <| av (.slice none 0 0) rfl rfl <| av (i64 r21.2) rfl rfl <| wnt <| W_ret <| th_r <| ?_; obtain rfl := osi H; refine rt2 (.slice none 0 0) (i64 r21.2) rfl rfl rfl rfl rfl rfl ?_; exact ⟨(.slice none 0 0), rfl, e22, Nw.nil _, (OwK.nil _ _ _ _)⟩
  replace H := (if_pos (ndec_f hb23)).symm.trans H; refine W_skip <| W_th <| W_seq <| ?_; refine W_draw [5] [(1, 0), (4, 0), (5, 1), (0, 2), (2, 2), (3, 2), (6, 2), (7, 0), (8, 0), (9, 0), (10, 0), (11, 0)] mixed (by kernel_rfl) (by kernel_rfl) (by kernel_rfl) (by kernel_rfl) ?_; have x24 := Ext.drew w21; replace i21_0 := i21_0.lift (Lift.ext x24 _); replace o1 := o1.ext x24; have e25 := e22.trans x24; refine sv v21_0 rfl rfl rfl ?_; obtain ⟨c26, hc26, H⟩ := bsi H; refine sa rfl rfl (q_fldS (j := 1) rfl fieldS1 rfl) <| sq rfl rfl (q_loadEG (m := 0) rfl G25 rfl o1 (seg_self _ _) hc26) <| ?_; refine wss rfl rfl rfl (stp_lit (L := ((bp g1) :: L0)) (R := (Sc u8)) [(u8 1)] ([(1 : UInt8)] : List UInt8) rfl T22 rfl (by exact ⟨rfl, (cst8 (1 : UInt8) rfl), trivial⟩) rfl (litC u8 (oneC_u8) (us := [(u8 1)]) (l := ([(1 : UInt8)] : List UInt8)) rfl) rfl (litS u8 (us := [(u8 1)]) (l := ([(1 : UInt8)] : List UInt8)) rfl) ?_); intro v27 w27 o27 n27 g27 l27; refine ⟨grown_ext g27, ?_⟩; have x27 := grown_ext g27; have i27 : By w27 ((bp g1) :: L0) v27 (([(1 : UInt8)] : List UInt8)) := OwK.slk (Sc.stab _) _ o27 (fun k hk => (Old.cons (hL0.ext e25) o1.ltB) k (n27 k hk)) (fun _ h => h.2); replace i21_0 := i21_0.lift (Lift.ext x27 _); replace o1 := o1.ext x27; have e28 := e25.trans x27; refine wss rfl rfl rfl (stp_lit (L := ((bp g1) :: L0)) (R := By) [v27, v21_0] ([([(1 : UInt8)] : List UInt8), r21.1] : List (List UInt8)) rfl T28 rfl (by exact ⟨rfl, rfl, rfl, rfl, trivial⟩) rfl (LitR.cells (R := By) (w := w27) (L := ((bp g1) :: L0)) (l := ([([(1 : UInt8)] : List UInt8), r21.1] : List (List UInt8))) (LitR.cons i27 (LitR.cons i21_0 LitR.nil)) (fun u x h => cells_sl u x h)) rfl (LitR.all (R := By) (w := w27) (L := ((bp g1) :: L0)) (l := ([([(1 : UInt8)] : List UInt8), r21.1] : List (List UInt8))) (SlK.stab (Sc.stab _)) (LitR.cons i27 (LitR.cons i21_0 LitR.nil))) ?_); intro v29 w29 o29 n29 g29 l29; refine ⟨grown_ext g29, ?_⟩; have x29 := grown_ext g29; have i29 : Rw w29 ((bp g1) :: L0) v29 (([([(1 : UInt8)] : List UInt8), r21.1] : List (List UInt8))) := OwK.slk (SlK.stab (Sc.stab _)) _ o29 (fun k hk => (Old.cons (hL0.ext e28) o1.ltB) k (n29 k hk)) (fun _ h => h.2); replace i21_0 := i21_0.lift (Lift.ext x29 _); replace i27 := i27.lift (Lift.ext x29 _); replace o1 := o1.ext x29; have e30 := e28.trans x29; obtain ⟨r31, hr31, H⟩ := bsi H; refine wss rfl rfl rfl (stp_call (vs := [v29]) Try.func19 rfl rfl rfl (ar1 rfl) (slices_Concat_sbytebyte_calls ([([(1 : UInt8)] : List UInt8), r21.1] : List (List UInt8)) v29 r31 _ (i29.lift (Lift.sub (L' := []) (fun _ _ => trivial))) hr31) ?_); rintro _ w31 ⟨v31, rfl, x31, n31_0, o31_0⟩; refine ⟨_, rfl, x31, ?_⟩; have i31_0 : By w31 ((bp g1) :: L0) v31 r31 := OwK.slk (Sc.stab _) _ (OwK.scal o31_0 (v31 :: ((bp g1) :: L0))) (fun k hk => (Old.cons (hL0.ext e30) o1.ltB) k (n31_0 k hk)) (fun _ h => h.2); replace i21_0 := i21_0.lift (Lift.ext x31 _); replace i27 := i27.lift (Lift.ext x31 _)
  replace i29 := i29.lift (Lift.ext x31 _); replace o1 := o1.ext x31; have e32 := e30.trans x31; obtain ⟨r33, hr33, H⟩ := bsi H; refine wsc rfl (by kernel_rfl) rfl rfl (stp_call (vs := [v31, (i64 c26)]) Try.func18 rfl rfl rfl (ar2 rfl rfl) (code_Cut_calls r31 c26 v31 r33 _ ((bp g1) :: L0) (Old.cons (hL0.ext e32) o1.ltB) (i31_0.lift (Lift.sub (L' := []) (fun _ _ => trivial))) hr33) ?_); rintro _ w33 ⟨v33_0, rfl, x33, n33_0, o33_0⟩; refine ⟨_, rfl, ?_⟩; have i33_0 : Rw w33 ((bp g1) :: L0) v33_0 r33.1 := OwK.slk (SlK.stab (Sc.stab _)) _ o33_0 (fun k hk => (Old.cons (hL0.ext e32) o1.ltB) k (n33_0 k hk)) (fun _ h => h.2); replace i21_0 := i21_0.lift (Lift.ext x33 _); replace i27 := i27.lift (Lift.ext x33 _); replace i29 := i29.lift (Lift.ext x33 _); replace i31_0 := i31_0.lift (Lift.ext x33 _); replace o1 := o1.ext x33; have e34 := e32.trans x33; refine sv (.tuple #[v33_0, (i64 r33.2)]) rfl rfl rfl <| sa rfl rfl (q_extract rfl rfl rfl) <| sa rfl rfl (q_extract rfl rfl rfl) <| sa rfl rfl (q_assign (v := v33_0) rfl rfl) <| sa rfl rfl (q_assign (v := (i64 r33.2)) rfl rfl) <| ?_; refine ws_nil ?_; refine W_th <| W_seq <| W_seq <| W_rg <| mv (i64 r33.2) rfl rfl <| wa rfl (q_neI rfl rfl rfl) <| wnt <| ?_; refine W_cond _ rfl rfl (fun hb35 => ?_) (fun hb35 => ?_)
  · replace H := (if_neg (ndec_t hb35)).symm.trans H; refine W_seq <| W_rg <| mv (i64 r33.2) rfl rfl <| av (.slice none 0 0) rfl rfl <| av (i64 r33.2) rfl rfl <| wnt <| W_ret <| th_r <| ?_; obtain rfl := osi H; refine rt2 (.slice none 0 0) (i64 r33.2) rfl rfl rfl rfl rfl rfl ?_; exact ⟨(.slice none 0 0), rfl, e34, Nw.nil _, (OwK.nil _ _ _ _)⟩
  replace H := (if_pos (ndec_f hb35)).symm.trans H; refine W_skip <| W_th <| W_seq <| W_rg <| mv p1 rfl rfl <| ?_; obtain ⟨c36, hc36, H⟩ := bsi H; refine wa rfl (q_fldS (j := 2) rfl fieldS2 rfl) <| wq rfl (q_loadEG (m := 0) rfl G25 rfl o1 (seg_self _ _) hc36) <| mv v33_0 rfl rfl <| ?_; obtain ⟨r37, hr37, H⟩ := bsi H; refine wls rfl rfl (stp_call (vs := [p1, (i64 c36), v33_0]) Try.func20 rfl rfl rfl (ar3 rfl rfl rfl) (code_Encode_calls a1f c36 r33.1 p1 v33_0 r37 _ ((bp g1) :: L0) (Old.cons (hL0.ext e34) o1.ltB) (hp1.lift (Lift.ext e34 _)) (i33_0.lift (Lift.sub (L' := []) (fun _ _ => trivial))) hr37) ?_); rintro _ w37 ⟨v37_0, rfl, x37, n37_0, o37_0⟩; refine ⟨_, rfl, ?_⟩; have o37 : OwK By w37 (v37_0 :: ((bp g1) :: L0)) 22 v37_0 r37.1 := o37_0; have q38 : Nq (bp g1) v37_0 := o1.nq n37_0; replace i21_0 := i21_0.lift (Lift.call _ x37 n37_0); replace i27 := i27.lift (Lift.call _ x37 n37_0); replace i29 := i29.lift (Lift.call _ x37 n37_0); replace i31_0 := i31_0.lift (Lift.call _ x37 n37_0); replace i33_0 := i33_0.lift (Lift.call _ x37 n37_0); replace o1 := o1.ext x37; have n40 := Nw.ext e34 n37_0; have e39 := e34.trans x37; refine wa rfl (q_extract rfl rfl rfl) <| wa rfl (q_extract rfl rfl rfl) <| av v37_0 rfl rfl <| av (i64 r37.2) rfl rfl <| wnt <| W_ret <| ?_; obtain rfl := osi H; refine rt2 v37_0 (i64 r37.2) rfl rfl rfl rfl rfl rfl ?_; exact ⟨v37_0, rfl, e39, n40, (o37.weak (SlK.stab (Sc.stab _)) (fun _ h => ⟨h.1, h.2.2⟩))⟩
end Gk

/- Printed by gen.py: for each Go function a pure function, and that the Go code comes to it. No condition beside the equation that says what the pure function gives. -/
namespace Gk
open Go Go.Proofs
noncomputable def law17_Block (a0b : List UInt8) : Option (List UInt8) :=
((makeL 440 (0 : UInt8)).bind fun c1 =>
((iterC (fun s4 : List UInt8 × Int =>
(if s4.2 < (c1.length : Int) then
(if 0 < (a0b.length : Int) then
((remI s4.2 ((a0b.length : Int))).bind fun c10 =>
((idx a0b c10).bind fun c11 =>
((divI s4.2 ((a0b.length : Int))).bind fun c12 =>
((idx s4.1 s4.2).bind fun c13 => some (.inl ((s4.1.set (s4.2 : Int).toNat ((c11 + (UInt8.ofInt c12)))), (wI (s4.2 + 1))))))))
else some (.inl (s4.1, (wI (s4.2 + 1)))))
else some (.inr s4.1))) (c1, 0)).bind fun x4 => some x4))
theorem law17_Block_calls (a0b : List UInt8) (p0 : Value) (r : List UInt8) (w0 : World) (hp0 : By w0 [] p0 a0b) (H : law17_Block a0b = some r) :
    Calls Try.prog 9 [p0].toArray w0 (fun e w' => ∃ u0 : Value, e = .returned u0 ∧ Ext w0 w' ∧ Nw w0 u0 ∧ OwK (Sc u8) w' [] 5 u0 r) := by
  have hE : Ext w0 w0 := Ext.refl w0; unfold law17_Block at H; refine calls_W (n := 32) Try.func9 rfl rfl rfl ?_; refine W_seq <| W_rg <| av (.slice none 0 0) rfl rfl <| wnt <| W_seq <| W_rg <| ?_; obtain ⟨c1, hc1, H⟩ := bsi H; refine wls rfl rfl (stp_make (L := []) (R := (Sc u8)) rfl T22 rfl rfl hc1 (fun _ _ => rfl) ?_); intro v1 w1 o1 n1 g1 l1; have x1 := grown_ext g1; have n3 := Nw.ext hE n1; have e2 := hE.trans x1; refine av v1 rfl rfl <| wnt <| W_seq <| W_seq <| W_rg <| mv v1 rfl rfl <| wa rfl (q_len rfl T22.sl rfl (o1.rd (Sc.stab _))) <| mv (i64 0) rfl rfl <| ?_; refine wnt ?_; obtain ⟨x4, G4, H⟩ := bsi H; refine W_mid (fun f w => f 3 = v1 ∧ f 32 = undef ∧ Ext w0 w ∧ OwK (Sc u8) w [v1] 5 v1 x4 ∧ Nw w0 v1) ?_ ?_
  · refine W_block ?_; refine W_loop (fun s4 f w => f 0 = p0 ∧ f 3 = v1 ∧ f 7 = (i64 ((c1.length : Int))) ∧ f 8 = (i64 s4.2) ∧ f 32 = undef ∧ Ext w0 w ∧ OwK (Sc u8) w [v1] 5 v1 s4.1 ∧ Nw w0 v1) G4 ?_ ?_
    · exact ⟨rfl, rfl, rfl, rfl, rfl, e2, o1, n3⟩
    rintro s4 _ _ w5 ⟨s0_5, s3_5, s7_5, s8_5, s32_5, hE5, o0_5, n0_5⟩ H4 hr4; refine W_seq <| W_rg <| wa rfl (q_ltI rfl s8_5 s7_5) <| wnt <| W_seq <| ?_; refine W_cond _ rfl rfl (fun hb6 => ?_) (fun hb6 => ?_)
    · replace H4 := ifp hb6 H4; refine W_skip <| W_th <| W_seq <| W_block <| W_seq <| W_rg <| mv (i64 s4.2) rfl s8_5 <| av (i64 s4.2) rfl rfl <| ?_; refine wnt <| W_seq <| W_rg <| mv p0 rfl s0_5 <| wa rfl (q_len rfl T22.sl rfl (hp0.lift (Lift.ext hE5 _))) <| wa rfl (q_gtI rfl rfl rfl) <| wnt <| ?_; refine W_cond _ rfl rfl (fun hb7 => ?_) (fun hb7 => ?_)
      · replace H4 := ifp hb7 H4; refine W_draw [8] [(0, 0), (1, 0), (2, 0), (3, 0), (4, 0), (5, 0), (6, 0), (7, 0), (8, 1), (9, 0), (10, 0), (11, 0), (12, 0), (13, 0), (14, 0), (15, 0), (16, 2)] mixed (by kernel_rfl) (by kernel_rfl) (by kernel_rfl) (by kernel_rfl) ?_; have x8 := Ext.drew w5; replace o0_5 := o0_5.extL (Sc.stab _) x8 (Lift.ext x8 _); have e9 := hE5.trans x8; refine sv v1 rfl rfl s3_5 <| sv (i64 s4.2) rfl rfl rfl <| sv p0 rfl rfl s0_5 <| sv (i64 s4.2) rfl rfl rfl <| sv p0 rfl rfl s0_5 <| sa rfl rfl (q_len rfl T22.sl rfl (hp0.lift (Lift.ext e9 _))) <| ?_; obtain ⟨c10, hc10, H4⟩ := bsi H4; refine sa rfl rfl (q_remI rfl rfl rfl hc10) ?_; obtain ⟨c11, hc11, H4⟩ := bsi H4; refine sa rfl rfl (q_adr rfl T22 rfl rfl (hp0.lift (Lift.ext e9 _)) hc11) <| sq rfl rfl (q_loadS rfl T22 rfl (hp0.lift (Lift.ext e9 _)) hc11) <| sv (i64 s4.2) rfl rfl rfl <| sv p0 rfl rfl s0_5 <| sa rfl rfl (q_len rfl T22.sl rfl (hp0.lift (Lift.ext e9 _))) <| ?_; obtain ⟨c12, hc12, H4⟩ := bsi H4; refine sa rfl rfl (q_divI rfl rfl rfl hc12) <| sa rfl rfl (q_cvt8I rfl rfl rfl rfl) <| sa rfl rfl (q_add8 rfl rfl rfl) <| ?_; obtain ⟨c13, hc13, H4⟩ := bsi H4; refine sa rfl rfl (q_adr rfl T22 rfl rfl (o0_5.rd (Sc.stab _)) hc13) ?_; refine wsn rfl (by kernel_rfl) rfl rfl (stp_store (R := (Sc u8)) (u := (u8 ((c11 + (UInt8.ofInt c12))))) (Sc.stab _) [] [] rfl T22 rfl rfl o0_5 (put_of ((c11 + (UInt8.ofInt c12))) hc13) rfl rfl ?_); intro w14 o14 g14 l14; have e15 := e9.grown g14 n0_5; refine ws_nil ?_; refine bk_n <| W_th <| W_rg <| wa rfl (q_addI rfl s8_5 rfl) <| mv (i64 ((wI (s4.2 + 1)))) rfl rfl <| wl_nil <| ?_; obtain rfl := osi H4; exact ⟨_, rfl, s0_5, s3_5, s7_5, rfl, s32_5, e15, o14, n0_5⟩
      replace H4 := ifn hb7 H4; refine W_skip <| bk_n <| W_th <| W_rg <| wa rfl (q_addI rfl s8_5 rfl) <| mv (i64 ((wI (s4.2 + 1)))) rfl rfl <| wl_nil <| ?_; obtain rfl := osi H4; exact ⟨_, rfl, s0_5, s3_5, s7_5, rfl, s32_5, hE5, o0_5, n0_5⟩
    replace H4 := ifn hb6 H4; refine W_exit <| th_x <| ?_; obtain rfl := osi H4; obtain rfl := hr4 _ rfl; refine th_x <| bk_x <| ?_; exact ⟨s3_5, s32_5, hE5, o0_5, n0_5⟩
  rintro _ w17 ⟨s3_17, s32_17, hE17, o0_17, n0_17⟩; refine W_th <| W_seq <| W_rg <| mv v1 rfl s3_17 <| av v1 rfl rfl <| wnt <| W_ret <| ?_; obtain rfl := osi H; refine rt1 v1 rfl rfl rfl s32_17 ?_; exact ⟨v1, rfl, hE17, n0_17, (o0_17.weak (Sc.stab _) (fun _ _ => trivial))⟩
noncomputable def law17_Random (a0s : List Int) (a1b : List UInt8) : Option (List UInt8) :=
((lenA 4 a0s).bind fun c4 =>
((stripe_Shape_Need a0s).bind fun r5 =>
((makeL r5 (0 : UInt8)).bind fun c7 =>
((iterC (fun s11 : List UInt8 × Int =>
(if s11.2 < (c7.length : Int) then
(if 0 < (a1b.length : Int) then
((remI s11.2 ((a1b.length : Int))).bind fun c17 =>
((idx a1b c17).bind fun c18 =>
((divI ((wI (s11.2 * 31))) ((a1b.length : Int))).bind fun c19 =>
((idx s11.1 s11.2).bind fun c20 => some (.inl ((s11.1.set (s11.2 : Int).toNat ((c18 ^^^ (UInt8.ofInt c19)))), (wI (s11.2 + 1))))))))
else some (.inl (s11.1, (wI (s11.2 + 1)))))
else some (.inr s11.1))) (c7, 0)).bind fun x11 => some x11))))
theorem law17_Random_calls (a0s : List Int) (a1b : List UInt8) (p1 : Value) (r : List UInt8) (w0 : World) (hp1 : By w0 [] p1 a1b) (H : law17_Random a0s a1b = some r) :
    Calls Try.prog 6 [(ag i64 a0s), p1].toArray w0 (fun e w' => ∃ u0 : Value, e = .returned u0 ∧ Ext w0 w' ∧ Nw w0 u0 ∧ OwK (Sc u8) w' [] 5 u0 r) := by
  have hE : Ext w0 w0 := Ext.refl w0; unfold law17_Random at H; refine calls_W (n := 37) Try.func6 rfl rfl rfl ?_; refine W_seq <| W_rg <| ?_; refine wls rfl rfl (stp_boxL (v := (ag i64 a0s)) (cs := (ac i64 a0s)) [] rfl rfl rfl ?_); intro g1 w1 o1 n1 g1r l1; have x1 := grown_ext g1r; have n3 := Nw.ext hE n1; have e2 := hE.trans x1; refine av (.slice none 0 0) rfl rfl <| wnt <| W_seq <| W_rg <| ?_; obtain ⟨c4, hc4, H⟩ := bsi H; refine wq rfl (q_loadG (m := 0) rfl G25 rfl o1 (seg_self _ _) (lenA_eq hc4)) ?_; obtain ⟨r5, hr5, H⟩ := bsi H; refine wls rfl rfl (stp_call (vs := [(ag i64 a0s)]) Try.func13 rfl rfl rfl (ar1 rfl) (stripe_Shape_Need_calls a0s  r5 _  hr5) ?_); rintro _ w5 ⟨rfl, x5⟩; refine ⟨_, rfl, ?_⟩; replace o1 := o1.ext x5; have e6 := e2.trans x5; obtain ⟨c7, hc7, H⟩ := bsi H; refine wls rfl rfl (stp_make (L := [(bp g1)]) (R := (Sc u8)) rfl T22 rfl rfl hc7 (fun _ _ => rfl) ?_); intro v7 w7 o7 n7 g7 l7; have x7 := grown_ext g7; have q8 : Nq (bp g1) v7 := o1.nq n7; replace o1 := o1.ext x7; have n10 := Nw.ext e6 n7; have e9 := e6.trans x7; refine av v7 rfl rfl <| wnt <| W_seq <| W_seq <| W_rg <| mv v7 rfl rfl <| wa rfl (q_len rfl T22.sl rfl (o7.rd (Sc.stab _))) <| mv (i64 0) rfl rfl <| ?_; refine wnt ?_; obtain ⟨x11, G11, H⟩ := bsi H; refine W_mid (fun f w => f 5 = v7 ∧ f 37 = undef ∧ Ext w0 w ∧ OwK (Sc u8) w [v7] 5 v7 x11 ∧ Nw w0 v7) ?_ ?_
  · refine W_block ?_; refine W_loop (fun s11 f w => f 1 = p1 ∧ f 5 = v7 ∧ f 11 = (i64 ((c7.length : Int))) ∧ f 12 = (i64 s11.2) ∧ f 37 = undef ∧ Ext w0 w ∧ OwK (Sc u8) w [v7] 5 v7 s11.1 ∧ Nw w0 v7) G11 ?_ ?_
    · exact ⟨rfl, rfl, rfl, rfl, rfl, e9, (o7.weak (Sc.stab _) (fun _ h => ⟨h.1, trivial⟩)), n10⟩
    rintro s11 _ _ w12 ⟨s1_12, s5_12, s11_12, s12_12, s37_12, hE12, o0_12, n0_12⟩ H11 hr11; refine W_seq <| W_rg <| wa rfl (q_ltI rfl s12_12 s11_12) <| wnt <| W_seq <| ?_; refine W_cond _ rfl rfl (fun hb13 => ?_) (fun hb13 => ?_)
    · replace H11 := ifp hb13 H11; refine W_skip <| W_th <| W_seq <| W_block <| W_seq <| W_rg <| mv (i64 s11.2) rfl s12_12 <| av (i64 s11.2) rfl rfl <| ?_; refine wnt <| W_seq <| W_rg <| mv p1 rfl s1_12 <| wa rfl (q_len rfl T22.sl rfl (hp1.lift (Lift.ext hE12 _))) <| wa rfl (q_gtI rfl rfl rfl) <| wnt <| ?_; refine W_cond _ rfl rfl (fun hb14 => ?_) (fun hb14 => ?_)
      · replace H11 := ifp hb14 H11; refine W_draw [8] [(0, 0), (1, 0), (2, 0), (3, 0), (4, 0), (5, 0), (6, 0), (7, 0), (8, 1), (9, 0), (10, 0), (11, 0), (12, 0), (13, 0), (14, 0), (15, 0), (16, 0), (17, 2)] mixed (by kernel_rfl) (by kernel_rfl) (by kernel_rfl) (by kernel_rfl) ?_; have x15 := Ext.drew w12; replace o0_12 := o0_12.extL (Sc.stab _) x15 (Lift.ext x15 _); have e16 := hE12.trans x15; refine sv v7 rfl rfl s5_12 <| sv (i64 s11.2) rfl rfl rfl <| sv p1 rfl rfl s1_12 <| sv (i64 s11.2) rfl rfl rfl <| sv p1 rfl rfl s1_12 <| sa rfl rfl (q_len rfl T22.sl rfl (hp1.lift (Lift.ext e16 _))) <| ?_; obtain ⟨c17, hc17, H11⟩ := bsi H11; refine sa rfl rfl (q_remI rfl rfl rfl hc17) ?_; obtain ⟨c18, hc18, H11⟩ := bsi H11; refine sa rfl rfl (q_adr rfl T22 rfl rfl (hp1.lift (Lift.ext e16 _)) hc18) <| sq rfl rfl (q_loadS rfl T22 rfl (hp1.lift (Lift.ext e16 _)) hc18) <| sv (i64 s11.2) rfl rfl rfl <| sa rfl rfl (q_mulI rfl rfl rfl) <| sv p1 rfl rfl s1_12 <| sa rfl rfl (q_len rfl T22.sl rfl (hp1.lift (Lift.ext e16 _))) <| ?_; obtain ⟨c19, hc19, H11⟩ := bsi H11; refine sa rfl rfl (q_divI rfl rfl rfl hc19) <| sa rfl rfl (q_cvt8I rfl rfl rfl rfl) <| sa rfl rfl (q_xor8 rfl rfl rfl) <| ?_; obtain ⟨c20, hc20, H11⟩ := bsi H11; refine sa rfl rfl (q_adr rfl T22 rfl rfl (o0_12.rd (Sc.stab _)) hc20) ?_; refine wsn rfl (by kernel_rfl) rfl rfl (stp_store (R := (Sc u8)) (u := (u8 ((c18 ^^^ (UInt8.ofInt c19))))) (Sc.stab _) [] [] rfl T22 rfl rfl o0_12 (put_of ((c18 ^^^ (UInt8.ofInt c19))) hc20) rfl rfl ?_); intro w21 o21 g21 l21; have e22 := e16.grown g21 n0_12; refine ws_nil ?_; refine bk_n <| W_th <| W_rg <| wa rfl (q_addI rfl s12_12 rfl) <| mv (i64 ((wI (s11.2 + 1)))) rfl rfl <| wl_nil <| ?_; obtain rfl := osi H11; exact ⟨_, rfl, s1_12, s5_12, s11_12, rfl, s37_12, e22, o21, n0_12⟩
      replace H11 := ifn hb14 H11; refine W_skip <| bk_n <| W_th <| W_rg <| wa rfl (q_addI rfl s12_12 rfl) <| mv (i64 ((wI (s11.2 + 1)))) rfl rfl <| wl_nil <| ?_; obtain rfl := osi H11; exact ⟨_, rfl, s1_12, s5_12, s11_12, rfl, s37_12, hE12, o0_12, n0_12⟩
    replace H11 := ifn hb13 H11; refine W_exit <| th_x <| ?_; obtain rfl := osi H11; obtain rfl := hr11 _ rfl; refine th_x <| bk_x <| ?_; exact ⟨s5_12, s37_12, hE12, o0_12, n0_12⟩
  rintro _ w24 ⟨s5_24, s37_24, hE24, o0_24, n0_24⟩; refine W_th <| W_seq <| W_rg <| mv v7 rfl s5_24 <| av v7 rfl rfl <| wnt <| W_ret <| ?_; obtain rfl := osi H; refine rt1 v7 rfl rfl rfl s37_24 ?_; exact ⟨v7, rfl, hE24, n0_24, (o0_24.weak (Sc.stab _) (fun _ _ => trivial))⟩
noncomputable def law17_Of (a0mode : Int) (a1t : Int) (a2n : Int) (a3c : Int) : Option (List Int) :=
((lenA 4 ((List.replicate 4 (0 : Int)))).bind fun c9 =>
((lenA 4 (([(wI ((((UInt64.ofInt a0mode) % (2 : UInt64))).toNat : Int)), 0, (wI (1 + (wI ((((UInt64.ofInt a2n) % (7 : UInt64))).toNat : Int)))), (wI ((((UInt64.ofInt a3c) % (4 : UInt64))).toNat : Int))] : List Int))).bind fun c10 =>
((idx (([(wI ((((UInt64.ofInt a0mode) % (2 : UInt64))).toNat : Int)), 0, (wI (1 + (wI ((((UInt64.ofInt a2n) % (7 : UInt64))).toNat : Int)))), (wI ((((UInt64.ofInt a3c) % (4 : UInt64))).toNat : Int))] : List Int)) 2).bind fun c12 =>
((nz ((UInt64.ofInt c12))).bind fun c13 =>
((idx (([(wI ((((UInt64.ofInt a0mode) % (2 : UInt64))).toNat : Int)), 0, (wI (1 + (wI ((((UInt64.ofInt a2n) % (7 : UInt64))).toNat : Int)))), (wI ((((UInt64.ofInt a3c) % (4 : UInt64))).toNat : Int))] : List Int)) 1).bind fun c14 =>
((lenA 4 (((([(wI ((((UInt64.ofInt a0mode) % (2 : UInt64))).toNat : Int)), 0, (wI (1 + (wI ((((UInt64.ofInt a2n) % (7 : UInt64))).toNat : Int)))), (wI ((((UInt64.ofInt a3c) % (4 : UInt64))).toNat : Int))] : List Int)).set (1 : Int).toNat ((wI (1 + (wI ((((UInt64.ofInt a1t) % (UInt64.ofInt c12))).toNat : Int)))))))).bind fun c17 =>
((lenA 4 ((List.replicate 4 (0 : Int)))).bind fun c19 =>
((lenA 4 (((([(wI ((((UInt64.ofInt a0mode) % (2 : UInt64))).toNat : Int)), 0, (wI (1 + (wI ((((UInt64.ofInt a2n) % (7 : UInt64))).toNat : Int)))), (wI ((((UInt64.ofInt a3c) % (4 : UInt64))).toNat : Int))] : List Int)).set (1 : Int).toNat ((wI (1 + (wI ((((UInt64.ofInt a1t) % (UInt64.ofInt c12))).toNat : Int)))))))).bind fun c21 => some ((([(wI ((((UInt64.ofInt a0mode) % (2 : UInt64))).toNat : Int)), 0, (wI (1 + (wI ((((UInt64.ofInt a2n) % (7 : UInt64))).toNat : Int)))), (wI ((((UInt64.ofInt a3c) % (4 : UInt64))).toNat : Int))] : List Int)).set (1 : Int).toNat ((wI (1 + (wI ((((UInt64.ofInt a1t) % (UInt64.ofInt c12))).toNat : Int))))))))))))))
theorem law17_Of_calls (a0mode : Int) (a1t : Int) (a2n : Int) (a3c : Int) (r : List Int) (w0 : World) (H : law17_Of a0mode a1t a2n a3c = some r) :
    Calls Try.prog 5 [(i64 a0mode), (i64 a1t), (i64 a2n), (i64 a3c)].toArray w0 (fun e w' => e = .returned (ag i64 r) ∧ Ext w0 w') := by
  have hE : Ext w0 w0 := Ext.refl w0; unfold law17_Of at H; refine calls_W (n := 34) Try.func5 rfl rfl rfl ?_; refine W_seq <| W_rg <| ?_; refine wls rfl rfl (sal i64 (List.replicate 4 (0 : Int)) [] rfl Z25 ?_); intro g1 w1 o1 n1 g1r l1; have x1 := grown_ext g1r; have n3 := Nw.ext hE n1; have e2 := hE.trans x1; refine wnt <| W_seq <| W_rg <| mv (i64 a0mode) rfl rfl <| wa rfl (q_cvt64I rfl rfl rfl rfl) <| wa rfl (q_rem64 rfl rfl (cst64 (2 : UInt64) rfl) (by decide)) <| wa rfl (q_cvtI64 rfl rfl rfl rfl) <| mv (i64 a2n) rfl rfl <| ?_; refine wa rfl (q_cvt64I rfl rfl rfl rfl) <| wa rfl (q_rem64 rfl rfl (cst64 (7 : UInt64) rfl) (by decide)) <| wa rfl (q_cvtI64 rfl rfl rfl rfl) <| wa rfl (q_addI rfl rfl rfl) <| mv (i64 a3c) rfl rfl <| wa rfl (q_cvt64I rfl rfl rfl rfl) <| wa rfl (q_rem64 rfl rfl (cst64 (4 : UInt64) rfl) (by decide)) <| wa rfl (q_cvtI64 rfl rfl rfl rfl) <| ?_; refine wa rfl (q_buildS (ps := #[(0, (i64 ((wI ((((UInt64.ofInt a0mode) % (2 : UInt64))).toNat : Int))))), (2, (i64 ((wI (1 + (wI ((((UInt64.ofInt a2n) % (7 : UInt64))).toNat : Int))))))), (3, (i64 ((wI ((((UInt64.ofInt a3c) % (4 : UInt64))).toNat : Int)))))]) rfl (by simp only [List.map_toArray, List.map_cons, List.map_nil]; exact bs3 rfl rfl rfl) (buildS_0_2_3 (wI ((((UInt64.ofInt a0mode) % (2 : UInt64))).toNat : Int)) (wI (1 + (wI ((((UInt64.ofInt a2n) % (7 : UInt64))).toNat : Int)))) (wI ((((UInt64.ofInt a3c) % (4 : UInt64))).toNat : Int)))) ?_
  refine wls rfl rfl (sal i64 (List.replicate 4 (0 : Int)) [(bp g1)] rfl Z25 ?_); intro g4 w4 o4 n4 g4r l4; have x4 := grown_ext g4r; have q5 : Nq (bp g1) (bp g4) := o1.nq n4; replace o1 := o1.ext x4; have n7 := Nw.ext e2 n4; have e6 := e2.trans x4; obtain ⟨c9, hc9, H⟩ := bsi H; obtain ⟨c10, hc10, H⟩ := bsi H; refine wln rfl rfl (stp_storeG [] [(bp g1)] rfl G25 rfl rfl (lenA_eq hc9) (lenA_eq hc10) o4 one_i64 ?_); intro w8 o8 g8 l8; replace o1 := o1.other g8 q5; have e11 := e6.grown g8 n7; refine wnt <| W_seq <| W_rg <| mv (i64 a1t) rfl rfl <| wa rfl (q_cvt64I rfl rfl rfl rfl) <| ?_; obtain ⟨c12, hc12, H⟩ := bsi H; refine wa rfl (q_fldS (j := 2) rfl fieldS2 rfl) <| wq rfl (q_loadEG (m := 0) rfl G25 rfl o8 (seg_self _ _) hc12) <| wa rfl (q_cvt64I rfl rfl rfl rfl) <| ?_; obtain ⟨c13, hc13, H⟩ := bsi H; refine wa rfl (q_rem64 rfl rfl rfl (nz_ne hc13)) <| wa rfl (q_cvtI64 rfl rfl rfl rfl) <| wa rfl (q_addI rfl rfl rfl) <| ?_; obtain ⟨c14, hc14, H⟩ := bsi H; refine wa rfl (q_fldS (j := 1) rfl fieldS1 rfl) ?_; refine wln rfl rfl (stp_storeXG (b := (wI (1 + (wI ((((UInt64.ofInt a1t) % (UInt64.ofInt c12))).toNat : Int))))) [] [(bp g1)] rfl G25 rfl rfl o8 hc14 (one_i64 _) ?_); intro w15 o15 g15 l15; replace o1 := o1.other g15 q5; have e16 := e11.grown g15 n7; refine wnt <| W_seq <| W_rg <| ?_; obtain ⟨c17, hc17, H⟩ := bsi H; refine wq rfl (q_loadG (m := 0) rfl G25 rfl o15 (seg_self _ _) (lenA_eq hc17)) ?_; obtain ⟨c19, hc19, H⟩ := bsi H; refine wln rfl rfl (stp_storeG [(bp g4)] [] rfl G25 rfl rfl (lenA_eq hc19) (lenA_eq hc17) o1 one_i64 ?_); intro w18 o18 g18 l18; replace o15 := o15.other g18 q5.symm; have e20 := e16.grown g18 n3; refine wnt <| W_ret <| ?_; obtain ⟨c21, hc21, H⟩ := bsi H; obtain rfl := osi H; refine rtcG1 G25 rfl rfl rfl o18 (lenA_eq hc21) rfl ?_; exact ⟨rfl, e20⟩
noncomputable def law17_lives  : Option Bool :=
((lenA 4 ((List.replicate 4 (0 : Int)))).bind fun c5 =>
((lenA 4 (([0, 1, 2, 0] : List Int))).bind fun c6 =>
((((lenA 4 (([0, 1, 2, 0] : List Int))).bind fun c11 =>
((field_New ).bind fun r12 =>
((law17_Block ([(1 : UInt8), (2 : UInt8)] : List UInt8)).bind fun r16 =>
((stripe_Shape_Spread ([0, 1, 2, 0] : List Int) r12 r16 ([] : List UInt8)).bind fun r18 => some (r18.1, r18.2)))))).bind fun x8 =>
(if x8.2 = 0 then
(if (x8.1.length : Int) = 2 then
((idx x8.1 1).bind fun c25 =>
((law17_Block ([(1 : UInt8), (2 : UInt8)] : List UInt8)).bind fun r29 => some (decide (c25 = r29))))
else some false)
else some false))))
theorem law17_lives_calls  (r : Bool) (w0 : World) (H : law17_lives = some r) :
    Calls Try.prog 4 [].toArray w0 (fun e w' => e = .returned (.bool r) ∧ Ext w0 w') := by
  have hE : Ext w0 w0 := Ext.refl w0; unfold law17_lives at H; refine calls_W (n := 30) Try.func4 rfl rfl rfl ?_; refine W_seq <| W_rg <| av (.bool false) rfl rfl <| wnt <| W_seq <| W_rg <| wa rfl (q_buildS (ps := #[(1, (i64 1)), (2, (i64 2))]) rfl (by simp only [List.map_toArray, List.map_cons, List.map_nil]; exact bs2 rfl rfl) (buildS_1_2 1 2)) <| ?_
  refine wls rfl rfl (sal i64 (List.replicate 4 (0 : Int)) [] rfl Z25 ?_); intro g1 w1 o1 n1 g1r l1; have x1 := grown_ext g1r; have n3 := Nw.ext hE n1; have e2 := hE.trans x1; obtain ⟨c5, hc5, H⟩ := bsi H; obtain ⟨c6, hc6, H⟩ := bsi H; refine wln rfl rfl (stp_storeG [] [] rfl G25 rfl rfl (lenA_eq hc5) (lenA_eq hc6) o1 one_i64 ?_); intro w4 o4 g4 l4; have e7 := e2.grown g4 n3; refine wnt <| W_seq <| ?_; obtain ⟨x8, H8, H⟩ := bsi H; refine W_mid (fun f w => ∃ v2_31 : Value, f 2 = v2_31 ∧ f 3 = (i64 x8.2) ∧ f 30 = undef ∧ Ext w0 w ∧ Rw w [] v2_31 x8.1) ?_ ?_
  · refine W_draw2 [0] [(0, 1)] 1 2 [(2, 2), (3, 2), (4, 2), (5, 0), (6, 0), (7, 0), (8, 0), (9, 0)] [(1, 2), (3, 2), (4, 2), (5, 0), (6, 0), (7, 0), (8, 0), (9, 0)] mixed (by kernel_rfl) (by kernel_rfl) (by kernel_rfl) (by kernel_rfl) ?_; have x9 := Ext.drew w4; replace o4 := o4.ext x9; have e10 := e7.trans x9; obtain ⟨c11, hc11, H8⟩ := bsi H8; refine sq rfl rfl (q_loadG (m := 0) rfl G25 rfl o4 (seg_self _ _) (lenA_eq hc11)) ?_; refine ws_nil ⟨?_, ?_⟩
    · obtain ⟨r12, hr12, H8⟩ := bsi H8; refine wss rfl rfl rfl (stp_call (vs := []) Try.func8 rfl rfl rfl (ar0 ) (field_New_calls   r12 _ [(bp g1)] (Old.cons (Old.nil _) o4.ltB)  hr12) ?_); rintro _ w12 ⟨v12, rfl, x12, i12_0⟩; refine ⟨_, rfl, x12, ?_⟩; replace o4 := o4.ext x12; have e13 := e10.trans x12; refine wss rfl rfl rfl (stp_lit (L := [(bp g1)]) (R := (Sc u8)) [(u8 1), (u8 2)] ([(1 : UInt8), (2 : UInt8)] : List UInt8) rfl T22 rfl (by exact ⟨rfl, (cst8 (1 : UInt8) rfl), rfl, (cst8 (2 : UInt8) rfl), trivial⟩) rfl (litC u8 (oneC_u8) (us := [(u8 1), (u8 2)]) (l := ([(1 : UInt8), (2 : UInt8)] : List UInt8)) rfl) rfl (litS u8 (us := [(u8 1), (u8 2)]) (l := ([(1 : UInt8), (2 : UInt8)] : List UInt8)) rfl) ?_); intro v14 w14 o14 n14 g14 l14; refine ⟨grown_ext g14, ?_⟩; have x14 := grown_ext g14; have i14 : By w14 [(bp g1)] v14 (([(1 : UInt8), (2 : UInt8)] : List UInt8)) := OwK.slk (Sc.stab _) _ o14 (fun k hk => (Old.cons (Old.nil _) o4.ltB) k (n14 k hk)) (fun _ h => h.2); replace i12_0 := i12_0.lift (Lift.ext x14 _); replace o4 := o4.ext x14; have e15 := e13.trans x14; obtain ⟨r16, hr16, H8⟩ := bsi H8; refine wss rfl rfl rfl (stp_call (vs := [v14]) Try.func9 rfl rfl rfl (ar1 rfl) (law17_Block_calls ([(1 : UInt8), (2 : UInt8)] : List UInt8) v14 r16 _ (i14.lift (Lift.sub (L' := []) (fun _ _ => trivial))) hr16) ?_); rintro _ w16 ⟨v16, rfl, x16, n16_0, o16_0⟩; refine ⟨_, rfl, x16, ?_⟩; have i16_0 : By w16 [(bp g1)] v16 r16 := OwK.slk (Sc.stab _) _ (OwK.scal o16_0 (v16 :: [(bp g1)])) (fun k hk => (Old.cons (Old.nil _) o4.ltB) k (n16_0 k hk)) (fun _ h => h.2); replace i12_0 := i12_0.lift (Lift.ext x16 _); replace i14 := i14.lift (Lift.ext x16 _); replace o4 := o4.ext x16; have e17 := e15.trans x16; obtain ⟨r18, hr18, H8⟩ := bsi H8; refine wsc rfl (by kernel_rfl) rfl rfl (stp_call (vs := [(ag i64 (([0, 1, 2, 0] : List Int))), v12, v16, (.slice none 0 0)]) Try.func7 rfl rfl rfl (ar4 rfl rfl rfl rfl) (stripe_Shape_Spread_calls ([0, 1, 2, 0] : List Int) r12 r16 ([] : List UInt8) v12 v16 (.slice none 0 0) r18 _ [(bp g1)] (Old.cons (Old.nil _) o4.ltB) (i12_0.lift (Lift.sub (L' := []) (fun _ _ => trivial))) (i16_0.lift (Lift.sub (L' := []) (fun _ _ => trivial))) (SlK.nil _ _ _) hr18) ?_); rintro _ w18 ⟨v18_0, rfl, x18, n18_0, o18_0⟩; refine ⟨_, rfl, ?_⟩; have i18_0 : Rw w18 [(bp g1)] v18_0 r18.1 := OwK.slk (SlK.stab (Sc.stab _)) _ o18_0 (fun k hk => (Old.cons (Old.nil _) o4.ltB) k (n18_0 k hk)) (fun _ h => h.2); replace i12_0 := i12_0.lift (Lift.ext x18 _); replace i14 := i14.lift (Lift.ext x18 _); replace i16_0 := i16_0.lift (Lift.ext x18 _); replace o4 := o4.ext x18; have e19 := e17.trans x18; refine sv (.tuple #[v18_0, (i64 r18.2)]) rfl rfl rfl <| sa rfl rfl (q_extract rfl rfl rfl) <| sa rfl rfl (q_extract rfl rfl rfl) <| sa rfl rfl (q_assign (v := v18_0) rfl rfl) <| sa rfl rfl (q_assign (v := (i64 r18.2)) rfl rfl) <| ?_
      refine ws_nil ?_; obtain rfl := osi H8; exact ⟨v18_0, rfl, rfl, rfl, e19, (i18_0.lift (Lift.sub (fun _ h => trivial)))⟩
    refine wss rfl rfl rfl (stp_lit (L := [(bp g1)]) (R := (Sc u8)) [(u8 1), (u8 2)] ([(1 : UInt8), (2 : UInt8)] : List UInt8) rfl T22 rfl (by exact ⟨rfl, (cst8 (1 : UInt8) rfl), rfl, (cst8 (2 : UInt8) rfl), trivial⟩) rfl (litC u8 (oneC_u8) (us := [(u8 1), (u8 2)]) (l := ([(1 : UInt8), (2 : UInt8)] : List UInt8)) rfl) rfl (litS u8 (us := [(u8 1), (u8 2)]) (l := ([(1 : UInt8), (2 : UInt8)] : List UInt8)) rfl) ?_); intro v12 w12 o12 n12 g12 l12; refine ⟨grown_ext g12, ?_⟩; have x12 := grown_ext g12; have i12 : By w12 [(bp g1)] v12 (([(1 : UInt8), (2 : UInt8)] : List UInt8)) := OwK.slk (Sc.stab _) _ o12 (fun k hk => (Old.cons (Old.nil _) o4.ltB) k (n12 k hk)) (fun _ h => h.2); replace o4 := o4.ext x12; have e13 := e10.trans x12; obtain ⟨r14, hr14, H8⟩ := bsi H8; refine wss rfl rfl rfl (stp_call (vs := []) Try.func8 rfl rfl rfl (ar0 ) (field_New_calls   r14 _ [(bp g1)] (Old.cons (Old.nil _) o4.ltB)  hr14) ?_); rintro _ w14 ⟨v14, rfl, x14, i14_0⟩; refine ⟨_, rfl, x14, ?_⟩; replace i12 := i12.lift (Lift.ext x14 _); replace o4 := o4.ext x14; have e15 := e13.trans x14; obtain ⟨r16, hr16, H8⟩ := bsi H8; refine wss rfl rfl rfl (stp_call (vs := [v12]) Try.func9 rfl rfl rfl (ar1 rfl) (law17_Block_calls ([(1 : UInt8), (2 : UInt8)] : List UInt8) v12 r16 _ (i12.lift (Lift.sub (L' := []) (fun _ _ => trivial))) hr16) ?_); rintro _ w16 ⟨v16, rfl, x16, n16_0, o16_0⟩; refine ⟨_, rfl, x16, ?_⟩; have i16_0 : By w16 [(bp g1)] v16 r16 := OwK.slk (Sc.stab _) _ (OwK.scal o16_0 (v16 :: [(bp g1)])) (fun k hk => (Old.cons (Old.nil _) o4.ltB) k (n16_0 k hk)) (fun _ h => h.2); replace i12 := i12.lift (Lift.ext x16 _); replace i14_0 := i14_0.lift (Lift.ext x16 _); replace o4 := o4.ext x16; have e17 := e15.trans x16; obtain ⟨r18, hr18, H8⟩ := bsi H8; refine wsc rfl (by kernel_rfl) rfl rfl (stp_call (vs := [(ag i64 (([0, 1, 2, 0] : List Int))), v14, v16, (.slice none 0 0)]) Try.func7 rfl rfl rfl (ar4 rfl rfl rfl rfl) (stripe_Shape_Spread_calls ([0, 1, 2, 0] : List Int) r14 r16 ([] : List UInt8) v14 v16 (.slice none 0 0) r18 _ [(bp g1)] (Old.cons (Old.nil _) o4.ltB) (i14_0.lift (Lift.sub (L' := []) (fun _ _ => trivial))) (i16_0.lift (Lift.sub (L' := []) (fun _ _ => trivial))) (SlK.nil _ _ _) hr18) ?_); rintro _ w18 ⟨v18_0, rfl, x18, n18_0, o18_0⟩; refine ⟨_, rfl, ?_⟩; have i18_0 : Rw w18 [(bp g1)] v18_0 r18.1 := OwK.slk (SlK.stab (Sc.stab _)) _ o18_0 (fun k hk => (Old.cons (Old.nil _) o4.ltB) k (n18_0 k hk)) (fun _ h => h.2); replace i12 := i12.lift (Lift.ext x18 _); replace i14_0 := i14_0.lift (Lift.ext x18 _); replace i16_0 := i16_0.lift (Lift.ext x18 _); replace o4 := o4.ext x18; have e19 := e17.trans x18; refine sv (.tuple #[v18_0, (i64 r18.2)]) rfl rfl rfl <| sa rfl rfl (q_extract rfl rfl rfl) <| sa rfl rfl (q_extract rfl rfl rfl) <| sa rfl rfl (q_assign (v := v18_0) rfl rfl) <| sa rfl rfl (q_assign (v := (i64 r18.2)) rfl rfl) <| ?_; refine ws_nil ?_
    obtain rfl := osi H8; exact ⟨v18_0, rfl, rfl, rfl, e19, (i18_0.lift (Lift.sub (fun _ h => trivial)))⟩
  rintro _ w20 ⟨v2_20, s2_20, s3_20, s30_20, hE20, i0_20⟩; refine W_th <| W_seq <| ?_; refine W_draw [10, 11, 14] [(0, 0), (1, 0), (2, 0), (3, 0), (4, 0), (5, 0), (6, 0), (7, 0), (8, 0), (9, 0), (10, 1), (11, 1), (12, 2), (13, 2), (14, 1), (15, 0), (16, 0), (17, 0)] mixed (by kernel_rfl) (by kernel_rfl) (by kernel_rfl) (by kernel_rfl) ?_; have x21 := Ext.drew w20; replace i0_20 := i0_20.lift (Lift.ext x21 _); have e22 := hE20.trans x21; refine sv (i64 x8.2) rfl rfl s3_20 <| sa rfl rfl (q_eqI rfl rfl rfl) <| ?_; refine wsb rfl rfl rfl (q_move (v := (.bool ((decide (x8.2 = 0))))) rfl rfl) (fun hb23 => ?_) (fun hb23 => ?_)
  · replace H := ifp hb23 H; refine sv v2_20 rfl rfl s2_20 <| sa rfl rfl (q_len rfl T28.sl rfl i0_20) <| sa rfl rfl (q_eqI rfl rfl rfl) <| sa rfl rfl (q_pick_t (v := (.bool ((decide ((x8.1.length : Int) = 2))))) rfl rfl rfl) <| ?_; refine wsb rfl rfl rfl (q_move (v := (.bool ((decide ((x8.1.length : Int) = 2))))) rfl rfl) (fun hb24 => ?_) (fun hb24 => ?_)
    · replace H := ifp hb24 H; refine sv v2_20 rfl rfl s2_20 ?_; obtain ⟨c25, hc25, H⟩ := bsi H; refine sa rfl rfl (q_adr rfl T28 rfl rfl i0_20 hc25) ?_; refine wsq_load rfl rfl rfl rfl T28 rfl i0_20 hc25 (Ext.refl _) (fun v26 i26 => ?_); refine sq rfl rfl (q_str rfl T22 rfl rfl rfl i26) ?_; refine wss rfl rfl rfl (stp_lit (L := []) (R := (Sc u8)) [(u8 1), (u8 2)] ([(1 : UInt8), (2 : UInt8)] : List UInt8) rfl T22 rfl (by exact ⟨rfl, (cst8 (1 : UInt8) rfl), rfl, (cst8 (2 : UInt8) rfl), trivial⟩) rfl (litC u8 (oneC_u8) (us := [(u8 1), (u8 2)]) (l := ([(1 : UInt8), (2 : UInt8)] : List UInt8)) rfl) rfl (litS u8 (us := [(u8 1), (u8 2)]) (l := ([(1 : UInt8), (2 : UInt8)] : List UInt8)) rfl) ?_); intro v27 w27 o27 n27 g27 l27; refine ⟨grown_ext g27, ?_⟩; have x27 := grown_ext g27; have i27 : By w27 [] v27 (([(1 : UInt8), (2 : UInt8)] : List UInt8)) := OwK.slk (Sc.stab _) _ o27 (fun k hk => (Old.nil _) k (n27 k hk)) (fun _ h => h.2); replace i0_20 := i0_20.lift (Lift.ext x27 _); replace i26 := i26.lift (Lift.ext x27 _); have e28 := e22.trans x27; obtain ⟨r29, hr29, H⟩ := bsi H; refine wss rfl rfl rfl (stp_call (vs := [v27]) Try.func9 rfl rfl rfl (ar1 rfl) (law17_Block_calls ([(1 : UInt8), (2 : UInt8)] : List UInt8) v27 r29 _ (i27.lift (Lift.sub (L' := []) (fun _ _ => trivial))) hr29) ?_); rintro _ w29 ⟨v29, rfl, x29, n29_0, o29_0⟩; refine ⟨_, rfl, x29, ?_⟩; have i29_0 : By w29 [] v29 r29 := OwK.slk (Sc.stab _) _ (OwK.scal o29_0 (v29 :: [])) (fun k hk => (Old.nil _) k (n29_0 k hk)) (fun _ h => h.2); replace i0_20 := i0_20.lift (Lift.ext x29 _); replace i26 := i26.lift (Lift.ext x29 _); replace i27 := i27.lift (Lift.ext x29 _); have e30 := e28.trans x29; refine sq rfl rfl (q_str rfl T22 rfl rfl rfl i29_0) <| sa rfl rfl (q_eqS rfl rfl rfl) <| sa rfl rfl (q_pick_t (v := (.bool ((decide (c25 = r29))))) rfl rfl rfl) <| sa rfl rfl (q_assign (v := (.bool ((decide (c25 = r29))))) rfl rfl) <| ?_; refine ws_nil ?_; refine W_th <| W_ret <| ?_; obtain rfl := osi H; refine rt1 (.bool ((decide (c25 = r29)))) rfl rfl rfl s30_20 ?_; exact ⟨rfl, e30⟩
    replace H := ifn hb24 H; refine wsk rfl rfl rfl ?_; refine wsk rfl rfl rfl ?_; refine wsk rfl rfl rfl ?_; refine wsk rfl rfl rfl ?_; refine wsk rfl rfl rfl ?_; refine wsk rfl rfl rfl ?_; refine wsk rfl rfl rfl ?_; refine wsk rfl rfl rfl ?_; refine sa rfl rfl (q_pick_f (v := (.bool false)) rfl rfl rfl) <| sa rfl rfl (q_assign (v := (.bool false)) rfl rfl) <| ?_; refine ws_nil ?_; refine W_th <| W_ret <| ?_; obtain rfl := osi H; refine rt1 (.bool false) rfl rfl rfl s30_20 ?_; exact ⟨rfl, e22⟩
  replace H := ifn hb23 H; refine wsk rfl rfl rfl ?_; refine wsk rfl rfl rfl ?_; refine wsk rfl rfl rfl ?_; refine sa rfl rfl (q_pick_f (v := (.bool false)) rfl rfl rfl) <| sv (.bool false) rfl rfl rfl <| ?_; refine wsk rfl rfl rfl ?_; refine wsk rfl rfl rfl ?_; refine wsk rfl rfl rfl ?_; refine wsk rfl rfl rfl ?_; refine wsk rfl rfl rfl ?_; refine wsk rfl rfl rfl ?_; refine wsk rfl rfl rfl ?_; refine wsk rfl rfl rfl ?_; refine sa rfl rfl (q_pick_f (v := (.bool false)) rfl rfl rfl) <| sa rfl rfl (q_assign (v := (.bool false)) rfl rfl) <| ?_; refine ws_nil ?_; refine W_th <| W_ret <| ?_; obtain rfl := osi H; refine rt1 (.bool false) rfl rfl rfl s30_20 ?_; exact ⟨rfl, e22⟩
noncomputable def law17_same (a0a : List (List UInt8)) (a1b : List (List UInt8)) : Option Bool :=
(if (a0a.length : Int) = (a1b.length : Int) then
((iterC (fun s2 : Int =>
(if s2 < (a0a.length : Int) then
((idx a0a s2).bind fun c7 =>
((idx a1b s2).bind fun c9 =>
(if c7 = c9 then some (.inl (wI (s2 + 1)))
else some (.inr (.inr false)))))
else some (.inr (.inl ())))) 0).bind (Sum.elim (fun y2 => some true) (fun q2 => some q2)))
else some false)
theorem law17_same_calls (a0a : List (List UInt8)) (a1b : List (List UInt8)) (p0 : Value) (p1 : Value) (r : Bool) (w0 : World) (hp0 : Rw w0 [] p0 a0a) (hp1 : Rw w0 [] p1 a1b) (H : law17_same a0a a1b = some r) :
    Calls Try.prog 10 [p0, p1].toArray w0 (fun e w' => e = .returned (.bool r) ∧ Ext w0 w') := by
  have hE : Ext w0 w0 := Ext.refl w0; unfold law17_same at H; refine calls_W (n := 28) Try.func10 rfl rfl rfl ?_; refine W_seq <| W_rg <| av (.bool false) rfl rfl <| wnt <| W_seq <| W_seq <| W_rg <| mv p0 rfl rfl <| ?_; refine wa rfl (q_len rfl T28.sl rfl (hp0.lift (Lift.ext hE _))) <| mv p1 rfl rfl <| wa rfl (q_len rfl T28.sl rfl (hp1.lift (Lift.ext hE _))) <| wa rfl (q_neI rfl rfl rfl) <| wnt <| ?_; refine W_cond _ rfl rfl (fun hb1 => ?_) (fun hb1 => ?_)
  · replace H := (if_neg (ndec_t hb1)).symm.trans H; refine W_seq <| W_rg <| av (.bool false) rfl rfl <| wnt <| W_ret <| th_r <| ?_; obtain rfl := osi H; refine rt1 (.bool false) rfl rfl rfl rfl ?_; exact ⟨rfl, hE⟩
  replace H := (if_pos (ndec_f hb1)).symm.trans H; refine W_skip <| W_th <| W_seq <| W_seq <| W_rg <| mv p0 rfl rfl <| wa rfl (q_len rfl T28.sl rfl (hp0.lift (Lift.ext hE _))) <| mv (i64 0) rfl rfl <| ?_; refine wnt ?_; obtain ⟨x2, G2, H⟩ := bsi H; refine W_mid (fun f w => ∃ y2, x2 = .inl y2 ∧ f 28 = undef ∧ Ext w0 w) ?_ ?_
  · refine W_block ?_; refine W_loop (fun s2 f w => f 0 = p0 ∧ f 1 = p1 ∧ f 12 = (i64 ((a0a.length : Int))) ∧ f 13 = (i64 s2) ∧ f 28 = undef ∧ Ext w0 w) G2 ?_ ?_
    · exact ⟨rfl, rfl, rfl, rfl, rfl, hE⟩
    rintro s2 _ _ w3 ⟨s0_3, s1_3, s12_3, s13_3, s28_3, hE3⟩ H2 hr2; refine W_seq <| W_rg <| wa rfl (q_ltI rfl s13_3 s12_3) <| wnt <| W_seq <| ?_; refine W_cond _ rfl rfl (fun hb4 => ?_) (fun hb4 => ?_)
    · replace H2 := ifp hb4 H2; refine W_skip <| W_th <| W_seq <| W_block <| W_seq <| W_rg <| mv (i64 s2) rfl s13_3 <| av (i64 s2) rfl rfl <| ?_; refine wnt <| W_seq <| ?_; refine W_draw [3, 4, 8, 9] [(0, 0), (1, 0), (2, 0), (3, 1), (4, 1), (5, 0), (6, 0), (7, 0), (8, 1), (9, 1), (10, 0)] mixed (by kernel_rfl) (by kernel_rfl) (by kernel_rfl) (by kernel_rfl) ?_; have x5 := Ext.drew w3; have e6 := hE3.trans x5; refine sv p0 rfl rfl s0_3 <| sv (i64 s2) rfl rfl rfl <| ?_; obtain ⟨c7, hc7, H2⟩ := bsi H2; refine sa rfl rfl (q_adr rfl T28 rfl rfl (hp0.lift (Lift.ext e6 _)) hc7) ?_; refine wsq_load rfl rfl rfl rfl T28 rfl hp0 hc7 e6 (fun v8 ha8 => ?_); refine sq rfl rfl (q_str rfl T22 rfl rfl rfl (ha8.lift (Lift.ext e6 _))) <| sv p1 rfl rfl s1_3 <| sv (i64 s2) rfl rfl rfl <| ?_; obtain ⟨c9, hc9, H2⟩ := bsi H2; refine sa rfl rfl (q_adr rfl T28 rfl rfl (hp1.lift (Lift.ext e6 _)) hc9) ?_; refine wsq_load rfl rfl rfl rfl T28 rfl hp1 hc9 e6 (fun v10 ha10 => ?_); refine sq rfl rfl (q_str rfl T22 rfl rfl rfl (ha10.lift (Lift.ext e6 _))) <| sa rfl rfl (q_neS rfl rfl rfl) <| ?_; refine ws_nil ?_; refine W_th ?_; refine W_cond _ rfl rfl (fun hb11 => ?_) (fun hb11 => ?_)
      · replace H2 := (if_neg (ndec_t hb11)).symm.trans H2; refine W_seq <| W_rg <| av (.bool false) rfl rfl <| wnt <| W_ret <| bk_r <| th_r <| ?_; obtain rfl := osi H2; obtain rfl := hr2 _ rfl; simp only [Sum.elim_inr] at H; refine th_r <| bk_r <| th_r <| th_r <| ?_; obtain rfl := osi H; refine rt1 (.bool false) rfl rfl rfl s28_3 ?_; exact ⟨rfl, e6⟩
      replace H2 := (if_pos (ndec_f hb11)).symm.trans H2; refine W_skip <| bk_n <| W_th <| W_rg <| wa rfl (q_addI rfl s13_3 rfl) <| mv (i64 ((wI (s2 + 1)))) rfl rfl <| wl_nil <| ?_; obtain rfl := osi H2; exact ⟨_, rfl, s0_3, s1_3, s12_3, rfl, s28_3, e6⟩
    replace H2 := ifn hb4 H2; refine W_exit <| th_x <| ?_; obtain rfl := osi H2; obtain rfl := hr2 _ rfl; refine th_x <| bk_x <| ?_; exact ⟨_, rfl, s28_3, hE3⟩
  rintro _ w13 ⟨y2, rfl, s28_13, hE13⟩; simp only [Sum.elim_inl] at H; refine W_th <| W_seq <| W_rg <| av (.bool true) rfl rfl <| wnt <| W_ret <| ?_; obtain rfl := osi H; refine rt1 (.bool true) rfl rfl rfl s28_13 ?_; exact ⟨rfl, hE13⟩
noncomputable def ref17_Package (a0block : List UInt8) (a1key : List UInt8) : Option (List UInt8) :=
((iterC (fun s6 : List UInt8 × List UInt8 × Int =>
(if s6.2.2 < (a0block.length : Int) then
((idx a0block s6.2.2).bind fun c9 =>
((((remI s6.2.2 16).bind fun c11 =>
(if c11 = 0 then
((divI s6.2.2 16).bind fun c15 =>
((makeL 8 (0 : UInt8)).bind fun c16 =>
((ref01_Put (UInt64.ofInt c15) 8).bind fun r21 =>
((appL c16 r21).bind fun c23 =>
((ref05_Encrypt a1key c23).bind fun r27 => some r27)))))
else some s6.2.1))).bind fun x10 =>
((remI s6.2.2 16).bind fun c30 =>
((idx x10 c30).bind fun c31 =>
((appL s6.1 (([(c9 ^^^ c31)] : List UInt8))).bind fun c34 => some (.inl (c34, x10, (wI (s6.2.2 + 1)))))))))
else some (.inr s6.1))) (([] : List UInt8), ([] : List UInt8), 0)).bind fun x6 =>
((ref07_Sum x6).bind fun r40 =>
((iterC (fun s42 : List UInt8 × Int =>
(if s42.2 < (a1key.length : Int) then
((idx a1key s42.2).bind fun c45 =>
((idx r40 s42.2).bind fun c46 =>
((appL s42.1 (([(c45 ^^^ c46)] : List UInt8))).bind fun c49 => some (.inl (c49, (wI (s42.2 + 1)))))))
else some (.inr s42.1))) (x6, 0)).bind fun x42 =>
((appL (([(1 : UInt8)] : List UInt8)) x42).bind fun c58 => some c58))))
theorem ref17_Package_calls (a0block : List UInt8) (a1key : List UInt8) (p0 : Value) (p1 : Value) (r : List UInt8) (w0 : World) (hp0 : By w0 [] p0 a0block) (hp1 : By w0 [] p1 a1key) (H : ref17_Package a0block a1key = some r) :
    Calls Try.prog 23 [p0, p1].toArray w0 (fun e w' => ∃ u0 : Value, e = .returned u0 ∧ Ext w0 w' ∧ Nw w0 u0 ∧ OwK (Sc u8) w' [] 5 u0 r) := by
  have hE : Ext w0 w0 := Ext.refl w0; unfold ref17_Package at H; refine calls_W (n := 65) Try.func23 rfl rfl rfl ?_; refine W_seq <| W_rg <| av (.slice none 0 0) rfl rfl <| wnt <| W_seq <| W_rg <| ?_; refine wls rfl rfl (stp_lit (L := []) (R := (Sc u8)) [] ([] : List UInt8) rfl T22 rfl (by exact trivial) rfl (litC u8 (oneC_u8) (us := []) (l := ([] : List UInt8)) rfl) rfl (litS u8 (us := []) (l := ([] : List UInt8)) rfl) ?_); intro v1 w1 o1 n1 g1 l1; have x1 := grown_ext g1; have n3 := Nw.ext hE n1; have e2 := hE.trans x1; refine wls rfl rfl (stp_lit (L := [v1]) (R := (Sc u8)) [] ([] : List UInt8) rfl T22 rfl (by exact trivial) rfl (litC u8 (oneC_u8) (us := []) (l := ([] : List UInt8)) rfl) rfl (litS u8 (us := []) (l := ([] : List UInt8)) rfl) ?_); intro v4 w4 o4 n4 g4 l4; have x4 := grown_ext g4; have i4 : By w4 [v1] v4 (([] : List UInt8)) := OwK.slk (Sc.stab _) _ o4 (fun k hk => (Old.cons (Old.nil _) o1.lt) k (n4 k hk)) (fun _ h => h.2); replace o1 := o1.extL (Sc.stab _) x4 (Lift.ext x4 _); have e5 := e2.trans x4; refine av v1 rfl rfl <| av v4 rfl rfl <| wnt <| W_seq <| W_seq <| W_rg <| mv p0 rfl rfl <| wa rfl (q_len rfl T22.sl rfl (hp0.lift (Lift.ext e5 _))) <| ?_; refine mv (i64 0) rfl rfl <| wnt <| ?_; obtain ⟨x6, G6, H⟩ := bsi H; refine W_mid (fun f w => ∃ v5_63 : Value, f 1 = p1 ∧ f 5 = v5_63 ∧ f 65 = undef ∧ Ext w0 w ∧ OwK (Sc u8) w [v5_63] 5 v5_63 x6 ∧ Nw w0 v5_63) ?_ ?_
  · refine W_block ?_; refine W_loop (fun s6 f w => ∃ v5_38 : Value, ∃ v6_38 : Value, f 1 = p1 ∧ f 5 = v5_38 ∧ f 6 = v6_38 ∧ f 14 = p0 ∧ f 15 = (i64 ((a0block.length : Int))) ∧ f 16 = (i64 s6.2.2) ∧ f 65 = undef ∧ Ext w0 w ∧ OwK (Sc u8) w [v5_38] 5 v5_38 s6.1 ∧ Nw w0 v5_38 ∧ By w [v5_38] v6_38 s6.2.1) G6 ?_ ?_
    · exact ⟨v1, v4, rfl, rfl, rfl, rfl, rfl, rfl, rfl, e5, o1, n3, i4⟩
    rintro s6 _ _ w7 ⟨v5_7, v6_7, s1_7, s5_7, s6_7, s14_7, s15_7, s16_7, s65_7, hE7, o0_7, n0_7, i0_7⟩ H6 hr6; refine W_seq <| W_rg <| wa rfl (q_ltI rfl s16_7 s15_7) <| wnt <| W_seq <| ?_; refine W_cond _ rfl rfl (fun hb8 => ?_) (fun hb8 => ?_)
    · replace H6 := ifp hb8 H6; refine W_skip <| W_th <| W_seq <| W_block <| W_seq <| W_rg <| mv (i64 s6.2.2) rfl s16_7 <| ?_; obtain ⟨c9, hc9, H6⟩ := bsi H6; refine wa rfl (q_adr rfl T22 s14_7 s16_7 (hp0.lift (Lift.ext hE7 _)) hc9) <| wq rfl (q_loadS rfl T22 rfl (hp0.lift (Lift.ext hE7 _)) hc9) <| av (i64 s6.2.2) rfl rfl <| av (u8 c9) rfl rfl <| wnt <| W_seq <| ?_; obtain ⟨x10, H10, H6⟩ := bsi H6; refine W_mid (fun f w => ∃ v6_37 : Value, f 1 = p1 ∧ f 5 = v5_7 ∧ f 6 = v6_37 ∧ f 7 = (i64 s6.2.2) ∧ f 8 = (u8 c9) ∧ f 14 = p0 ∧ f 15 = (i64 ((a0block.length : Int))) ∧ f 16 = (i64 s6.2.2) ∧ f 65 = undef ∧ Ext w0 w ∧ OwK (Sc u8) w [v5_7] 5 v5_7 s6.1 ∧ Nw w0 v5_7 ∧ By w [v5_7] v6_37 x10) ?_ ?_
      · refine W_seq <| W_rg <| mv (i64 s6.2.2) rfl rfl <| ?_; obtain ⟨c11, hc11, H10⟩ := bsi H10; refine wa rfl (q_remI rfl rfl rfl hc11) <| wa rfl (q_eqI rfl rfl rfl) <| wnt <| ?_; refine W_cond _ rfl rfl (fun hb12 => ?_) (fun hb12 => ?_)
        · replace H10 := ifp hb12 H10; refine W_draw2 [] [(0, 0), (2, 0), (3, 0), (4, 0)] 1 5 [(5, 2), (6, 2), (7, 2), (8, 0)] [(1, 2), (6, 2), (7, 2), (8, 0)] mixed (by kernel_rfl) (by kernel_rfl) (by kernel_rfl) (by kernel_rfl) ?_; have x13 := Ext.drew w7; replace i0_7 := i0_7.lift (Lift.ext x13 _); replace o0_7 := o0_7.extL (Sc.stab _) x13 (Lift.ext x13 _); have e14 := hE7.trans x13; refine sv p1 rfl rfl s1_7 <| sv (i64 s6.2.2) rfl rfl rfl <| ?_; obtain ⟨c15, hc15, H10⟩ := bsi H10; refine sa rfl rfl (q_divI rfl rfl rfl hc15) <| sa rfl rfl (q_cvt64I rfl rfl rfl rfl) <| ?_; obtain ⟨c16, hc16, H10⟩ := bsi H10; refine ws_nil ⟨?_, ?_⟩
          · refine wsc rfl (by kernel_rfl) rfl rfl (stp_make (L := [v5_7]) (R := (Sc u8)) rfl T22 rfl rfl hc16 (fun _ _ => rfl) ?_); intro v17 w17 o17 n17 g17 l17; have x17 := grown_ext g17; have q18 : Nq v5_7 v17 := o0_7.nq n17; replace i0_7 := i0_7.lift (Lift.call _ x17 n17); replace o0_7 := o0_7.extL (Sc.stab _) x17 (Lift.call _ x17 n17); have n20 := Nw.ext e14 n17; have e19 := e14.trans x17; obtain ⟨r21, hr21, H10⟩ := bsi H10; refine wsc rfl (by kernel_rfl) rfl rfl (stp_call (vs := [(u64 ((UInt64.ofInt c15))), (i64 8)]) Try.func41 rfl rfl rfl (ar2 rfl rfl) (ref01_Put_calls (UInt64.ofInt c15) 8  r21 _  hr21) ?_); rintro _ w21 ⟨v21, rfl, x21, n21_0, o21_0⟩; refine ⟨_, rfl, ?_⟩; have i21_0 : By w21 [v17, v5_7] v21 r21 := OwK.slk (Sc.stab _) _ (OwK.scal o21_0 (v21 :: [v17, v5_7])) (fun k hk => (Old.cons (Old.cons (Old.nil _) o0_7.lt) o17.lt) k (n21_0 k hk)) (fun _ h => h.2); replace i0_7 := i0_7.lift (Lift.ext x21 _); replace o17 := o17.extL (Sc.stab _) x21 (Lift.ext x21 _); replace o0_7 := o0_7.extL (Sc.stab _) x21 (Lift.ext x21 _); have e22 := e19.trans x21; obtain ⟨c23, hc23, H10⟩ := bsi H10; refine wsc rfl (by kernel_rfl) rfl rfl (stp_append (R := (Sc u8)) (v := v17) (u := v21) (Sc.stab _) [] [v5_7] rfl T22 rfl rfl o17 i21_0 (fun _ _ h => h) hc23 oc_u8 ?_); intro v23 w23 o23 g23 nx23 l23; replace i0_7 := i0_7.lift l23; replace i21_0 := i21_0.lift l23; have q24 : Nq v5_7 v23 := o0_7.nxt q18 nx23; replace o0_7 := o0_7.other (Sc.stab _) g23 q18 l23; have e25 := e22.grown g23 n20; have n26 := Nw.nxt e22 n20 nx23; obtain ⟨r27, hr27, H10⟩ := bsi H10; refine wsc rfl (by kernel_rfl) rfl rfl (stp_call (vs := [p1, v23]) Try.func40 rfl rfl rfl (ar2 rfl rfl) (ref05_Encrypt_calls a1key c23 p1 v23 r27 _ (hp1.lift (Lift.ext e25 _)) (o23.rd (Sc.stab _)) hr27) ?_); rintro _ w27 ⟨v27, rfl, x27, n27_0, o27_0⟩; refine ⟨_, rfl, ?_⟩; have i27_0 : By w27 [v23, v5_7] v27 r27 := SlK.avail o27_0 _ (fun k hk => (Old.cons (Old.cons (Old.nil _) o0_7.lt) o23.lt) k (n27_0 k hk)); replace i0_7 := i0_7.lift (Lift.ext x27 _); replace i21_0 := i21_0.lift (Lift.ext x27 _); replace o23 := o23.extL (Sc.stab _) x27 (Lift.ext x27 _); replace o0_7 := o0_7.extL (Sc.stab _) x27 (Lift.ext x27 _); have e28 := e25.trans x27; refine sa rfl rfl (q_assign (v := v27) rfl rfl) ?_; refine ws_nil ?_; obtain rfl := osi H10; exact ⟨v27, s1_7, s5_7, rfl, rfl, rfl, s14_7, s15_7, s16_7, s65_7, e28, (o0_7.weak (Sc.stab _) (fun _ h => ⟨h.2.1, trivial⟩)), n0_7, (i27_0.lift (Lift.sub (fun _ h => ⟨h.2.1, trivial⟩)))⟩
          obtain ⟨r17, hr17, H10⟩ := bsi H10; refine wsc rfl (by kernel_rfl) rfl rfl (stp_call (vs := [(u64 ((UInt64.ofInt c15))), (i64 8)]) Try.func41 rfl rfl rfl (ar2 rfl rfl) (ref01_Put_calls (UInt64.ofInt c15) 8  r17 _  hr17) ?_); rintro _ w17 ⟨v17, rfl, x17, n17_0, o17_0⟩; refine ⟨_, rfl, ?_⟩; have i17_0 : By w17 [v5_7] v17 r17 := OwK.slk (Sc.stab _) _ (OwK.scal o17_0 (v17 :: [v5_7])) (fun k hk => (Old.cons (Old.nil _) o0_7.lt) k (n17_0 k hk)) (fun _ h => h.2); replace i0_7 := i0_7.lift (Lift.ext x17 _); replace o0_7 := o0_7.extL (Sc.stab _) x17 (Lift.ext x17 _); have e18 := e14.trans x17; refine wsc rfl (by kernel_rfl) rfl rfl (stp_make (L := [v5_7]) (R := (Sc u8)) rfl T22 rfl rfl hc16 (fun _ _ => rfl) ?_); intro v19 w19 o19 n19 g19 l19; have x19 := grown_ext g19; have q20 : Nq v5_7 v19 := o0_7.nq n19; replace i0_7 := i0_7.lift (Lift.call _ x19 n19); replace i17_0 := i17_0.lift (Lift.call _ x19 n19); replace o0_7 := o0_7.extL (Sc.stab _) x19 (Lift.call _ x19 n19); have n22 := Nw.ext e18 n19; have e21 := e18.trans x19; obtain ⟨c23, hc23, H10⟩ := bsi H10; refine wsc rfl (by kernel_rfl) rfl rfl (stp_append (R := (Sc u8)) (v := v19) (u := v17) (Sc.stab _) [] [v5_7] rfl T22 rfl rfl o19 i17_0 (fun _ _ h => h) hc23 oc_u8 ?_); intro v23 w23 o23 g23 nx23 l23; replace i0_7 := i0_7.lift l23; replace i17_0 := i17_0.lift l23; have q24 : Nq v5_7 v23 := o0_7.nxt q20 nx23; replace o0_7 := o0_7.other (Sc.stab _) g23 q20 l23; have e25 := e21.grown g23 n22; have n26 := Nw.nxt e21 n22 nx23; obtain ⟨r27, hr27, H10⟩ := bsi H10; refine wsc rfl (by kernel_rfl) rfl rfl (stp_call (vs := [p1, v23]) Try.func40 rfl rfl rfl (ar2 rfl rfl) (ref05_Encrypt_calls a1key c23 p1 v23 r27 _ (hp1.lift (Lift.ext e25 _)) (o23.rd (Sc.stab _)) hr27) ?_); rintro _ w27 ⟨v27, rfl, x27, n27_0, o27_0⟩; refine ⟨_, rfl, ?_⟩; have i27_0 : By w27 [v23, v5_7] v27 r27 := SlK.avail o27_0 _ (fun k hk => (Old.cons (Old.cons (Old.nil _) o0_7.lt) o23.lt) k (n27_0 k hk)); replace i0_7 := i0_7.lift (Lift.ext x27 _); replace i17_0 := i17_0.lift (Lift.ext x27 _); replace o23 := o23.extL (Sc.stab _) x27 (Lift.ext x27 _); replace o0_7 := o0_7.extL (Sc.stab _) x27 (Lift.ext x27 _); have e28 := e25.trans x27; refine sa rfl rfl (q_assign (v := v27) rfl rfl) ?_; refine ws_nil ?_; obtain rfl := osi H10; exact ⟨v27, s1_7, s5_7, rfl, rfl, rfl, s14_7, s15_7, s16_7, s65_7, e28, (o0_7.weak (Sc.stab _) (fun _ h => ⟨h.2.1, trivial⟩)), n0_7, (i27_0.lift (Lift.sub (fun _ h => ⟨h.2.1, trivial⟩)))⟩
        replace H10 := ifn hb12 H10; refine W_skip ?_; obtain rfl := osi H10; exact ⟨v6_7, s1_7, s5_7, s6_7, rfl, rfl, s14_7, s15_7, s16_7, s65_7, hE7, o0_7, n0_7, i0_7⟩
      rintro _ w29 ⟨v6_29, s1_29, s5_29, s6_29, s7_29, s8_29, s14_29, s15_29, s16_29, s65_29, hE29, o0_29, n0_29, i0_29⟩; refine W_th <| W_rg <| mv v5_7 rfl s5_29 <| mv (u8 c9) rfl s8_29 <| mv v6_29 rfl s6_29 <| mv (i64 s6.2.2) rfl s7_29 <| ?_; obtain ⟨c30, hc30, H6⟩ := bsi H6; refine wa rfl (q_remI rfl rfl rfl hc30) ?_; obtain ⟨c31, hc31, H6⟩ := bsi H6; refine wa rfl (q_adr rfl T22 rfl rfl i0_29 hc31) <| wq rfl (q_loadS rfl T22 rfl i0_29 hc31) <| wa rfl (q_xor8 rfl rfl rfl) <| ?_; refine wls rfl rfl (stp_lit (L := [v5_7]) (R := (Sc u8)) [(u8 ((c9 ^^^ c31)))] ([(c9 ^^^ c31)] : List UInt8) rfl T22 rfl (by exact ⟨rfl, rfl, trivial⟩) rfl (litC u8 (oneC_u8) (us := [(u8 ((c9 ^^^ c31)))]) (l := ([(c9 ^^^ c31)] : List UInt8)) rfl) rfl (litS u8 (us := [(u8 ((c9 ^^^ c31)))]) (l := ([(c9 ^^^ c31)] : List UInt8)) rfl) ?_); intro v32 w32 o32 n32 g32 l32; have x32 := grown_ext g32; have i32 : By w32 [v5_7] v32 (([(c9 ^^^ c31)] : List UInt8)) := OwK.slk (Sc.stab _) _ o32 (fun k hk => (Old.cons (Old.nil _) o0_29.lt) k (n32 k hk)) (fun _ h => h.2); replace i0_29 := i0_29.lift (Lift.ext x32 _); replace o0_29 := o0_29.extL (Sc.stab _) x32 (Lift.ext x32 _); have e33 := hE29.trans x32; obtain ⟨c34, hc34, H6⟩ := bsi H6; refine wls rfl rfl (stp_append (R := (Sc u8)) (v := v5_7) (u := v32) (Sc.stab _) [] [] rfl T22 rfl rfl o0_29 i32 (fun _ _ h => h) hc34 oc_u8 ?_); intro v34 w34 o34 g34 nx34 l34; replace i0_29 := i0_29.lift l34; replace i32 := i32.lift l34; have e35 := e33.grown g34 n0_29; have n36 := Nw.nxt e33 n0_29 nx34; refine av v34 rfl rfl <| wl_nil <| bk_n <| W_th <| W_rg <| wa rfl (q_addI rfl s16_29 rfl) <| mv (i64 ((wI (s6.2.2 + 1)))) rfl rfl <| wl_nil <| ?_; obtain rfl := osi H6; exact ⟨_, rfl, v34, v6_29, s1_29, rfl, s6_29, s14_29, s15_29, rfl, s65_29, e35, o34, n36, i0_29⟩
    replace H6 := ifn hb8 H6; refine W_exit <| th_x <| ?_; obtain rfl := osi H6; obtain rfl := hr6 _ rfl; refine th_x <| bk_x <| ?_; exact ⟨v5_7, s1_7, s5_7, s65_7, hE7, o0_7, n0_7⟩
  rintro _ w39 ⟨v5_39, s1_39, s5_39, s65_39, hE39, o0_39, n0_39⟩; refine W_th <| W_seq <| W_rg <| mv v5_39 rfl s5_39 <| ?_; obtain ⟨r40, hr40, H⟩ := bsi H; refine wls rfl rfl (stp_call (vs := [v5_39]) Try.func42 rfl rfl rfl (ar1 rfl) (ref07_Sum_calls x6 v5_39 r40 _ (o0_39.rd (Sc.stab _)) hr40) ?_); rintro _ w40 ⟨v40, rfl, x40, n40_0, o40_0⟩; refine ⟨_, rfl, ?_⟩; have i40_0 : By w40 [v5_39] v40 r40 := OwK.slk (Sc.stab _) _ (OwK.scal o40_0 (v40 :: [v5_39])) (fun k hk => (Old.cons (Old.nil _) o0_39.lt) k (n40_0 k hk)) (fun _ h => h.2); replace o0_39 := o0_39.extL (Sc.stab _) x40 (Lift.ext x40 _); have e41 := hE39.trans x40; refine av v40 rfl rfl <| wnt <| W_seq <| W_seq <| W_rg <| mv p1 rfl s1_39 <| wa rfl (q_len rfl T22.sl rfl (hp1.lift (Lift.ext e41 _))) <| mv (i64 0) rfl rfl <| ?_; refine wnt ?_; obtain ⟨x42, G42, H⟩ := bsi H; refine W_mid (fun f w => ∃ v5_62 : Value, f 5 = v5_62 ∧ f 65 = undef ∧ Ext w0 w ∧ OwK (Sc u8) w [v5_62] 5 v5_62 x42 ∧ Nw w0 v5_62) ?_ ?_
  · refine W_block ?_; refine W_loop (fun s42 f w => ∃ v5_52 : Value, f 5 = v5_52 ∧ f 9 = v40 ∧ f 45 = p1 ∧ f 46 = (i64 ((a1key.length : Int))) ∧ f 47 = (i64 s42.2) ∧ f 65 = undef ∧ Ext w0 w ∧ OwK (Sc u8) w [v5_52] 5 v5_52 s42.1 ∧ Nw w0 v5_52 ∧ By w [v5_52] v40 r40) G42 ?_ ?_
    · exact ⟨v5_39, s5_39, rfl, rfl, rfl, rfl, s65_39, e41, o0_39, n0_39, i40_0⟩
    rintro s42 _ _ w43 ⟨v5_43, s5_43, s9_43, s45_43, s46_43, s47_43, s65_43, hE43, o0_43, n0_43, i0_43⟩ H42 hr42; refine W_seq <| W_rg <| wa rfl (q_ltI rfl s47_43 s46_43) <| wnt <| W_seq <| ?_; refine W_cond _ rfl rfl (fun hb44 => ?_) (fun hb44 => ?_)
    · replace H42 := ifp hb44 H42; refine W_skip <| W_th <| W_seq <| W_block <| W_seq <| W_rg <| mv (i64 s42.2) rfl s47_43 <| ?_; obtain ⟨c45, hc45, H42⟩ := bsi H42; refine wa rfl (q_adr rfl T22 s45_43 s47_43 (hp1.lift (Lift.ext hE43 _)) hc45) <| wq rfl (q_loadS rfl T22 rfl (hp1.lift (Lift.ext hE43 _)) hc45) <| av (i64 s42.2) rfl rfl <| av (u8 c45) rfl rfl <| wnt <| W_rg <| mv v5_43 rfl s5_43 <| mv (u8 c45) rfl rfl <| ?_; refine mv v40 rfl s9_43 <| mv (i64 s42.2) rfl rfl <| ?_; obtain ⟨c46, hc46, H42⟩ := bsi H42; refine wa rfl (q_adr rfl T22 rfl rfl i0_43 hc46) <| wq rfl (q_loadS rfl T22 rfl i0_43 hc46) <| wa rfl (q_xor8 rfl rfl rfl) <| ?_; refine wls rfl rfl (stp_lit (L := [v5_43]) (R := (Sc u8)) [(u8 ((c45 ^^^ c46)))] ([(c45 ^^^ c46)] : List UInt8) rfl T22 rfl (by exact ⟨rfl, rfl, trivial⟩) rfl (litC u8 (oneC_u8) (us := [(u8 ((c45 ^^^ c46)))]) (l := ([(c45 ^^^ c46)] : List UInt8)) rfl) rfl (litS u8 (us := [(u8 ((c45 ^^^ c46)))]) (l := ([(c45 ^^^ c46)] : List UInt8)) rfl) ?_); intro v47 w47 o47 n47 g47 l47; have x47 := grown_ext g47; have i47 : By w47 [v5_43] v47 (([(c45 ^^^ c46)] : List UInt8)) := OwK.slk (Sc.stab _) _ o47 (fun k hk => (Old.cons (Old.nil _) o0_43.lt) k (n47 k hk)) (fun _ h => h.2); replace i0_43 := i0_43.lift (Lift.ext x47 _); replace o0_43 := o0_43.extL (Sc.stab _) x47 (Lift.ext x47 _); have e48 := hE43.trans x47; obtain ⟨c49, hc49, H42⟩ := bsi H42; refine wls rfl rfl (stp_append (R := (Sc u8)) (v := v5_43) (u := v47) (Sc.stab _) [] [] rfl T22 rfl rfl o0_43 i47 (fun _ _ h => h) hc49 oc_u8 ?_); intro v49 w49 o49 g49 nx49 l49; replace i0_43 := i0_43.lift l49; replace i47 := i47.lift l49; have e50 := e48.grown g49 n0_43; have n51 := Nw.nxt e48 n0_43 nx49; refine av v49 rfl rfl <| wl_nil <| bk_n <| W_th <| W_rg <| wa rfl (q_addI rfl s47_43 rfl) <| mv (i64 ((wI (s42.2 + 1)))) rfl rfl <| wl_nil <| ?_; obtain rfl := osi H42; exact ⟨_, rfl, v49, rfl, s9_43, s45_43, s46_43, rfl, s65_43, e50, o49, n51, i0_43⟩
    replace H42 := ifn hb44 H42; refine W_exit <| th_x <| ?_; obtain rfl := osi H42; obtain rfl := hr42 _ rfl; refine th_x <| bk_x <| ?_; exact ⟨v5_43, s5_43, s65_43, hE43, o0_43, n0_43⟩
  rintro _ w53 ⟨v5_53, s5_53, s65_53, hE53, o0_53, n0_53⟩; refine W_th <| W_seq <| W_rg <| ?_; refine wls rfl rfl (stp_lit (L := [v5_53]) (R := (Sc u8)) [(u8 1)] ([(1 : UInt8)] : List UInt8) rfl T22 rfl (by exact ⟨rfl, (cst8 (1 : UInt8) rfl), trivial⟩) rfl (litC u8 (oneC_u8) (us := [(u8 1)]) (l := ([(1 : UInt8)] : List UInt8)) rfl) rfl (litS u8 (us := [(u8 1)]) (l := ([(1 : UInt8)] : List UInt8)) rfl) ?_); intro v54 w54 o54 n54 g54 l54; have x54 := grown_ext g54; have q55 : Nq v5_53 v54 := o0_53.nq n54; replace o0_53 := o0_53.extL (Sc.stab _) x54 (Lift.call _ x54 n54); have n57 := Nw.ext hE53 n54; have e56 := hE53.trans x54; refine mv v5_53 rfl s5_53 ?_; obtain ⟨c58, hc58, H⟩ := bsi H; refine wls rfl rfl (stp_append (R := (Sc u8)) (v := v54) (u := v5_53) (Sc.stab _) [] [v5_53] rfl T22 rfl rfl o54 (o0_53.rd (Sc.stab _)) (fun _ _ h => h) hc58 oc_u8 ?_); intro v58 w58 o58 g58 nx58 l58; have q59 : Nq v5_53 v58 := o0_53.nxt q55 nx58; replace o0_53 := o0_53.other (Sc.stab _) g58 q55 l58; have e60 := e56.grown g58 n57; have n61 := Nw.nxt e56 n57 nx58; refine av v58 rfl rfl <| wnt <| W_ret <| ?_; obtain rfl := osi H; refine rt1 v58 rfl rfl rfl s65_53 ?_; exact ⟨v58, rfl, e60, n61, (o58.weak (Sc.stab _) (fun _ _ => trivial))⟩
noncomputable def ref17_Rows (a0mode : Int) (a1t : Int) (a2n : Int) (a3block : List UInt8) (a4random : List UInt8) : Option (List (List UInt8)) :=
(((if a0mode = 1 then
((ref17_Package a3block a4random).bind fun r8 =>
((ref09_Cut r8 a1t).bind fun r10 => some r10))
else some ([] : List (List UInt8)))).bind fun x6 =>
((iterC (fun s13 : List (List UInt8) × Int =>
(if s13.2 ≤ a2n then
(if a0mode = 0 then
((ref08_Share a1t a3block a4random (UInt8.ofInt s13.2)).bind fun r17 =>
((appL s13.1 (([r17] : List (List UInt8)))).bind fun c21 => some (.inl (c21, (wI (s13.2 + 1))))))
else
((ref09_Piece x6 s13.2).bind fun r24 =>
((appL s13.1 (([r24] : List (List UInt8)))).bind fun c28 => some (.inl (c28, (wI (s13.2 + 1)))))))
else some (.inr s13.1))) (([] : List (List UInt8)), 1)).bind fun x13 => some x13))
theorem ref17_Rows_calls (a0mode : Int) (a1t : Int) (a2n : Int) (a3block : List UInt8) (a4random : List UInt8) (p3 : Value) (p4 : Value) (r : List (List UInt8)) (w0 : World) (L0 : List Value) (hL0 : Old w0 L0) (hp3 : By w0 [] p3 a3block) (hp4 : By w0 [] p4 a4random) (H : ref17_Rows a0mode a1t a2n a3block a4random = some r) :
    Calls Try.prog 11 [(i64 a0mode), (i64 a1t), (i64 a2n), p3, p4].toArray w0 (fun e w' => ∃ u0 : Value, e = .returned u0 ∧ Ext w0 w' ∧ Nw w0 u0 ∧ OwK By w' (u0 :: L0) 22 u0 r) := by
  have hE : Ext w0 w0 := Ext.refl w0; unfold ref17_Rows at H; refine calls_W (n := 46) Try.func11 rfl rfl rfl ?_; refine W_seq <| W_rg <| av (.slice none 0 0) rfl rfl <| wnt <| W_seq <| W_rg <| ?_; refine wls rfl rfl (stp_lit (L := (L0)) (R := By) [] ([] : List (List UInt8)) rfl T28 rfl (by exact trivial) rfl (LitR.cells (R := By) (w := w0) (L := (L0)) (l := ([] : List (List UInt8))) LitR.nil (fun u x h => cells_sl u x h)) rfl (LitR.all (R := By) (w := w0) (L := (L0)) (l := ([] : List (List UInt8))) (SlK.stab (Sc.stab _)) LitR.nil) ?_); intro v1 w1 o1 n1 g1 l1; have x1 := grown_ext g1; have n3 := Nw.ext hE n1; have e2 := hE.trans x1; refine av v1 rfl rfl <| wnt <| W_seq <| W_rg <| ?_; refine wls rfl rfl (stp_lit (L := (v1 :: L0)) (R := By) [] ([] : List (List UInt8)) rfl T28 rfl (by exact trivial) rfl (LitR.cells (R := By) (w := w1) (L := (v1 :: L0)) (l := ([] : List (List UInt8))) LitR.nil (fun u x h => cells_sl u x h)) rfl (LitR.all (R := By) (w := w1) (L := (v1 :: L0)) (l := ([] : List (List UInt8))) (SlK.stab (Sc.stab _)) LitR.nil) ?_); intro v4 w4 o4 n4 g4 l4; have x4 := grown_ext g4; have i4 : Rw w4 (v1 :: L0) v4 (([] : List (List UInt8))) := OwK.slk (SlK.stab (Sc.stab _)) _ o4 (fun k hk => (Old.cons (hL0.ext e2) o1.lt) k (n4 k hk)) (fun _ h => h.2); replace o1 := o1.extL (SlK.stab (Sc.stab _)) x4 (Lift.ext x4 _); have e5 := e2.trans x4; refine av v4 rfl rfl <| wnt <| W_seq <| ?_; obtain ⟨x6, H6, H⟩ := bsi H; refine W_mid (fun f w => ∃ v12_34 : Value, f 0 = (i64 a0mode) ∧ f 1 = (i64 a1t) ∧ f 2 = (i64 a2n) ∧ f 3 = p3 ∧ f 4 = p4 ∧ f 11 = v1 ∧ f 12 = v12_34 ∧ f 46 = undef ∧ Ext w0 w ∧ OwK By w (v1 :: L0) 22 v1 (([] : List (List UInt8))) ∧ Nw w0 v1 ∧ Rw w (v1 :: L0) v12_34 x6) ?_ ?_
  · refine W_seq <| W_rg <| mv (i64 a0mode) rfl rfl <| wa rfl (q_eqI rfl rfl rfl) <| wnt <| ?_; refine W_cond _ rfl rfl (fun hb7 => ?_) (fun hb7 => ?_)
    · replace H6 := ifp hb7 H6; refine W_rg <| mv p3 rfl rfl <| mv p4 rfl rfl <| ?_; obtain ⟨r8, hr8, H6⟩ := bsi H6; refine wls rfl rfl (stp_call (vs := [p3, p4]) Try.func23 rfl rfl rfl (ar2 rfl rfl) (ref17_Package_calls a3block a4random p3 p4 r8 _ (hp3.lift (Lift.ext e5 _)) (hp4.lift (Lift.ext e5 _)) hr8) ?_); rintro _ w8 ⟨v8, rfl, x8, n8_0, o8_0⟩; refine ⟨_, rfl, ?_⟩; have i8_0 : By w8 (v1 :: L0) v8 r8 := OwK.slk (Sc.stab _) _ (OwK.scal o8_0 (v8 :: (v1 :: L0))) (fun k hk => (Old.cons (hL0.ext e5) o1.lt) k (n8_0 k hk)) (fun _ h => h.2); replace i4 := i4.lift (Lift.ext x8 _); replace o1 := o1.extL (SlK.stab (Sc.stab _)) x8 (Lift.ext x8 _); have e9 := e5.trans x8; refine mv (i64 a1t) rfl rfl ?_; obtain ⟨r10, hr10, H6⟩ := bsi H6; refine wls rfl rfl (stp_call (vs := [v8, (i64 a1t)]) Try.func22 rfl rfl rfl (ar2 rfl rfl) (ref09_Cut_calls r8 a1t v8 r10 _ (v1 :: L0) (Old.cons (hL0.ext e9) o1.lt) (i8_0.lift (Lift.sub (L' := []) (fun _ _ => trivial))) hr10) ?_); rintro _ w10 ⟨v10, rfl, x10, n10_0, o10_0⟩; refine ⟨_, rfl, ?_⟩; have i10_0 : Rw w10 (v1 :: L0) v10 r10 := OwK.slk (SlK.stab (Sc.stab _)) _ o10_0 (fun k hk => (Old.cons (hL0.ext e9) o1.lt) k (n10_0 k hk)) (fun _ h => h.2); replace i4 := i4.lift (Lift.ext x10 _); replace i8_0 := i8_0.lift (Lift.ext x10 _); replace o1 := o1.extL (SlK.stab (Sc.stab _)) x10 (Lift.ext x10 _); have e11 := e9.trans x10; refine av v10 rfl rfl <| wl_nil <| ?_; obtain rfl := osi H6; exact ⟨v10, rfl, rfl, rfl, rfl, rfl, rfl, rfl, rfl, e11, o1, n3, i10_0⟩
    replace H6 := ifn hb7 H6; refine W_skip ?_; obtain rfl := osi H6; exact ⟨v4, rfl, rfl, rfl, rfl, rfl, rfl, rfl, rfl, e5, o1, n3, i4⟩
  rintro _ w12 ⟨v12_12, s0_12, s1_12, s2_12, s3_12, s4_12, s11_12, s12_12, s46_12, hE12, o0_12, n0_12, i0_12⟩; refine W_th <| W_seq <| W_seq <| W_rg <| av (i64 1) rfl rfl <| wnt <| ?_; obtain ⟨x13, G13, H⟩ := bsi H; refine W_mid (fun f w => ∃ v11_33 : Value, f 11 = v11_33 ∧ f 46 = undef ∧ Ext w0 w ∧ OwK By w (v11_33 :: L0) 22 v11_33 x13 ∧ Nw w0 v11_33) ?_ ?_
  · refine W_block ?_; refine W_loop (fun s13 f w => ∃ v11_31 : Value, f 0 = (i64 a0mode) ∧ f 1 = (i64 a1t) ∧ f 2 = (i64 a2n) ∧ f 3 = p3 ∧ f 4 = p4 ∧ f 11 = v11_31 ∧ f 12 = v12_12 ∧ f 13 = (i64 s13.2) ∧ f 46 = undef ∧ Ext w0 w ∧ OwK By w (v11_31 :: L0) 22 v11_31 s13.1 ∧ Nw w0 v11_31 ∧ Rw w (v11_31 :: L0) v12_12 x6) G13 ?_ ?_
    · exact ⟨v1, s0_12, s1_12, s2_12, s3_12, s4_12, s11_12, s12_12, rfl, s46_12, hE12, o0_12, n0_12, i0_12⟩
    rintro s13 _ _ w14 ⟨v11_14, s0_14, s1_14, s2_14, s3_14, s4_14, s11_14, s12_14, s13_14, s46_14, hE14, o0_14, n0_14, i0_14⟩ H13 hr13; refine W_seq <| W_seq <| W_rg <| mv (i64 s13.2) rfl s13_14 <| mv (i64 a2n) rfl s2_14 <| wa rfl (q_leI rfl rfl rfl) <| wnt <| ?_; refine W_cond _ rfl rfl (fun hb15 => ?_) (fun hb15 => ?_)
    · replace H13 := ifp hb15 H13; refine W_skip <| W_th <| W_seq <| W_block <| W_seq <| W_rg <| mv (i64 a0mode) rfl s0_14 <| wa rfl (q_eqI rfl rfl rfl) <| ?_; refine wnt ?_; refine W_cond _ rfl rfl (fun hb16 => ?_) (fun hb16 => ?_)
      · replace H13 := ifp hb16 H13; refine W_rg <| mv v11_14 rfl s11_14 <| mv (i64 a1t) rfl s1_14 <| mv p3 rfl s3_14 <| mv p4 rfl s4_14 <| mv (i64 s13.2) rfl s13_14 <| wa rfl (q_cvt8I rfl rfl rfl rfl) <| ?_; obtain ⟨r17, hr17, H13⟩ := bsi H13; refine wls rfl rfl (stp_call (vs := [(i64 a1t), p3, p4, (u8 ((UInt8.ofInt s13.2)))]) Try.func24 rfl rfl rfl (ar4 rfl rfl rfl rfl) (ref08_Share_calls a1t a3block a4random (UInt8.ofInt s13.2) p3 p4 r17 _ (hp3.lift (Lift.ext hE14 _)) (hp4.lift (Lift.ext hE14 _)) hr17) ?_); rintro _ w17 ⟨v17, rfl, x17, n17_0, o17_0⟩; refine ⟨_, rfl, ?_⟩; have i17_0 : By w17 (v11_14 :: L0) v17 r17 := OwK.slk (Sc.stab _) _ (OwK.scal o17_0 (v17 :: (v11_14 :: L0))) (fun k hk => (Old.cons (hL0.ext hE14) o0_14.lt) k (n17_0 k hk)) (fun _ h => h.2); replace i0_14 := i0_14.lift (Lift.ext x17 _); replace o0_14 := o0_14.extL (SlK.stab (Sc.stab _)) x17 (Lift.ext x17 _); have e18 := hE14.trans x17; refine wls rfl rfl (stp_lit (L := (v11_14 :: L0)) (R := By) [v17] ([r17] : List (List UInt8)) rfl T28 rfl (by exact ⟨rfl, rfl, trivial⟩) rfl (LitR.cells (R := By) (w := w17) (L := (v11_14 :: L0)) (l := ([r17] : List (List UInt8))) (LitR.cons i17_0 LitR.nil) (fun u x h => cells_sl u x h)) rfl (LitR.all (R := By) (w := w17) (L := (v11_14 :: L0)) (l := ([r17] : List (List UInt8))) (SlK.stab (Sc.stab _)) (LitR.cons i17_0 LitR.nil)) ?_); intro v19 w19 o19 n19 g19 l19; have x19 := grown_ext g19; have i19 : Rw w19 (v11_14 :: L0) v19 (([r17] : List (List UInt8))) := OwK.slk (SlK.stab (Sc.stab _)) _ o19 (fun k hk => (Old.cons (hL0.ext e18) o0_14.lt) k (n19 k hk)) (fun _ h => h.2); replace i0_14 := i0_14.lift (Lift.ext x19 _); replace i17_0 := i17_0.lift (Lift.ext x19 _); replace o0_14 := o0_14.extL (SlK.stab (Sc.stab _)) x19 (Lift.ext x19 _); have e20 := e18.trans x19; obtain ⟨c21, hc21, H13⟩ := bsi H13; refine wls rfl rfl (stp_append (R := By) (v := v11_14) (u := v19) (SlK.stab (Sc.stab _)) [] (L0) rfl T28 rfl rfl o0_14 i19 (fun _ _ h => h) hc21 oc_sl ?_); intro v21 w21 o21 g21 nx21 l21; replace i0_14 := i0_14.lift l21; replace i17_0 := i17_0.lift l21; replace i19 := i19.lift l21; have e22 := e20.grown g21 n0_14; have n23 := Nw.nxt e20 n0_14 nx21; refine av v21 rfl rfl <| wl_nil <| bk_n <| W_th <| W_rg <| mv (i64 s13.2) rfl s13_14 <| wa rfl (q_addI rfl rfl rfl) <| av (i64 ((wI (s13.2 + 1)))) rfl rfl <| ?_; refine wl_nil ?_; obtain rfl := osi H13; exact ⟨_, rfl, v21, s0_14, s1_14, s2_14, s3_14, s4_14, rfl, s12_14, rfl, s46_14, e22, o21, n23, i0_14⟩
      replace H13 := ifn hb16 H13; refine W_rg <| mv v11_14 rfl s11_14 <| mv v12_12 rfl s12_14 <| mv (i64 s13.2) rfl s13_14 <| ?_; obtain ⟨r24, hr24, H13⟩ := bsi H13; refine wls rfl rfl (stp_call (vs := [v12_12, (i64 s13.2)]) Try.func25 rfl rfl rfl (ar2 rfl rfl) (ref09_Piece_calls x6 s13.2 v12_12 r24 _ (i0_14.lift (Lift.sub (L' := []) (fun _ _ => trivial))) hr24) ?_); rintro _ w24 ⟨v24, rfl, x24, n24_0, o24_0⟩; refine ⟨_, rfl, ?_⟩; have i24_0 : By w24 (v11_14 :: L0) v24 r24 := OwK.slk (Sc.stab _) _ (OwK.scal o24_0 (v24 :: (v11_14 :: L0))) (fun k hk => (Old.cons (hL0.ext hE14) o0_14.lt) k (n24_0 k hk)) (fun _ h => h.2); replace i0_14 := i0_14.lift (Lift.ext x24 _); replace o0_14 := o0_14.extL (SlK.stab (Sc.stab _)) x24 (Lift.ext x24 _); have e25 := hE14.trans x24; refine wls rfl rfl (stp_lit (L := (v11_14 :: L0)) (R := By) [v24] ([r24] : List (List UInt8)) rfl T28 rfl (by exact ⟨rfl, rfl, trivial⟩) rfl (LitR.cells (R := By) (w := w24) (L := (v11_14 :: L0)) (l := ([r24] : List (List UInt8))) (LitR.cons i24_0 LitR.nil) (fun u x h => cells_sl u x h)) rfl (LitR.all (R := By) (w := w24) (L := (v11_14 :: L0)) (l := ([r24] : List (List UInt8))) (SlK.stab (Sc.stab _)) (LitR.cons i24_0 LitR.nil)) ?_); intro v26 w26 o26 n26 g26 l26; have x26 := grown_ext g26; have i26 : Rw w26 (v11_14 :: L0) v26 (([r24] : List (List UInt8))) := OwK.slk (SlK.stab (Sc.stab _)) _ o26 (fun k hk => (Old.cons (hL0.ext e25) o0_14.lt) k (n26 k hk)) (fun _ h => h.2); replace i0_14 := i0_14.lift (Lift.ext x26 _); replace i24_0 := i24_0.lift (Lift.ext x26 _); replace o0_14 := o0_14.extL (SlK.stab (Sc.stab _)) x26 (Lift.ext x26 _); have e27 := e25.trans x26; obtain ⟨c28, hc28, H13⟩ := bsi H13; refine wls rfl rfl (stp_append (R := By) (v := v11_14) (u := v26) (SlK.stab (Sc.stab _)) [] (L0) rfl T28 rfl rfl o0_14 i26 (fun _ _ h => h) hc28 oc_sl ?_); intro v28 w28 o28 g28 nx28 l28; replace i0_14 := i0_14.lift l28; replace i24_0 := i24_0.lift l28; replace i26 := i26.lift l28; have e29 := e27.grown g28 n0_14; have n30 := Nw.nxt e27 n0_14 nx28; refine av v28 rfl rfl <| wl_nil <| bk_n <| W_th <| W_rg <| mv (i64 s13.2) rfl s13_14 <| wa rfl (q_addI rfl rfl rfl) <| av (i64 ((wI (s13.2 + 1)))) rfl rfl <| ?_; refine wl_nil ?_; obtain rfl := osi H13; exact ⟨_, rfl, v28, s0_14, s1_14, s2_14, s3_14, s4_14, rfl, s12_14, rfl, s46_14, e29, o28, n30, i0_14⟩
    replace H13 := ifn hb15 H13; refine W_exit <| th_x <| ?_; obtain rfl := osi H13; obtain rfl := hr13 _ rfl; refine th_x <| bk_x <| ?_; exact ⟨v11_14, s11_14, s46_14, hE14, o0_14, n0_14⟩
  rintro _ w32 ⟨v11_32, s11_32, s46_32, hE32, o0_32, n0_32⟩; refine W_th <| W_seq <| W_rg <| mv v11_32 rfl s11_32 <| av v11_32 rfl rfl <| wnt <| W_ret <| ?_; obtain rfl := osi H; refine rt1 v11_32 rfl rfl rfl s46_32 ?_; exact ⟨v11_32, rfl, hE32, n0_32, (o0_32.weak (SlK.stab (Sc.stab _)) (fun _ h => ⟨h.1, h.2⟩))⟩
noncomputable def law17_StripeSpreads (a0mode : Int) (a1t : Int) (a2n : Int) (a3b : List UInt8) (a4random : List UInt8) : Option Bool :=
((law17_lives ).bind fun r1 =>
(if (!r1) = true then
((law17_lives ).bind fun r4 => some r4)
else
(if 500 < (a3b.length : Int) then
((law17_lives ).bind fun r7 => some r7)
else
(if 500 < (a4random.length : Int) then
((law17_lives ).bind fun r10 => some r10)
else
((law17_Of a0mode a1t a2n 0).bind fun r12 =>
((lenA 4 ((List.replicate 4 (0 : Int)))).bind fun c18 =>
((lenA 4 r12).bind fun c19 =>
((lenA 4 r12).bind fun c21 =>
((law17_Random r12 a4random).bind fun r22 =>
((lenA 4 r12).bind fun c26 =>
((field_New ).bind fun r27 =>
((law17_Block a3b).bind fun r29 =>
((stripe_Shape_Spread r12 r27 r29 r22).bind fun r31 =>
(if r31.2 = 0 then
((idx r12 0).bind fun c36 =>
((idx r12 1).bind fun c37 =>
((idx r12 2).bind fun c38 =>
((law17_Block a3b).bind fun r39 =>
((ref17_Rows c36 c37 c38 r39 r22).bind fun r41 =>
((law17_same r31.1 r41).bind fun r43 =>
(if r43 = true then
((idx r31.1 0).bind fun c46 =>
((lenA 4 r12).bind fun c48 =>
((stripe_Shape_RowSize r12).bind fun r49 => some (decide ((c46.length : Int) = r49)))))
else some false)))))))
else some false))))))))))))))
theorem law17_StripeSpreads_calls (a0mode : Int) (a1t : Int) (a2n : Int) (a3b : List UInt8) (a4random : List UInt8) (p3 : Value) (p4 : Value) (r : Bool) (w0 : World) (hp3 : By w0 [] p3 a3b) (hp4 : By w0 [] p4 a4random) (H : law17_StripeSpreads a0mode a1t a2n a3b a4random = some r) :
    Calls Try.prog 3 [(i64 a0mode), (i64 a1t), (i64 a2n), p3, p4].toArray w0 (fun e w' => e = .returned (.bool r) ∧ Ext w0 w') := by
  have hE : Ext w0 w0 := Ext.refl w0; unfold law17_StripeSpreads at H; refine calls_W (n := 69) Try.func3 rfl rfl rfl ?_; refine W_seq <| W_rg <| av (.bool false) rfl rfl <| wnt <| W_seq <| W_seq <| W_rg <| ?_; obtain ⟨r1, hr1, H⟩ := bsi H; refine wls rfl rfl (stp_call (vs := []) Try.func4 rfl rfl rfl (ar0 ) (law17_lives_calls   r1 _  hr1) ?_); rintro _ w1 ⟨rfl, x1⟩; refine ⟨_, rfl, ?_⟩; have e2 := hE.trans x1; refine wa rfl (q_not rfl rfl) ?_; refine wlb rfl rfl (q_move (v := (.bool ((!r1)))) rfl rfl) (fun hb3 => ?_) (fun hb3 => ?_)
  · replace H := (if_pos hb3).symm.trans H; refine wlk rfl rfl <| wlk rfl rfl <| wlk rfl rfl <| wa rfl (q_pick_t (v := (.bool true)) rfl rfl rfl) <| mv (.bool true) rfl rfl <| wlk rfl rfl <| wlk rfl rfl <| wlk rfl rfl <| ?_; refine wa rfl (q_pick_t (v := (.bool true)) rfl rfl rfl) <| wnt <| ?_; refine W_cond true rfl rfl (fun _ => ?_) (fun hb => by cases hb); refine W_seq <| W_rg <| ?_; obtain ⟨r4, hr4, H⟩ := bsi H; refine wls rfl rfl (stp_call (vs := []) Try.func4 rfl rfl rfl (ar0 ) (law17_lives_calls   r4 _  hr4) ?_); rintro _ w4 ⟨rfl, x4⟩; refine ⟨_, rfl, ?_⟩; have e5 := e2.trans x4; refine av (.bool r4) rfl rfl <| wnt <| W_ret <| th_r <| ?_; obtain rfl := osi H; refine rt1 (.bool r4) rfl rfl rfl rfl ?_; exact ⟨rfl, e5⟩
  replace H := (if_neg (ne_true_of_eq_false hb3)).symm.trans H; refine mv p3 rfl rfl <| wa rfl (q_len rfl T22.sl rfl (hp3.lift (Lift.ext e2 _))) <| wa rfl (q_gtI rfl rfl rfl) <| wa rfl (q_pick_f (v := (.bool ((decide (500 < (a3b.length : Int)))))) rfl rfl rfl) <| ?_; refine wlb rfl rfl (q_move (v := (.bool ((decide (500 < (a3b.length : Int)))))) rfl rfl) (fun hb6 => ?_) (fun hb6 => ?_)
  · replace H := ifp hb6 H; refine wlk rfl rfl <| wlk rfl rfl <| wlk rfl rfl <| wa rfl (q_pick_t (v := (.bool true)) rfl rfl rfl) <| wnt <| ?_; refine W_cond true rfl rfl (fun _ => ?_) (fun hb => by cases hb); refine W_seq <| W_rg <| ?_; obtain ⟨r7, hr7, H⟩ := bsi H; refine wls rfl rfl (stp_call (vs := []) Try.func4 rfl rfl rfl (ar0 ) (law17_lives_calls   r7 _  hr7) ?_); rintro _ w7 ⟨rfl, x7⟩; refine ⟨_, rfl, ?_⟩; have e8 := e2.trans x7; refine av (.bool r7) rfl rfl <| wnt <| W_ret <| th_r <| ?_; obtain rfl := osi H; refine rt1 (.bool r7) rfl rfl rfl rfl ?_; exact ⟨rfl, e8⟩
  replace H := ifn hb6 H; refine mv p4 rfl rfl <| wa rfl (q_len rfl T22.sl rfl (hp4.lift (Lift.ext e2 _))) <| wa rfl (q_gtI rfl rfl rfl) <| wa rfl (q_pick_f (v := (.bool ((decide (500 < (a4random.length : Int)))))) rfl rfl rfl) <| wnt <| ?_; refine W_cond _ rfl rfl (fun hb9 => ?_) (fun hb9 => ?_)
  · replace H := ifp hb9 H; refine W_seq <| W_rg <| ?_; obtain ⟨r10, hr10, H⟩ := bsi H; refine wls rfl rfl (stp_call (vs := []) Try.func4 rfl rfl rfl (ar0 ) (law17_lives_calls   r10 _  hr10) ?_); rintro _ w10 ⟨rfl, x10⟩; refine ⟨_, rfl, ?_⟩; have e11 := e2.trans x10; refine av (.bool r10) rfl rfl <| wnt <| W_ret <| th_r <| ?_; obtain rfl := osi H; refine rt1 (.bool r10) rfl rfl rfl rfl ?_; exact ⟨rfl, e11⟩
  replace H := ifn hb9 H; refine W_skip <| W_th <| W_seq <| W_rg <| mv (i64 a0mode) rfl rfl <| mv (i64 a1t) rfl rfl <| mv (i64 a2n) rfl rfl <| ?_; obtain ⟨r12, hr12, H⟩ := bsi H; refine wls rfl rfl (stp_call (vs := [(i64 a0mode), (i64 a1t), (i64 a2n), (i64 0)]) Try.func5 rfl rfl rfl (ar4 rfl rfl rfl rfl) (law17_Of_calls a0mode a1t a2n 0  r12 _  hr12) ?_); rintro _ w12 ⟨rfl, x12⟩; refine ⟨_, rfl, ?_⟩; have e13 := e2.trans x12; refine wls rfl rfl (sal i64 (List.replicate 4 (0 : Int)) [] rfl Z25 ?_); intro g14 w14 o14 n14 g14r l14; have x14 := grown_ext g14r; have n16 := Nw.ext e13 n14; have e15 := e13.trans x14; obtain ⟨c18, hc18, H⟩ := bsi H; obtain ⟨c19, hc19, H⟩ := bsi H; refine wln rfl rfl (stp_storeG [] [] rfl G25 rfl rfl (lenA_eq hc18) (lenA_eq hc19) o14 one_i64 ?_); intro w17 o17 g17 l17; have e20 := e15.grown g17 n16; refine wnt <| W_seq <| W_rg <| ?_; obtain ⟨c21, hc21, H⟩ := bsi H; refine wq rfl (q_loadG (m := 0) rfl G25 rfl o17 (seg_self _ _) (lenA_eq hc21)) <| mv p4 rfl rfl <| ?_; obtain ⟨r22, hr22, H⟩ := bsi H; refine wls rfl rfl (stp_call (vs := [(ag i64 r12), p4]) Try.func6 rfl rfl rfl (ar2 rfl rfl) (law17_Random_calls r12 a4random p4 r22 _ (hp4.lift (Lift.ext e20 _)) hr22) ?_); rintro _ w22 ⟨v22, rfl, x22, n22_0, o22_0⟩; refine ⟨_, rfl, ?_⟩; have i22_0 : By w22 [(bp g14)] v22 r22 := OwK.slk (Sc.stab _) _ (OwK.scal o22_0 (v22 :: [(bp g14)])) (fun k hk => (Old.cons (Old.nil _) o17.ltB) k (n22_0 k hk)) (fun _ h => h.2); replace o17 := o17.ext x22; have e23 := e20.trans x22; refine av v22 rfl rfl <| wnt <| W_seq <| ?_; refine W_draw [0] [(0, 1), (2, 0), (4, 0), (1, 2), (3, 2), (5, 2), (6, 0), (7, 0), (8, 0), (9, 0), (10, 0)] mixed (by kernel_rfl) (by kernel_rfl) (by kernel_rfl) (by kernel_rfl) ?_; have x24 := Ext.drew w22; replace i22_0 := i22_0.lift (Lift.ext x24 _); replace o17 := o17.ext x24; have e25 := e23.trans x24; obtain ⟨c26, hc26, H⟩ := bsi H; refine sq rfl rfl (q_loadG (m := 0) rfl G25 rfl o17 (seg_self _ _) (lenA_eq hc26)) <| sv p3 rfl rfl rfl <| sv v22 rfl rfl rfl <| ?_; obtain ⟨r27, hr27, H⟩ := bsi H; refine wss rfl rfl rfl (stp_call (vs := []) Try.func8 rfl rfl rfl (ar0 ) (field_New_calls   r27 _ [(bp g14)] (Old.cons (Old.nil _) o17.ltB)  hr27) ?_); rintro _ w27 ⟨v27, rfl, x27, i27_0⟩; refine ⟨_, rfl, x27, ?_⟩; replace i22_0 := i22_0.lift (Lift.ext x27 _); replace o17 := o17.ext x27; have e28 := e25.trans x27; obtain ⟨r29, hr29, H⟩ := bsi H
  refine wss rfl rfl rfl (stp_call (vs := [p3]) Try.func9 rfl rfl rfl (ar1 rfl) (law17_Block_calls a3b p3 r29 _ (hp3.lift (Lift.ext e28 _)) hr29) ?_); rintro _ w29 ⟨v29, rfl, x29, n29_0, o29_0⟩; refine ⟨_, rfl, x29, ?_⟩; have i29_0 : By w29 [(bp g14)] v29 r29 := OwK.slk (Sc.stab _) _ (OwK.scal o29_0 (v29 :: [(bp g14)])) (fun k hk => (Old.cons (Old.nil _) o17.ltB) k (n29_0 k hk)) (fun _ h => h.2); replace i22_0 := i22_0.lift (Lift.ext x29 _); replace i27_0 := i27_0.lift (Lift.ext x29 _); replace o17 := o17.ext x29; have e30 := e28.trans x29; obtain ⟨r31, hr31, H⟩ := bsi H; refine wsc rfl (by kernel_rfl) rfl rfl (stp_call (vs := [(ag i64 r12), v27, v29, v22]) Try.func7 rfl rfl rfl (ar4 rfl rfl rfl rfl) (stripe_Shape_Spread_calls r12 r27 r29 r22 v27 v29 v22 r31 _ [(bp g14)] (Old.cons (Old.nil _) o17.ltB) (i27_0.lift (Lift.sub (L' := []) (fun _ _ => trivial))) (i29_0.lift (Lift.sub (L' := []) (fun _ _ => trivial))) (i22_0.lift (Lift.sub (L' := []) (fun _ _ => trivial))) hr31) ?_); rintro _ w31 ⟨v31_0, rfl, x31, n31_0, o31_0⟩; refine ⟨_, rfl, ?_⟩; have i31_0 : Rw w31 [(bp g14)] v31_0 r31.1 := OwK.slk (SlK.stab (Sc.stab _)) _ o31_0 (fun k hk => (Old.cons (Old.nil _) o17.ltB) k (n31_0 k hk)) (fun _ h => h.2); replace i22_0 := i22_0.lift (Lift.ext x31 _); replace i27_0 := i27_0.lift (Lift.ext x31 _); replace i29_0 := i29_0.lift (Lift.ext x31 _); replace o17 := o17.ext x31; have e32 := e30.trans x31; refine sv (.tuple #[v31_0, (i64 r31.2)]) rfl rfl rfl <| sa rfl rfl (q_extract rfl rfl rfl) <| sa rfl rfl (q_extract rfl rfl rfl) <| sa rfl rfl (q_assign (v := v31_0) rfl rfl) <| sa rfl rfl (q_assign (v := (i64 r31.2)) rfl rfl) <| ?_; refine ws_nil ?_; refine W_th <| W_seq <| ?_; refine W_draw [5, 7, 9, 19, 21] [(0, 0), (1, 0), (2, 0), (3, 0), (4, 0), (5, 1), (6, 0), (7, 1), (8, 0), (9, 1), (10, 0), (12, 0), (11, 2), (13, 2), (14, 2), (15, 0), (16, 0), (17, 0), (18, 0), (19, 1), (20, 0), (21, 1), (22, 2), (23, 0), (24, 0), (25, 0)] mixed (by kernel_rfl) (by kernel_rfl) (by kernel_rfl) (by kernel_rfl) ?_; have x33 := Ext.drew w31; replace i22_0 := i22_0.lift (Lift.ext x33 _); replace i27_0 := i27_0.lift (Lift.ext x33 _); replace i29_0 := i29_0.lift (Lift.ext x33 _); replace i31_0 := i31_0.lift (Lift.ext x33 _); replace o17 := o17.ext x33; have e34 := e32.trans x33; refine sv (i64 r31.2) rfl rfl rfl <| sa rfl rfl (q_eqI rfl rfl rfl) <| ?_; refine wsb rfl rfl rfl (q_move (v := (.bool ((decide (r31.2 = 0))))) rfl rfl) (fun hb35 => ?_) (fun hb35 => ?_)
  · replace H := ifp hb35 H; refine sv v31_0 rfl rfl rfl ?_; obtain ⟨c36, hc36, H⟩ := bsi H; refine sa rfl rfl (q_fldS (j := 0) rfl fieldS0 rfl) <| sq rfl rfl (q_loadEG (m := 0) rfl G25 rfl o17 (seg_self _ _) hc36) <| ?_; obtain ⟨c37, hc37, H⟩ := bsi H; refine sa rfl rfl (q_fldS (j := 1) rfl fieldS1 rfl) <| sq rfl rfl (q_loadEG (m := 0) rfl G25 rfl o17 (seg_self _ _) hc37) <| ?_; obtain ⟨c38, hc38, H⟩ := bsi H; refine sa rfl rfl (q_fldS (j := 2) rfl fieldS2 rfl) <| sq rfl rfl (q_loadEG (m := 0) rfl G25 rfl o17 (seg_self _ _) hc38) <| sv p3 rfl rfl rfl <| sv v22 rfl rfl rfl <| ?_; obtain ⟨r39, hr39, H⟩ := bsi H; refine wss rfl rfl rfl (stp_call (vs := [p3]) Try.func9 rfl rfl rfl (ar1 rfl) (law17_Block_calls a3b p3 r39 _ (hp3.lift (Lift.ext e34 _)) hr39) ?_); rintro _ w39 ⟨v39, rfl, x39, n39_0, o39_0⟩; refine ⟨_, rfl, x39, ?_⟩; have i39_0 : By w39 [(bp g14)] v39 r39 := OwK.slk (Sc.stab _) _ (OwK.scal o39_0 (v39 :: [(bp g14)])) (fun k hk => (Old.cons (Old.nil _) o17.ltB) k (n39_0 k hk)) (fun _ h => h.2); replace i22_0 := i22_0.lift (Lift.ext x39 _); replace i27_0 := i27_0.lift (Lift.ext x39 _); replace i29_0 := i29_0.lift (Lift.ext x39 _); replace i31_0 := i31_0.lift (Lift.ext x39 _); replace o17 := o17.ext x39; have e40 := e34.trans x39; obtain ⟨r41, hr41, H⟩ := bsi H; refine wsc rfl (by kernel_rfl) rfl rfl (stp_call (vs := [(i64 c36), (i64 c37), (i64 c38), v39, v22]) Try.func11 rfl rfl rfl (ar5 rfl rfl rfl rfl rfl) (ref17_Rows_calls c36 c37 c38 r39 r22 v39 v22 r41 _ [(bp g14)] (Old.cons (Old.nil _) o17.ltB) (i39_0.lift (Lift.sub (L' := []) (fun _ _ => trivial))) (i22_0.lift (Lift.sub (L' := []) (fun _ _ => trivial))) hr41) ?_); rintro _ w41 ⟨v41, rfl, x41, n41_0, o41_0⟩; refine ⟨_, rfl, ?_⟩; have i41_0 : Rw w41 [(bp g14)] v41 r41 := OwK.slk (SlK.stab (Sc.stab _)) _ o41_0 (fun k hk => (Old.cons (Old.nil _) o17.ltB) k (n41_0 k hk)) (fun _ h => h.2); replace i22_0 := i22_0.lift (Lift.ext x41 _); replace i27_0 := i27_0.lift (Lift.ext x41 _); replace i29_0 := i29_0.lift (Lift.ext x41 _); replace i31_0 := i31_0.lift (Lift.ext x41 _); replace i39_0 := i39_0.lift (Lift.ext x41 _); replace o17 := o17.ext x41; have e42 := e40.trans x41; obtain ⟨r43, hr43, H⟩ := bsi H; refine wsc rfl (by kernel_rfl) rfl rfl (stp_call (vs := [v31_0, v41]) Try.func10 rfl rfl rfl (ar2 rfl rfl) (law17_same_calls r31.1 r41 v31_0 v41 r43 _ (i31_0.lift (Lift.sub (L' := []) (fun _ _ => trivial))) (i41_0.lift (Lift.sub (L' := []) (fun _ _ => trivial))) hr43) ?_); rintro _ w43 ⟨rfl, x43⟩; refine ⟨_, rfl, ?_⟩; replace i22_0 := i22_0.lift (Lift.ext x43 _); replace i27_0 := i27_0.lift (Lift.ext x43 _); replace i29_0 := i29_0.lift (Lift.ext x43 _); replace i31_0 := i31_0.lift (Lift.ext x43 _)
    replace i39_0 := i39_0.lift (Lift.ext x43 _); replace i41_0 := i41_0.lift (Lift.ext x43 _); replace o17 := o17.ext x43; have e44 := e42.trans x43; refine sa rfl rfl (q_pick_t (v := (.bool r43)) rfl rfl rfl) ?_; refine wsb rfl rfl rfl (q_move (v := (.bool r43)) rfl rfl) (fun hb45 => ?_) (fun hb45 => ?_)
    · replace H := (if_pos hb45).symm.trans H; refine sv v31_0 rfl rfl rfl ?_; obtain ⟨c46, hc46, H⟩ := bsi H; refine sa rfl rfl (q_adr rfl T28 rfl rfl i31_0 hc46) ?_; refine wsq_load rfl rfl rfl rfl T28 rfl i31_0 hc46 (Ext.refl _) (fun v47 i47 => ?_); refine sa rfl rfl (q_len rfl T22.sl rfl i47) ?_; obtain ⟨c48, hc48, H⟩ := bsi H; refine sq rfl rfl (q_loadG (m := 0) rfl G25 rfl o17 (seg_self _ _) (lenA_eq hc48)) ?_; obtain ⟨r49, hr49, H⟩ := bsi H; refine wss rfl rfl rfl (stp_call (vs := [(ag i64 r12)]) Try.func12 rfl rfl rfl (ar1 rfl) (stripe_Shape_RowSize_calls r12  r49 _  hr49) ?_); rintro _ w49 ⟨rfl, x49⟩; refine ⟨_, rfl, x49, ?_⟩; replace i22_0 := i22_0.lift (Lift.ext x49 _); replace i27_0 := i27_0.lift (Lift.ext x49 _); replace i29_0 := i29_0.lift (Lift.ext x49 _); replace i31_0 := i31_0.lift (Lift.ext x49 _); replace i39_0 := i39_0.lift (Lift.ext x49 _); replace i41_0 := i41_0.lift (Lift.ext x49 _); replace i47 := i47.lift (Lift.ext x49 _); replace o17 := o17.ext x49; have e50 := e44.trans x49; refine sa rfl rfl (q_eqI rfl rfl rfl) <| sa rfl rfl (q_pick_t (v := (.bool ((decide ((c46.length : Int) = r49))))) rfl rfl rfl) <| sa rfl rfl (q_assign (v := (.bool ((decide ((c46.length : Int) = r49))))) rfl rfl) <| ?_; refine ws_nil ?_; refine W_th <| W_ret <| ?_; obtain rfl := osi H; refine rt1 (.bool ((decide ((c46.length : Int) = r49)))) rfl rfl rfl rfl ?_; exact ⟨rfl, e50⟩
    replace H := (if_neg (ne_true_of_eq_false hb45)).symm.trans H; refine wsk rfl rfl rfl ?_; refine wsk rfl rfl rfl ?_; refine wsk rfl rfl rfl ?_; refine wsk rfl rfl rfl ?_; refine wsk rfl rfl rfl ?_; refine wsk rfl rfl rfl ?_; refine wsk rfl rfl rfl ?_; refine sa rfl rfl (q_pick_f (v := (.bool false)) rfl rfl rfl) <| sa rfl rfl (q_assign (v := (.bool false)) rfl rfl) <| ?_; refine ws_nil ?_; refine W_th <| W_ret <| ?_; obtain rfl := osi H; refine rt1 (.bool false) rfl rfl rfl rfl ?_; exact ⟨rfl, e44⟩
  replace H := ifn hb35 H; refine wsk rfl rfl rfl ?_; refine wsk rfl rfl rfl ?_; refine wsk rfl rfl rfl ?_; refine wsk rfl rfl rfl ?_; refine wsk rfl rfl rfl ?_; refine wsk rfl rfl rfl ?_; refine wsk rfl rfl rfl ?_; refine wsk rfl rfl rfl ?_; refine wsk rfl rfl rfl ?_; refine wsk rfl rfl rfl ?_; refine wsk rfl rfl rfl ?_; refine wsk rfl rfl rfl ?_; refine sa rfl rfl (q_pick_f (v := (.bool false)) rfl rfl rfl) <| sv (.bool false) rfl rfl rfl <| ?_; refine wsk rfl rfl rfl ?_; refine wsk rfl rfl rfl ?_; refine wsk rfl rfl rfl ?_; refine wsk rfl rfl rfl ?_; refine wsk rfl rfl rfl ?_; refine wsk rfl rfl rfl ?_; refine wsk rfl rfl rfl ?_; refine sa rfl rfl (q_pick_f (v := (.bool false)) rfl rfl rfl) <| sa rfl rfl (q_assign (v := (.bool false)) rfl rfl) <| ?_; refine ws_nil ?_; refine W_th <| W_ret <| ?_; obtain rfl := osi H; refine rt1 (.bool false) rfl rfl rfl rfl ?_; exact ⟨rfl, e34⟩
end Gk

/- Chapter 17: how a block is spread, in plain Lean. No condition. -/
namespace Gk
open Gf
theorem runsN {n : Nat} {body : List UInt8 × Int → Option ((List UInt8 × Int) ⊕ List UInt8)} (hs : ∀ (s : List UInt8) (i : Nat), i < n → s.length = n → ∃ s' : List UInt8, s'.length = n ∧ body (s, (i : Int)) = some (.inl (s', ((i + 1 : Nat) : Int))))
    (he : ∀ s : List UInt8, s.length = n → body (s, (n : Int)) = some (.inr s)) (z : List UInt8) (hz : z.length = n) : ∃ r, iterC body (z, 0) = some r ∧ r.length = n := by
  have key : ∀ k, k ≤ n → ∀ s : List UInt8, s.length = n → ∃ r, iterC body (s, ((n - k : Nat) : Int)) = some r ∧ r.length = n := by
    intro k
    induction k with
    | zero =>
      intro _ s hl
      refine ⟨s, ?_, hl⟩
      rw [iterC_step, Nat.sub_zero, he s hl]; rfl
    | succ k ih =>
      intro hk s hl
      obtain ⟨s', hl', h⟩ := hs s (n - (k + 1)) (by omega) hl
      obtain ⟨r, h1, h2⟩ := ih (by omega) s' hl'
      refine ⟨r, ?_, h2⟩
      rw [iterC_step, h, show n - (k + 1) + 1 = n - k by omega]; exact h1
  have := key n (Nat.le_refl n) z hz
  rw [Nat.sub_self] at this
  exact this
theorem Block_ok (b : List UInt8) (h : b.length ≤ 500) : ∃ L, law17_Block b = some L ∧ L.length = 440 := by
  have hm : (1000 : Nat) ≤ most := by decide
  unfold law17_Block
  rw [show makeL 440 (0 : UInt8) = some (List.replicate 440 0) from makeL_nat 440 _ (by omega), obs, List.length_replicate]
  obtain ⟨r, h1, h2⟩ := runsN (n := 440) (body := fun s4 : List UInt8 × Int =>
      (if s4.2 < ((440 : Nat) : Int) then
      (if 0 < (b.length : Int) then
      ((remI s4.2 ((b.length : Int))).bind fun c10 =>
      ((idx b c10).bind fun c11 =>
      ((divI s4.2 ((b.length : Int))).bind fun c12 =>
      ((idx s4.1 s4.2).bind fun c13 =>
      some (.inl ((s4.1.set (s4.2 : Int).toNat ((c11 + (UInt8.ofInt c12)))), (wI (s4.2 + 1))))))))
      else
      some (.inl (s4.1, (wI (s4.2 + 1)))))
      else
      some (.inr s4.1))) (fun s i hi hl => by
    dsimp only
    rw [if_pos (by omega)]
    by_cases h0 : 0 < b.length
    · have hlt : i % b.length < b.length := Nat.mod_lt _ h0
      rw [if_pos (by omega), remI_nat _ _ h0, obs, idx_co hlt, obs, divI_nat _ _ h0 (by omega), obs, idx_co (by omega), obs, wI_succ _ (by omega), Int.toNat_natCast]
      exact ⟨_, by rw [List.length_set]; exact hl, rfl⟩
    · rw [if_neg (by omega), wI_succ _ (by omega)]
      exact ⟨_, hl, rfl⟩) (fun s hl => by
    dsimp only
    rw [if_neg (by omega)]) (List.replicate 440 0) List.length_replicate
  exact ⟨r, by rw [h1, obs], h2⟩
def shp (m t n c : Nat) : List Int := [(m : Int), (t : Int), (n : Int), (c : Int)]
structure OkS (m t n c : Nat) : Prop where
  m2 : m = 0 ∨ m = 1
  t1 : 1 ≤ t
  tn : t ≤ n
  n255 : n ≤ 255
  c127 : c ≤ 127
section
variable {m t n c : Nat}
theorem Right_ok (h : OkS m t n c) : stripe_Shape_Right (shp m t n c) = some true := by
  obtain ⟨h1, h2, h3, h4, h5⟩ := h
  unfold stripe_Shape_Right shp
  rw [show idx [(m : Int), (t : Int), (n : Int), (c : Int)] 0 = some (m : Int) by rfl, show idx [(m : Int), (t : Int), (n : Int), (c : Int)] 1 = some (t : Int) by rfl, show idx [(m : Int), (t : Int), (n : Int), (c : Int)] 2 = some (n : Int) by rfl, show idx [(m : Int), (t : Int), (n : Int), (c : Int)] 3 = some (c : Int) by rfl]
  simp only [obs]
  rw [if_pos (by omega), if_pos (by omega), if_pos (by omega), if_pos (by omega), if_pos (by omega), if_pos (by omega), decide_eq_true (by omega)]
theorem lenS : lenA 4 (shp m t n c) = some () := rfl
theorem ixS0 : idx (shp m t n c) 0 = some (m : Int) := rfl
theorem ixS1 : idx (shp m t n c) 1 = some (t : Int) := rfl
theorem ixS2 : idx (shp m t n c) 2 = some (n : Int) := rfl
def rowSz (m t : Nat) : Nat := if m = 0 then 440 else psz 473 t
def needS (m t : Nat) : Nat := if m = 0 then (t - 1) * 440 else 32
theorem RowSize_ok (h : OkS m t n c) : stripe_Shape_RowSize (shp m t n c) = some (rowSz m t : Int) := by
  have hm : (1000 : Nat) ≤ most := by decide
  unfold stripe_Shape_RowSize rowSz
  rw [lenS, obs, Right_ok h, obs, if_neg (by simp), ixS0, obs, ixS1, obs]
  rcases h.m2 with rfl | rfl
  · rw [if_pos (by rfl), if_pos (by rfl)]; rfl
  · rw [if_neg (by omega), if_neg (by omega), show code_PartSize 473 (t : Int) = some (psz 473 t : Int) from PartSize_eq 473 t h.t1 (by have := h.tn; have := h.n255; omega) (by omega), obs]
theorem Need_ok (h : OkS m t n c) : stripe_Shape_Need (shp m t n c) = some (needS m t : Int) := by
  have hm : (1000 : Nat) ≤ most := by decide
  unfold stripe_Shape_Need needS
  have := h.t1; have := h.tn; have := h.n255
  rw [lenS, obs, Right_ok h, obs, if_neg (by simp), ixS0, obs, ixS1, obs]
  rcases h.m2 with rfl | rfl
  · obtain ⟨q, rfl⟩ : ∃ q, t = q + 1 := ⟨t - 1, by omega⟩
    rw [if_pos (by rfl), if_pos (by rfl), show shamir_MaskSize ((q + 1 : Nat) : Int) 440 = some ((q * 440 : Nat) : Int) from MaskSize_eq q 440 (by omega) (by omega), obs, Nat.add_sub_cancel]
  · rw [if_neg (by omega), if_neg (by omega)]; rfl
theorem placesS (h : OkS m t n c) : stripe_Shape_places (shp m t n c) = some (plc n) := by
  have hm : (1000 : Nat) ≤ most := by decide
  have := h.n255
  unfold stripe_Shape_places
  rw [ixS2, obs]
  refine bind_of (x := plc n) (iterC_count (fun i => (plc i, (i : Int))) n _ rfl ?_ ?_) rfl
  · intro i hi
    dsimp only
    rw [if_pos (by omega), wI_succ _ (by omega), ofInt_nat', appL_ok _ _ (by rw [plc_len, List.length_singleton]; omega) rfl, obs]
    rw [show plc (i + 1) = plc i ++ [UInt8.ofNat (i + 1)] by unfold plc; rw [List.range_succ, List.map_append]; rfl]
  · dsimp only
    rw [if_neg (by omega)]
theorem checkS (h : OkS m t n c) (r : List UInt8) (hr : r.length = needS m t) : stripe_Shape_check (shp m t n c) true r = some 0 := by
  unfold stripe_Shape_check
  rw [if_neg (by simp), lenS, obs, Right_ok h, obs, if_neg (by simp), obs, Need_ok h, obs, if_pos (by omega)]
theorem zero_plc (n : Nat) (h : n ≤ 255) : (0 : UInt8) ∉ plc n := by
  intro hm
  unfold plc at hm
  obtain ⟨i, hi, e⟩ := List.mem_map.1 hm
  have hi' := List.mem_range.1 hi
  have := congrArg UInt8.toNat e
  simp at this
  omega
def pkg (b r : List UInt8) : List UInt8 := 1 :: wrapF r b
def rowsS (m t n : Nat) (b r : List UInt8) : List (List UInt8) :=
  if m = 0 then (plc n).map (shr b r (t - 1)) else (List.range n).map fun i => pc (cutR (pkg b r) t (psz 473 t)) (i + 1)
theorem cutR_rows (b : List UInt8) (t N : Nat) : (cutR b t N).any (fun r => !decide (r.length = ((cutR b t N).getD 0 []).length)) = false := by
  rw [List.any_eq_false]
  intro r hr
  unfold cutR at hr ⊢
  obtain ⟨i, hi, rfl⟩ := List.mem_map.1 hr
  have h0 : 0 < t := by have := List.mem_range.1 hi; omega
  rw [getD_tab _ _ _ h0]
  simp
theorem cutR_0 (b : List UInt8) (t N : Nat) (h : 0 < t) : ((cutR b t N).getD 0 []).length = N := by
  unfold cutR; rw [getD_tab _ _ _ h]; simp
theorem pkg_len (b r : List UInt8) (hb : b.length = 440) (hr : r.length = 32) : (pkg b r).length = 473 := by
  rw [pkg, List.length_cons, wrapF_len _ _ hr, hb]
theorem psz_le (t : Nat) (h : 1 ≤ t) : psz 473 t ≤ 1000 := by
  unfold psz
  have := Nat.div_le_self 473 t
  split <;> omega
theorem Spread_ok (h : OkS m t n c) (b r : List UInt8) (hb : b.length = 440) (hr : r.length = needS m t) : stripe_Shape_Spread (shp m t n c) true b r = some (rowsS m t n b r, 0) := by
  have hmo : (1000000 : Nat) ≤ most := by decide
  have := h.t1; have := h.tn; have hn := h.n255
  unfold stripe_Shape_Spread
  rw [lenS, obs, checkS h r hr, obs, if_pos rfl, if_pos (by omega), ixS0, obs, ixS1, obs, obs, ixS2]
  unfold rowsS
  rcases h.m2 with rfl | rfl
  · rw [if_pos (by rfl), if_pos (by rfl), placesS h, obs]
    obtain ⟨q, rfl⟩ : ∃ q, t = q + 1 := ⟨t - 1, by omega⟩
    have hq : r.length = q * b.length := by rw [hr, hb]; simp [needS]
    have hq2 : q * 440 ≤ 200000 := by omega
    rw [Split_ok q b r (plc n) (by omega) hq (by omega) (by rw [hq, hb]; omega) (zero_plc n hn) (by rw [plc_len]; omega), obs, Nat.add_sub_cancel]
  · have hr32 : r.length = 32 := by rw [hr]; rfl
    have hp := pkg_len b r hb hr32
    have hc := cutR_len (pkg b r) t (psz 473 t)
    rw [if_neg (by omega), if_neg (by omega), Wrap_eq r b hr32 (by omega), obs]
    dsimp only
    rw [if_pos rfl, obs, Concat2 _ _ (by rw [wrapF_len _ _ hr32]; simp; omega), obs, show [(1 : UInt8)] ++ wrapF r b = pkg b r by rfl, Cut_ok _ t h.t1 (by omega) (by omega), obs]
    dsimp only
    rw [if_pos rfl, obs, hp, Encode_ok _ n (by rw [hc]; omega) (by rw [hc]; omega) hn (cutR_rows _ _ _) (by rw [cutR_0 _ _ _ (by omega)]; have := psz_le t h.t1; omega), obs]
theorem rPackage_ok (b r : List UInt8) (hb : b.length = 440) (hr : r.length = 32) : ref17_Package b r = some (pkg b r) := by
  have hmo : (1000000 : Nat) ≤ most := by decide
  have hl := mixF_len r z8 b
  have hs := sha_len (mixF r z8 b)
  have hw := wrapF_len r b hr
  obtain ⟨c, hN, G, hK⟩ := New_mix r 8 (.inr rfl) hr
  have hE : ∀ i : Nat, i < 440 → ((divI (i : Int) 16).bind fun c30 => ((makeL 8 (0 : UInt8)).bind fun c31 => ((ref01_Put (UInt64.ofInt c30) 8).bind fun r37 => ((appL c31 r37).bind fun c39 => ((ref05_Encrypt r c39).bind fun r44 => some r44))))) = some (blk5 ((keysF r).headD []) (keysF r).tail z8 (i / 16)) := fun i hi => by
    rw [show (16 : Int) = ((16 : Nat) : Int) by rfl, divI_nat _ _ (by omega) (by omega), obs, show makeL 8 (0 : UInt8) = some z8 from makeL_nat 8 _ (by omega), obs, rPut_eq, obs, ofInt64q _ (by omega)]
    unfold appL
    rw [if_pos (by rw [b8_len]; simp [z8]; omega), obs, aontblk r 8 (.inr rfl) hr z8 rfl, obs]
  unfold ref17_Package
  refine bind_of (x := mixF r z8 b) (iterC_count (fun i => ((mixF r z8 b).take i, (if i = 0 then [] else blk5 ((keysF r).headD []) (keysF r).tail z8 ((i - 1) / 16)), (i : Int))) b.length _ rfl ?_ ?_) ?_
  · intro i hi
    dsimp only
    rw [if_pos (by omega), idx_co hi, obs]
    refine bind_of (x := blk5 ((keysF r).headD []) (keysF r).tail z8 (i / 16)) ?_ ?_
    · rw [show (16 : Int) = ((16 : Nat) : Int) by rfl, remI_nat _ _ (by omega), obs]
      by_cases h16 : i % 16 = 0
      · rw [if_pos (by omega)]; exact hE i (by omega)
      · rw [if_neg (by omega), if_neg (by omega), show (i - 1) / 16 = i / 16 by omega]
    · have hbl := blk5_len G z8 rfl (i / 16)
      have hm16 : i % 16 < 16 := Nat.mod_lt _ (by omega)
      rw [show (16 : Int) = ((16 : Nat) : Int) by rfl, remI_nat _ _ (by omega), obs, idx_co (by omega), obs, show co (blk5 ((keysF r).headD []) (keysF r).tail z8 (i / 16)) (i % 16) = strm ((keysF r).headD []) (keysF r).tail z8 i by rfl, xor_comm, ← co_mixF _ _ _ _ hi, appL_ok _ _ (by simp only [List.length_take, List.length_singleton]; omega) rfl, obs, ← take_snoc (by omega), wI_succ _ (by omega), if_neg (by omega), Nat.add_sub_cancel]
  · dsimp only
    rw [if_neg (by omega), List.take_of_length_le (by omega)]
  rw [ref_Sum_eq _ (by omega), obs]
  have hx : (xr r (sha (mixF r z8 b))).length = 32 := by rw [xr_len, sha_len, hr]; rfl
  refine bind_of (x := wrapF r b) (iterC_count (fun i => (mixF r z8 b ++ (xr r (sha (mixF r z8 b))).take i, (i : Int))) 32 _ (by rw [List.take_zero, List.append_nil]; rfl) ?_ ?_) ?_
  · intro i hi
    dsimp only
    rw [if_pos (by omega), idx_co (by omega), obs, idx_co (by omega), obs, ← co_xr _ _ _ (by omega) (by omega), appL_ok _ _ (by simp only [List.length_append, List.length_take, List.length_singleton]; omega) rfl, obs, List.append_assoc, ← take_snoc (by omega), wI_succ _ (by omega)]
  · dsimp only
    rw [if_neg (by omega), List.take_of_length_le (by omega)]; rfl
  unfold appL
  rw [if_pos (by rw [hw]; simp; omega), obs]; rfl
theorem rRows_ok (h : OkS m t n c) (b r : List UInt8) (hb : b.length = 440) (hr : r.length = needS m t) : ref17_Rows (m : Int) (t : Int) (n : Int) b r = some (rowsS m t n b r) := by
  have hmo : (1000000 : Nat) ≤ most := by decide
  have := h.t1; have := h.tn; have hn := h.n255
  unfold ref17_Rows
  have key : ∀ (parts : List (List UInt8)) (F : Nat → List UInt8), (∀ i, i < n → (if (m : Int) = 0 then (ref08_Share (t : Int) b r (UInt8.ofInt ((i + 1 : Nat) : Int))) else ref09_Piece parts ((i + 1 : Nat) : Int)) = some (F i)) → ((iterC (fun s13 : List (List UInt8) × Int =>
      (if s13.2 ≤ (n : Int) then
      (if (m : Int) = 0 then
      ((ref08_Share (t : Int) b r (UInt8.ofInt s13.2)).bind fun r17 =>
      ((appL s13.1 (([r17] : List (List UInt8)))).bind fun c21 =>
      some (.inl (c21, (wI (s13.2 + 1))))))
      else
      ((ref09_Piece parts s13.2).bind fun r24 =>
      ((appL s13.1 (([r24] : List (List UInt8)))).bind fun c28 =>
      some (.inl (c28, (wI (s13.2 + 1)))))))
      else
      some (.inr s13.1))) (([] : List (List UInt8)), 1)).bind fun x13 => some x13) = some ((List.range n).map F) := fun parts F hF => by
    refine bind_of (x := (List.range n).map F) (iterC_count (fun i => ((List.range i).map F, ((i + 1 : Nat) : Int))) n _ rfl ?_ ?_) rfl
    · intro i hi
      have := hF i hi
      dsimp only
      rw [if_pos (by omega)]
      by_cases h0 : (m : Int) = 0
      · rw [if_pos h0] at this ⊢
        rw [this, obs, appL_ok _ _ (by simp; omega) rfl, obs, wI_succ _ (by omega), List.range_succ, List.map_append]; rfl
      · rw [if_neg h0] at this ⊢
        rw [this, obs, appL_ok _ _ (by simp; omega) rfl, obs, wI_succ _ (by omega), List.range_succ, List.map_append]; rfl
    · dsimp only
      rw [if_neg (by omega)]
  unfold rowsS
  rcases h.m2 with rfl | rfl
  · rw [if_neg (by omega), obs, if_pos rfl]
    obtain ⟨q, rfl⟩ : ∃ q, t = q + 1 := ⟨t - 1, by omega⟩
    have hq : r.length = q * b.length := by rw [hr, hb]; simp [needS]
    have := key [] (fun i => shr b r q (UInt8.ofNat (i + 1))) (fun i hi => by
      rw [if_pos (by rfl), ofInt_nat']; exact ref08_Share_eq q b r _ (by omega) hq (by omega))
    rw [this, Nat.add_sub_cancel, plc, List.map_map]; rfl
  · have hr32 : r.length = 32 := by rw [hr]; rfl
    have hp := pkg_len b r hb hr32
    have hc := cutR_len (pkg b r) t (psz 473 t)
    rw [if_pos (show ((1 : Nat) : Int) = 1 by rfl), rPackage_ok b r hb hr32, obs, refCut_eq _ t h.t1 (by omega) (by omega), obs, obs, if_neg (by omega), hp]
    exact key _ _ (fun i hi => by
      rw [if_neg (by omega)]
      exact refPiece_eq _ (i + 1) (by rw [hc]; omega) (by rw [hc]; omega) (cutR_rows _ _ _) (by rw [cutR_0 _ _ _ (by omega)]; have := psz_le t h.t1; omega))
theorem rowsS_len (m t n : Nat) (b r : List UInt8) : (rowsS m t n b r).length = n := by
  unfold rowsS; split
  · rw [List.length_map, plc_len]
  · simp
theorem getD_map0 (f : UInt8 → List UInt8) (l : List UInt8) (h : 0 < l.length) : (l.map f).getD 0 [] = f (co l 0) := by
  cases l with
  | nil => simp at h
  | cons a l => rfl
theorem rowsS_0 (h : OkS m t n c) (b r : List UInt8) (hb : b.length = 440) : ((rowsS m t n b r).getD 0 []).length = rowSz m t := by
  have := h.t1; have := h.tn
  unfold rowsS rowSz
  rcases h.m2 with rfl | rfl
  · rw [if_pos rfl, if_pos rfl, getD_map0 _ _ (by rw [plc_len]; omega), shr_len, hb]
  · rw [if_neg (by omega), if_neg (by omega), getD_tab _ _ _ (by omega)]
    unfold pc
    simp only [atv, List.length_map, List.length_range]
    exact cutR_0 _ _ _ (by omega)
end
theorem same_refl (l : List (List UInt8)) (h : l.length ≤ 1000) : law17_same l l = some true := by
  unfold law17_same
  rw [if_pos rfl]
  refine bind_of (x := .inl ()) (iterC_count (fun i => (i : Int)) l.length _ rfl ?_ ?_) rfl
  · intro i hi
    rw [if_pos (by omega), idx_getD hi]
    simp only [obs]
    rw [if_pos trivial, wI_succ _ (by omega)]
  · rw [if_neg (by omega)]
theorem evp_one (a x : UInt8) : evp [a] x = a := by
  show a ^^^ mul 0 x = a
  rw [zero_mul, xor_zero]
theorem shr_one (b : List UInt8) (x : UInt8) : shr b [] 0 x = b := by
  refine ext_co (shr_len _ _ _ _) fun i hi => ?_
  rw [shr_len] at hi
  rw [co_shr _ _ _ _ _ hi]
  exact evp_one _ _
theorem lives17 : law17_lives = some true := by
  obtain ⟨L, hB, hL⟩ := Block_ok [1, 2] (by simp)
  have hok : OkS 0 1 2 0 := ⟨.inl rfl, by omega, by omega, by omega, by omega⟩
  have hS := Spread_ok hok L [] hL rfl
  have e : shp 0 1 2 0 = ([0, 1, 2, 0] : List Int) := rfl
  rw [e] at hS
  unfold law17_lives
  rw [show lenA 4 (List.replicate 4 (0 : Int)) = some () by rfl, obs, show lenA 4 ([0, 1, 2, 0] : List Int) = some () by rfl, obs]
  refine bind_of (x := (rowsS 0 1 2 L [], 0)) (by rw [obs, show field_New = some true by rfl, obs, hB, obs, hS, obs]) ?_
  have hr : rowsS 0 1 2 L [] = [L, L] := by
    unfold rowsS
    rw [if_pos rfl]
    show [shr L [] 0 _, shr L [] 0 _] = _
    rw [shr_one, shr_one]
  dsimp only
  rw [hr, if_pos rfl, if_pos (by rfl), show idx ([L, L] : List (List UInt8)) 1 = some L by rfl, obs, hB, obs, decide_eq_true rfl]
theorem Random_ok {m t n c : Nat} (h : OkS m t n c) (hn : n ≤ 7) (b : List UInt8) (hb : b.length ≤ 500) : ∃ L, law17_Random (shp m t n c) b = some L ∧ L.length = needS m t := by
  have hm : (1000000 : Nat) ≤ most := by decide
  have hle : needS m t ≤ 10000 := by
    have := h.tn
    unfold needS; split <;> omega
  unfold law17_Random
  rw [lenS, obs, Need_ok h, obs, makeL_nat _ _ (by omega), obs, List.length_replicate]
  obtain ⟨r, h1, h2⟩ := runsN (n := needS m t) (body := fun s11 : List UInt8 × Int =>
      (if s11.2 < (needS m t : Int) then
      (if 0 < (b.length : Int) then
      ((remI s11.2 ((b.length : Int))).bind fun c17 =>
      ((idx b c17).bind fun c18 =>
      ((divI ((wI (s11.2 * 31))) ((b.length : Int))).bind fun c19 =>
      ((idx s11.1 s11.2).bind fun c20 =>
      some (.inl ((s11.1.set (s11.2 : Int).toNat ((c18 ^^^ (UInt8.ofInt c19)))), (wI (s11.2 + 1))))))))
      else
      some (.inl (s11.1, (wI (s11.2 + 1)))))
      else
      some (.inr s11.1))) (fun s i hi hl => by
    dsimp only
    rw [if_pos (by omega)]
    by_cases h0 : 0 < b.length
    · have hlt : i % b.length < b.length := Nat.mod_lt _ h0
      rw [if_pos (by omega), remI_nat _ _ h0, obs, idx_co hlt, obs, show wI ((i : Int) * 31) = ((i * 31 : Nat) : Int) by rw [wI_of (by omega) (by omega)]; omega, divI_nat _ _ h0 (by omega), obs, idx_co (by omega), obs, wI_succ _ (by omega), Int.toNat_natCast]
      exact ⟨_, by rw [List.length_set]; exact hl, rfl⟩
    · rw [if_neg (by omega), wI_succ _ (by omega)]
      exact ⟨_, hl, rfl⟩) (fun s hl => by
    dsimp only
    rw [if_neg (by omega)]) (List.replicate (needS m t) 0) List.length_replicate
  exact ⟨r, by rw [h1, obs], h2⟩
theorem Of_ok (mode t n c : Int) : ∃ m' t' n' c', law17_Of mode t n c = some (shp m' t' n' c') ∧ OkS m' t' n' c' ∧ n' ≤ 7 := by
  obtain ⟨m', h1, h2⟩ := mod_natq mode 2 (by decide) (by decide)
  obtain ⟨n1, h3, h4⟩ := mod_natq n 7 (by decide) (by decide)
  obtain ⟨c', h5, h6⟩ := mod_natq c 4 (by decide) (by decide)
  have h1' : m' < 2 := h1
  have h3' : n1 < 7 := h3
  have h5' : c' < 4 := h5
  unfold law17_Of
  rw [h2, h4, h6]
  have e1 : wI (1 + (n1 : Int)) = ((n1 + 1 : Nat) : Int) := by rw [wI_of (by omega) (by omega)]; omega
  rw [e1]
  have hmt : (UInt64.ofInt ((n1 + 1 : Nat) : Int)).toNat = n1 + 1 := by rw [ofInt64q _ (by omega)]; simp; omega
  rw [show lenA 4 (List.replicate 4 (0 : Int)) = some () by rfl, obs, show lenA 4 ([(m' : Int), 0, ((n1 + 1 : Nat) : Int), (c' : Int)] : List Int) = some () by rfl, obs, show idx ([(m' : Int), 0, ((n1 + 1 : Nat) : Int), (c' : Int)] : List Int) 2 = some ((n1 + 1 : Nat) : Int) by rfl, obs, nz_of (by rw [hmt]; omega), obs, show idx ([(m' : Int), 0, ((n1 + 1 : Nat) : Int), (c' : Int)] : List Int) 1 = some 0 by rfl, obs]
  obtain ⟨t1, h7, h8⟩ := mod_natq t (UInt64.ofInt ((n1 + 1 : Nat) : Int)) (by rw [hmt]; omega) (by rw [hmt]; omega)
  rw [hmt] at h7
  rw [h8]
  have e2 : wI (1 + (t1 : Int)) = ((t1 + 1 : Nat) : Int) := by rw [wI_of (by omega) (by omega)]; omega
  rw [e2]
  have e3 : ([(m' : Int), 0, ((n1 + 1 : Nat) : Int), (c' : Int)] : List Int).set (1 : Int).toNat ((t1 + 1 : Nat) : Int) = shp m' (t1 + 1) (n1 + 1) c' := rfl
  rw [e3, lenS, obs, obs, obs]
  exact ⟨m', t1 + 1, n1 + 1, c', rfl, ⟨by omega, by omega, by omega, by omega, by omega⟩, by omega⟩
theorem law17_StripeSpreads_true (mode t n : Int) (b random : List UInt8) (lm : -9223372036854775808 ≤ mode) (hm : mode ≤ 9223372036854775807) (lt : -9223372036854775808 ≤ t) (ht : t ≤ 9223372036854775807) (ln : -9223372036854775808 ≤ n) (hn : n ≤ 9223372036854775807) : law17_StripeSpreads mode t n b random = some true := by
  unfold law17_StripeSpreads
  rw [lives17, obs, if_neg (by simp)]
  by_cases h1 : 500 < (b.length : Int)
  · rw [if_pos h1]; rfl
  rw [if_neg h1]
  by_cases h2 : 500 < (random.length : Int)
  · rw [if_pos h2]; rfl
  rw [if_neg h2]
  obtain ⟨m', t', n', c', hOf, hok, hn7⟩ := Of_ok mode t n 0
  obtain ⟨B, hB, hBl⟩ := Block_ok b (by omega)
  obtain ⟨r, hR, hRl⟩ := Random_ok hok hn7 random (by omega)
  have hlen := rowsS_len m' t' n' B r
  have h0 := rowsS_0 hok B r hBl
  have := hok.t1; have := hok.tn
  rw [hOf, obs, show lenA 4 (List.replicate 4 (0 : Int)) = some () by rfl, obs, lenS, obs, obs, hR, obs, obs, show field_New = some true by rfl, obs, hB, obs, Spread_ok hok B r hBl hRl, obs]
  dsimp only
  rw [if_pos rfl, ixS0, obs, ixS1, obs, ixS2, obs, obs, rRows_ok hok B r hBl hRl, obs, same_refl _ (by omega), obs, if_pos rfl, show idx (rowsS m' t' n' B r) 0 = some ((rowsS m' t' n' B r).getD 0 []) from idx_getD (k := 0) (by omega), obs, obs, RowSize_ok hok, obs, h0, decide_eq_true rfl]
end Gk

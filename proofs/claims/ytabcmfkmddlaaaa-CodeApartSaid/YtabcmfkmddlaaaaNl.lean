/- Chapter 9: unlike parts are far apart; the law CodeApart. No condition. -/
import Derived.Test.YtabcmfkmddlaaaaL9e
import Derived.Test.YtabcmfkmddlaaaaNi
set_option linter.unusedSimpArgs false
set_option linter.unusedVariables false
namespace Gk
open Gf
theorem pc_poly (parts : List (List UInt8)) (x k : Nat) (hk : k < (parts.getD 0 []).length) : co (pc parts x) k = evp (apol (plc parts.length) parts k) (UInt8.ofNat x) := by
  unfold pc; rw [co_atv _ _ _ _ _ hk]
theorem pc_len (parts : List (List UInt8)) (x : Nat) : (pc parts x).length = (parts.getD 0 []).length := by unfold pc; rw [atv_len]
/-- Polynomials that agree at t of the places have the same numbers at the first ones. -/
theorem apart_core (parts O : List (List UInt8)) (t d n k : Nat) (hp : parts.length = t) (hO : O.length = t) (h1 : t ≤ n) (hn : n ≤ 255) (hrp : ∀ i, i < t → (parts.getD i []).length = d) (hrO : ∀ i, i < t → (O.getD i []).length = d) (h0 : 0 < t) (hk : k < d)
    (hs : t ≤ ((List.range n).filter fun i => decide (co (pc parts (i + 1)) k = co (pc O (i + 1)) k)).length) : ∀ i, i < t → co (parts.getD i []) k = co (O.getD i []) k := by
  have hd1 := hrp 0 h0
  have hd2 := hrO 0 h0
  have hplc : (plc n).Nodup := plc_nodup n hn
  have hS : (((List.range n).filter fun i => decide (co (pc parts (i + 1)) k = co (pc O (i + 1)) k)).map fun i => UInt8.ofNat (i + 1)).Nodup := by
    have : (((List.range n).filter fun i => decide (co (pc parts (i + 1)) k = co (pc O (i + 1)) k)).map fun i => UInt8.ofNat (i + 1)).Sublist (plc n) := by
      unfold plc; exact List.Sublist.map _ List.filter_sublist
    exact hplc.sublist this
  have hlen := hs
  generalize hF : ((List.range n).filter fun i => decide (co (pc parts (i + 1)) k = co (pc O (i + 1)) k)) = F at hS hlen
  have hsim : Sim (apol (plc t) parts k) (apol (plc t) O k) := by
    refine agree hS (Nat.le_trans (dg_apol _ _ _) (by rw [plc_len, List.length_map]; exact hlen)) (Nat.le_trans (dg_apol _ _ _) (by rw [plc_len, List.length_map]; exact hlen)) fun a ha => ?_
    obtain ⟨i, hi, rfl⟩ := List.mem_map.1 ha
    rw [← hF, List.mem_filter] at hi
    have := of_decide_eq_true hi.2
    rw [pc_poly parts _ _ (by omega), pc_poly O _ _ (by omega), hp, hO] at this
    exact this
  intro i hi
  have a1 := atv_at (plc t) parts d i (plc_nodup _ (by omega)) (by rw [plc_len]; exact hi) (hrp i hi)
  have a2 := atv_at (plc t) O d i (plc_nodup _ (by omega)) (by rw [plc_len]; exact hi) (hrO i hi)
  rw [← a1, ← a2, co_atv _ _ _ _ _ hk, co_atv _ _ _ _ _ hk]
  exact ev_sim _ _ _ hsim
theorem apart_same (parts O : List (List UInt8)) (t d k : Nat) (hp : parts.length = t) (hO : O.length = t) (hd1 : (parts.getD 0 []).length = d) (hd2 : (O.getD 0 []).length = d) (hk : k < d) (he : ∀ i, i < t → co (parts.getD i []) k = co (O.getD i []) k) (x : Nat) : co (pc parts x) k = co (pc O x) k := by
  unfold pc atv
  rw [co_tab, co_tab, hd1, hd2, if_pos hk, if_pos hk, hp, hO, plc_len]
  exact sm_congr _ fun i hi => by rw [he i hi]
theorem more_t (t : Nat) (more : Int) (ht : t ≤ 8) : ∃ n : Nat, t ≤ n ∧ n ≤ 12 ∧ wI ((t : Int) + wI (((UInt64.ofInt more % (5 : UInt64)).toNat : Nat) : Int)) = (n : Int) := by
  have h : (UInt64.ofInt more % (5 : UInt64)).toNat < 5 := by
    rw [UInt64.toNat_mod]; exact Nat.mod_lt _ (by decide)
  refine ⟨t + (UInt64.ofInt more % (5 : UInt64)).toNat, by omega, by omega, ?_⟩
  generalize (UInt64.ofInt more % (5 : UInt64)).toNat = j at h ⊢
  rw [wI_nat (by omega), wI_of (by omega) (by omega)]; omega
theorem law09_CodeApart_true (parts : List (List UInt8)) (wh by_ : List UInt8) (more : Int) (lo : -9223372036854775808 ≤ more) (hi : more ≤ 9223372036854775807) : law09_CodeApart parts wh by_ more = some true := by
  have h2 := h257
  have hmo := most_lt'
  obtain ⟨fb, hf1, hf2⟩ := few_eq parts
  unfold law09_CodeApart
  rw [lives9, Option.bind_some, if_neg (by decide), hf1, Option.bind_some]
  by_cases hfb : fb = true
  case neg => rw [if_pos (by simp [hfb])]; rfl
  subst hfb
  obtain ⟨ht, h20⟩ := hf2 rfl
  rw [if_neg (by decide)]
  by_cases hp0 : (parts.length : Int) = 0
  · rw [if_pos hp0]; rfl
  rw [if_neg hp0]
  by_cases hp8 : 8 < (parts.length : Int)
  · rw [if_pos hp8]; rfl
  rw [if_neg hp8, lunlike_eq parts (by omega), Option.bind_some]
  cases hU : (parts.any fun r => !decide (r.length = (parts.getD 0 []).length)) with
  | true => rw [if_pos rfl]; rfl
  | false =>
  rw [if_neg (by decide)]
  by_cases h40 : 40 < (wh.length : Int)
  · rw [if_pos h40]; rfl
  have i0 : idx parts 0 = some (parts.getD 0 []) := idx_0 (by omega)
  rw [if_neg h40, i0, Option.bind_some]
  obtain ⟨n, n1, n2, n3⟩ := more_t parts.length more (by omega)
  rw [n3]
  generalize ht' : parts.length = t at *
  generalize hd' : (parts.getD 0 []).length = d at *
  have hd20 : d ≤ 20 := by
    have := h20 _ (getD_mem (l := parts) (k := 0) (by omega)); omega
  have hrec : ∀ i, i < t → (parts.getD i []).length = d := fun i hi => by
    rw [List.any_eq_false] at hU
    simpa using hU _ (getD_mem (l := parts) (k := i) (by omega))
  -- the copy
  refine bind_of (iterC_count (fun i => (parts.take i, (i : Int))) t parts rfl ?_ ?_) ?_
  · intro i hi
    simp only
    rw [if_pos (by omega), idx_getD (by omega), Option.bind_some, appL_nil _ (by rw [hrec i hi]; omega), Option.bind_some, appL_ok _ _ (by simp; omega) rfl, Option.bind_some, wI_succ i (by omega), rows_snoc (by omega)]
  · simp only
    rw [if_neg (by omega), ← ht', List.take_length]
  -- what is turned in it
  obtain ⟨O, hO1, hO2, hO3⟩ := iterC_up (s0 := parts) (fun i (s : List (List UInt8)) => s.length = t ∧ ∀ j, j < t → (s.getD j []).length = d) wh.length (fun x : List (List UInt8) => x.length = t ∧ ∀ j, j < t → (x.getD j []).length = d)
    (body := fun s53 : List (List UInt8) × Int => (if s53.2 < (wh.length : Int) then ((idx wh s53.2).bind fun c56 => (if s53.2 < (by_.length : Int) then (if 0 < (d : Int) then ((remI ((c56.toNat : Int)) ((t : Int))).bind fun c61 => ((idx s53.1 c61).bind fun c62 => ((divI ((c56.toNat : Int)) ((t : Int))).bind fun c64 => ((remI c64 ((d : Int))).bind fun c65 => ((idx c62 c65).bind fun c66 => ((idx by_ s53.2).bind fun c67 => some (.inl ((s53.1.set (c61 : Int).toNat (c62.set (c65 : Int).toNat ((c66 ^^^ c67)))), (wI (s53.2 + 1)))))))))) else some (.inl (s53.1, (wI (s53.2 + 1))))) else some (.inl (s53.1, (wI (s53.2 + 1)))))) else some (.inr s53.1)))
    ⟨ht', hrec⟩
    (fun i s hi hI => by
      obtain ⟨hl, hs⟩ := hI
      simp only
      rw [if_pos (by omega), idx_co hi, Option.bind_some, wI_succ i (by omega)]
      by_cases hb : (i : Int) < (by_.length : Int)
      · rw [if_pos hb]
        by_cases hd0 : 0 < (d : Int)
        · have hm1 : (co wh i).toNat % t < t := Nat.mod_lt _ (by omega)
          have hm2 : (co wh i).toNat / t % d < d := Nat.mod_lt _ (by omega)
          have hw := (co wh i).toNat_lt
          have hdl := Nat.div_le_self (co wh i).toNat t
          have hrow := hs _ hm1
          rw [if_pos hd0, remI_nat _ _ (by omega), Option.bind_some, idx_getD (by omega), Option.bind_some, divI_nat _ _ (by omega) (by omega), Option.bind_some, remI_nat _ _ (by omega), Option.bind_some, idx_co (by omega), Option.bind_some, idx_co (by omega), Option.bind_some]
          refine ⟨_, rfl, by simpa using hl, fun j hj => ?_⟩
          rw [Int.toNat_natCast, getD_set (by omega)]
          split
          · rw [List.length_set]; exact hrow
          · exact hs j hj
        · rw [if_neg hd0]; exact ⟨s, rfl, hl, hs⟩
      · rw [if_neg hb]; exact ⟨s, rfl, hl, hs⟩)
    (fun s hI => ⟨s, by simp, hI⟩)
  rw [hO1, Option.bind_some, field_New, Option.bind_some]
  have hOd := hO3 0 (by omega)
  have hOU : (O.any fun r => !decide (r.length = (O.getD 0 []).length)) = false := by
    rw [List.any_eq_false]
    intro r hr
    obtain ⟨i, hi, rfl⟩ := mem_getD hr
    rw [hO3 i (by omega), hOd]; simp
  rw [Encode_ok parts n (by omega) (by omega) (by omega) (by rw [hd']; exact hU) (by omega), Option.bind_some, Encode_ok O n (by omega) (by omega) (by omega) hOU (by omega), Option.bind_some, if_pos rfl, if_pos rfl]
  -- byte by byte
  refine bind_of (x := .inl ()) (iterC_count (fun i => (i : Int)) d _ rfl ?_ (by rw [if_neg (by omega)])) rfl
  intro k hk
  rw [if_pos (by omega)]
  have hl1 : iterC (fun s83 : Bool × Int => (if s83.2 < (t : Int) then (if s83.1 = true then some (.inl (true, (wI (s83.2 + 1)))) else ((idx parts s83.2).bind fun c89 => ((idx c89 (k : Int)).bind fun c91 => ((idx O s83.2).bind fun c92 => ((idx c92 (k : Int)).bind fun c94 => some (.inl ((!decide (c91 = c94)), (wI (s83.2 + 1))))))))) else some (.inr s83.1))) (false, 0) = some ((List.range t).any fun i => !decide (co (parts.getD i []) k = co (O.getD i []) k)) := by
    refine iterC_count (fun i => ((List.range i).any fun i => !decide (co (parts.getD i []) k = co (O.getD i []) k), (i : Int))) t _ (by simp) ?_ (by simp)
    intro i hi
    simp only
    rw [if_pos (by omega), wI_succ i (by omega), List.range_succ, List.any_append]
    cases hb : ((List.range i).any fun i => !decide (co (parts.getD i []) k = co (O.getD i []) k)) with
    | true => rw [if_pos rfl, Bool.true_or]
    | false => rw [if_neg (by decide), idx_getD (by omega), Option.bind_some, idx_co (by rw [hrec i hi]; exact hk), Option.bind_some, idx_getD (by omega), Option.bind_some, idx_co (by rw [hO3 i hi]; exact hk), Option.bind_some, Bool.false_or]; simp
  have ia : ∀ (Q : List (List UInt8)) (i : Nat), i < n → idx ((List.range n).map fun i => pc Q (i + 1)) (i : Int) = some (pc Q (i + 1)) := fun Q i hi => by rw [idx_nat]; simp [hi]
  have hl2 : iterC (fun s97 : Int × Int => (if s97.2 < (((List.range n).map fun i => pc parts (i + 1)).length : Int) then ((idx ((List.range n).map fun i => pc parts (i + 1)) s97.2).bind fun c102 => ((idx c102 (k : Int)).bind fun c104 => ((idx ((List.range n).map fun i => pc O (i + 1)) s97.2).bind fun c105 => ((idx c105 (k : Int)).bind fun c107 => (if c104 = c107 then some (.inl ((wI (s97.1 + 1)), (wI (s97.2 + 1)))) else some (.inl (s97.1, (wI (s97.2 + 1))))))))) else some (.inr s97.1))) (0, 0) = some ((((List.range n).filter fun i => decide (co (pc parts (i + 1)) k = co (pc O (i + 1)) k)).length : Nat) : Int) := by
    refine iterC_count (fun i => ((((List.range i).filter fun i => decide (co (pc parts (i + 1)) k = co (pc O (i + 1)) k)).length : Int), (i : Int))) n _ (by simp) ?_ (by simp)
    intro i hi
    have hfl : ((List.range i).filter fun i => decide (co (pc parts (i + 1)) k = co (pc O (i + 1)) k)).length ≤ i := by
      have := List.length_filter_le (fun i => decide (co (pc parts (i + 1)) k = co (pc O (i + 1)) k)) (List.range i)
      rwa [List.length_range] at this
    simp only
    rw [if_pos (by simp; omega), ia _ _ hi, Option.bind_some, idx_co (by rw [pc_len]; omega), Option.bind_some, ia _ _ hi, Option.bind_some, idx_co (by rw [pc_len]; omega), Option.bind_some, wI_succ i (by omega), List.range_succ, List.filter_append]
    by_cases he : co (pc parts (i + 1)) k = co (pc O (i + 1)) k
    · rw [if_pos he, wI_succ _ (by omega)]
      simp [he]
    · rw [if_neg he]
      simp [he]
  rw [hl1, Option.bind_some, hl2, Option.bind_some]
  cases hb : ((List.range t).any fun i => !decide (co (parts.getD i []) k = co (O.getD i []) k)) with
  | true =>
    rw [if_pos rfl, if_neg ?_, if_neg (by decide), wI_succ k (by omega)]
    intro hle
    have hall := apart_core parts O t d n k ht' hO2 n1 (by omega) hrec hO3 (by omega) hk (by omega)
    obtain ⟨i, hi, hne⟩ := List.any_eq_true.1 hb
    rw [List.mem_range] at hi
    rw [hall i hi] at hne
    simp at hne
  | false =>
    have hall : ∀ i, i < t → co (parts.getD i []) k = co (O.getD i []) k := fun i hi => by
      have := List.any_eq_false.1 hb i (List.mem_range.2 hi)
      simpa using this
    have hcount : ((List.range n).filter fun i => decide (co (pc parts (i + 1)) k = co (pc O (i + 1)) k)).length = n := by
      rw [List.filter_eq_self.2 (fun i _ => decide_eq_true (apart_same parts O t d k ht' hO2 hd' hOd hk hall (i + 1))), List.length_range]
    rw [if_neg (by decide), if_pos (by rfl), if_pos (by rw [hcount]), wI_succ k (by omega)]
end Gk

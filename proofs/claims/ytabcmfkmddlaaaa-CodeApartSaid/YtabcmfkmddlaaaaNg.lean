/- Chapter 9 in plain Lean: pieces of parts. No condition but lengths. -/
import Derived.Test.YtabcmfkmddlaaaaL9a
import Derived.Test.YtabcmfkmddlaaaaNa
set_option linter.unusedSimpArgs false
set_option linter.unusedVariables false
namespace Gk
open Gf

def plc (n : Nat) : List UInt8 := (List.range n).map fun i => UInt8.ofNat (i + 1)
theorem plc_len (n : Nat) : (plc n).length = n := by simp [plc]
theorem co_plc (n i : Nat) (h : i < n) : co (plc n) i = UInt8.ofNat (i + 1) := by unfold plc; rw [co_tab, if_pos h]
theorem plc_nodup (n : Nat) (h : n ≤ 255) : (plc n).Nodup := by
  refine List.pairwise_iff_getElem.2 fun i j hi hj hij e => ?_
  rw [plc_len] at hi hj
  simp only [plc, List.getElem_map, List.getElem_range] at e
  have := congrArg UInt8.toNat e
  rw [UInt8.toNat_ofNat', UInt8.toNat_ofNat'] at this
  omega
theorem ofInt_nat' (n : Nat) : UInt8.ofInt (n : Int) = UInt8.ofNat n := by
  apply UInt8.toNat_inj.1
  simp [UInt8.ofInt]
  omega
theorem places_eq (n : Nat) (h : n ≤ 255) : code_places (n : Int) = some (plc n) := by
  unfold code_places
  have h2 := h257
  rw [makeL_nat _ _ (by omega), Option.bind_some]
  obtain ⟨x, e1, e2⟩ := iterC_up (s0 := List.replicate n (0 : UInt8)) (fun i s => s.length = n ∧ ∀ j, j < i → co s j = UInt8.ofNat (j + 1)) n (fun x : List UInt8 => x = plc n)
    (body := fun s4 : List UInt8 × Int => (if s4.2 < ((List.replicate n (0 : UInt8)).length : Int) then ((idx s4.1 s4.2).bind fun c7 => some (.inl ((s4.1.set (s4.2 : Int).toNat ((UInt8.ofInt ((wI (s4.2 + 1)))))), (wI (s4.2 + 1))))) else some (.inr s4.1)))
    ⟨by simp, fun j hj => absurd hj (Nat.not_lt_zero _)⟩
    (fun i s hi hI => by
      obtain ⟨hl, hs⟩ := hI
      refine ⟨s.set i (UInt8.ofNat (i + 1)), ?_, by simpa using hl, fun j hj => ?_⟩
      · simp only
        rw [if_pos (by rw [List.length_replicate]; omega), idx_co (by omega), Option.bind_some, wI_succ i (by omega), ofInt_nat', Int.toNat_natCast]
      · rw [co_set (by omega)]
        by_cases hji : j = i
        · rw [if_pos hji, hji]
        · rw [if_neg hji]; exact hs j (by omega))
    (fun s hI => ⟨s, by simp, eq_of_co (by rw [hI.1, plc_len]) (fun j => by
      by_cases hj : j < n
      · rw [hI.2 j hj, co_plc n j hj]
      · rw [co_ge (by omega), co_ge (by rw [plc_len]; omega)])⟩)
  rw [e1, Option.bind_some, e2]
theorem refPlaces_eq (n : Nat) (h : n ≤ 255) : ref09_Places (n : Int) = some (plc n) := by
  unfold ref09_Places
  have h2 := h257
  refine bind_of ?_ rfl
  refine iterC_count (fun i => ((List.range i).map (fun i => UInt8.ofNat (i + 1)), ((i + 1 : Nat) : Int))) n _ rfl ?_ ?_
  · intro i hi
    simp only
    unfold appL
    rw [if_pos (by omega), if_pos (by simp; omega), Option.bind_some, ofInt_nat', wI_succ (i + 1) (by omega), List.range_succ, List.map_append]
    rfl
  · simp only
    rw [if_neg (by omega)]
    rfl
theorem member_eq (t : Int) : code_member t = some (decide (1 ≤ t ∧ t ≤ 255)) := threshold_eq t
theorem cunlike_eq (l : List (List UInt8)) (h : l.length ≤ most) : code_unlike l = some (l.any fun r => !decide (r.length = (l.getD 0 []).length)) :=
  unlike_eq l h _ (fun r hr => by
    have : l.getD 0 [] = r := by simp [List.getD_eq_getElem?_getD, hr]
    rw [this])
/-- At a place of its own each row is told. -/
theorem atv_at (xs : List UInt8) (shares : List (List UInt8)) (d j : Nat) (hn : xs.Nodup) (hj : j < xs.length) (hd : (shares.getD j []).length = d) : atv xs shares d (co xs j) = shares.getD j [] := by
  refine eq_of_co (by unfold atv; rw [List.length_map, List.length_range, hd]) fun i => ?_
  unfold atv
  rw [co_tab]
  by_cases hi : i < d
  · rw [if_pos hi, sm_one _ j _ (fun k hk hne => by
      unfold wt
      rw [pe_zero xs k j (Ne.symm hne) _ hj, zero_mul, zero_mul]), if_pos hj]
    unfold wt
    rw [mul_inv (pe_ne hn hj _ (Nat.le_refl _)), one_mul]
  · rw [if_neg hi, co_ge (by omega)]
/-- The piece at x. -/
def pc (parts : List (List UInt8)) (x : Nat) : List UInt8 := atv (plc parts.length) parts (parts.getD 0 []).length (UInt8.ofNat x)
theorem Piece_ok (parts : List (List UInt8)) (x : Nat) (h0 : parts.length ≠ 0) (h1 : parts.length ≤ 255) (hx0 : 1 ≤ x) (hx1 : x ≤ 255) (hU : (parts.any fun r => !decide (r.length = (parts.getD 0 []).length)) = false) (hd : (parts.getD 0 []).length ≤ most) :
    code_Piece true parts (x : Int) = some (pc parts x, 0) := by
  unfold code_Piece
  have hr : ∀ r ∈ parts, r.length = (parts.getD 0 []).length := by
    rw [List.any_eq_false] at hU
    intro r hr; simpa using hU r hr
  have h2 := h257
  have pl := plc_len parts.length
  rw [if_neg (by simp), member_eq, Option.bind_some, if_neg (by simp; omega), member_eq, Option.bind_some, if_neg (by simp; omega), cunlike_eq parts (by omega), hU, Option.bind_some, if_neg (by decide)]
  by_cases hle : x ≤ parts.length
  · have hlt : x - 1 < parts.length := by omega
    rw [if_pos (by omega), wI_pred x hx0 (by omega), idx_getD hlt, Option.bind_some]
    unfold slices_Clone_sbytebyte
    rw [appL_nil _ (by rw [hr _ (getD_mem hlt)]; exact hd), Option.bind_some]
    have := atv_at (plc parts.length) parts (parts.getD 0 []).length (x - 1) (plc_nodup _ h1) (by omega) (hr _ (getD_mem hlt))
    rw [co_plc _ _ hlt, show x - 1 + 1 = x by omega] at this
    unfold pc
    rw [this]
  · rw [if_neg (by omega), places_eq _ h1, Option.bind_some, ofInt_nat', At_ok _ parts _ _ pl (by omega) (by omega) (plc_nodup _ h1) hr hd]
    rfl
theorem Piece_range (parts : List (List UInt8)) (x : Int) (h : ¬ (1 ≤ (parts.length : Int) ∧ (parts.length : Int) ≤ 255) ∨ ¬ (1 ≤ x ∧ x ≤ 255)) : code_Piece true parts x = some ([], 2) := by
  unfold code_Piece
  rw [if_neg (by simp), member_eq, Option.bind_some]
  by_cases h1 : 1 ≤ (parts.length : Int) ∧ (parts.length : Int) ≤ 255
  · rw [if_neg (by simp only [decide_eq_true h1]; decide), member_eq, Option.bind_some, if_pos (by simp only [decide_eq_false (h.resolve_left (fun h' => h' h1))]; rfl)]
  · rw [if_pos (by simp only [decide_eq_false h1]; rfl)]
theorem Piece_form (parts : List (List UInt8)) (x : Int) (h1 : 1 ≤ (parts.length : Int) ∧ (parts.length : Int) ≤ 255) (h2 : 1 ≤ x ∧ x ≤ 255) (hU : code_unlike parts = some true) : code_Piece true parts x = some ([], 3) := by
  unfold code_Piece
  rw [if_neg (by simp), member_eq, Option.bind_some, if_neg (by simp only [decide_eq_true h1]; decide), member_eq, Option.bind_some, if_neg (by simp only [decide_eq_true h2]; decide), hU, Option.bind_some, if_pos rfl]
theorem Piece_nil (parts : List (List UInt8)) (x : Int) : code_Piece false parts x = some ([], 1) := by
  unfold code_Piece; rw [if_pos (by simp)]
theorem refPiece_eq (parts : List (List UInt8)) (x : Nat) (h0 : parts.length ≠ 0) (h1 : parts.length ≤ 255) (hU : (parts.any fun r => !decide (r.length = (parts.getD 0 []).length)) = false) (hd : (parts.getD 0 []).length ≤ most) :
    ref09_Piece parts (x : Int) = some (pc parts x) := by
  unfold ref09_Piece
  have hr : ∀ r ∈ parts, r.length = (parts.getD 0 []).length := by
    rw [List.any_eq_false] at hU
    intro r hr; simpa using hU r hr
  have pl := plc_len parts.length
  rw [refPlaces_eq _ h1, Option.bind_some, ofInt_nat', ref08_At_eq _ parts _ _ pl (by omega) (by omega) hr hd]
  rfl
theorem Encode_ok (parts : List (List UInt8)) (n : Nat) (h0 : parts.length ≠ 0) (hn : parts.length ≤ n) (h1 : n ≤ 255) (hU : (parts.any fun r => !decide (r.length = (parts.getD 0 []).length)) = false) (hd : (parts.getD 0 []).length ≤ most) :
    code_Encode true (n : Int) parts = some ((List.range n).map fun i => pc parts (i + 1), 0) := by
  unfold code_Encode
  have h2 := h257
  rw [if_neg (by simp), if_neg (by omega), if_neg (by omega), if_neg (by omega), cunlike_eq parts (by omega), hU, Option.bind_some, if_neg (by decide)]
  have : iterC (fun s8 : List (List UInt8) × Int => (if s8.2 < (n : Int) then ((code_Piece true parts (wI (s8.2 + 1))).bind fun r11 => (if r11.2 = 0 then ((appL s8.1 (([r11.1] : List (List UInt8)))).bind fun c16 => some (.inl (c16, (wI (s8.2 + 1))))) else some (.inr (Sum.inr (α := List (List UInt8)) (([] : List (List UInt8)), r11.2))))) else some (.inr (.inl s8.1)))) (([] : List (List UInt8)), 0) = some (.inl ((List.range n).map fun i => pc parts (i + 1))) := by
    refine iterC_count (fun i => ((List.range i).map fun i => pc parts (i + 1), (i : Int))) n _ rfl ?_ ?_
    · intro i hi
      simp only
      rw [if_pos (by omega), wI_succ i (by omega), Piece_ok parts (i + 1) h0 (by omega) (by omega) (by omega) hU hd, Option.bind_some, if_pos rfl]
      unfold appL
      rw [if_pos (by simp; omega), Option.bind_some, List.range_succ, List.map_append]
      rfl
    · simp
  rw [this, Option.bind_some, Sum.elim_inl]
theorem Encode_range (parts : List (List UInt8)) (n : Int) (h : parts.length = 0 ∨ n < (parts.length : Int) ∨ 255 < n) : code_Encode true n parts = some ([], 2) := by
  unfold code_Encode
  rw [if_neg (by simp)]
  by_cases h0 : parts.length = 0
  · rw [if_pos (by omega)]
  · rw [if_neg (by omega)]
    by_cases h1 : n < (parts.length : Int)
    · rw [if_pos h1]
    · rw [if_neg h1, if_pos (by omega)]
theorem Encode_form (parts : List (List UInt8)) (n : Int) (h0 : parts.length ≠ 0) (h1 : ¬ n < (parts.length : Int)) (h2 : ¬ 255 < n) (hU : code_unlike parts = some true) : code_Encode true n parts = some ([], 3) := by
  unfold code_Encode
  rw [if_neg (by simp), if_neg (by omega), if_neg h1, if_neg h2, hU, Option.bind_some, if_pos rfl]
theorem Encode_nil (parts : List (List UInt8)) (n : Int) : code_Encode false n parts = some ([], 1) := by
  unfold code_Encode; rw [if_pos (by simp)]
theorem lives9 : law09_lives = some true := by
  unfold law09_lives
  simp only [field_New, Option.bind_some]
  have e := Encode_ok [[1], [2]] 3 (by decide) (by decide) (by decide) (by decide) (by decide)
  rw [show ((3 : Nat) : Int) = 3 from rfl] at e
  rw [e, Option.bind_some]
  have e2 : (List.range 3).map (fun i => pc [[1], [2]] (i + 1)) = [[1], [2], [3]] := by decide +kernel
  rw [e2]
  decide +kernel
theorem few_eq (l : List (List UInt8)) : ∃ b, law09_few l = some b ∧ (b = true → l.length ≤ 12 ∧ ∀ r ∈ l, r.length ≤ 20) := by
  unfold law09_few
  by_cases h : 12 < (l.length : Int)
  · exact ⟨false, by rw [if_pos h], fun e => by cases e⟩
  rw [if_neg h]
  obtain ⟨x, e1, e2, e3⟩ := iterC_find (X := Unit ⊕ Bool) (body := fun s2 : Int => (if s2 < (l.length : Int) then ((idx l s2).bind fun c5 => (if 20 < (c5.length : Int) then some (.inr (Sum.inr (α := Unit) false)) else some (.inl (wI (s2 + 1))))) else some (.inr (.inl ())))) l.length (fun i => 20 < (l.getD i []).length) (.inr false) (.inl ())
    (fun i hi hb => by rw [if_pos (by omega), idx_getD hi, Option.bind_some, if_neg (by omega), wI_succ i (by omega)])
    (fun i hi hb => by rw [if_pos (by omega), idx_getD hi, Option.bind_some, if_pos (by omega)])
    (by rw [if_neg (by omega)])
  rw [e1, Option.bind_some]
  by_cases hall : ∀ i, i < l.length → ¬ 20 < (l.getD i []).length
  · rw [e3 hall]
    refine ⟨true, rfl, fun _ => ⟨by omega, fun r hr => ?_⟩⟩
    obtain ⟨i, hi⟩ := List.getElem?_of_mem hr
    have hil := (List.getElem?_eq_some_iff.1 hi).1
    have := hall i hil
    rw [show l.getD i [] = r by simp [List.getD_eq_getElem?_getD, hi]] at this
    omega
  · have hex : ∃ i, i < l.length ∧ 20 < (l.getD i []).length := Classical.byContradiction fun hc => hall fun i hi hb => hc ⟨i, hi, hb⟩
    rw [e2 hex]
    exact ⟨false, rfl, fun e => by cases e⟩
theorem lunlike_eq (l : List (List UInt8)) (h : l.length ≤ most) : law09_unlike l = some (l.any fun r => !decide (r.length = (l.getD 0 []).length)) := by
  unfold law09_unlike
  have hm := most_lt'
  obtain ⟨x, e1, e2, e3⟩ := iterC_find (X := Unit ⊕ Bool) (body := fun s1 : Int => (if s1 < (l.length : Int) then ((idx l s1).bind fun c4 => ((idx l 0).bind fun c6 => (if (c4.length : Int) = (c6.length : Int) then some (.inl (wI (s1 + 1))) else some (.inr (Sum.inr (α := Unit) true))))) else some (.inr (.inl ())))) l.length (fun i => (l.getD i []).length ≠ (l.getD 0 []).length) (.inr true) (.inl ())
    (fun i hi hb => by
      have i0 : idx l 0 = some (l.getD 0 []) := by
        have := idx_getD (l := l) (k := 0) (by omega)
        rwa [show ((0 : Nat) : Int) = 0 from rfl] at this
      rw [if_pos (by omega), idx_getD hi, Option.bind_some, i0, Option.bind_some, if_pos (by have := Classical.not_not.1 hb; omega), wI_succ i (by omega)])
    (fun i hi hb => by
      have i0 : idx l 0 = some (l.getD 0 []) := by
        have := idx_getD (l := l) (k := 0) (by omega)
        rwa [show ((0 : Nat) : Int) = 0 from rfl] at this
      rw [if_pos (by omega), idx_getD hi, Option.bind_some, i0, Option.bind_some, if_neg (by omega)])
    (by rw [if_neg (by omega)])
  rw [e1, Option.bind_some]
  by_cases hall : ∀ i, i < l.length → ¬ (l.getD i []).length ≠ (l.getD 0 []).length
  · rw [e3 hall]
    have : (l.any fun r => !decide (r.length = (l.getD 0 []).length)) = false := by
      rw [List.any_eq_false]
      intro r hr
      obtain ⟨i, hi⟩ := List.getElem?_of_mem hr
      have h2 := Classical.not_not.1 (hall i (List.getElem?_eq_some_iff.1 hi).1)
      rw [show l.getD i [] = r by simp [List.getD_eq_getElem?_getD, hi]] at h2
      simp [h2]
    rw [this]; rfl
  · have hex : ∃ i, i < l.length ∧ (l.getD i []).length ≠ (l.getD 0 []).length := Classical.byContradiction fun hc => hall fun i hi hb => hc ⟨i, hi, hb⟩
    rw [e2 hex]
    obtain ⟨i, hi, hne⟩ := hex
    have : (l.any fun r => !decide (r.length = (l.getD 0 []).length)) = true := by
      rw [List.any_eq_true]
      exact ⟨_, getD_mem hi, by simp only [decide_eq_false hne]; rfl⟩
    rw [this]; rfl
end Gk

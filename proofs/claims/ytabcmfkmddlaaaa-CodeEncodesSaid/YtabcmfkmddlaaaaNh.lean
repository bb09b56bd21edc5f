/- Chapter 9: the law CodeEncodes. No condition. -/
import Derived.Test.YtabcmfkmddlaaaaL9b
import Derived.Test.YtabcmfkmddlaaaaNg
set_option linter.unusedSimpArgs false
set_option linter.unusedVariables false
namespace Gk
open Gf
theorem law09_CodeEncodes_true (n : Int) (parts : List (List UInt8)) (x : Int) (lo : -9223372036854775808 ≤ n) (hi : n ≤ 9223372036854775807) (lo' : -9223372036854775808 ≤ x) (hi' : x ≤ 9223372036854775807) : law09_CodeEncodes n parts x = some true := by
  have h2 := h257
  have hmo := most_lt'
  obtain ⟨fb, hf1, hf2⟩ := few_eq parts
  by_cases hfb : fb = true
  case neg =>
    unfold law09_CodeEncodes
    rw [lives9, Option.bind_some, if_neg (by decide), hf1, Option.bind_some, if_pos (by simp [hfb])]; rfl
  subst hfb
  obtain ⟨ht, h20⟩ := hf2 rfl
  have hU1 := lunlike_eq parts (by omega)
  have hU2 := cunlike_eq parts (by omega)
  have hok : parts.length ≠ 0 → (parts.getD 0 []).length ≤ most := fun h => by
    have := h20 _ (getD_mem (l := parts) (k := 0) (by omega))
    omega
  have hPn := Piece_nil parts x
  have hEn := Encode_nil parts n
  have hP0 : parts.length = 0 → code_Piece true parts x = some ([], 2) := fun h => Piece_range parts x (.inl (by omega))
  have hP1 : ¬ (1 ≤ x ∧ x ≤ 255) → code_Piece true parts x = some ([], 2) := fun h => Piece_range parts x (.inr h)
  generalize hU : (parts.any fun r => !decide (r.length = (parts.getD 0 []).length)) = U at hU1 hU2
  have hP2 : parts.length ≠ 0 → (1 ≤ x ∧ x ≤ 255) → U = true → code_Piece true parts x = some ([], 3) := fun h0 hx hu => Piece_form parts x (by omega) hx (by rw [hU2, hu])
  have hP3 : parts.length ≠ 0 → (1 ≤ x ∧ x ≤ 255) → U = false → ∃ p, code_Piece true parts x = some (p, 0) ∧ ref09_Piece parts x = some p := fun h0 hx hu => by
    obtain ⟨k, rfl⟩ := Int.eq_ofNat_of_zero_le (show 0 ≤ x by omega)
    exact ⟨_, Piece_ok parts k h0 (by omega) (by omega) (by omega) (hU.trans hu) (hok h0), refPiece_eq parts k h0 (by omega) (hU.trans hu) (hok h0)⟩
  -- what a piece alone is
  obtain ⟨Pl, Pe, hP, hfin⟩ : ∃ Pl Pe, code_Piece true parts x = some (Pl, Pe) ∧ (if (parts.length : Int) = 0 then (if Pe = 2 then some (decide ((Pl.length : Int) = 0)) else some false) else (if x < 1 then (if Pe = 2 then some (decide ((Pl.length : Int) = 0)) else some false) else (if 255 < x then (if Pe = 2 then some (decide ((Pl.length : Int) = 0)) else some false) else
      ((some U).bind fun r109 => (if r109 = true then (if Pe = 3 then some (decide ((Pl.length : Int) = 0)) else some false) else (if Pe = 0 then ((ref09_Piece parts x).bind fun r116 => some (decide (Pl = r116))) else some false)))))) = some true := by
    by_cases h0 : parts.length = 0
    · exact ⟨_, _, hP0 h0, by rw [if_pos (by omega)]; rfl⟩
    · by_cases hx : 1 ≤ x ∧ x ≤ 255
      · cases hu : U with
        | true => exact ⟨_, _, hP2 h0 hx hu, by rw [if_neg (by omega), if_neg (by omega), if_neg (by omega), Option.bind_some, if_pos rfl]; rfl⟩
        | false =>
          obtain ⟨p, e1, e2⟩ := hP3 h0 hx hu
          exact ⟨_, _, e1, by rw [if_neg (by omega), if_neg (by omega), if_neg (by omega), Option.bind_some, if_neg (by decide), if_pos rfl, e2]; simp⟩
      · refine ⟨_, _, hP1 hx, ?_⟩
        rw [if_neg (by omega)]
        by_cases h1 : x < 1
        · rw [if_pos h1]; rfl
        · rw [if_neg h1, if_pos (by omega)]; rfl
  -- what all pieces are
  obtain ⟨El, Ee, hE, hW, hEbad, hEok⟩ : ∃ El Ee, code_Encode true n parts = some (El, Ee) ∧ (if (parts.length : Int) = 0 then some (2 : Int) else (if n < (parts.length : Int) then some 2 else (if 255 < n then some 2 else ((some U).bind fun r25 => (if r25 = true then some 3 else some 0))))) = some Ee ∧ (Ee ≠ 0 → El = []) ∧
      (Ee = 0 → (El.length : Int) = n ∧ iterC (fun s83 : Int => (if s83 < (El.length : Int) then ((idx El s83).bind fun c88 => ((ref09_Piece parts (wI (s83 + 1))).bind fun r90 => (if c88 = r90 then some (.inl (wI (s83 + 1))) else some (.inr (Sum.inr (α := Unit) false))))) else some (.inr (.inl ())))) 0 = some (.inl ())) := by
    by_cases h0 : parts.length = 0
    · exact ⟨_, _, Encode_range parts n (.inl h0), by rw [if_pos (by omega)], fun _ => rfl, fun h => by cases h⟩
    by_cases h1 : n < (parts.length : Int)
    · exact ⟨_, _, Encode_range parts n (.inr (.inl h1)), by rw [if_neg (by omega), if_pos h1], fun _ => rfl, fun h => by cases h⟩
    by_cases h3 : 255 < n
    · exact ⟨_, _, Encode_range parts n (.inr (.inr h3)), by rw [if_neg (by omega), if_neg h1, if_pos h3], fun _ => rfl, fun h => by cases h⟩
    cases hu : U with
    | true => exact ⟨_, _, Encode_form parts n h0 h1 h3 (by rw [hU2, hu]), by rw [if_neg (by omega), if_neg h1, if_neg h3]; rfl, fun _ => rfl, fun h => by cases h⟩
    | false =>
      obtain ⟨k, rfl⟩ := Int.eq_ofNat_of_zero_le (show 0 ≤ n by omega)
      refine ⟨_, _, Encode_ok parts k h0 (by omega) (by omega) (hU.trans hu) (hok h0), by rw [if_neg (by omega), if_neg h1, if_neg h3]; rfl, fun h => absurd rfl h, fun _ => ⟨by simp, ?_⟩⟩
      refine iterC_count (fun i => (i : Int)) k _ rfl ?_ ?_
      · intro i hi
        have hid : idx ((List.range k).map fun i => pc parts (i + 1)) (i : Int) = some (pc parts (i + 1)) := by rw [idx_nat]; simp [hi]
        rw [if_pos (by simp; omega), hid, Option.bind_some, wI_succ i (by omega), refPiece_eq parts (i + 1) h0 (by omega) (hU.trans hu) (hok h0), Option.bind_some, if_pos rfl]
      · rw [if_neg (by simp)]
  have hloop0 : iterC (fun s83 : Int => (if s83 < ((([] : List (List UInt8))).length : Int) then ((idx ([] : List (List UInt8)) s83).bind fun c88 => ((ref09_Piece parts (wI (s83 + 1))).bind fun r90 => (if c88 = r90 then some (.inl (wI (s83 + 1))) else some (.inr (Sum.inr (α := Unit) false))))) else some (.inr (.inl ())))) 0 = some (.inl ()) :=
    iterC_count (fun i => (i : Int)) 0 _ rfl (fun i hi => absurd hi (Nat.not_lt_zero _)) (by simp)
  unfold law09_CodeEncodes
  rw [lives9, Option.bind_some, if_neg (by decide), hf1, Option.bind_some, if_neg (by decide)]
  have hcs : (20 < n ∧ n ≤ 255) ∨ (20 < n ∧ ¬ n ≤ 255) ∨ ¬ 20 < n := by omega
  rcases hcs with ⟨hn1, hn2⟩ | ⟨hn1, hn2⟩ | hn1
  · rw [if_pos hn1, if_pos hn2]; rfl
  all_goals first | rw [if_pos hn1, if_neg hn2] | rw [if_neg hn1]
  all_goals
    simp only [field_New, Option.bind_some]
    rw [hE, Option.bind_some, hP, Option.bind_some, hU1, hW, Option.bind_some]
    by_cases he : Ee = 0
    · obtain ⟨hl, hloop⟩ := hEok he
      rw [if_pos rfl, if_pos he, hloop, Option.bind_some, Sum.elim_inl, hEn, Option.bind_some, hPn, Option.bind_some, if_pos rfl, if_pos rfl, if_pos he, if_pos hl]
      exact hfin
    · have hnil := hEbad he
      subst hnil
      rw [if_pos rfl, if_neg he, if_pos (by rfl), hloop0, Option.bind_some, Sum.elim_inl, hEn, Option.bind_some, hPn, Option.bind_some, if_pos rfl, if_pos rfl, if_neg he]
      exact hfin
end Gk

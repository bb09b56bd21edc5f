/- Chapter 9: the law CodeDecodes. No condition but that the slice is none longer than Go's are. -/
import Derived.Test.YtabcmfkmddlaaaaL9c
import Derived.Test.YtabcmfkmddlaaaaNi
set_option linter.unusedSimpArgs false
set_option linter.unusedVariables false
namespace Gk
open Gf
def badI (x : Int) : Bool := decide (x < 1 ∨ 255 < x)
theorem idx_gI' {l : List Int} {k : Nat} (h : k < l.length) : idx l (k : Int) = some (l.getD k 0) := by rw [idx_nat]; simp [List.getD_eq_getElem?_getD, h]
theorem take_gI' {l : List Int} {k : Nat} (h : k < l.length) : l.take (k + 1) = l.take k ++ [l.getD k 0] := by
  rw [List.take_add_one]; simp [List.getD_eq_getElem?_getD, h]
theorem rawLoop1 (parts : List (List UInt8)) (raw : List Int) (t : Nat) (ht : parts.length = t) (h0 : 1 ≤ t) (hr : raw.length ≤ 12) :
    iterC (fun s98 : List (List UInt8) × Int × Int => (if s98.2.2 < (raw.length : Int) then ((idx raw s98.2.2).bind fun c101 => ((remI s98.2.2 ((parts.length : Int))).bind fun c102 => ((idx parts c102).bind fun c103 => ((appL s98.1 (([c103] : List (List UInt8)))).bind fun c107 => (if s98.2.2 < (parts.length : Int) then (if c101 < 1 then
      some (.inl (c107, 2, (wI (s98.2.2 + 1)))) else (if 255 < c101 then some (.inl (c107, 2, (wI (s98.2.2 + 1)))) else some (.inl (c107, s98.2.1, (wI (s98.2.2 + 1)))))) else some (.inl (c107, s98.2.1, (wI (s98.2.2 + 1))))))))) else some (.inr (s98.1, s98.2.1)))) (([] : List (List UInt8)), 0, 0)
    = some ((List.range raw.length).map fun i => parts.getD (i % t) [], if (raw.take t).any badI then 2 else 0) := by
  have hh := h257
  refine iterC_count (fun i => ((List.range i).map fun i => parts.getD (i % t) [], (if ((raw.take t).take i).any badI then (2 : Int) else 0), (i : Int))) raw.length _ (by simp) ?_ ?_
  · intro i hi
    have hm : i % t < t := Nat.mod_lt _ (by omega)
    simp only
    rw [if_pos (by omega), idx_gI' hi, Option.bind_some, ht, remI_nat _ _ (by omega), Option.bind_some, idx_getD (by omega), Option.bind_some, appL_ok _ _ (by simp; omega) rfl, Option.bind_some, wI_succ i (by omega), List.range_succ, List.map_append]
    by_cases hit : i < t
    · have e : (raw.take t).take (i + 1) = (raw.take t).take i ++ [raw.getD i 0] := by
        rw [take_gI' (show i < (raw.take t).length by simp; omega)]
        simp [List.getD_eq_getElem?_getD, hit]
      rw [if_pos (by omega), e, List.any_append]
      by_cases h1 : raw.getD i 0 < 1
      · have hb : badI (raw.getD i 0) = true := by unfold badI; rw [decide_eq_true (.inl h1)]
        rw [if_pos h1, List.any_cons, hb, Bool.true_or, Bool.or_true, if_pos rfl]; rfl
      · by_cases h2 : 255 < raw.getD i 0
        · have hb : badI (raw.getD i 0) = true := by unfold badI; rw [decide_eq_true (.inr h2)]
          rw [if_neg h1, if_pos h2, List.any_cons, hb, Bool.true_or, Bool.or_true, if_pos rfl]; rfl
        · have hb : badI (raw.getD i 0) = false := by unfold badI; rw [decide_eq_false (by omega)]
          rw [if_neg h1, if_neg h2, List.any_cons, hb, Bool.false_or, List.any_nil, Bool.or_false]; rfl
    · rw [if_neg (by omega), List.take_of_length_le (show (raw.take t).length ≤ i by simp; omega), List.take_of_length_le (show (raw.take t).length ≤ i + 1 by simp; omega)]; rfl
  · simp only
    rw [if_neg (by omega), List.take_of_length_le (show (raw.take t).length ≤ raw.length by simp; omega)]
theorem rawLoop2 (raw : List Int) (t : Nat) (W : Int) (hr : raw.length ≤ 12) :
    iterC (fun s116 : Int × (List (Int × Bool)) × Int => (if s116.2.2 < (raw.length : Int) then ((idx raw s116.2.2).bind fun c119 => (if s116.2.2 < (t : Int) then (if s116.1 = 0 then (if (mgetI s116.2.1 c119) = true then some (.inl (6, (mputI s116.2.1 c119 true), (wI (s116.2.2 + 1)))) else some (.inl (s116.1, (mputI s116.2.1 c119 true), (wI (s116.2.2 + 1))))) else some (.inl (s116.1, (mputI s116.2.1 c119 true), (wI (s116.2.2 + 1)))))
      else some (.inl (s116.1, (mputI s116.2.1 c119 true), (wI (s116.2.2 + 1)))))) else some (.inr s116.1))) (W, ([] : List (Int × Bool)), 0) = some (if W ≠ 0 then W else if (raw.take t).Nodup then 0 else 6) := by
  obtain ⟨x, e1, e2⟩ := iterC_inv (body := fun s116 : Int × (List (Int × Bool)) × Int => (if s116.2.2 < (raw.length : Int) then ((idx raw s116.2.2).bind fun c119 => (if s116.2.2 < (t : Int) then (if s116.1 = 0 then (if (mgetI s116.2.1 c119) = true then some (.inl (6, (mputI s116.2.1 c119 true), (wI (s116.2.2 + 1)))) else some (.inl (s116.1, (mputI s116.2.1 c119 true), (wI (s116.2.2 + 1))))) else some (.inl (s116.1, (mputI s116.2.1 c119 true), (wI (s116.2.2 + 1)))))
      else some (.inl (s116.1, (mputI s116.2.1 c119 true), (wI (s116.2.2 + 1)))))) else some (.inr s116.1)))
    (fun s => ∃ i : Nat, i ≤ raw.length ∧ s.2.2 = (i : Int) ∧ (∀ a, mgetI s.2.1 a = decide (a ∈ raw.take i)) ∧ s.1 = (if W ≠ 0 then W else if ((raw.take t).take i).Nodup then 0 else 6)) (fun s => raw.length - s.2.2.toNat) (fun x => x = (if W ≠ 0 then W else if (raw.take t).Nodup then 0 else 6))
    (by
      rintro ⟨W', m, _⟩ ⟨i, hi, rfl, hm, hW⟩
      simp only at hm hW ⊢
      by_cases hlt : i < raw.length
      · have hkeep : ∀ a, mgetI (mputI m (raw.getD i 0) true) a = decide (a ∈ raw.take (i + 1)) := fun a => by
          rw [mgetI_mputI, hm a, take_gI' hlt]
          by_cases h1 : a = raw.getD i 0
          · simp [h1]
          · simp [h1, Bool.or_comm]
        rw [if_pos (by omega), idx_gI' hlt, Option.bind_some, wI_succ i (by omega)]
        refine .inl ?_
        have mk : ∀ V : Int, V = (if W ≠ 0 then W else if ((raw.take t).take (i + 1)).Nodup then 0 else 6) → ∃ s', some (Sum.inl (β := Int) (V, (mputI m (raw.getD i 0) true), ((i + 1 : Nat) : Int))) = some (.inl s') ∧ (∃ i : Nat, i ≤ raw.length ∧ s'.2.2 = (i : Int) ∧ (∀ a, mgetI s'.2.1 a = decide (a ∈ raw.take i)) ∧ s'.1 = (if W ≠ 0 then W else if ((raw.take t).take i).Nodup then 0 else 6)) ∧ raw.length - s'.2.2.toNat < raw.length - ((i : Int)).toNat :=
          fun V hV => ⟨_, rfl, ⟨i + 1, hlt, rfl, hkeep, hV⟩, by simp only [Int.toNat_natCast]; omega⟩
        by_cases hit : i < t
        · have hti : (raw.take t).take i = raw.take i := by rw [List.take_take]; congr 1; omega
          have hti1 : (raw.take t).take (i + 1) = raw.take i ++ [raw.getD i 0] := by rw [← take_gI' hlt, List.take_take]; congr 1; omega
          rw [hti] at hW
          rw [if_pos (by omega)]
          by_cases hw0 : W = 0
          · subst hw0
            rw [if_neg (by simp)] at hW
            by_cases hnd : (raw.take i).Nodup
            · rw [if_pos hnd] at hW
              rw [if_pos hW, hm]
              by_cases hin : raw.getD i 0 ∈ raw.take i
              · rw [if_pos (decide_eq_true hin)]
                refine mk 6 ?_
                rw [if_neg (by simp), hti1, if_neg]
                intro h; rw [List.nodup_append] at h
                exact h.2.2 _ hin _ (by simp) rfl
              · rw [if_neg (by simpa using hin)]
                refine mk W' ?_
                rw [hW, if_neg (by simp), hti1, if_pos]
                rw [List.nodup_append]
                exact ⟨hnd, by simp, fun a ha b hb e => by rw [List.mem_singleton] at hb; subst hb; subst e; exact hin ha⟩
            · rw [if_neg hnd] at hW
              rw [if_neg (by omega)]
              refine mk W' ?_
              rw [hW, if_neg (by simp), hti1, if_neg]
              intro h; rw [List.nodup_append] at h; exact hnd h.1
          · rw [if_pos hw0] at hW
            rw [if_neg (by omega)]
            refine mk W' ?_
            rw [hW, if_pos hw0]
        · rw [if_neg (by omega)]
          refine mk W' ?_
          rw [hW, List.take_of_length_le (show (raw.take t).length ≤ i by simp; omega), List.take_of_length_le (show (raw.take t).length ≤ i + 1 by simp; omega)]
      · obtain rfl : i = raw.length := by omega
        rw [if_neg (by omega)]
        refine .inr ⟨_, rfl, ?_⟩
        rw [hW, List.take_of_length_le (show (raw.take t).length ≤ raw.length by simp; omega)]) (W, [], 0) ⟨0, Nat.zero_le _, rfl, fun a => by simp [mgetI], by simp⟩
  rw [e1, e2]
theorem asI_of (l : List Int) (h : l.any badI = false) : ∃ A : List UInt8, l = asI A ∧ (∀ a ∈ A, a ≠ 0) ∧ (A.Nodup ↔ l.Nodup) := by
  have hb : ∀ x ∈ l, 1 ≤ x ∧ x ≤ 255 := fun x hx => by
    have := List.any_eq_false.1 h x hx
    simp only [badI, decide_eq_true_eq] at this; omega
  have e : l = asI (l.map fun x => UInt8.ofNat x.toNat) := by
    unfold asI
    rw [List.map_map]
    conv => lhs; rw [← List.map_id l]
    refine List.map_congr_left fun x hx => ?_
    have := hb x hx
    simp only [id, Function.comp, UInt8.toNat_ofNat']
    omega
  refine ⟨l.map fun x => UInt8.ofNat x.toNat, e, fun a ha => ?_, fun hn => ?_, fun hn => ?_⟩
  · obtain ⟨x, hx, rfl⟩ := List.mem_map.1 ha
    have := hb x hx
    intro e0
    have := congrArg UInt8.toNat e0
    rw [UInt8.toNat_ofNat'] at this
    simp at this; omega
  · rw [e]
    unfold asI
    refine List.pairwise_map.2 (hn.imp fun {a b} hab e2 => hab ?_)
    exact UInt8.toNat_inj.1 (by omega)
  · refine List.pairwise_map.2 (List.Pairwise.imp_of_mem (fun {a b} ha hb' hab e2 => hab ?_) hn)
    have h1 := hb a ha
    have h2 := hb b hb'
    have := congrArg UInt8.toNat e2
    rw [UInt8.toNat_ofNat', UInt8.toNat_ofNat'] at this
    omega
theorem law09_CodeDecodes_true (parts : List (List UInt8)) (xs : List UInt8) (raw : List Int) (hp : parts.length ≤ 9223372036854775807) (hxs : xs.length ≤ 9223372036854775807) (hraw : raw.length ≤ 9223372036854775807) : law09_CodeDecodes parts xs raw = some true := by
  have h2 := h257
  have hmo := most_lt'
  obtain ⟨fb, hf1, hf2⟩ := few_eq parts
  unfold law09_CodeDecodes
  rw [lives9, Option.bind_some, if_neg (by decide), hf1, Option.bind_some]
  by_cases hfb : fb = true
  case neg => rw [if_pos (by simp [hfb])]; rfl
  subst hfb
  obtain ⟨ht, h20⟩ := hf2 rfl
  rw [if_neg (by decide)]
  by_cases hp0 : (parts.length : Int) = 0
  · rw [if_pos hp0]; rfl
  rw [if_neg hp0]
  by_cases hp8 : 8 < (parts.length : Int)
  · rw [if_pos hp8]; rfl
  rw [if_neg hp8, lunlike_eq parts (by omega), Option.bind_some]
  cases hU : (parts.any fun r => !decide (r.length = (parts.getD 0 []).length)) with
  | true => rw [if_pos rfl]; rfl
  | false =>
  rw [if_neg (by decide)]
  by_cases hr12 : 12 < (raw.length : Int)
  · rw [if_pos hr12]; rfl
  rw [if_neg hr12, field_New, Option.bind_some]
  generalize ht' : parts.length = t at *
  generalize hd' : (parts.getD 0 []).length = d at *
  have hd : d ≤ most := by
    have := h20 _ (getD_mem (l := parts) (k := 0) (by omega)); omega
  have hrec : ∀ r ∈ parts, r.length = d := by
    rw [List.any_eq_false] at hU
    intro r hr; simpa using hU r hr
  obtain ⟨P, p1, p2, p3, p4⟩ := Unlike_eq xs (t + 2) (by omega) hxs
  rw [show wI ((t : Int) + 2) = ((t + 2 : Nat) : Int) by rw [wI_of (by omega) (by omega)]; omega, p1, Option.bind_some]
  have hPne : ∀ a ∈ P, a ≠ 0 := fun a ha e => p4 (e ▸ ha)
  -- the pieces
  have hl1 : iterC (fun s29 : List Int × List (List UInt8) × Int => (if s29.2.2 < (P.length : Int) then ((idx P s29.2.2).bind fun c32 => ((code_Piece true parts (c32.toNat : Int)).bind fun r33 => (if r33.2 = 0 then ((appL s29.1 (([(c32.toNat : Int)] : List Int))).bind fun c38 => ((appL s29.2.1 (([r33.1] : List (List UInt8)))).bind fun c44 => some (.inl (c38, c44, (wI (s29.2.2 + 1)))))) else some (.inr (Sum.inr (α := List Int × List (List UInt8)) false))))) else some (.inr (.inl (s29.1, s29.2.1))))) (([] : List Int), ([] : List (List UInt8)), 0)
      = some (.inl (asI P, P.map (atv (plc t) parts d))) := by
    refine iterC_count (fun i => (asI (P.take i), (P.take i).map (atv (plc t) parts d), (i : Int))) P.length _ rfl ?_ (by simp)
    intro i hi
    simp only
    have hpc := Piece_pc parts (co P i) (by omega) (by omega) (hPne _ (co_mem hi)) (by rw [hd']; exact hU) (by rw [hd']; exact hd)
    rw [ht', hd'] at hpc
    rw [if_pos (by omega), idx_co hi, Option.bind_some, hpc, Option.bind_some, if_pos rfl, appL_ok _ _ (by simp [asI]; omega) rfl, Option.bind_some, appL_ok _ _ (by simp; omega) rfl, Option.bind_some, wI_succ i (by omega), take_snoc hi]
    simp [asI]
  rw [hl1, Option.bind_some, Sum.elim_inl]
  have hlP : (asI P).length = t + 2 := by simp [asI, p2]
  have hlm : (P.map (atv (plc t) parts d)).length = t + 2 := by simp [p2]
  -- each t of them tell the parts
  have hdec : ∀ k, k ≤ 2 → code_Decode true (t : Int) ((asI P).drop k) ((P.map (atv (plc t) parts d)).drop k) = some (parts, 0) := by
    intro k hk
    have e1 : ((asI P).drop k).take t = asI ((P.drop k).take t) := by simp [asI, List.map_drop, List.map_take]
    have e2 : ((P.map (atv (plc t) parts d)).drop k).take t = ((P.drop k).take t).map (atv (plc t) parts d) := by simp [List.map_drop, List.map_take]
    have hn : ((P.drop k).take t).Nodup := (p3.sublist (List.drop_sublist _ _)).sublist (List.take_sublist _ _)
    have hFl : ((P.drop k).take t).length = t := by simp; omega
    rw [Decode_ok t _ ((P.drop k).take t) _ d (by simp [asI]) (by omega) (by omega) (by rw [List.length_drop]; omega) e1 (fun a ha => hPne a (List.mem_of_mem_drop (List.mem_of_mem_take ha))) hn (fun r hr => by
      rw [e2] at hr
      obtain ⟨x, _, rfl⟩ := List.mem_map.1 hr
      exact atv_len _ _ _ _) hd, e2]
    congr 2
    refine rows_ext (by simp [ht']) fun i hi => ?_
    have hit : i < t := by simpa using hi
    have hdi : (parts.getD i []).length = d := hrec _ (getD_mem (by omega))
    have hat := atv_at (plc t) parts d i (plc_nodup _ (by omega)) (by rw [plc_len]; exact hit) hdi
    rw [co_plc _ _ hit] at hat
    rw [getD_tab _ _ _ hit, atv_atv _ (plc t) parts d _ hn (by rw [plc_len, hFl]; exact Nat.le_refl _), hat]
  have hl2 : iterC (fun s52 : Int => (if s52 < ((([0, 1, 2] : List Int)).length : Int) then ((idx (([0, 1, 2] : List Int)) s52).bind fun c55 => ((subL (asI P) c55 (((asI P).length : Int))).bind fun c58 => ((subL (P.map (atv (plc t) parts d)) c55 (((P.map (atv (plc t) parts d)).length : Int))).bind fun c59 => ((code_Decode true (t : Int) c58 c59).bind fun r60 => (if r60.2 = 0 then (if (r60.1.length : Int) = (t : Int) then
      ((iterC (fun s64 : Int => (if s64 < (r60.1.length : Int) then ((idx r60.1 s64).bind fun c69 => ((idx parts s64).bind fun c71 => (if c69 = c71 then some (.inl (wI (s64 + 1))) else some (.inr (.inr false))))) else some (.inr (.inl ())))) 0).bind (Sum.elim (fun y64 => some (.inl (wI (s52 + 1)))) (fun q64 => some (.inr (.inr q64))))) else some (.inr (.inr false))) else some (.inr (Sum.inr (α := Unit) false))))))) else some (.inr (.inl ())))) 0 = some (.inl ()) := by
    refine iterC_count (fun i => (i : Int)) 3 _ rfl ?_ (by rfl)
    intro k hk
    have hid : idx ([0, 1, 2] : List Int) (k : Int) = some (k : Int) := by
      rcases k with _ | _ | _ | k
      · rfl
      · rfl
      · rfl
      · omega
    have hin : iterC (fun s64 : Int => (if s64 < (parts.length : Int) then ((idx parts s64).bind fun c69 => ((idx parts s64).bind fun c71 => (if c69 = c71 then some (.inl (wI (s64 + 1))) else some (.inr (Sum.inr (α := Unit) false))))) else some (.inr (.inl ())))) 0 = some (.inl ()) := by
      refine iterC_count (fun i => (i : Int)) parts.length _ rfl ?_ (by rw [if_neg (by omega)])
      intro i hi
      rw [if_pos (by omega), idx_getD hi, Option.bind_some, Option.bind_some, if_pos rfl, wI_succ i (by omega)]
    have s1 := subL_nat (asI P) k (asI P).length (by omega) (Nat.le_refl _)
    have s2 := subL_nat (P.map (atv (plc t) parts d)) k (P.map (atv (plc t) parts d)).length (by omega) (Nat.le_refl _)
    rw [List.take_length] at s1 s2
    rw [if_pos (by simp; omega), hid, Option.bind_some, s1, Option.bind_some, s2, Option.bind_some, hdec k (by omega), Option.bind_some, if_pos rfl, if_pos (by rw [ht']), hin, Option.bind_some, Sum.elim_inl, wI_succ k (by omega)]
  rw [hl2, Option.bind_some, Sum.elim_inl]
  -- what is refused
  simp only
  rw [show wI ((t : Int) - 1) = ((t - 1 : Nat) : Int) by rw [wI_of (by omega) (by omega)]; omega, subL_0 (asI P) _ (by omega), Option.bind_some, subL_0 (P.map (atv (plc t) parts d)) _ (by omega), Option.bind_some, Decode_few t _ _ (by simp [asI]) (by omega) (by omega) (by simp [asI]; omega), Option.bind_some]
  have s3 := subL_nat (P.map (atv (plc t) parts d)) 1 (P.map (atv (plc t) parts d)).length (by omega) (Nat.le_refl _)
  rw [show ((1 : Nat) : Int) = 1 from rfl] at s3
  rw [s3, Option.bind_some, Decode_lens _ _ _ (by rw [List.take_length, List.length_drop]; omega), Option.bind_some, Decode_zero _ _ (by omega), Option.bind_some, if_pos rfl, if_pos rfl, if_pos rfl]
  -- any places
  have hR1 := rawLoop1 parts raw t ht' (by omega) (by omega)
  rw [ht'] at hR1
  rw [hR1, Option.bind_some, rawLoop2 raw t _ (by omega), Option.bind_some]
  generalize hl : (List.range raw.length).map (fun i => parts.getD (i % t) []) = l
  have hll : l.length = raw.length := by rw [← hl]; simp
  have hlr : ∀ r ∈ l, r.length = d := fun r hr => by
    rw [← hl] at hr
    obtain ⟨i, _, rfl⟩ := List.mem_map.1 hr
    exact hrec _ (getD_mem (by have := Nat.mod_lt i (show 0 < t by omega); omega))
  by_cases hlt : raw.length < t
  · rw [if_pos (by omega), Option.bind_some, Decode_few t raw l hll.symm (by omega) (by omega) hlt, Option.bind_some]; rfl
  rw [if_neg (by omega), Option.bind_some]
  cases hb : (raw.take t).any badI with
  | true =>
    have hex : ∃ x ∈ raw.take t, x < 1 ∨ 255 < x := by
      obtain ⟨x, hx, hbx⟩ := List.any_eq_true.1 hb
      exact ⟨x, hx, by simpa [badI] using hbx⟩
    rw [Decode_range t raw l hll.symm (by omega) (by omega) (by omega) hex, Option.bind_some]; rfl
  | false =>
    obtain ⟨A, hA1, hA2, hA3⟩ := asI_of _ hb
    by_cases hnd : (raw.take t).Nodup
    · rw [Decode_ok t raw A l d hll.symm (by omega) (by omega) (by omega) hA1 hA2 (hA3.2 hnd) (fun r hr => hlr r (List.mem_of_mem_take hr)) hd, Option.bind_some]
      simp [hnd]
    · rw [Decode_same t raw A l d hll.symm (by omega) (by omega) (by omega) hA1 hA2 (fun h => hnd (hA3.1 h)) (fun r hr => hlr r (List.mem_of_mem_take hr)), Option.bind_some]
      simp [hnd]
end Gk

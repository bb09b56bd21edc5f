/- Chapter 9: what pieces tell, in plain Lean. No condition but lengths. -/
import Derived.Test.YtabcmfkmddlaaaaL9a
import Derived.Test.YtabcmfkmddlaaaaNg
import Derived.Test.YtabcmfkmddlaaaaNd0
import Derived.Test.YtabcmfkmddlaaaaGmI
set_option linter.unusedSimpArgs false
set_option linter.unusedVariables false
namespace Gk
open Gf
/-- The polynomial through the i-th bytes. -/
def apol (xs : List UInt8) (shares : List (List UInt8)) (i : Nat) : List UInt8 := lag xs (fun k => mul (co (shares.getD k []) i) (inv (pe xs k (co xs k) xs.length))) xs.length
theorem dg_apol (xs : List UInt8) (shares : List (List UInt8)) (i : Nat) : dg (apol xs shares i) ≤ xs.length := dg_lag _ _ _ (Nat.le_refl _)
theorem atv_len (xs : List UInt8) (shares : List (List UInt8)) (d : Nat) (x : UInt8) : (atv xs shares d x).length = d := by simp [atv]
theorem co_atv (xs : List UInt8) (shares : List (List UInt8)) (d : Nat) (x : UInt8) (i : Nat) (h : i < d) : co (atv xs shares d x) i = evp (apol xs shares i) x := by
  unfold atv apol
  rw [co_tab, if_pos h, ev_lag]
  refine sm_congr _ fun k _ => ?_
  unfold wt
  rw [mul_comm (mul (pe xs k x xs.length) _), mul_comm (pe xs k x xs.length), ← mul_assoc]
/-- What enough of them tell is told by the first ones. -/
theorem atv_atv (F xs : List UInt8) (shares : List (List UInt8)) (d : Nat) (x : UInt8) (hn : F.Nodup) (hl : xs.length ≤ F.length) : atv F (F.map (atv xs shares d)) d x = atv xs shares d x := by
  refine eq_of_co (by rw [atv_len, atv_len]) fun i => ?_
  by_cases hi : i < d
  · rw [co_atv xs shares d x i hi, lagrange hn (p := apol xs shares i) (Nat.le_trans (dg_apol _ _ _) hl) x]
    unfold atv
    rw [co_tab, if_pos hi]
    refine sm_congr _ fun k hk => ?_
    have : (F.map (atv xs shares d)).getD k [] = atv xs shares d (co F k) := by
      rw [List.getD_eq_getElem?_getD, List.getElem?_map, co_get hk]; rfl
    have e := co_atv xs shares d (co F k) i hi
    unfold atv at this
    rw [this, ← e]; rfl
  · rw [co_ge (by rw [atv_len]; omega), co_ge (by rw [atv_len]; omega)]
def asI (A : List UInt8) : List Int := A.map fun x => (x.toNat : Int)
theorem asI_get (A : List UInt8) (i : Nat) (h : i < A.length) : idx (asI A) (i : Int) = some ((co A i).toNat : Int) := by
  unfold asI; rw [idx_nat, List.getElem?_map, co_get h]; rfl
theorem member_t {t : Nat} (h0 : 1 ≤ t) (h1 : t ≤ 255) : code_member (t : Int) = some true := by rw [member_eq, decide_eq_true (by omega)]
theorem subL_0 {α : Type} (l : List α) (t : Nat) (h : t ≤ l.length) : subL l 0 (t : Int) = some (l.take t) := by
  have := subL_nat l 0 t (Nat.zero_le _) h
  rwa [show ((0 : Nat) : Int) = 0 from rfl, List.drop_zero] at this
/-- The places' numbers, told as bytes. -/
theorem places_loop (A : List UInt8) (hA : ∀ a ∈ A, a ≠ 0) (hl : A.length ≤ 255) : iterC (fun s11 : List UInt8 × Int => (if s11.2 < ((asI A).length : Int) then ((idx (asI A) s11.2).bind fun c14 => ((code_member c14).bind fun r15 => (if (!r15) = true then some (.inr (Sum.inr (α := List UInt8) (([] : List (List UInt8)), (2 : Int)))) else ((appL s11.1 (([(UInt8.ofInt c14)] : List UInt8))).bind fun c20 => some (.inl (c20, (wI (s11.2 + 1)))))))) else some (.inr (.inl s11.1)))) (([] : List UInt8), 0) = some (.inl A) := by
  have hh := h257
  have hlA : (asI A).length = A.length := by simp [asI]
  refine iterC_count (fun i => (A.take i, (i : Int))) A.length _ rfl ?_ (by simp [asI])
  intro i hi
  have h1 := hA _ (co_mem hi)
  have h2 : (co A i).toNat ≠ 0 := fun e => h1 (UInt8.toNat_inj.1 e)
  have h3 := (co A i).toNat_lt
  simp only
  rw [if_pos (by omega), asI_get A i hi, Option.bind_some, member_t (by omega) (by omega), Option.bind_some, if_neg (by decide), ofInt_nat, appL_ok _ _ (by simp; omega) rfl, Option.bind_some, wI_succ i (by omega), take_snoc hi]
theorem Decode_ok (t : Nat) (xs : List Int) (A : List UInt8) (pieces : List (List UInt8)) (d : Nat) (hl : xs.length = pieces.length) (h0 : 1 ≤ t) (h1 : t ≤ 255) (ht : t ≤ xs.length) (hx : xs.take t = asI A) (hA : ∀ a ∈ A, a ≠ 0) (hn : A.Nodup) (hr : ∀ r ∈ pieces.take t, r.length = d) (hd : d ≤ most) :
    code_Decode true (t : Int) xs pieces = some ((List.range t).map fun x => atv A (pieces.take t) d (UInt8.ofNat (x + 1)), 0) := by
  have hh := h257
  have hAl : A.length = t := by
    have := congrArg List.length hx
    simp [asI] at this; omega
  have hpl : (pieces.take t).length = t := by simp; omega
  unfold code_Decode
  rw [if_neg (by decide), if_pos (by omega), member_t h0 h1, Option.bind_some, if_neg (by decide), if_neg (by omega), subL_0 _ _ ht, Option.bind_some, subL_0 _ _ (by omega), Option.bind_some, hx, places_loop A hA (by omega), Option.bind_some, Sum.elim_inl]
  have : iterC (fun s25 : List (List UInt8) × Int => (if s25.2 < (t : Int) then ((shamir_At true A (pieces.take t) (UInt8.ofInt ((wI (s25.2 + 1))))).bind fun r28 => (if r28.2 = 0 then ((appL s25.1 (([r28.1] : List (List UInt8)))).bind fun c33 => some (.inl (c33, (wI (s25.2 + 1))))) else some (.inr (Sum.inr (α := List (List UInt8)) (([] : List (List UInt8)), r28.2))))) else some (.inr (.inl s25.1)))) (([] : List (List UInt8)), 0) = some (.inl ((List.range t).map fun x => atv A (pieces.take t) d (UInt8.ofNat (x + 1)))) := by
    refine iterC_count (fun i => ((List.range i).map fun x => atv A (pieces.take t) d (UInt8.ofNat (x + 1)), (i : Int))) t _ rfl ?_ (by simp)
    intro i hi
    simp only
    rw [if_pos (by omega), wI_succ i (by omega), ofInt_nat', At_ok A _ d _ (by omega) (by omega) (by omega) hn hr hd, Option.bind_some, if_pos rfl, appL_ok _ _ (by simp; omega) rfl, Option.bind_some, List.range_succ, List.map_append]
    rfl
  rw [this, Option.bind_some, Sum.elim_inl]
theorem Decode_same (t : Nat) (xs : List Int) (A : List UInt8) (pieces : List (List UInt8)) (d : Nat) (hl : xs.length = pieces.length) (h0 : 1 ≤ t) (h1 : t ≤ 255) (ht : t ≤ xs.length) (hx : xs.take t = asI A) (hA : ∀ a ∈ A, a ≠ 0) (hn : ¬ A.Nodup) (hr : ∀ r ∈ pieces.take t, r.length = d) :
    code_Decode true (t : Int) xs pieces = some ([], 6) := by
  have hh := h257
  have hAl : A.length = t := by
    have := congrArg List.length hx
    simp [asI] at this; omega
  have hpl : (pieces.take t).length = t := by simp; omega
  unfold code_Decode
  rw [if_neg (by decide), if_pos (by omega), member_t h0 h1, Option.bind_some, if_neg (by decide), if_neg (by omega), subL_0 _ _ ht, Option.bind_some, subL_0 _ _ (by omega), Option.bind_some, hx, places_loop A hA (by omega), Option.bind_some, Sum.elim_inl]
  have hun : shamir_unlike (pieces.take t) = some false := by
    rw [unlike_eq _ (by omega) d (fun r h => hr r (List.mem_of_getElem? h)), Option.some.injEq, List.any_eq_false]
    intro r hr'; simp [hr r hr']
  rw [iterC_step]
  simp only
  rw [if_pos (by omega), At_bad A _ _ 6 (by omega) hun (by rw [poly_check_eq _ (by omega), if_neg (by omega), if_neg (by omega), if_neg hn]) (by decide), Option.bind_some, if_neg (by decide)]
  rfl
theorem Decode_range (t : Nat) (xs : List Int) (pieces : List (List UInt8)) (hl : xs.length = pieces.length) (h0 : 1 ≤ t) (h1 : t ≤ 255) (ht : t ≤ xs.length) (hx : ∃ x ∈ xs.take t, x < 1 ∨ 255 < x) : code_Decode true (t : Int) xs pieces = some ([], 2) := by
  have hh := h257
  unfold code_Decode
  rw [if_neg (by decide), if_pos (by omega), member_t h0 h1, Option.bind_some, if_neg (by decide), if_neg (by omega), subL_0 _ _ ht, Option.bind_some, subL_0 _ _ (by omega), Option.bind_some]
  have hl2 : (xs.take t).length = t := by simp; omega
  generalize xs.take t = ys at hx hl2 ⊢
  obtain ⟨x, e1, e2⟩ := iterC_inv (body := fun s11 : List UInt8 × Int => (if s11.2 < (ys.length : Int) then ((idx ys s11.2).bind fun c14 => ((code_member c14).bind fun r15 => (if (!r15) = true then some (.inr (Sum.inr (α := List UInt8) (([] : List (List UInt8)), (2 : Int)))) else ((appL s11.1 (([(UInt8.ofInt c14)] : List UInt8))).bind fun c20 => some (.inl (c20, (wI (s11.2 + 1)))))))) else some (.inr (.inl s11.1))))
    (fun s => ∃ i : Nat, i ≤ ys.length ∧ s.2 = (i : Int) ∧ s.1.length = i ∧ ∀ j, j < i → ¬ (ys.getD j 0 < 1 ∨ 255 < ys.getD j 0)) (fun s => ys.length - s.2.toNat) (fun x : List UInt8 ⊕ (List (List UInt8) × Int) => x = .inr ([], 2))
    (by
      rintro ⟨s, _⟩ ⟨i, hi, rfl, hl, hs⟩
      simp only at hl hs ⊢
      by_cases h : i < ys.length
      · have hg : idx ys (i : Int) = some (ys.getD i 0) := by rw [idx_nat]; simp [List.getD_eq_getElem?_getD, h]
        rw [if_pos (by omega), hg, Option.bind_some, member_eq, Option.bind_some]
        by_cases hb : 1 ≤ ys.getD i 0 ∧ ys.getD i 0 ≤ 255
        · rw [if_neg (by simp only [decide_eq_true hb]; decide), appL_ok _ _ (by simp; omega) rfl, Option.bind_some, wI_succ i (by omega)]
          refine .inl ⟨_, rfl, ⟨i + 1, h, rfl, by simp; omega, fun j hj => ?_⟩, by simp only [Int.toNat_natCast]; omega⟩
          by_cases e : j = i
          · rw [e]; omega
          · exact hs j (by omega)
        · rw [if_pos (by simp only [decide_eq_false hb]; rfl)]
          exact .inr ⟨_, rfl, rfl⟩
      · obtain ⟨x, hx, hb⟩ := hx
        obtain ⟨j, hj, rfl⟩ := List.getElem_of_mem hx
        have := hs j (by omega)
        rw [show ys.getD j 0 = ys[j] by simp [List.getD_eq_getElem?_getD, hj]] at this
        exact absurd hb this) (([] : List UInt8), 0) ⟨0, Nat.zero_le _, rfl, rfl, fun j hj => absurd hj (Nat.not_lt_zero _)⟩
  rw [e1, e2]; rfl
theorem Decode_few (t : Nat) (xs : List Int) (pieces : List (List UInt8)) (hl : xs.length = pieces.length) (h0 : 1 ≤ t) (h1 : t ≤ 255) (ht : xs.length < t) : code_Decode true (t : Int) xs pieces = some ([], 5) := by
  unfold code_Decode
  rw [if_neg (by decide), if_pos (by omega), member_t h0 h1, Option.bind_some, if_neg (by decide), if_pos (by omega)]
theorem Decode_lens (t : Int) (xs : List Int) (pieces : List (List UInt8)) (hl : xs.length ≠ pieces.length) : code_Decode true t xs pieces = some ([], 1) := by
  unfold code_Decode
  rw [if_neg (by decide), if_neg (by omega)]
theorem Decode_zero (xs : List Int) (pieces : List (List UInt8)) (hl : xs.length = pieces.length) : code_Decode true 0 xs pieces = some ([], 2) := by
  unfold code_Decode
  rw [if_neg (by decide), if_pos (by omega), member_eq, Option.bind_some, if_pos (by decide)]
theorem mgetI_mputI (m : List (Int × Bool)) (k a : Int) : mgetI (mputI m k true) a = (decide (a = k) || mgetI m a) := by
  unfold mputI
  split
  · rename_i hk
    unfold mgetI
    rw [List.find?_map]
    have hf : ((fun p : Int × Bool => p.1 == a) ∘ fun p => if p.1 = k then (p.1, true) else p) = (fun p => p.1 == a) := by
      funext p; simp only [Function.comp]; split <;> rfl
    rw [hf]
    cases hm : m.find? (fun p => p.1 == a) with
    | none =>
      by_cases hak : a = k
      · subst hak
        obtain ⟨p, hp, e⟩ := List.mem_map.1 hk
        have := List.find?_eq_none.1 hm p hp
        simp [e] at this
      · simp [hak]
    | some p =>
      have hp : p.1 = a := by simpa using List.find?_some hm
      by_cases hak : a = k
      · subst hak; simp [hp]
      · have : p.1 ≠ k := fun e => hak (hp.symm.trans e)
        simp [hak, this]
  · rename_i hk
    unfold mgetI
    rw [List.find?_append]
    cases hm : m.find? (fun p => p.1 == a) with
    | none =>
      by_cases hak : a = k
      · subst hak; simp
      · simp [hak, Ne.symm hak]
    | some p =>
      have hp : p.1 = a := by simpa using List.find?_some hm
      have : a ≠ k := fun e => hk (List.mem_map.2 ⟨p, List.mem_of_find?_eq_some hm, hp.trans e⟩)
      simp [this]
theorem Piece_pc (parts : List (List UInt8)) (a : UInt8) (h0 : parts.length ≠ 0) (h1 : parts.length ≤ 255) (ha : a ≠ 0) (hU : (parts.any fun r => !decide (r.length = (parts.getD 0 []).length)) = false) (hd : (parts.getD 0 []).length ≤ most) :
    code_Piece true parts (a.toNat : Int) = some (atv (plc parts.length) parts (parts.getD 0 []).length a, 0) := by
  have h2 : a.toNat ≠ 0 := fun e => ha (UInt8.toNat_inj.1 e)
  have h3 := a.toNat_lt
  rw [Piece_ok parts a.toNat h0 h1 (by omega) (by omega) hU hd]
  unfold pc
  rw [show UInt8.ofNat a.toNat = a by simp]
end Gk

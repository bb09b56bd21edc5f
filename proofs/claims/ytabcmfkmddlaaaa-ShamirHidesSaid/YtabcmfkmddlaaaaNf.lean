/- Chapter 8: the law ShamirHides. No condition. -/
import Derived.Test.YtabcmfkmddlaaaaL8f
import Derived.Test.YtabcmfkmddlaaaaNd0
import Derived.Test.YtabcmfkmddlaaaaMr0
set_option linter.unusedSimpArgs false
set_option linter.unusedVariables false
namespace Gk
open Gf
theorem ev_set : ∀ (p : List UInt8) (j : Nat) (c x : UInt8), j < p.length → evp (p.set j (co p j ^^^ c)) x = evp p x ^^^ mul c (pow x j)
  | [], j, c, x, h => by simp at h
  | a :: p, 0, c, x, _ => by
    show (a ^^^ c) ^^^ mul (evp p x) x = (a ^^^ mul (evp p x) x) ^^^ mul c 1
    rw [mul_one, xor_assoc, xor_assoc, xor_comm c]
  | a :: p, j + 1, c, x, h => by
    rw [co_succ]
    show a ^^^ mul (evp (p.set j (co p j ^^^ c)) x) x = (a ^^^ mul (evp p x) x) ^^^ mul c (mul (pow x j) x)
    rw [ev_set p j c x (by simpa using h), add_mul, xor_assoc, mul_assoc]
theorem pow_ne {x : UInt8} (h : x ≠ 0) : ∀ j, pow x j ≠ 0
  | 0 => by show (1 : UInt8) ≠ 0; decide
  | j + 1 => mul_ne (pow_ne h j) h
theorem ev_zero_at (p : List UInt8) : evp p 0 = co p 0 := by
  cases p with
  | nil => rfl
  | cons c p => show c ^^^ mul (evp p 0) 0 = c; rw [mul_zero, xor_zero]
/-- The mask that tells the other secret by the same shares. -/
def swp (M V : List UInt8) (d : Nat → UInt8) (a n : Nat) : List UInt8 := (List.range (a * n)).map fun z => co M z ^^^ mul (d (z % n)) (co V (z / n + 1))
theorem swp_len (M V : List UInt8) (d : Nat → UInt8) (a n : Nat) : (swp M V d a n).length = a * n := by simp [swp]
theorem co_swp (M V : List UInt8) (d : Nat → UInt8) (a n k i : Nat) (hk : k < a) (hi : i < n) : co (swp M V d a n) (k * n + i) = co M (k * n + i) ^^^ mul (d i) (co V (k + 1)) := by
  have h1 : k * n + i < a * n := by
    have : (k + 1) * n ≤ a * n := Nat.mul_le_mul_right n hk
    rw [Nat.succ_mul] at this; omega
  unfold swp
  rw [co_tab, if_pos h1, Nat.mul_comm k n, Nat.mul_add_mod, Nat.mod_eq_of_lt hi, Nat.mul_add_div (by omega), Nat.div_eq_of_lt hi, Nat.add_zero]
theorem law08_ShamirHides_true (t : Int) (s o m xs : List UInt8) (bent : Int) (lo : -9223372036854775808 ≤ t) (hi : t ≤ 9223372036854775807) (_ : s.length ≤ 9223372036854775807) (_ : o.length ≤ 9223372036854775807) (_ : m.length ≤ 9223372036854775807) (hxs : xs.length ≤ 9223372036854775807)
    (lo' : -9223372036854775808 ≤ bent) (hi' : bent ≤ 9223372036854775807) : law08_ShamirHides t s o m xs bent = some true := by
  unfold law08_ShamirHides
  rw [lives8, Option.bind_some, if_neg (by decide)]
  by_cases hs : 8 < (s.length : Int)
  · rw [if_pos hs]; rfl
  rw [if_neg hs]
  have h := h257
  have hmo := most_lt'
  have h1000 : 1000 ≤ most := by decide
  have ha : (UInt64.ofInt t % 8).toNat < 8 := by rw [UInt64.toNat_mod]; exact Nat.mod_lt _ (by decide)
  generalize (UInt64.ofInt t % 8).toNat = a at *
  have ea : wI (1 + wI (a : Int)) = ((a + 1 : Nat) : Int) := by rw [wI_nat (by omega), wI_of (by omega) (by omega)]; omega
  have hle : a * s.length ≤ 7 * 8 := Nat.mul_le_mul (by omega) (by omega)
  have e2 : wI ((a : Int) * (s.length : Int)) = ((a * s.length : Nat) : Int) := by rw [← Int.natCast_mul]; exact wI_nat (by omega)
  have e3 : wI (((a + 1 : Nat) : Int) - 1) = (a : Int) := by rw [wI_pred _ (by omega) (by omega), Nat.add_sub_cancel]
  simp only [ea, e3, e2]
  rw [Made_eq _ _ (by omega), Option.bind_some, Made_eq _ _ (by omega), Option.bind_some]
  have lO := mad_len o s.length
  have lM := mad_len m (a * s.length)
  generalize mad o s.length = O at *
  generalize mad m (a * s.length) = M at *
  obtain ⟨P, p1, p2, p3, p4⟩ := Unlike_eq xs a (by omega) hxs
  rw [p1, Option.bind_some]
  simp only [field_New, Option.bind_some]
  rw [poly_Vanish_eq P (by omega), Option.bind_some]
  have lV := van_length P
  have hroot := van_root P
  have hv0 : co (van P) 0 ≠ 0 := fun e => p4 ((hroot 0).1 (by rw [ev_zero_at, e]))
  generalize van P = V at *
  have hap : appL [0] P = some (0 :: P) := by unfold appL; rw [if_pos (by simp; omega)]; rfl
  have i0 : idx V 0 = some (co V 0) := by
    have := idx_co (p := V) (i := 0) (by omega)
    rwa [show ((0 : Nat) : Int) = 0 from rfl] at this
  rw [hap, Option.bind_some, poly_Weights_eq (0 :: P) 0 (by simp) (by simp; omega) (List.nodup_cons.2 ⟨p4, p3⟩), Option.bind_some, i0, Option.bind_some, Inv_eq, if_neg hv0, Option.bind_some]
  simp only
  rw [if_pos trivial, if_pos (by rw [wts_len]; simp; omega), appL_nil M (by omega), Option.bind_some]
  have loop1 : iterC (fun s40 : List UInt8 × Int => (if s40.2 < (s.length : Int) then ((idx s s40.2).bind fun c45 => ((idx O s40.2).bind fun c46 => ((field_Mul true (inv (co V 0)) (c45 ^^^ c46)).bind fun r47 => ((iterC (fun s49 : List UInt8 × Int => (if s49.2 < ((a + 1 : Nat) : Int) then ((idx s49.1 ((wI ((wI ((wI (s49.2 - 1)) * (s.length : Int))) + s40.2)))).bind fun c54 => ((idx V s49.2).bind fun c55 => ((field_Mul true r47 c55).bind fun r56 =>
      some (.inl ((s49.1.set ((wI ((wI ((wI (s49.2 - 1)) * (s.length : Int))) + s40.2)) : Int).toNat ((c54 ^^^ r56))), (wI (s49.2 + 1))))))) else some (.inr s49.1))) (s40.1, 1)).bind fun x49 => some (.inl (x49, (wI (s40.2 + 1)))))))) else some (.inr s40.1))) (M, 0) = some (swp M V (fun i => mul (inv (co V 0)) (co s i ^^^ co O i)) a s.length) := by
    generalize hdd : (fun i => mul (inv (co V 0)) (co s i ^^^ co O i)) = dd
    have hddi : ∀ i, mul (inv (co V 0)) (co s i ^^^ co O i) = dd i := fun i => by rw [← hdd]
    generalize hn : s.length = n at *
    obtain ⟨x, e1, e2⟩ := iterC_up (s0 := M) (fun i z => z.length = a * n ∧ ∀ k j, k < a → j < n → co z (k * n + j) = if j < i then co M (k * n + j) ^^^ mul (dd j) (co V (k + 1)) else co M (k * n + j)) n (fun z : List UInt8 => z = swp M V dd a n)
      (body := fun s40 : List UInt8 × Int => (if s40.2 < (n : Int) then ((idx s s40.2).bind fun c45 => ((idx O s40.2).bind fun c46 => ((field_Mul true (inv (co V 0)) (c45 ^^^ c46)).bind fun r47 => ((iterC (fun s49 : List UInt8 × Int => (if s49.2 < ((a + 1 : Nat) : Int) then ((idx s49.1 ((wI ((wI ((wI (s49.2 - 1)) * (n : Int))) + s40.2)))).bind fun c54 => ((idx V s49.2).bind fun c55 => ((field_Mul true r47 c55).bind fun r56 =>
        some (.inl ((s49.1.set ((wI ((wI ((wI (s49.2 - 1)) * (n : Int))) + s40.2)) : Int).toNat ((c54 ^^^ r56))), (wI (s49.2 + 1))))))) else some (.inr s49.1))) (s40.1, 1)).bind fun x49 => some (.inl (x49, (wI (s40.2 + 1)))))))) else some (.inr s40.1)))
      ⟨lM, fun k j hk hj => by rw [if_neg (by omega)]⟩
      (fun i z hi hI => by
        obtain ⟨zl, hz⟩ := hI
        obtain ⟨y, f1, f2, f3⟩ := iterC_from (s0 := z) (fun kk y => y.length = a * n ∧ ∀ k j, k < a → j < n → co y (k * n + j) = if j < i ∨ (j = i ∧ k + 1 < kk) then co M (k * n + j) ^^^ mul (dd j) (co V (k + 1)) else co M (k * n + j)) 1 (a + 1) (by omega) (fun y : List UInt8 => y.length = a * n ∧ ∀ k j, k < a → j < n → co y (k * n + j) = if j < i + 1 then co M (k * n + j) ^^^ mul (dd j) (co V (k + 1)) else co M (k * n + j))
          (body := fun s49 : List UInt8 × Int => (if s49.2 < ((a + 1 : Nat) : Int) then ((idx s49.1 ((wI ((wI ((wI (s49.2 - 1)) * (n : Int))) + (i : Int))))).bind fun c54 => ((idx V s49.2).bind fun c55 => ((field_Mul true (dd i) c55).bind fun r56 => some (.inl ((s49.1.set ((wI ((wI ((wI (s49.2 - 1)) * (n : Int))) + (i : Int))) : Int).toNat ((c54 ^^^ r56))), (wI (s49.2 + 1))))))) else some (.inr s49.1)))
          ⟨zl, fun k j hk hj => by
            rw [hz k j hk hj]
            have : (j < i ∨ (j = i ∧ k + 1 < 1)) ↔ j < i := by omega
            simp only [this]⟩
          (fun kk y hk1 hk2 hI => by
            obtain ⟨yl, hy⟩ := hI
            obtain ⟨k0, rfl⟩ : ∃ k0, kk = k0 + 1 := ⟨kk - 1, by omega⟩
            have hlt : (k0 + 1) * n ≤ a * n := Nat.mul_le_mul_right n (by omega)
            rw [Nat.succ_mul] at hlt
            have em : ((k0 : Int) * (n : Int)) = ((k0 * n : Nat) : Int) := (Int.natCast_mul _ _).symm
            have ei : wI (wI (wI (((k0 + 1 : Nat) : Int) - 1) * (n : Int)) + (i : Int)) = ((k0 * n + i : Nat) : Int) := by
              rw [wI_pred _ (by omega) (by omega), Nat.add_sub_cancel, em, wI_nat (by omega), wI_add _ _ (by omega)]
            refine ⟨y.set (k0 * n + i) (co y (k0 * n + i) ^^^ mul (dd i) (co V (k0 + 1))), ?_, by simpa using yl, fun k j hk hj => ?_⟩
            · simp only
              rw [if_pos (by omega), ei, idx_co (by omega), Option.bind_some, idx_co (by omega), Option.bind_some, Mul_eq, Option.bind_some, wI_succ _ (by omega), Int.toNat_natCast]
            · rw [co_set (by omega)]
              by_cases he : k * n + j = k0 * n + i
              · have h1 : (k * n + j) % n = (k0 * n + i) % n := by rw [he]
                rw [Nat.mul_comm k n, Nat.mul_comm k0 n, Nat.mul_add_mod, Nat.mul_add_mod, Nat.mod_eq_of_lt hj, Nat.mod_eq_of_lt hi] at h1
                have h2 : k = k0 := by
                  have : k * n = k0 * n := by omega
                  exact Nat.eq_of_mul_eq_mul_right (by omega) this
                subst h1; subst h2
                rw [if_pos rfl, hy k j hk hj, if_neg (by omega), if_pos (by omega)]
              · rw [if_neg he, hy k j hk hj]
                have : (j < i ∨ (j = i ∧ k + 1 < k0 + 1 + 1)) ↔ (j < i ∨ (j = i ∧ k + 1 < k0 + 1)) := by
                  constructor
                  · rintro (h | ⟨h1, h2⟩)
                    · exact .inl h
                    · refine .inr ⟨h1, ?_⟩
                      have : k ≠ k0 := fun e => he (by rw [h1, e])
                      omega
                  · rintro (h | ⟨h1, h2⟩)
                    · exact .inl h
                    · exact .inr ⟨h1, by omega⟩
                simp only [this])
          (fun y hI => ⟨y, by simp, hI.1, fun k j hk hj => by
            rw [hI.2 k j hk hj]
            have : (j < i ∨ (j = i ∧ k + 1 < a + 1)) ↔ j < i + 1 := by omega
            simp only [this]⟩)
        rw [show ((1 : Nat) : Int) = 1 from rfl] at f1
        refine ⟨y, ?_, f2, f3⟩
        simp only
        rw [if_pos (by omega), idx_co (by omega), Option.bind_some, idx_co (by omega), Option.bind_some, Mul_eq, Option.bind_some, hddi i, f1, Option.bind_some, wI_succ i (by omega)])
      (fun z hI => ⟨z, by simp, eq_of_co (by rw [hI.1, swp_len]) (fun w => by
        by_cases hw : w < a * n
        · have hn0 : 0 < n := Nat.pos_of_ne_zero (fun e => by rw [e] at hw; simp at hw)
          have hwe : w = w / n * n + w % n := by rw [Nat.mul_comm]; exact (Nat.div_add_mod w n).symm
          have hk : w / n < a := (Nat.div_lt_iff_lt_mul hn0).2 hw
          have hj := Nat.mod_lt w hn0
          rw [hwe, hI.2 _ _ hk hj, if_pos hj, co_swp M V dd a n _ _ hk hj]
        · rw [co_ge (by rw [hI.1]; omega), co_ge (by rw [swp_len]; omega)])⟩)
    rw [e1, e2]
  rw [loop1, Option.bind_some]
  have lS := swp_len M V (fun i => mul (inv (co V 0)) (co s i ^^^ co O i)) a s.length
  have hcS : ∀ k i, k < a → i < s.length → co (swp M V (fun i => mul (inv (co V 0)) (co s i ^^^ co O i)) a s.length) (k * s.length + i) = co M (k * s.length + i) ^^^ mul (mul (inv (co V 0)) (co s i ^^^ co O i)) (co V (k + 1)) := fun k i hk hi => co_swp _ _ _ _ _ _ _ hk hi
  generalize swp M V (fun i => mul (inv (co V 0)) (co s i ^^^ co O i)) a s.length = S at *
  rw [Split_ok a s M P (by omega) lM (by omega) (by omega) p4 (by omega), Option.bind_some, Split_ok a O S P (by omega) (by rw [lS, lO]) (by omega) (by omega) p4 (by omega), Option.bind_some]
  have same : ∀ x ∈ P, shr s M a x = shr O S a x := by
    intro x hx
    refine eq_of_co (by rw [shr_len, shr_len, lO]) fun i => ?_
    by_cases hi : i < s.length
    · rw [co_shr _ _ _ _ _ hi, co_shr _ _ _ _ _ (by omega)]
      have : Sim (colp O S a i) (pplus (colp s M a i) (V.map (mul (mul (inv (co V 0)) (co s i ^^^ co O i))))) := by
        intro j
        rw [co_pplus, co_map]
        cases j with
        | zero =>
          simp only [colp, co_zero]
          rw [mul_comm (inv (co V 0)), mul_assoc, inv_mul hv0, mul_one, xor_cancel]
        | succ k =>
          simp only [colp, co_succ]
          by_cases hk : k < a
          · rw [co_rowsp _ _ _ _ _ hk, co_rowsp _ _ _ _ _ hk, lO, hcS k i hk hi]
          · rw [co_ge (by rw [rowsp_len]; omega), co_ge (by rw [rowsp_len]; omega), co_ge (show V.length ≤ k + 1 by omega), mul_zero, xor_zero]
      rw [ev_sim _ _ x this, ev_pplus, ev_map, (hroot x).2 hx, mul_zero, xor_zero]
    · rw [co_ge (by rw [shr_len]; omega), co_ge (by rw [shr_len]; omega)]
  have hmap : P.map (shr O S a) = P.map (shr s M a) := List.map_congr_left fun x hx => (same x hx).symm
  rw [hmap]
  simp only
  rw [if_pos trivial, if_pos trivial, if_pos trivial]
  have idm : ∀ (f : UInt8 → List UInt8) (i : Nat), i < P.length → idx (P.map f) (i : Int) = some (f (co P i)) := fun f i hi => by rw [idx_nat, List.getElem?_map, co_get hi]; rfl
  have loop2 : iterC (fun s72 : Int => (if s72 < ((P.map (shr s M a)).length : Int) then ((idx (P.map (shr s M a)) s72).bind fun c77 => ((idx (P.map (shr s M a)) s72).bind fun c79 => (if c77 = c79 then some (.inl (wI (s72 + 1))) else some (.inr (Sum.inr (α := Unit) false))))) else some (.inr (.inl ())))) 0 = some (.inl ()) := by
    refine iterC_count (fun i => (i : Int)) P.length _ rfl ?_ ?_
    · intro i hi
      rw [if_pos (by rw [List.length_map]; omega), idm _ i hi]
      simp only [Option.bind_some, if_true]
      rw [wI_succ i (by omega)]
    · rw [if_neg (by rw [List.length_map]; omega)]
  rw [loop2, Option.bind_some, Sum.elim_inl]
  by_cases hS0 : S.length = 0
  · rw [if_pos (by omega)]
  rw [if_neg (by omega)]
  have hn0 : 0 < s.length := Nat.pos_of_ne_zero (fun e => hS0 (by rw [lS, e, Nat.mul_zero]))
  have ha0 : 0 < a := Nat.pos_of_ne_zero (fun e => hS0 (by rw [lS, e, Nat.zero_mul]))
  have hL : (UInt64.ofInt (S.length : Int)).toNat = S.length := by
    rw [UInt64.ofInt]; simp; omega
  have hLne : UInt64.ofInt (S.length : Int) ≠ 0 := fun e => by rw [e] at hL; simp at hL; omega
  have hz : (UInt64.ofInt bent % UInt64.ofInt (S.length : Int)).toNat < S.length := by
    rw [UInt64.toNat_mod, hL]; exact Nat.mod_lt _ (by omega)
  generalize (UInt64.ofInt bent % UInt64.ofInt (S.length : Int)).toNat = z at *
  have hδ : (1 : UInt8) + (UInt64.ofInt bent % 255).toUInt8 ≠ 0 := by
    have hb : (UInt64.ofInt bent % 255).toNat < 255 := by rw [UInt64.toNat_mod]; exact Nat.mod_lt _ (by decide)
    intro e
    have := congrArg UInt8.toNat e
    simp at this
    simp at hb
    omega
  generalize (1 : UInt8) + (UInt64.ofInt bent % 255).toUInt8 = δ at *
  have hnz : nz (UInt64.ofInt (S.length : Int)) = some () := by unfold nz; rw [if_neg hLne]
  rw [hnz, Option.bind_some, wI_nat (by omega), idx_co hz, Option.bind_some, Int.toNat_natCast, Split_ok a O (S.set z (co S z ^^^ δ)) P (by omega) (by rw [List.length_set, lS, lO]) (by omega) (by rw [List.length_set]; omega) p4 (by omega), Option.bind_some]
  simp only
  have hP0 : co P 0 ∈ P := co_mem (by omega)
  have hx0 : co P 0 ≠ 0 := fun e => p4 (e ▸ hP0)
  have hdiff : shr s M a (co P 0) ≠ shr O (S.set z (co S z ^^^ δ)) a (co P 0) := by
    rw [same _ hP0]
    intro e
    have hi : z % s.length < s.length := Nat.mod_lt _ hn0
    have hk : z / s.length < a := (Nat.div_lt_iff_lt_mul hn0).2 (by rw [← lS]; exact hz)
    have hwe : z = z / s.length * s.length + z % s.length := by rw [Nat.mul_comm]; exact (Nat.div_add_mod z s.length).symm
    have e1 := congrArg (fun l => co l (z % s.length)) e
    rw [co_shr _ _ _ _ _ (by omega), co_shr _ _ _ _ _ (by omega)] at e1
    have hset : colp O (S.set z (co S z ^^^ δ)) a (z % s.length) = (colp O S a (z % s.length)).set (z / s.length + 1) (co (colp O S a (z % s.length)) (z / s.length + 1) ^^^ δ) := by
      refine eq_of_co (by rw [List.length_set, colp_len, colp_len]) fun j => ?_
      rw [co_set (by rw [colp_len]; omega)]
      cases j with
      | zero => rw [if_neg (show ¬ (0 = z / s.length + 1) from fun e => Nat.noConfusion e)]; rfl
      | succ k =>
        simp only [colp, co_succ]
        by_cases hka : k < a
        · rw [co_rowsp _ _ _ _ _ hka, co_rowsp _ _ _ _ _ hka, co_rowsp _ _ _ _ _ hk, lO, co_set hz]
          by_cases hkz : k = z / s.length
          · subst hkz
            rw [if_pos hwe.symm, if_pos rfl, ← hwe]
          · have : ¬ k * s.length + z % s.length = z := fun e => hkz (by
              have : k * s.length = z / s.length * s.length := by omega
              exact Nat.eq_of_mul_eq_mul_right hn0 this)
            rw [if_neg this, if_neg (by omega)]
        · rw [co_ge (by rw [rowsp_len]; omega), if_neg (by omega), co_ge (by rw [rowsp_len]; omega)]
    rw [hset, ev_set _ _ _ _ (by rw [colp_len]; omega)] at e1
    have e2 : mul δ (pow (co P 0) (z / s.length + 1)) = 0 := by
      have := congrArg (fun y => evp (colp O S a (z % s.length)) (co P 0) ^^^ y) e1
      simp only [xor_self, xor_cancel] at this
      exact this.symm
    exact mul_ne hδ (pow_ne hx0 _) e2
  have i1 := idm (shr s M a) 0 (by omega)
  have i2 := idm (shr O (S.set z (co S z ^^^ δ)) a) 0 (by omega)
  rw [show ((0 : Nat) : Int) = 0 from rfl] at i1 i2
  rw [iterC_step, if_pos (by rw [List.length_map]; omega), i1, Option.bind_some, i2, Option.bind_some, if_neg hdiff]
  rfl
end Gk

/- Chapter 8: the law ShamirJoins. No condition. -/
import Derived.Test.YtabcmfkmddlaaaaL8e
import Derived.Test.YtabcmfkmddlaaaaNd0
set_option linter.unusedSimpArgs false
set_option linter.unusedVariables false
namespace Gk
open Gf
theorem Delta_ok (q : Nat) (m xs : List UInt8) (n : Nat) (hq : q ≤ 254) (hm : m.length = q * n) (hn : n ≤ 1000) (hmm : m.length ≤ most) (hx : (0 : UInt8) ∉ xs) (hxl : xs.length ≤ most) : shamir_Delta true ((q + 1 : Nat) : Int) m xs (n : Int) = some (xs.map (shr (List.replicate n 0) m q), 0) := by
  unfold shamir_Delta
  have h1000 : 1000 ≤ most := by decide
  rw [if_neg (by simp), if_neg (by omega), if_neg (by omega), makeL_nat _ _ (by omega), Option.bind_some, Split_ok q _ m xs hq (by rw [List.length_replicate]; exact hm) (by simp; omega) hmm hx hxl]
  rfl
theorem Add_lens (a b : List (List UInt8)) (h : a.length ≠ b.length) : shamir_Add a b = some ([], 1) := by
  unfold shamir_Add
  rw [if_neg (by omega)]
theorem law08_ShamirJoins_true (t more : Int) (s m dl xs : List UInt8) (x : UInt8) (lo : -9223372036854775808 ≤ t) (hi : t ≤ 9223372036854775807) (lo' : -9223372036854775808 ≤ more) (hi' : more ≤ 9223372036854775807) (_ : s.length ≤ 9223372036854775807) (_ : m.length ≤ 9223372036854775807) (_ : dl.length ≤ 9223372036854775807) (hxs : xs.length ≤ 9223372036854775807) : law08_ShamirJoins t more s m dl xs x = some true := by
  unfold law08_ShamirJoins
  rw [lives8, Option.bind_some, if_neg (by decide)]
  by_cases hs : 20 < (s.length : Int)
  · rw [if_pos hs]; rfl
  rw [if_neg hs]
  have h := h257
  have hmo := most_lt'
  have h1000 : 1000 ≤ most := by decide
  have ha : (UInt64.ofInt t % 8).toNat < 8 := by rw [UInt64.toNat_mod]; exact Nat.mod_lt _ (by decide)
  have hc : (UInt64.ofInt more % 5).toNat < 5 := by rw [UInt64.toNat_mod]; exact Nat.mod_lt _ (by decide)
  generalize (UInt64.ofInt t % 8).toNat = a at *
  generalize (UInt64.ofInt more % 5).toNat = c at *
  have ea : wI (1 + wI (a : Int)) = ((a + 1 : Nat) : Int) := by rw [wI_nat (by omega), wI_of (by omega) (by omega)]; omega
  have hle : a * s.length ≤ 7 * 20 := Nat.mul_le_mul (by omega) (by omega)
  have e2 : wI ((a : Int) * (s.length : Int)) = ((a * s.length : Nat) : Int) := by rw [← Int.natCast_mul]; exact wI_nat (by omega)
  have e3 : wI (((a + 1 : Nat) : Int) - 1) = (a : Int) := by rw [wI_pred _ (by omega) (by omega), Nat.add_sub_cancel]
  have e4 : wI (((a + 1 : Nat) : Int) + wI (c : Int)) = ((a + 1 + c : Nat) : Int) := by rw [wI_nat (n := c) (by omega), wI_add _ _ (by omega)]
  simp only [ea, e3, e2, e4]
  obtain ⟨P, p1, p2, p3, p4⟩ := Unlike_eq xs (a + 1 + c) (by omega) hxs
  rw [p1, Option.bind_some, Made_eq _ _ (by omega), Option.bind_some, Made_eq _ _ (by omega), Option.bind_some]
  have lm := mad_len m (a * s.length)
  have ld := mad_len dl (a * s.length)
  generalize mad m (a * s.length) = M at *
  generalize mad dl (a * s.length) = D at *
  simp only [field_New, Option.bind_some]
  have lz : (List.replicate s.length (0 : UInt8)).length = s.length := List.length_replicate
  rw [Split_ok a s M P (by omega) lm (by omega) (by omega) p4 (by omega), Option.bind_some, Delta_ok a D P s.length (by omega) ld (by omega) (by omega) p4 (by omega), Option.bind_some,
    Add_map P (shr s M a) (shr (List.replicate s.length 0) D a) s.length (fun x => shr_len _ _ _ _) (fun x => by rw [shr_len, lz]) (by omega) (by omega), Option.bind_some]
  have hsum : (fun x => pplus (shr s M a x) (shr (List.replicate s.length 0) D a x)) = shr s (pplus M D) a := by
    funext x
    rw [shr_add _ _ _ _ _ _ lz.symm]
    congr 1
    exact eq_of_co (co_pplus_eq lz.symm) (fun i => by rw [co_pplus, co_rep, xor_zero])
  rw [hsum]
  have l2 : (pplus M D).length = a * s.length := by rw [co_pplus_eq (by rw [ld, lm]), lm]
  simp only
  rw [if_pos trivial, if_pos trivial, if_pos trivial]
  obtain ⟨y, ey, hy⟩ : ∃ y : UInt8, (if x = (0 : UInt8) then some (1 : UInt8) else some x) = some y ∧ y ≠ 0 := by
    by_cases hx : x = 0
    · exact ⟨1, by rw [if_pos hx], by decide⟩
    · exact ⟨x, by rw [if_neg hx], hx⟩
  rw [ey, Option.bind_some, Share_ok a s M y (by omega) lm (by omega) (by omega) hy, Option.bind_some]
  simp only [List.length_map]
  have loop : iterC (fun s31 : Int => (if s31 ≤ (P.length : Int) then ((subL P ((wI ((P.length : Int) - s31))) ((P.length : Int))).bind fun c34 => ((subL (P.map (shr s M a)) ((wI ((P.length : Int) - s31))) ((P.length : Int))).bind fun c35 => ((shamir_Join true c34 c35).bind fun r36 =>
      ((subL (P.map (shr s (pplus M D) a)) ((wI ((P.length : Int) - s31))) ((P.length : Int))).bind fun c38 => ((shamir_Join true c34 c38).bind fun r39 => ((subL (P.map (shr s M a)) ((wI ((P.length : Int) - s31))) ((P.length : Int))).bind fun c41 => ((shamir_At true c34 c41 y).bind fun r42 =>
      (if r36.2 = 0 then (if r39.2 = 0 then (if r42.2 = 0 then (if r36.1 = s then (if r39.1 = s then (if r42.1 = shr s M a y then some (.inl (wI (s31 + 1))) else some (.inr (Sum.inr (α := Unit) false))) else some (.inr (.inr false))) else some (.inr (.inr false))) else some (.inr (.inr false))) else some (.inr (.inr false))) else some (.inr (.inr false)))))))))) else some (.inr (.inl ())))) ((a + 1 : Nat) : Int) = some (.inl ()) := by
    refine iterC_count (fun k : Nat => ((a + 1 + k : Nat) : Int)) (c + 1) _ rfl ?_ ?_
    · intro k hk
      have hsl : ∀ (l : List UInt8), l.length = P.length → subL l (wI ((P.length : Int) - ((a + 1 + k : Nat) : Int))) (P.length : Int) = some (l.drop (P.length - (a + 1 + k))) := fun l hl => by
        rw [wI_sub _ _ (by omega) (by omega), subL_nat _ _ _ (by omega) (by omega), ← hl, List.take_of_length_le (Nat.le_refl _)]
      have hsm : ∀ (f : UInt8 → List UInt8), subL (P.map f) (wI ((P.length : Int) - ((a + 1 + k : Nat) : Int))) (P.length : Int) = some ((P.drop (P.length - (a + 1 + k))).map f) := fun f => by
        rw [wI_sub _ _ (by omega) (by omega), subL_nat _ _ _ (by omega) (by simp), List.take_of_length_le (by simp), List.map_drop]
      have hsP := hsl P rfl
      have hF : (P.drop (P.length - (a + 1 + k))).Nodup := p3.sublist (List.drop_sublist _ _)
      have hFl : (P.drop (P.length - (a + 1 + k))).length = a + 1 + k := by simp; omega
      generalize P.drop (P.length - (a + 1 + k)) = F at *
      have hat : ∀ (s' m' : List UInt8) (z : UInt8), s'.length = s.length → shamir_At true F (F.map (shr s' m' a)) z = some (shr s' m' a z, 0) := fun s' m' z hs' => by
        rw [At_ok F _ s'.length z (by simp) (by omega) (by omega) hF (fun r hr => by
          obtain ⟨u, _, rfl⟩ := List.mem_map.1 hr
          exact shr_len _ _ _ _) (by omega), atv_shr s' m' a F z hF (by omega)]
      rw [if_pos (by omega), hsP, Option.bind_some, hsm, Option.bind_some, Join_eq, hat s M 0 rfl, Option.bind_some, hsm, Option.bind_some, Join_eq, hat s (pplus M D) 0 rfl, Option.bind_some, Option.bind_some, hat s M y rfl, Option.bind_some]
      simp only [shr_zero]
      rw [if_pos trivial, if_pos trivial, if_pos trivial, if_pos trivial, if_pos trivial, if_pos trivial, wI_succ _ (by omega)]
      rfl
    · rw [if_neg (by omega)]
  rw [loop, Option.bind_some, Sum.elim_inl]
  have hs1 := subL_nat (P.map (shr s M a)) 1 P.length (by omega) (by simp)
  rw [show ((1 : Nat) : Int) = 1 from rfl] at hs1
  rw [hs1, Option.bind_some, Add_lens _ _ (by simp; omega), Option.bind_some, if_pos rfl]
end Gk

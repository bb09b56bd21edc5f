/- Chapter 8: the law ShamirAdds. No condition. -/
import Derived.Test.YtabcmfkmddlaaaaL8d
import Derived.Test.YtabcmfkmddlaaaaNd0
set_option linter.unusedSimpArgs false
set_option linter.unusedVariables false
namespace Gk
open Gf
theorem law08_ShamirAdds_true (t : Int) (s o m dl xs : List UInt8) (lo : -9223372036854775808 ≤ t) (hi : t ≤ 9223372036854775807) (_ : s.length ≤ 9223372036854775807) (_ : o.length ≤ 9223372036854775807) (_ : m.length ≤ 9223372036854775807) (_ : dl.length ≤ 9223372036854775807) (hxs : xs.length ≤ 9223372036854775807) : law08_ShamirAdds t s o m dl xs = some true := by
  unfold law08_ShamirAdds
  rw [lives8, Option.bind_some, if_neg (by decide)]
  by_cases hs : 20 < (s.length : Int)
  · rw [if_pos hs]; rfl
  rw [if_neg hs]
  have h := h257
  have hmo := most_lt'
  have h1000 : 1000 ≤ most := by decide
  have ha : (UInt64.ofInt t % 8).toNat < 8 := by rw [UInt64.toNat_mod]; exact Nat.mod_lt _ (by decide)
  generalize (UInt64.ofInt t % 8).toNat = a at *
  have ea : wI (1 + wI (a : Int)) = ((a + 1 : Nat) : Int) := by rw [wI_nat (by omega), wI_of (by omega) (by omega)]; omega
  have hle : a * s.length ≤ 7 * 20 := Nat.mul_le_mul (by omega) (by omega)
  have e2 : wI ((a : Int) * (s.length : Int)) = ((a * s.length : Nat) : Int) := by rw [← Int.natCast_mul]; exact wI_nat (by omega)
  have e3 : wI (((a + 1 : Nat) : Int) - 1) = (a : Int) := by rw [wI_pred _ (by omega) (by omega), Nat.add_sub_cancel]
  have e4 : wI (((a + 1 : Nat) : Int) + 2) = ((a + 3 : Nat) : Int) := by rw [wI_of (by omega) (by omega)]; omega
  simp only [ea, e3, e2, e4]
  rw [Made_eq _ _ (by omega), Option.bind_some, Made_eq _ _ (by omega), Option.bind_some, Made_eq _ _ (by omega), Option.bind_some]
  have lo' := mad_len o s.length
  have lm := mad_len m (a * s.length)
  have ld := mad_len dl (a * s.length)
  generalize mad o s.length = O at *
  generalize mad m (a * s.length) = M at *
  generalize mad dl (a * s.length) = D at *
  obtain ⟨P, p1, p2, p3, p4⟩ := Unlike_eq xs (a + 3) (by omega) hxs
  rw [p1, Option.bind_some]
  simp only [field_New, Option.bind_some]
  rw [Split_ok a s M P (by omega) lm (by omega) (by omega) p4 (by omega), Option.bind_some, Split_ok a O D P (by omega) (by rw [ld, lo']) (by omega) (by omega) p4 (by omega), Option.bind_some,
    Add_map P (shr s M a) (shr O D a) s.length (fun x => shr_len _ _ _ _) (fun x => by rw [shr_len, lo']) (by omega) (by omega), Option.bind_some]
  rw [xorLoop O s lo' O.length rfl (fun z i hi hz => by simp only; rw [if_pos (by omega), idx_co (by omega), Option.bind_some, idx_co (by omega), Option.bind_some, wI_succ i (by omega), Int.toNat_natCast]) (fun z => by simp), Option.bind_some]
  rw [xorLoop D M (by rw [ld, lm]) D.length rfl (fun z i hi hz => by simp only; rw [if_pos (by omega), idx_co (by omega), Option.bind_some, idx_co (by omega), Option.bind_some, wI_succ i (by omega), Int.toNat_natCast]) (fun z => by simp), Option.bind_some]
  have l1 : (pplus O s).length = s.length := by rw [co_pplus_eq lo', lo']
  have l2 : (pplus D M).length = a * s.length := by rw [co_pplus_eq (by rw [ld, lm]), ld]
  rw [Split_ok a (pplus O s) (pplus D M) P (by omega) (by rw [l1, l2]) (by omega) (by omega) p4 (by omega), Option.bind_some]
  have hsum : (fun x => pplus (shr s M a x) (shr O D a x)) = shr (pplus O s) (pplus D M) a := by
    funext x
    rw [shr_add s O M D a x lo'.symm, pplus_comm_eq lo', pplus_comm_eq (show D.length = M.length by rw [ld, lm])]
  rw [hsum]
  simp only
  rw [if_pos trivial, if_pos trivial, if_pos trivial, if_pos trivial, if_pos trivial]
  have loop : iterC (fun s57 : Int => (if s57 < ((P.map (shr (pplus O s) (pplus D M) a)).length : Int) then ((idx (P.map (shr (pplus O s) (pplus D M) a)) s57).bind fun c62 => ((idx (P.map (shr (pplus O s) (pplus D M) a)) s57).bind fun c64 => (if c62 = c64 then some (.inl (wI (s57 + 1))) else some (.inr (Sum.inr (α := Unit) false))))) else some (.inr (.inl ())))) 0 = some (.inl ()) := by
    refine iterC_count (fun i => (i : Int)) P.length _ rfl ?_ ?_
    · intro i hi
      have : idx (P.map (shr (pplus O s) (pplus D M) a)) (i : Int) = some (shr (pplus O s) (pplus D M) a (co P i)) := by rw [idx_nat, List.getElem?_map, co_get hi]; rfl
      rw [if_pos (by rw [List.length_map]; omega), this]
      simp only [Option.bind_some, if_true]
      rw [wI_succ i (by omega)]
    · rw [if_neg (by rw [List.length_map]; omega)]
  rw [loop]
  rfl
end Gk

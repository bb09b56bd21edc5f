/- Chapter 3: the law PolyLong. No condition. -/
import Derived.Test.YteinpdignnpbgaaL3e
import Derived.Test.YteinpdignnpbgaaMx0
import Derived.Test.YteinpdignnpbgaaMs0
set_option linter.unusedSimpArgs false
set_option linter.unusedVariables false
namespace Gk
open Gf

/-- Noughts, and 1 on top. -/
def top1 (a : Nat) : List UInt8 := (List.replicate (a + 1) 0).set a 1
theorem top1_len (a : Nat) : (top1 a).length = a + 1 := by simp [top1]
theorem top1_trim (a : Nat) : trim (top1 a) = top1 a := trim_id fun _ => by
  rw [top1_len, Nat.add_sub_cancel]
  unfold top1
  rw [co_set (by simp), if_pos rfl]
  decide
theorem longLoop : ∃ x : List UInt8, iterC (fun s40 : List UInt8 × Int => (if s40.2 < ((List.replicate 255 (0 : UInt8)).length : Int) then ((idx s40.1 s40.2).bind fun c43 => some (.inl ((s40.1.set (s40.2 : Int).toNat ((UInt8.ofInt s40.2))), (wI (s40.2 + 1))))) else some (.inr s40.1))) (List.replicate 255 (0 : UInt8), 0) = some x ∧ x.length = 255 := by
  refine iterC_up (fun i s => s.length = 255) 255 _ List.length_replicate ?_ ?_
  · intro i s hi hl
    refine ⟨s.set i (UInt8.ofInt i), by show (if _ then _ else _) = _; rw [if_pos (by rw [List.length_replicate]; omega), idx_co (show i < s.length by omega), Option.bind_some, wI_succ i (by omega), Int.toNat_natCast], by rw [List.length_set]; exact hl⟩
  · intro s hl
    exact ⟨s, by show (if _ then _ else _) = _; rw [if_neg (by rw [List.length_replicate]; omega)], hl⟩
theorem law03_PolyLong_true (n m : Int) (lo0 : -9223372036854775808 ≤ n) (hi0 : n ≤ 9223372036854775807) (lo1 : -9223372036854775808 ≤ m) (hi1 : m ≤ 9223372036854775807) : law03_PolyLong n m = some true := by
  unfold law03_PolyLong
  rw [lives3, Option.bind_some, if_neg (by decide)]
  have ha : (UInt64.ofInt n % 256).toNat < 256 := by
    rw [UInt64.toNat_mod]; exact Nat.mod_lt _ (by decide)
  have hb : (UInt64.ofInt m % 256).toNat < 256 := by
    rw [UInt64.toNat_mod]; exact Nat.mod_lt _ (by decide)
  generalize (UInt64.ofInt n % 256).toNat = a at *
  generalize (UInt64.ofInt m % 256).toNat = b at *
  have ea : wI (1 + wI (a : Int)) = ((a + 1 : Nat) : Int) := by rw [wI_nat (by omega), wI_of (by omega) (by omega)]; omega
  have eb : wI (1 + wI (b : Int)) = ((b + 1 : Nat) : Int) := by rw [wI_nat (by omega), wI_of (by omega) (by omega)]; omega
  have h := h257
  have hm := most_lt'
  have e255 := makeL_nat 255 (0 : UInt8) (by omega)
  rw [show ((255 : Nat) : Int) = 255 from rfl] at e255
  simp only [ea, eb, makeL_nat _ _ (show a + 1 ≤ most by omega), makeL_nat _ _ (show b + 1 ≤ most by omega), Option.bind_some, field_New, e255]
  rw [wI_pred (a + 1) (by omega) (by omega), wI_pred (b + 1) (by omega) (by omega), Nat.add_sub_cancel, Nat.add_sub_cancel, idx_co (by simp), Option.bind_some, idx_co (by simp), Option.bind_some, Int.toNat_natCast, Int.toNat_natCast]
  change ((poly_Mul true (top1 a) (top1 b)).bind _) = _
  have la := top1_len a
  have lb := top1_len b
  have ta := top1_trim a
  have tb := top1_trim b
  have na : top1 a ≠ [] := fun e => by rw [e] at la; simp at la
  have nb : top1 b ≠ [] := fun e => by rw [e] at lb; simp at lb
  have es : wI (wI (((a + 1 : Nat) : Int) + ((b + 1 : Nat) : Int)) - 1) = ((a + b + 1 : Nat) : Int) := by
    rw [wI_add _ _ (by omega), wI_pred _ (by omega) (by omega)]; omega
  have es2 : wI (wI (((a + 1 : Nat) : Int) + ((b + 1 : Nat) : Int)) - 2) = ((a + b : Nat) : Int) := by
    rw [wI_add _ _ (by omega), wI_of (by omega) (by omega)]; omega
  have p1 := poly_Mul_nil (top1 a) (top1 b) (by omega) (by omega)
  have p2 := poly_DivMod_nil (top1 a) (top1 b) (by omega)
  have p3 := poly_Through_nil [1] [1] (by simp; omega) rfl
  have p4 := poly_Weights_nil [] 1 (by simp)
  obtain ⟨x, l1, l2⟩ := longLoop
  have v1 := poly_Vanish_eq x (by omega)
  have v2 := van_length x
  have v3 : appL x [255] = some (x ++ [255]) := by unfold appL; rw [if_pos (by simp; omega)]
  have v4 := poly_Vanish_long true (x ++ [255]) (by simp; omega)
  by_cases hlong : 257 < (top1 a).length + (top1 b).length
  · rw [poly_Mul_long _ _ (by omega) (by omega) (by rw [ta]; exact na) (by rw [tb]; exact nb) (by rw [ta, tb]; exact hlong)]
    simp only [Option.bind_some, es, es2]
    rw [if_pos (by omega), if_pos trivial, if_pos (by rfl), if_neg (by omega), l1]
    simp only [Option.bind_some]
    rw [v1, Option.bind_some, v3, Option.bind_some, v4, Option.bind_some, p3, Option.bind_some, p4, Option.bind_some]
    change ((poly_Mul false (top1 a) (top1 b)).bind fun _ => (poly_DivMod false (top1 a) (top1 b)).bind _) = _
    rw [p1, Option.bind_some, p2, Option.bind_some]
    simp [v2, l2]
  · rw [poly_Mul_eq _ _ (by omega) (by omega) (.inr (.inr (by rw [ta, tb]; omega)))]
    have dl : (trim (pmul (top1 a) (top1 b))).length = a + b + 1 := by rw [pmul_trim_len ta tb na nb]; omega
    simp only [Option.bind_some, es, es2]
    rw [if_neg (by omega), if_pos (by omega), if_pos trivial, poly_Degree_eq _ (by omega), Option.bind_some, trim_trim, dl, if_pos (by omega), l1]
    simp only [Option.bind_some]
    rw [v1, Option.bind_some, v3, Option.bind_some, v4, Option.bind_some, p3, Option.bind_some, p4, Option.bind_some]
    change ((poly_Mul false (top1 a) (top1 b)).bind fun _ => (poly_DivMod false (top1 a) (top1 b)).bind _) = _
    rw [p1, Option.bind_some, p2, Option.bind_some]
    simp [v2, l2]
end Gk

/- Chapter 3: vanishing polynomials. No condition. -/
import Derived.Test.YtabcmfkmddlaaaaMq
set_option linter.unusedSimpArgs false
set_option linter.unusedVariables false
namespace Gk
open Gf

/-! ### Vanishing polynomials -/
def vanStep (o : List UInt8) (a : UInt8) : List UInt8 := trim (pmul o [a, 1])
def van (xs : List UInt8) : List UInt8 := xs.foldl vanStep [1]
theorem trim_lin (a : UInt8) : trim [a, 1] = [a, 1] := trim_id (fun _ => by show (1 : UInt8) ≠ 0; decide)
theorem van_len : ∀ (xs o : List UInt8), trim o = o → o ≠ [] → (xs.foldl vanStep o).length = o.length + xs.length ∧ trim (xs.foldl vanStep o) = xs.foldl vanStep o
  | [], o, h, _ => ⟨rfl, h⟩
  | a :: xs, o, h, hne => by
    have hl : (vanStep o a).length = o.length + 1 := by
      unfold vanStep
      rw [pmul_trim_len h (trim_lin a) hne (by simp)]; simp
    have := van_len xs (vanStep o a) (trim_trim _) (fun e => by rw [e] at hl; simp at hl)
    rw [List.foldl_cons]
    exact ⟨by rw [this.1, hl, List.length_cons]; omega, this.2⟩
theorem trim_one : trim [1] = [1] := trim_id (fun _ => by show (1 : UInt8) ≠ 0; decide)
theorem van_length (xs : List UInt8) : (van xs).length = xs.length + 1 := by
  have := (van_len xs [1] trim_one (by simp)).1
  unfold van; rw [this]; simp; omega
theorem van_trim (xs : List UInt8) : trim (van xs) = van xs := (van_len xs [1] trim_one (by simp)).2
theorem van_snoc (xs : List UInt8) (a : UInt8) : van (xs ++ [a]) = vanStep (van xs) a := by unfold van; rw [List.foldl_append]; rfl
theorem poly_Vanish_eq (xs : List UInt8) (h : xs.length ≤ 255) : poly_Vanish true xs = some (van xs, 0) := by
  unfold poly_Vanish
  rw [if_neg (by simp), if_neg (by omega)]
  refine bind_of ?_ rfl
  refine iterC_count (fun i => (van (xs.take i), (i : Int))) xs.length (van xs) rfl ?_ ?_
  · intro i hi
    have h1 := van_length (xs.take i)
    have h2 : (xs.take i).length = i := by simp; omega
    have := h257
    simp only
    rw [if_pos (by omega), idx_co hi, Option.bind_some, poly_Mul_eq _ _ (by omega) (by simp; omega) (.inr (.inr (by rw [van_trim, trim_lin, h1, h2]; simp; omega))), Option.bind_some, wI_succ i (by omega), take_snoc hi, van_snoc]
    rfl
  · simp
theorem poly_Vanish_long (f : Bool) (xs : List UInt8) (h : 255 < xs.length) : poly_Vanish true xs = some ([], 4) := by
  unfold poly_Vanish
  rw [if_neg (by simp), if_pos (by omega)]
end Gk

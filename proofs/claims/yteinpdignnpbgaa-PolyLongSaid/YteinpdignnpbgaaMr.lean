/- Chapter 3: vanishing polynomials, the example, and the laws PolyRules and PolySums. No condition. -/
import Derived.Test.YteinpdignnpbgaaL3a
import Derived.Test.YteinpdignnpbgaaMq
set_option linter.unusedSimpArgs false
set_option linter.unusedVariables false
namespace Gk
open Gf

/-! ### Vanishing polynomials -/
def vanStep (o : List UInt8) (a : UInt8) : List UInt8 := trim (pmul o [a, 1])
def van (xs : List UInt8) : List UInt8 := xs.foldl vanStep [1]
theorem trim_lin (a : UInt8) : trim [a, 1] = [a, 1] := trim_id (fun _ => by show (1 : UInt8) ≠ 0; decide)
theorem van_len : ∀ (xs o : List UInt8), trim o = o → o ≠ [] → (xs.foldl vanStep o).length = o.length + xs.length ∧ trim (xs.foldl vanStep o) = xs.foldl vanStep o
  | [], o, h, _ => ⟨rfl, h⟩
  | a :: xs, o, h, hne => by
    have hl : (vanStep o a).length = o.length + 1 := by
      unfold vanStep
      rw [pmul_trim_len h (trim_lin a) hne (by simp)]; simp
    have := van_len xs (vanStep o a) (trim_trim _) (fun e => by rw [e] at hl; simp at hl)
    rw [List.foldl_cons]
    exact ⟨by rw [this.1, hl, List.length_cons]; omega, this.2⟩
theorem trim_one : trim [1] = [1] := trim_id (fun _ => by show (1 : UInt8) ≠ 0; decide)
theorem van_length (xs : List UInt8) : (van xs).length = xs.length + 1 := by
  have := (van_len xs [1] trim_one (by simp)).1
  unfold van; rw [this]; simp; omega
theorem van_trim (xs : List UInt8) : trim (van xs) = van xs := (van_len xs [1] trim_one (by simp)).2
theorem van_snoc (xs : List UInt8) (a : UInt8) : van (xs ++ [a]) = vanStep (van xs) a := by unfold van; rw [List.foldl_append]; rfl
theorem poly_Vanish_eq (xs : List UInt8) (h : xs.length ≤ 255) : poly_Vanish true xs = some (van xs, 0) := by
  unfold poly_Vanish
  rw [if_neg (by simp), if_neg (by omega)]
  refine bind_of ?_ rfl
  refine iterC_count (fun i => (van (xs.take i), (i : Int))) xs.length (van xs) rfl ?_ ?_
  · intro i hi
    have h1 := van_length (xs.take i)
    have h2 : (xs.take i).length = i := by simp; omega
    have := h257
    simp only
    rw [if_pos (by omega), idx_co hi, Option.bind_some, poly_Mul_eq _ _ (by omega) (by simp; omega) (.inr (.inr (by rw [van_trim, trim_lin, h1, h2]; simp; omega))), Option.bind_some, wI_succ i (by omega), take_snoc hi, van_snoc]
    rfl
  · simp
theorem poly_Vanish_long (f : Bool) (xs : List UInt8) (h : 255 < xs.length) : poly_Vanish true xs = some ([], 4) := by
  unfold poly_Vanish
  rw [if_neg (by simp), if_pos (by omega)]
theorem lives3 : law03_lives = some true := by
  unfold law03_lives
  simp only [field_New, Option.bind_some]
  rw [poly_Vanish_eq [1, 2] (by decide)]
  decide +kernel

theorem law03_PolyRules_true (p q o : List UInt8) (x : UInt8) : law03_PolyRules p q o x = some true := by
  unfold law03_PolyRules
  rw [lives3, Option.bind_some, if_neg (by decide)]
  by_cases hp : 60 < (p.length : Int)
  · rw [if_pos hp]; rfl
  rw [if_neg hp]
  by_cases hq : 60 < (q.length : Int)
  · rw [if_pos hq]; rfl
  rw [if_neg hq]
  by_cases ho : 60 < (o.length : Int)
  · rw [if_pos ho]; rfl
  rw [if_neg ho]
  have h := h257
  have tp := trim_le p
  have tq := trim_le q
  have to := trim_le o
  have hpl := pplus_len p q
  have ts := trim_le (pplus p q)
  have m1 := pmul_len p q
  have tm1 := trim_le (pmul p q)
  have m2 := pmul_len p o
  have tm2 := trim_le (pmul p o)
  have m3 := pmul_len q o
  have tm3 := trim_le (pmul q o)
  simp only [field_New, Option.bind_some]
  rw [poly_Mul_eq p q (by omega) (by omega) (.inr (.inr (by omega))), Option.bind_some, poly_Add_eq p q (by omega) (by omega), Option.bind_some, if_pos rfl,
    poly_Eval_eq _ x (by omega), Option.bind_some, poly_Eval_eq p x (by omega), Option.bind_some, poly_Eval_eq q x (by omega), Option.bind_some, Add_eq, Option.bind_some,
    if_pos (by rw [ev_trim, ev_pplus]), poly_Eval_eq _ x (by simp only; omega), Option.bind_some, Option.bind_some, Option.bind_some, Mul_eq, Option.bind_some,
    if_pos (by rw [ev_trim, ev_pmul]), poly_Mul_eq (trim (pplus p q)) o (by omega) (by omega) (.inr (.inr (by rw [trim_trim]; omega))), Option.bind_some,
    poly_Mul_eq p o (by omega) (by omega) (.inr (.inr (by omega))), Option.bind_some, poly_Mul_eq q o (by omega) (by omega) (.inr (.inr (by omega))), Option.bind_some,
    if_pos rfl, if_pos rfl, if_pos rfl, poly_Add_eq _ _ (by simp only; omega) (by simp only; omega), Option.bind_some, if_pos ?_, poly_Add_eq q p (by omega) (by omega), Option.bind_some]
  · simp only [Option.some.injEq, decide_eq_true_eq]
    exact trim_ext _ _ (pplus_comm p q)
  · refine trim_ext _ _ ?_
    exact (pmul_sim (trim_sim _) (Sim.refl o)).trans ((pmul_addL p q o).trans (pplus_sim (trim_sim _).symm (trim_sim _).symm))

theorem law03_PolySums_true (p q : List UInt8) (x : UInt8) : law03_PolySums p q x = some true := by
  unfold law03_PolySums
  rw [lives3, Option.bind_some, if_neg (by decide)]
  by_cases hp : 60 < (p.length : Int)
  · rw [if_pos hp]; rfl
  rw [if_neg hp]
  by_cases hq : 60 < (q.length : Int)
  · rw [if_pos hq]; rfl
  rw [if_neg hq]
  have h := h257
  have hm := most_lt'
  have tp := trim_le p
  have tq := trim_le q
  simp only [field_New, Option.bind_some]
  rw [appL_nil p (by omega), Option.bind_some, poly_Mul_eq p q (by omega) (by omega) (.inr (.inr (by omega))), Option.bind_some, maxI, makeL_nat _ _ (by omega), Option.bind_some]
  obtain ⟨s, e1, e2, e3⟩ := addLoop (max p.length q.length) p q (by omega) (by omega) (by omega)
    (body := fun s28 : List UInt8 × Int => (if s28.2 < (q.length : Int) then ((idx s28.1 s28.2).bind fun c33 => ((idx q s28.2).bind fun c34 => some (.inl ((s28.1.set (s28.2 : Int).toNat ((c33 ^^^ c34))), (wI (s28.2 + 1)))))) else some (.inr s28.1)))
    (fun s i hi hs => by
      simp only
      rw [if_pos (by omega), idx_co hs, Option.bind_some, idx_co hi, Option.bind_some, wI_succ i (by omega), Int.toNat_natCast])
    (fun s => by simp)
  rw [e1, Option.bind_some, if_pos rfl, ref03_Mul_eq p q (by omega), Option.bind_some, if_pos rfl, poly_Add_eq p q (by omega) (by omega), Option.bind_some, ref03_Trim_eq s (by omega), Option.bind_some,
    if_pos (trim_ext _ _ (fun j => by rw [co_pplus, e3])), if_pos rfl, poly_Eval_eq p x (by omega), Option.bind_some, ref03_Eval_eq p x (by omega), Option.bind_some, if_pos rfl, poly_Eval_nil p x (by omega), Option.bind_some, if_pos rfl,
    poly_Trim_eq p (by omega), Option.bind_some, ref03_Trim_eq p (by omega), Option.bind_some, if_pos rfl, poly_Degree_eq p (by omega), Option.bind_some, Option.bind_some]
  simp only [Option.some.injEq, decide_eq_true_eq]
  rw [wI_of (by omega) (by omega)]
end Gk

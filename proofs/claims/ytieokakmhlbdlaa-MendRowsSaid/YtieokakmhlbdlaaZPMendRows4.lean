/- Parts Pe, Na, Nd0, Pg, LAg, Pq, Px, Py, Pz, one behind the other. What is proved: said at the head of each part. No condition beside those said there. -/
import Derived.Test.YtieokakmhlbdlaaRows
import Derived.Orders
import Derived.Deep.Draws
import Derived.Laws.World
import Derived.KernelRfl
import Derived.OrdersIn
import Derived.TacticsIn
import Derived.RangeFuncCalls
import Derived.Deep.LoopGhost
import Derived.Tactics
import Derived.Sort.LoopGhostIn
import Derived.RangeFuncLeaves
import Derived.RangeFuncNested
import Derived.RangeFuncRecord
import Derived.Laws.Sem
import Derived.OwnWalk
import Derived.RangeFuncWrites
import Derived.Laws.IdiomCopy
import Derived.WalkKit
import Derived.ProofKit
import Derived.OpenShut
import Derived.ChangeOld
import Derived.Below
import Derived.Test.YtieokakmhlbdlaaProg
import Derived.MapKept
import Derived.Lib.AppendZerosOnto
import Derived.Laws.CopyRow
import Derived.Laws.Cells
import Derived.Test.YtieokakmhlbdlaaZPMendRows1
import Derived.Test.YtieokakmhlbdlaaZPMendRows2
import Derived.Test.YtieokakmhlbdlaaZPMendRows3
set_option maxRecDepth 100000
set_option maxHeartbeats 8000000
set_option linter.unusedVariables false
set_option linter.unusedSimpArgs false
/- What chapter 10's functions come to, in plain Lean. No condition but lengths. -/
namespace Gk
open Gf
theorem dg_lt_plus {p r : List UInt8} (h : dg r < dg p) : dg (pplus r p) = dg p := by
  refine Nat.le_antisymm (dg_pplus (Nat.le_of_lt h) (Nat.le_refl _)) (Nat.le_of_not_lt fun h2 => ?_)
  have h3 := dg_le.1 (Nat.le_refl (dg (pplus r p))) (dg p - 1) (by omega)
  rw [co_pplus, dg_le.1 (Nat.le_refl (dg r)) _ (by omega), zero_xor] at h3
  exact dg_top (by omega) h3
theorem tlen {p : List UInt8} (h : trim p = p) : dg p = p.length := by unfold dg; rw [h]
structure Ga (xs ys : List UInt8) (t : Nat) (a b u v : List UInt8) : Prop where
  ta : trim a = a
  tb : trim b = b
  tu : trim u = u
  tv : trim v = v
  sum : a.length + v.length = xs.length + 2
  ba : b.length < a.length
  uv : u.length < v.length
  big : xs.length + t + 2 ≤ 2 * a.length
  ha : ∀ i, i < xs.length → evp a (co xs i) = mul (evp u (co xs i)) (co ys i)
  hb : ∀ i, i < xs.length → evp b (co xs i) = mul (evp v (co xs i)) (co ys i)
theorem Ga.next {xs ys a b u v q r : List UInt8} {t : Nat} (h : Ga xs ys t a b u v) (hc : xs.length + t + 2 ≤ 2 * b.length) (hq : trim q = q) (hr : trim r = r) (hlt : r.length < b.length) (hs : ∀ i, co a i = co r i ^^^ co (pmul q b) i) :
    q.length + b.length = a.length + 1 ∧ Ga xs ys t b r v (trim (pplus u (trim (pmul q v)))) := by
  have ta := tlen h.ta
  have tb := tlen h.tb
  have tu := tlen h.tu
  have tv := tlen h.tv
  have tq := tlen hq
  have tr := tlen hr
  have hba := h.ba
  have huv := h.uv
  have hsum := h.sum
  have hq0 : dg q ≠ 0 := fun h0 => by
    have : dg a = dg r := dg_sim fun i => by rw [hs i, pmul_zeroL (dg_zero h0) i, xor_zero]
    omega
  have h1 := dg_pmul_eq hq0 (show dg b ≠ 0 by omega)
  have h2 : dg a = dg (pmul q b) := by
    rw [← dg_lt_plus (r := r) (p := pmul q b) (by omega)]
    exact dg_sim fun i => by rw [hs i, co_pplus]
  have h3 := dg_pmul_eq hq0 (show dg v ≠ 0 by omega)
  have h4 : dg (trim (pplus u (trim (pmul q v)))) = dg (pmul q v) := by
    rw [dg_sim (trim_sim _), dg_sim (pplus_sim (Sim.refl u) (trim_sim (pmul q v))), dg_lt_plus (by omega)]
  have h5 := tlen (trim_trim (pplus u (trim (pmul q v))))
  refine ⟨by omega, h.tb, hr, h.tv, trim_trim _, by omega, hlt, by omega, hc, h.hb, fun i hi => ?_⟩
  rw [ev_trim, ev_pplus, ev_trim, ev_pmul, add_mul, ← h.ha i hi, mul_assoc, ← h.hb i hi, ← ev_pmul]
  have h6 := ev_sim a (pplus r (pmul q b)) (co xs i) (fun j => by rw [hs j, co_pplus])
  rw [h6, ev_pplus, xor_assoc, xor_self, xor_zero]
theorem gao_spec (xs ys : List UInt8) (t : Nat) (hl : xs.length = ys.length) (h1 : 1 ≤ t) (ht : t ≤ xs.length) (h255 : xs.length ≤ 255) (hn : xs.Nodup) :
    ∃ q ok, mend_gao true (t : Int) xs ys = some (q, ok) ∧ q.length ≤ 1000 ∧ (ok = true → dg q ≤ t ∧ trim q = q) ∧ ∀ P, dg P ≤ t → 2 * wrg xs ys P xs.length ≤ xs.length - t → q = trim P ∧ ok = true := by
  obtain ⟨N, e1, t1, d1, v1⟩ := poly_Through_ok xs ys hl (by omega) h255 hn
  have hm := most_lt'
  have hh := h257
  have h1000 : 10000 ≤ most := by decide
  have lv := van_length xs
  have tN := tlen t1
  unfold mend_gao
  rw [poly_Vanish_eq xs h255, obs, e1, obs]
  obtain ⟨y, e2, b, v, rfl, a, u, hG, hc⟩ := iterC_inv (body := fun s10 : List UInt8 × List UInt8 × List UInt8 × List UInt8 => ((poly_Degree s10.2.1).bind fun r12 => (if (wI ((xs.length : Int) + (t : Int))) ≤ (wI (2 * r12)) then ((poly_DivMod true s10.1 s10.2.1).bind fun r15 => (if r15.2.2 = 0 then
      ((poly_Mul true r15.1 s10.2.2.2).bind fun r20 => ((poly_Add s10.2.2.1 r20.1).bind fun r23 => some (.inl (s10.2.1, r15.2.1, s10.2.2.2, r23)))) else some (.inr (.inr (([] : List UInt8), false))))) else some (.inr (.inl (s10.2.1, s10.2.2.2))))))
    (fun s => Ga xs ys t s.1 s.2.1 s.2.2.1 s.2.2.2) (fun s => s.1.length) (fun y : (List UInt8 × List UInt8) ⊕ (List UInt8 × Bool) => ∃ b v, y = .inl (b, v) ∧ ∃ a u, Ga xs ys t a b u v ∧ 2 * b.length ≤ xs.length + t + 1)
    (by
      rintro ⟨a, b, u, v⟩ hG
      simp only at hG ⊢
      have hba := hG.ba
      have hsum := hG.sum
      have huv := hG.uv
      have e3 : wI (2 * ((b.length : Int) - 1)) = 2 * ((b.length : Int) - 1) := wI_of (by omega) (by omega)
      rw [poly_Degree_eq b (by omega), hG.tb, obs, e3, wI_add _ _ (by omega)]
      by_cases hc : xs.length + t + 2 ≤ 2 * b.length
      · have hb0 : trim b ≠ [] := fun e => by rw [hG.tb] at e; rw [e] at hc; simp at hc
        obtain ⟨q, r, e4, tq, tr, hlt, hs, hql⟩ := poly_DivMod_eq a b (by omega) (by omega) hb0
        rw [hG.tb] at hlt
        obtain ⟨h5, h6⟩ := hG.next hc tq tr hlt hs
        rw [if_pos (by omega), e4, obs, if_pos rfl, poly_Mul_eq q v (by omega) (by omega) (.inr (.inr (by rw [tq, hG.tv]; omega))), obs]
        have h7 := pmul_len q v
        have h8 := trim_le (pmul q v)
        rw [poly_Add_eq u _ (by omega) (by simp only; omega), obs]
        exact .inl ⟨_, rfl, h6, hba⟩
      · rw [if_neg (by omega)]
        exact .inr ⟨_, rfl, b, v, rfl, a, u, hG, by omega⟩)
    (van xs, N, [], [1]) ⟨van_trim xs, t1, rfl, trim_one, by simp only [List.length_cons, List.length_nil]; omega, by simp only; omega, by simp, by simp only; omega, fun i hi => by
      rw [(van_root xs (co xs i)).2 (co_mem hi)]; exact (zero_mul _).symm, fun i hi => by rw [v1 i hi, ev_const, one_mul]⟩
  have hba := hG.ba
  have hsum := hG.sum
  have huv := hG.uv
  have hbig := hG.big
  have tv := tlen hG.tv
  have tb := tlen hG.tb
  have hv0 : trim v ≠ [] := fun e => by rw [hG.tv] at e; rw [e] at huv; simp at huv
  obtain ⟨q, r, e4, tq, tr, hlt, hs, hql⟩ := poly_DivMod_eq b v (by omega) (by omega) hv0
  rw [hG.tv] at hlt
  have tq' := tlen tq
  have tr' := tlen tr
  have hgood : ∀ P, dg P ≤ t → 2 * wrg xs ys P xs.length ≤ xs.length - t → q = trim P ∧ r = [] := fun P hP hw => by
    have k1 := gao_key (b := b) (v := v) hn (t := t) hG.hb hP (by omega) (by omega)
    obtain ⟨k2, k3⟩ := div_uniq (r := r) (q := q) hs (by omega) k1
    exact ⟨by rw [← tq]; exact trim_ext _ _ k2, by rw [← tr]; exact trim_zero r k3⟩
  rw [e2, obs]
  simp only [Sum.elim_inl]
  rw [e4, obs]
  simp only
  rw [if_pos trivial]
  by_cases hr0 : r = []
  · rw [if_pos (by rw [hr0]; rfl), poly_Degree_eq q (by omega), tq, obs]
    refine ⟨q, _, rfl, by omega, fun h => ⟨?_, tq⟩, fun P hP hw => ?_⟩
    · have := of_decide_eq_true h; omega
    · have := (hgood P hP hw).1
      refine ⟨this, decide_eq_true ?_⟩
      have h9 : dg q = dg P := by rw [this]; exact dg_sim (trim_sim P)
      omega
  · have hp := List.length_pos_iff.2 hr0
    rw [if_neg (by omega)]
    exact ⟨q, false, rfl, by omega, fun h => Bool.noConfusion h, fun P hP hw => absurd (hgood P hP hw).2 hr0⟩
theorem wrong_eq (p xs ys : List UInt8) (hl : xs.length = ys.length) (h : xs.length ≤ most) (hp : p.length ≤ most) : mend_wrong true p xs ys = some ((wrg xs ys p xs.length : Nat) : Int) := by
  unfold mend_wrong
  have hm := most_lt'
  refine bind_of ?_ rfl
  refine iterC_count (fun i => (((wrg xs ys p i : Nat) : Int), (i : Int))) xs.length _ rfl ?_ ?_
  · intro i hi
    have hle := wr_le xs ys p i
    simp only
    rw [if_pos (by omega), idx_co hi, obs, idx_co (by omega), obs, poly_Eval_eq _ _ hp, obs, wI_succ i (by omega)]
    by_cases he : evp p (co xs i) = co ys i
    · rw [if_pos he, wrg, if_pos he]; rfl
    · rw [if_neg he, wI_succ _ (by omega)]
      conv => rhs; rw [wrg, if_neg he]
  · simp
theorem Radius_eq (n t : Nat) (h : t ≤ n) (hn : n ≤ 1000) : mend_Radius (n : Int) (t : Int) = some (((n - t) / 2 : Nat) : Int) := by
  unfold mend_Radius
  rw [if_neg (by omega), wI_sub _ _ h (by omega)]
  have := divI_nat (n - t) 2 (by decide) (by omega)
  rw [show ((2 : Nat) : Int) = 2 from rfl] at this
  rw [this, obs]
def Good (t e : Nat) (xs ys P : List UInt8) : Prop := dg P ≤ t ∧ wrg xs ys P xs.length ≤ e ∧ 2 * wrg xs ys P xs.length ≤ xs.length - t
theorem Good.uniq {t e : Nat} {xs ys P Q : List UInt8} (hn : xs.Nodup) (ht : t ≤ xs.length) (h : Good t e xs ys P) (k : Good t e xs ys Q) : Sim P Q :=
  two_one (ys := ys) hn h.1 k.1 (by have := h.2.2; have := k.2.2; omega)
theorem column_spec (xs ys : List UInt8) (t : Nat) (e : Nat) (hl : xs.length = ys.length) (h1 : 1 ≤ t) (ht : t ≤ xs.length) (h255 : xs.length ≤ 255) (hn : xs.Nodup) :
    (∀ P, Good t e xs ys P → mend_column true (t : Int) xs ys (e : Int) = some (trim P, 0)) ∧ ((∀ P, ¬ Good t e xs ys P) → mend_column true (t : Int) xs ys (e : Int) = some ([], 11)) := by
  obtain ⟨q, ok, e1, hql, hok, hP⟩ := gao_spec xs ys t hl h1 ht h255 hn
  have hm := most_lt'
  have h1000 : 10000 ≤ most := by decide
  unfold mend_column
  rw [e1, obs]
  simp only
  have hmin : (if (((xs.length - t) / 2 : Nat) : Int) < (e : Int) then (((xs.length - t) / 2 : Nat) : Int) else (e : Int)) = ((min e ((xs.length - t) / 2) : Nat) : Int) := minI _ _
  constructor
  · rintro P ⟨p1, p2, p3⟩
    obtain ⟨rfl, rfl⟩ := hP P p1 p3
    rw [if_neg (by decide), wrong_eq _ _ _ hl (by omega) (by omega), obs, Radius_eq _ _ ht (by omega), obs, hmin, wr_sim (trim_sim P), if_neg (by omega)]
  · intro hno
    cases ok with
    | false => rw [if_pos (by decide)]
    | true =>
      obtain ⟨k1, k2⟩ := hok rfl
      have := hno q
      rw [if_neg (by decide), wrong_eq _ _ _ hl (by omega) (by omega), obs, Radius_eq _ _ ht (by omega), obs, hmin, if_pos ?_]
      have h3 : ¬ (wrg xs ys q xs.length ≤ e ∧ 2 * wrg xs ys q xs.length ≤ xs.length - t) := fun h => this ⟨k1, h.1, h.2⟩
      omega
def mcode (t : Int) (xs : List UInt8) (n e : Int) : Int := if (xs.length : Int) = n then (if t < 1 ∨ 255 < t ∨ e < 0 then 2 else if (xs.length : Int) < t then 5 else if xs.length = 0 then 5 else if 255 < xs.length then 4 else if xs.Nodup then 0 else 6) else 1
theorem mend_check_eq (t : Int) (xs : List UInt8) (n e : Int) (h : xs.length ≤ most) : mend_check true t xs n e = some (mcode t xs n e) := by
  unfold mend_check mcode
  rw [if_neg (by simp)]
  by_cases h1 : (xs.length : Int) = n
  · rw [if_pos h1, if_pos h1]
    by_cases h2 : t < 1
    · rw [if_pos h2, if_pos (.inl h2)]
    · rw [if_neg h2]
      by_cases h3 : 255 < t
      · rw [if_pos h3, if_pos (.inr (.inl h3))]
      · rw [if_neg h3]
        by_cases h4 : e < 0
        · rw [if_pos h4, if_pos (.inr (.inr h4))]
        · rw [if_neg h4, if_neg (show ¬ (t < 1 ∨ 255 < t ∨ e < 0) from not_or.2 ⟨h2, not_or.2 ⟨h3, h4⟩⟩)]
          by_cases h5 : (xs.length : Int) < t
          · rw [if_pos h5, if_pos h5]
          · rw [if_neg h5, if_neg h5]
            have hck := poly_check_eq xs h
            by_cases hok : xs.length ≠ 0 ∧ xs.length ≤ 255 ∧ xs.Nodup
            · obtain ⟨k0, k1, k2⟩ := hok
              rw [poly_Weights_eq xs 0 k0 k1 k2, obs, if_neg k0, if_neg (by omega), if_pos k2]
            · rw [poly_Weights_bad xs 0 _ hck ?_, obs]
              by_cases k0 : xs.length = 0
              · rw [if_pos k0]; decide
              · rw [if_neg k0]
                by_cases k1 : 255 < xs.length
                · rw [if_pos k1]; decide
                · rw [if_neg k1, if_neg (fun k2 => hok ⟨k0, by omega, k2⟩)]; decide
  · rw [if_neg h1, if_neg h1]
theorem mcode_ok {t : Int} {xs : List UInt8} {n e : Int} (hc : mcode t xs n e = 0) : (xs.length : Int) = n ∧ 1 ≤ t ∧ t ≤ (xs.length : Int) ∧ 0 ≤ e ∧ xs.length ≤ 255 ∧ xs.Nodup := by
  unfold mcode at hc
  split at hc
  · split at hc
    · cases hc
    · rename_i h1 h2
      split at hc
      · cases hc
      · split at hc
        · cases hc
        · split at hc
          · cases hc
          · split at hc
            · rename_i h3 h4 h5 h6
              refine ⟨h1, Int.not_lt.1 fun h => h2 (.inl h), by omega, Int.not_lt.1 fun h => h2 (.inr (.inr h)), by omega, h6⟩
            · cases hc
  · cases hc
theorem Column_bad (t : Int) (xs ys : List UInt8) (e : Int) (h : xs.length ≤ most) (hc : mcode t xs (ys.length : Int) e ≠ 0) : mend_Column true t xs ys e = some ([], mcode t xs (ys.length : Int) e) := by
  unfold mend_Column
  rw [mend_check_eq _ _ _ _ h, obs, if_neg hc]
theorem Column_spec (t : Nat) (xs ys : List UInt8) (e : Nat) (hc : mcode (t : Int) xs (ys.length : Int) (e : Int) = 0) :
    (∀ P, Good t e xs ys P → mend_Column true (t : Int) xs ys (e : Int) = some (trim P, 0)) ∧ ((∀ P, ¬ Good t e xs ys P) → mend_Column true (t : Int) xs ys (e : Int) = some ([], 11)) := by
  obtain ⟨hl, h1, h2, _, h3, h4⟩ := mcode_ok hc
  have hh := h257
  have := column_spec xs ys t e (by omega) (by omega) (by omega) h3 h4
  unfold mend_Column
  rw [mend_check_eq _ _ _ _ (by omega), hc, obs, if_pos rfl]
  refine ⟨fun P hP => by rw [this.1 P hP, obs], fun hP => by rw [this.2 hP, obs]⟩
end Gk

/- Chapter 8 in plain Lean: shares, and what shares tell. No condition but lengths. -/
namespace Gk
open Gf
end Gk

/- Chapter 8: unlike places, sums of shares, what shares of a dealing tell. No condition but lengths. -/
namespace Gk
open Gf
end Gk

/- Chapter 10: the law MendCorrects. No condition. -/
namespace Gk
open Gf
theorem lives10 : law10_lives = some true := by
  unfold law10_lives
  simp only [field_New, obs]
  have e1 := (Column_spec 1 [1, 2, 3] [5, 5, 9] 1 (by decide +kernel)).1 [5] ⟨dg_len _, by decide +kernel, by decide +kernel⟩
  have e2 := (Column_spec 1 [1, 2] [5, 9] 1 (by decide +kernel)).2 (fun P ⟨h1, _, h3⟩ => by
    have h0 : wrg [1, 2] [5, 9] P 2 = 0 := by
      have h4 : 2 * wrg [1, 2] [5, 9] P 2 ≤ 1 := h3
      omega
    have hs : Sim P [co P 0] := fun i => by
      cases i with
      | zero => rfl
      | succ i => rw [dg_le.1 h1 (i + 1) (by omega), co_succ, co_nil]
    have k1 : evp P 1 = co P 0 := by rw [ev_sim _ _ _ hs, ev_const]
    have k2 : evp P 2 = co P 0 := by rw [ev_sim _ _ _ hs, ev_const]
    simp only [wrg] at h0
    by_cases q1 : evp P (co [1, 2] 0) = co [5, 9] 0
    · by_cases q2 : evp P (co [1, 2] 1) = co [5, 9] 1
      · have q3 : (5 : UInt8) = 9 := by
          rw [show co [1, 2] 0 = 1 from rfl, k1] at q1
          rw [show co [1, 2] 1 = 2 from rfl, k2] at q2
          exact q1.symm.trans q2
        exact absurd q3 (by decide)
      · rw [if_neg q2] at h0; omega
    · rw [if_neg q1] at h0; omega)
  simp only [show ((1 : Nat) : Int) = 1 from rfl] at e1 e2
  rw [e1, obs, e2, obs]
  decide +kernel
end Gk

/- Printed by gen.py: for each Go function a pure function, and that the Go code comes to it. No condition beside the equation that says what the pure function gives. -/
namespace Gk
open Go Go.Proofs
end Gk

/- Chapter 10: the law MendColumns. No condition. -/
namespace Gk
open Gf
def pk : Nat → Nat → List (List Nat)
  | 0, _ => [[]]
  | t + 1, n => (List.range' t (n - t)).flatMap fun last => (pk t last).map (· ++ [last])
theorem pk_succ (t i : Nat) (h : t ≤ i) : pk (t + 1) (i + 1) = pk (t + 1) i ++ (pk t i).map (· ++ [i]) := by
  simp only [pk]
  rw [show i + 1 - t = (i - t) + 1 by omega, List.range'_concat, List.flatMap_append]
  simp only [List.flatMap_cons, List.flatMap_nil, List.append_nil, Nat.one_mul]
  rw [show t + (i - t) = i by omega]
theorem pk_facts : ∀ t : Fin 8, ∀ n : Fin 8, (pk t n).length ≤ 100 ∧ ∀ l ∈ pk t n, l.length = t ∧ l.Nodup ∧ ∀ k ∈ l, k < n.val := by decide +kernel
theorem pk_len {t n : Nat} (ht : t ≤ 7) (hn : n ≤ 7) : (pk t n).length ≤ 100 := (pk_facts ⟨t, by omega⟩ ⟨n, by omega⟩).1
theorem pk_mem {t n : Nat} (ht : t ≤ 7) (hn : n ≤ 7) {l : List Nat} (h : l ∈ pk t n) : l.length = t ∧ l.Nodup ∧ ∀ k ∈ l, k < n := (pk_facts ⟨t, by omega⟩ ⟨n, by omega⟩).2 l h
def cntG (g : Nat → Prop) [DecidablePred g] : Nat → Nat
  | 0 => 0
  | n + 1 => cntG g n + if g n then 1 else 0
theorem cntG_le (g : Nat → Prop) [DecidablePred g] : ∀ n, cntG g n ≤ n
  | 0 => Nat.le_refl _
  | n + 1 => by have := cntG_le g n; unfold cntG; split <;> omega
theorem pk_has (g : Nat → Prop) [DecidablePred g] : ∀ n t, t ≤ cntG g n → ∃ l ∈ pk t n, ∀ k ∈ l, g k
  | n, 0, _ => ⟨[], by simp [pk], fun k hk => absurd hk (List.not_mem_nil)⟩
  | 0, t + 1, h => absurd h (by simp [cntG])
  | n + 1, t + 1, h => by
    have hle := cntG_le g n
    unfold cntG at h
    by_cases h1 : t + 1 ≤ cntG g n
    · obtain ⟨l, hl, hg⟩ := pk_has g n (t + 1) h1
      exact ⟨l, by rw [pk_succ t n (by omega)]; exact List.mem_append_left _ hl, hg⟩
    · by_cases hgn : g n
      · rw [if_pos hgn] at h
        obtain ⟨l, hl, hg⟩ := pk_has g n t (by omega)
        refine ⟨l ++ [n], by rw [pk_succ t n (by omega)]; exact List.mem_append_right _ (List.mem_map_of_mem hl), fun k hk => ?_⟩
        rcases List.mem_append.1 hk with h2 | h2
        · exact hg k h2
        · simp only [List.mem_singleton] at h2; subst h2; exact hgn
      · rw [if_neg hgn] at h; omega
def zi (l : List Nat) : List Int := l.map Int.ofNat
theorem idx_map {α β : Type} (f : α → β) {l : List α} {i : Nat} (h : i < l.length) : idx (l.map f) (i : Int) = some (f l[i]) := by
  rw [idx_nat, List.getElem?_map, List.getElem?_eq_getElem h]; rfl
theorem pick_eq : ∀ (t n : Nat), t ≤ 7 → n ≤ 7 → ∀ fu, t < fu → ref10_pick_n fu (n : Int) (t : Int) = some ((pk t n).map zi)
  | 0, n, _, _, fu, hf => by
    obtain ⟨fu, rfl⟩ : ∃ k, fu = k + 1 := ⟨fu - 1, by omega⟩
    rw [ref10_pick_n, if_pos (by rfl)]; rfl
  | t + 1, n, ht, hn, fu, hf => by
    obtain ⟨fu, rfl⟩ : ∃ k, fu = k + 1 := ⟨fu - 1, by omega⟩
    have hm : (1000 : Nat) ≤ most := by decide
    rw [ref10_pick_n, if_neg (by omega), wI_of (by omega) (by omega), show ((t + 1 : Nat) : Int) - 1 = (t : Int) by omega]
    refine bind_of (x := (pk (t + 1) n).map zi) ?_ rfl
    by_cases htn : n ≤ t
    · rw [iterC_step, if_neg (by simp only []; omega), obs]
      simp only [pk, show n - t = 0 by omega]; rfl
    · obtain ⟨x, hx, rfl⟩ := iterC_from (s0 := ([] : List (List Int))) (fun i s => s = (pk (t + 1) i).map zi) t n (by omega) (fun x => x = (pk (t + 1) n).map zi) (by simp [pk]) (body := fun s10 : List (List Int) × Int =>
        (if s10.2 < (n : Int) then
        ((ref10_pick_n fu s10.2 (t : Int)).bind fun r13 =>
        ((iterC (fun s15 : List (List Int) × Int =>
        (if s15.2 < (r13.length : Int) then
        ((idx r13 s15.2).bind fun c18 =>
        ((appL (([] : List Int)) c18).bind fun c24 =>
        ((appL c24 (([s10.2] : List Int))).bind fun c30 =>
        ((appL s15.1 (([c30] : List (List Int)))).bind fun c37 =>
        some (.inl (c37, (wI (s15.2 + 1))))))))
        else
        some (.inr s15.1))) (s10.1, 0)).bind fun x15 =>
        some (.inl (x15, (wI (s10.2 + 1))))))
        else
        some (.inr s10.1))) (by
          intro i s hti hi hs
          subst hs
          simp only []
          rw [if_pos (by omega), pick_eq t i (by omega) (by omega) fu (by omega), obs]
          have hl1 := pk_len (t := t) (n := i) (by omega) (by omega)
          have hl2 := pk_len (t := t + 1) (n := i) (by omega) (by omega)
          refine ⟨_, bind_of (x := (pk (t + 1) (i + 1)).map zi) (iterC_count (fun j => ((pk (t + 1) i).map zi ++ (((pk t i).take j).map (· ++ [i])).map zi, (j : Int))) (pk t i).length _ (by simp) ?_ ?_) (by rw [wI_succ _ (by omega)]), rfl⟩
          · intro j hj
            simp only [List.length_map]
            have hz := pk_mem (t := t) (n := i) (by omega) (by omega) (List.getElem_mem hj)
            rw [if_pos (by omega), idx_map zi hj, obs, appL_nil _ (by simp only [zi, List.length_map]; omega), obs]
            unfold appL
            rw [if_pos (by simp only [zi, List.length_map, List.length_singleton]; omega), obs, if_pos (by simp only [List.length_append, List.length_map, List.length_take, List.length_singleton]; omega), obs, wI_succ _ (by omega)]
            rw [List.take_add_one, List.getElem?_eq_getElem hj]
            simp only [Option.toList_some, List.map_append, List.map_cons, List.map_nil, List.append_assoc]
            congr 4
            simp [zi]
          · simp only [List.length_map]
            rw [if_neg (by omega), List.take_length, pk_succ t i hti, List.map_append])
        (by intro s hs; exact ⟨s, by simp only []; rw [if_neg (by omega)], hs⟩)
      exact hx
theorem pick_all (t n : Nat) (ht : t ≤ 7) (hn : n ≤ 7) : ref10_pick (n : Int) (t : Int) = some ((pk t n).map zi) := by
  unfold ref10_pick
  exact pick_eq t n ht hn _ (by simp)
theorem through_at {az bs : List UInt8} (hn : az.Nodup) {out : List UInt8} (ho : ∀ x, evp out x = sm (fun i => mul (co bs i) (wt az i x)) az.length) {j : Nat} (hj : j < az.length) : evp out (co az j) = co bs j := by
  let L := lag az (fun i => mul (co bs i) (inv (pe az i (co az i) az.length))) az.length
  have h1 : ∀ k, k < az.length → evp L (co az k) = co bs k := fun k hk => lag_at hn (fun i => co bs i) hk
  rw [← h1 j hj, lagrange hn (dg_lag _ _ _ (Nat.le_refl _)), ho]
  exact sm_congr _ fun i hi => by rw [h1 i hi, mul_comm]
theorem wr_cnt (xs ys P : List UInt8) : ∀ n, wrg xs ys P n + cntG (fun i => evp P (co xs i) = co ys i) n = n
  | 0 => rfl
  | n + 1 => by
    have := wr_cnt xs ys P n
    unfold wrg cntG
    by_cases h : evp P (co xs n) = co ys n
    · rw [if_pos h, if_pos h]; omega
    · rw [if_neg h, if_neg h]; omega
theorem co_map_co (xs : List UInt8) (l : List Nat) {j : Nat} (h : j < l.length) : co (l.map (co xs)) j = co xs l[j] := by
  simp [co, List.getD_eq_getElem?_getD, h]
theorem nodup_co {xs : List UInt8} (hn : xs.Nodup) {l : List Nat} (hl : l.Nodup) (hlt : ∀ k ∈ l, k < xs.length) : (l.map (co xs)).Nodup := by
  rw [List.nodup_iff_pairwise_ne] at hl ⊢
  rw [List.pairwise_map]
  exact hl.imp_of_mem fun {a b} ha hb hab e => hab (co_inj hn (hlt a ha) (hlt b hb) e)
theorem refColumn_spec (t : Nat) (xs ys : List UInt8) (e : Nat) (hl : xs.length = ys.length) (h1 : 1 ≤ t) (ht : t ≤ xs.length) (h7 : xs.length ≤ 7) (hn : xs.Nodup) :
    ∃ q ok, ref10_Column (t : Int) xs ys (e : Int) = some (q, ok) ∧ (ok = true → ∃ P, Good t e xs ys P ∧ q = trim P) ∧ (ok = false → ∀ P, ¬ Good t e xs ys P) := by
  have hm : (1000 : Nat) ≤ most := by decide
  unfold ref10_Column
  have hdiv := divI_nat (xs.length - t) 2 (by decide) (by omega)
  rw [show ((2 : Nat) : Int) = 2 from rfl] at hdiv
  have e0 : (((divI ((wI ((xs.length : Int) - (t : Int)))) 2).bind fun c2 => (if c2 < (e : Int) then ((divI ((wI ((xs.length : Int) - (t : Int)))) 2).bind fun c4 => some c4) else some (e : Int)))) = some ((min e ((xs.length - t) / 2) : Nat) : Int) := by
    rw [wI_sub _ _ ht (by omega), hdiv, obs, obs]
    by_cases h : (((xs.length - t) / 2 : Nat) : Int) < (e : Int)
    · rw [if_pos h]; congr 1; omega
    · rw [if_neg h]; congr 1; omega
  rw [e0, obs, pick_all t xs.length (by omega) h7, obs]
  have hpl := pk_len (t := t) (n := xs.length) (by omega) h7
  have hmain := iterC_inv (body := fun s8 : Int =>
      (if s8 < (((pk t xs.length).map zi).length : Int) then
      ((idx ((pk t xs.length).map zi) s8).bind fun c11 =>
      ((iterC (fun s20 : List UInt8 × List UInt8 × Int =>
      (if s20.2.2 < (c11.length : Int) then
      ((idx c11 s20.2.2).bind fun c23 =>
      ((idx xs c23).bind fun c24 =>
      ((appL s20.1 (([c24] : List UInt8))).bind fun c27 =>
      ((idx ys c23).bind fun c31 =>
      ((appL s20.2.1 (([c31] : List UInt8))).bind fun c34 =>
      some (.inl (c27, c34, (wI (s20.2.2 + 1)))))))))
      else
      some (.inr (s20.1, s20.2.1)))) (([] : List UInt8), ([] : List UInt8), 0)).bind fun x20 =>
      ((ref03_Through x20.1 x20.2).bind fun r40 =>
      ((iterC (fun s45 : Int × Int =>
      (if s45.2 < (xs.length : Int) then
      ((idx xs s45.2).bind fun c48 =>
      ((idx ys s45.2).bind fun c51 =>
      ((ref03_Eval r40 c48).bind fun r52 =>
      (if r52 = c51 then
      some (.inl (s45.1, (wI (s45.2 + 1))))
      else
      some (.inl ((wI (s45.1 + 1)), (wI (s45.2 + 1))))))))
      else
      some (.inr s45.1))) (0, 0)).bind fun x45 =>
      (if x45 ≤ ((min e ((xs.length - t) / 2) : Nat) : Int) then
      some (.inr (.inr (r40, true)))
      else
      some (.inl (wI (s8 + 1))))))))
      else
      some (.inr (.inl ())))) (fun s => ∃ i : Nat, i ≤ (pk t xs.length).length ∧ s = (i : Int) ∧ ∀ j (h : j < (pk t xs.length).length), j < i → ∀ P, Good t e xs ys P → ¬ ∀ k ∈ (pk t xs.length)[j], evp P (co xs k) = co ys k)
    (fun s => 200 - s.toNat) (fun o : Unit ⊕ (List UInt8 × Bool) => (∃ P, Good t e xs ys P ∧ o = .inr (trim P, true)) ∨ (o = .inl () ∧ ∀ P, ¬ Good t e xs ys P)) (by
      rintro _ ⟨i, hi, rfl, hno⟩
      simp only [List.length_map]
      by_cases h : i < (pk t xs.length).length
      · obtain ⟨z1, z2, z3⟩ := pk_mem (by omega) h7 (List.getElem_mem h)
        rw [if_pos (by omega), idx_map zi h, obs]
        generalize hlg : (pk t xs.length)[i] = l at *
        have hloop : iterC (fun s20 : List UInt8 × List UInt8 × Int =>
            (if s20.2.2 < ((zi l).length : Int) then
            ((idx (zi l) s20.2.2).bind fun c23 =>
            ((idx xs c23).bind fun c24 =>
            ((appL s20.1 (([c24] : List UInt8))).bind fun c27 =>
            ((idx ys c23).bind fun c31 =>
            ((appL s20.2.1 (([c31] : List UInt8))).bind fun c34 =>
            some (.inl (c27, c34, (wI (s20.2.2 + 1)))))))))
            else
            some (.inr (s20.1, s20.2.1)))) (([] : List UInt8), ([] : List UInt8), 0) = some (l.map (co xs), l.map (co ys)) := by
          refine iterC_count (fun j => ((l.take j).map (co xs), (l.take j).map (co ys), (j : Int))) l.length _ (by simp) ?_ ?_
          · intro j hj
            have hk := z3 l[j] (List.getElem_mem hj)
            have hzl : (zi l).length = l.length := by simp [zi]
            simp only [hzl]
            rw [if_pos (by omega), show idx (zi l) (j : Int) = some ((l[j] : Nat) : Int) from idx_map Int.ofNat hj, obs, idx_co hk, obs]
            unfold appL
            rw [if_pos (by simp only [List.length_map, List.length_take, List.length_singleton]; omega), obs, idx_co (by omega), obs, if_pos (by simp only [List.length_map, List.length_take, List.length_singleton]; omega), obs, wI_succ _ (by omega),
              List.take_add_one, List.getElem?_eq_getElem hj]
            simp only [Option.toList_some, List.map_append, List.map_cons, List.map_nil]
          · simp [zi]
        rw [hloop, obs]
        obtain ⟨out, t1, t2, t3⟩ := ref03_Through_eq (l.map (co xs)) (l.map (co ys)) (by simp) (by simp; omega)
        simp only [List.length_map] at t2 t3
        have hnd := nodup_co hn z2 z3
        have hat : ∀ k ∈ l, evp out (co xs k) = co ys k := by
          intro k hk
          obtain ⟨j, hj, rfl⟩ := List.getElem_of_mem hk
          have := through_at hnd (out := out) (bs := l.map (co ys)) (by simpa using t3) (j := j) (by simpa using hj)
          rw [co_map_co _ _ hj, co_map_co _ _ hj] at this
          exact this
        rw [t1, obs]
        have htl : (trim out).length ≤ 7 := by have : (trim out).length = dg out := rfl; omega
        have hwr : iterC (fun s45 : Int × Int =>
            (if s45.2 < (xs.length : Int) then
            ((idx xs s45.2).bind fun c48 =>
            ((idx ys s45.2).bind fun c51 =>
            ((ref03_Eval (trim out) c48).bind fun r52 =>
            (if r52 = c51 then
            some (.inl (s45.1, (wI (s45.2 + 1))))
            else
            some (.inl ((wI (s45.1 + 1)), (wI (s45.2 + 1))))))))
            else
            some (.inr s45.1))) (0, 0) = some ((wrg xs ys (trim out) xs.length : Nat) : Int) := by
          refine iterC_count (fun i => (((wrg xs ys (trim out) i : Nat) : Int), (i : Int))) xs.length _ rfl ?_ ?_
          · intro i hi
            have hle := wr_le xs ys (trim out) i
            simp only
            rw [if_pos (by omega), idx_co hi, obs, idx_co (by omega), obs, ref03_Eval_eq _ _ (by omega), obs, wI_succ i (by omega)]
            by_cases he : evp (trim out) (co xs i) = co ys i
            · rw [if_pos he, wrg, if_pos he]; rfl
            · rw [if_neg he, wI_succ _ (by omega)]
              conv => rhs; rw [wrg, if_neg he]
          · simp
        rw [hwr, obs, wr_sim (trim_sim out)]
        by_cases hw : wrg xs ys out xs.length ≤ min e ((xs.length - t) / 2)
        · right
          rw [if_pos (by omega)]
          exact ⟨_, rfl, .inl ⟨out, ⟨by omega, by omega, by omega⟩, rfl⟩⟩
        · left
          rw [if_neg (by omega), wI_succ _ (by omega)]
          refine ⟨_, rfl, ⟨i + 1, by omega, rfl, fun j hj hji P hP hall => ?_⟩, by simp only [Int.toNat_natCast]; omega⟩
          by_cases hje : j = i
          · subst hje
            rw [hlg] at hall
            have hs : Sim P out := agree hnd (by simpa [z1] using hP.1) (by simpa using t2) (fun a ha => by
              obtain ⟨k, hk, rfl⟩ := List.mem_map.1 ha
              rw [hall k hk, hat k hk])
            have := wr_sim (xs := xs) (ys := ys) hs xs.length
            have h2 := hP.2
            omega
          · exact hno j hj (by omega) P hP hall
      · right
        rw [if_neg (by omega)]
        refine ⟨_, rfl, .inr ⟨rfl, fun P hP => ?_⟩⟩
        have hc := wr_cnt xs ys P xs.length
        have h2 := hP.2
        obtain ⟨l, hlm, hg⟩ := pk_has (fun i => evp P (co xs i) = co ys i) xs.length t (by omega)
        obtain ⟨j, hj, rfl⟩ := List.getElem_of_mem hlm
        exact hno j hj (by omega) P hP hg) 0 ⟨0, Nat.zero_le _, rfl, fun j hj hji => absurd hji (Nat.not_lt_zero _)⟩
  obtain ⟨o, ho, hpost⟩ := hmain
  rcases hpost with ⟨P, hP, rfl⟩ | ⟨rfl, hno⟩
  · exact ⟨_, true, bind_of ho rfl, fun _ => ⟨P, hP, rfl⟩, fun h => Bool.noConfusion h⟩
  · exact ⟨[], false, bind_of ho rfl, fun h => Bool.noConfusion h, fun _ => hno⟩
end Gk

/- Chapter 10: the law MendRows. No condition. -/
namespace Gk
open Gf
def clm (rows : List (List UInt8)) (k n : Nat) : List UInt8 := (List.range n).map fun i => co (rows.getD i []) k
theorem clm_len (rows : List (List UInt8)) (k n : Nat) : (clm rows k n).length = n := by simp [clm]
theorem co_clm (rows : List (List UInt8)) (k n i : Nat) (h : i < n) : co (clm rows k n) i = co (rows.getD i []) k := by unfold clm; rw [co_tab, if_pos h]
def atR (ps : List UInt8) (rs : List (List UInt8)) (L : Nat) (x : UInt8) : List UInt8 := (List.range L).map fun k => sm (fun i => mul (wt ps i x) (co (rs.getD i []) k)) ps.length
theorem atR_len (ps : List UInt8) (rs : List (List UInt8)) (L : Nat) (x : UInt8) : (atR ps rs L x).length = L := by simp [atR]
theorem At_eq (ps : List UInt8) (rs : List (List UInt8)) (L : Nat) (w : List Int) (x : UInt8) (h0 : ps.length ≠ 0) (h1 : ps.length ≤ 255) (hn : ps.Nodup) (hl : rs.length = ps.length) (hr : ∀ i, i < ps.length → (rs.getD i []).length = L) (hL : L ≤ 1000) :
    mend_At (some (true, ps, rs, w)) x = some (atR ps rs L x) := by
  have hm : 1000 ≤ most := by decide
  unfold mend_At
  rw [if_neg (by simp), obs]
  simp only
  rw [poly_Weights_eq ps x h0 h1 hn, obs, idx_0 (by omega), obs, hr 0 (by omega), makeL_nat _ _ (by omega), obs]
  refine bind_of (x := atR ps rs L x) ?_ rfl
  refine iterC_count (fun j => ((List.range L).map fun k => sm (fun i => mul (wt ps i x) (co (rs.getD i []) k)) j, (j : Int))) ps.length _ ?_ (fun j hj => ?_) ?_
  · congr 1
    refine eq_of_co (by simp) fun k => ?_
    rw [co_rep, co_tab]
    split <;> rfl
  · simp only
    rw [if_pos (by omega), idx_getD (by omega), obs, idx_co (by rw [wts_len]; exact hj), obs, co_wts ps x j hj, Sum_eq _ _ _ (by simp; omega), obs, wI_succ j (by omega)]
    congr 3
    refine eq_of_co (by rw [sumL_len]; simp) fun k => ?_
    rw [co_sumL, List.length_map, List.length_range, co_tab, co_tab]
    by_cases hk : k < L
    · rw [if_pos hk, if_pos hk, if_pos hk]; rfl
    · rw [if_neg hk, if_neg hk]
  · simp only
    rw [if_neg (by omega)]; rfl
def bt (n : Nat) (g : Nat → Bool) : List Bool := (List.range n).map g
theorem bt_len (n : Nat) (g : Nat → Bool) : (bt n g).length = n := by simp [bt]
theorem idx_bt {n k : Nat} (g : Nat → Bool) (h : k < n) : idx (bt n g) (k : Int) = some (g k) := by
  rw [idx_nat]; simp [bt, h]
theorem bt_set (n k : Nat) (g : Nat → Bool) (b : Bool) : (bt n g).set k b = bt n (fun j => if j = k then b else g j) := by
  refine List.ext_getElem? fun j => ?_
  rw [List.getElem?_set]
  unfold bt
  by_cases h : k = j
  · subst h
    rw [if_pos rfl]
    by_cases hk : k < n
    · simp [hk]
    · simp [hk]
  · rw [if_neg h]
    by_cases hj : j < n
    · simp [hj, Ne.symm h]
    · simp [hj]
theorem bt_congr {n : Nat} {g h : Nat → Bool} (e : ∀ j, j < n → g j = h j) : bt n g = bt n h := List.map_congr_left fun j hj => e j (List.mem_range.1 hj)
theorem bt_rep (n : Nat) : List.replicate n false = bt n (fun _ => false) := by
  refine List.ext_getElem? fun j => ?_
  unfold bt
  by_cases hj : j < n
  · simp [hj]
  · simp [hj]
theorem or_loop {body : List Bool × Int → Option ((List Bool × Int) ⊕ List Bool)} (n L : Nat) (hL : L ≤ n) (g h : Nat → Bool)
    (hs : ∀ (k : Nat) (s : List Bool), k < L → idx s (k : Int) = some (g k) → body (s, (k : Int)) = some (.inl (s.set k (g k || h k), ((k + 1 : Nat) : Int))))
    (he : ∀ s, body (s, (L : Int)) = some (.inr s)) : iterC body (bt n g, 0) = some (bt n (fun k => if k < L then g k || h k else g k)) := by
  refine iterC_count (fun k => (bt n (fun j => if j < k then g j || h j else g j), (k : Int))) L _ (by simp) (fun k hk => ?_) (he _)
  rw [hs k _ hk (by rw [idx_bt _ (by omega)]; simp), bt_set]
  congr 3
  refine bt_congr fun j hj => ?_
  by_cases e : j = k
  · rw [if_pos e, if_pos (by omega), e]
  · rw [if_neg e]
    by_cases h1 : j < k
    · rw [if_pos h1, if_pos (by omega)]
    · rw [if_neg h1, if_neg (by omega)]
theorem filt_loop {body : List Int × Int → Option ((List Int × Int) ⊕ List Int)} (L : Nat) (g : Nat → Bool)
    (hs : ∀ (k : Nat) (s : List Int), k < L → s.length ≤ k → body (s, (k : Int)) = some (.inl (if g k = true then s ++ [(k : Int)] else s, ((k + 1 : Nat) : Int))))
    (he : ∀ s, body (s, (L : Int)) = some (.inr s)) : iterC body ([], 0) = some (((List.range L).filter g).map fun (k : Nat) => (k : Int)) := by
  refine iterC_count (fun k => (((List.range k).filter g).map fun (k : Nat) => (k : Int), (k : Int))) L _ rfl (fun k hk => ?_) (he _)
  have hl : ((List.range k).filter g).length ≤ k := by
    have := List.length_filter_le g (List.range k); simpa using this
  rw [hs k _ hk (by rw [List.length_map]; exact hl), List.range_succ, List.filter_append]
  by_cases e : g k = true
  · rw [if_pos e]; simp [e]
  · rw [if_neg e]; simp [e]
theorem iterEqF {S X : Type} {body : S → Option (S ⊕ X)} {s0 : S} {y : X} (h : ∃ x, iterC body s0 = some x ∧ x = y) : iterC body s0 = some y := by
  obtain ⟨x, e, rfl⟩ := h
  exact e
def dif (ps xs : List UInt8) (rows : List (List UInt8)) (L i k : Nat) : Bool := decide (co (atR ps (rows.take ps.length) L (co xs i)) k ≠ co (rows.getD i []) k)
def oddB (ps xs : List UInt8) (rows : List (List UInt8)) (L j k : Nat) : Bool := (List.range j).any fun i => decide (ps.length ≤ i) && dif ps xs rows L i k
theorem oddB_succ (ps xs : List UInt8) (rows : List (List UInt8)) (L j k : Nat) (h : ps.length ≤ j) : oddB ps xs rows L (j + 1) k = (oddB ps xs rows L j k || dif ps xs rows L j k) := by
  unfold oddB
  rw [List.range_succ, List.any_append]
  simp [h]
theorem oddB_start (ps xs : List UInt8) (rows : List (List UInt8)) (L k : Nat) : oddB ps xs rows L ps.length k = false := by
  unfold oddB
  rw [List.any_eq_false]
  intro i hi
  have := List.mem_range.1 hi
  simp; omega
theorem odd_eq (ps xs : List UInt8) (rows : List (List UInt8)) (L : Nat) (h0 : ps.length ≠ 0) (h1 : ps.length ≤ 255) (hn : ps.Nodup) (hx : ps.length ≤ xs.length) (hx2 : xs.length ≤ 255) (hl : rows.length = xs.length) (hr : ∀ i, i < xs.length → (rows.getD i []).length = L) (hL : L ≤ 1000) :
    mend_odd (some (true, ps, rows.take ps.length, [])) xs rows = some (((List.range L).filter (oddB ps xs rows L xs.length)).map fun (k : Nat) => (k : Int)) := by
  have hm : 1000 ≤ most := by decide
  have hm2 := most_lt'
  have htk : ∀ i, i < ps.length → (rows.take ps.length).getD i [] = rows.getD i [] := fun i hi => by simp [List.getD_eq_getElem?_getD, List.getElem?_take, hi]
  unfold mend_odd
  rw [idx_0 (by omega), obs, hr 0 (by omega), makeL_nat _ _ (by omega), obs, obs]
  simp only
  refine bind_of (x := bt L (oddB ps xs rows L xs.length)) (iterEqF (iterC_from (s0 := List.replicate L false) (fun (i : Nat) (s : List Bool) => s = bt L (oddB ps xs rows L i)) ps.length xs.length hx (fun x => x = bt L (oddB ps xs rows L xs.length)) ?_ ?_ ?_)) ?_
  · rw [bt_rep]; exact bt_congr fun j _ => (oddB_start _ _ _ _ _).symm
  · rintro i s hi1 hi2 rfl
    simp only
    have hAt := At_eq ps (rows.take ps.length) L [] (co xs i) h0 h1 hn (by simp; omega) (fun i hi => by rw [htk i hi]; exact hr i (by omega)) hL
    rw [if_pos (by omega), idx_co hi2, obs, hAt, obs, atR_len]
    refine ⟨_, bind_of (or_loop L L (Nat.le_refl _) _ (fun k => dif ps xs rows L i k) (fun k s hk hks => ?_) (fun s => by simp)) (by rw [wI_succ i (by omega)]), ?_⟩
    · simp only
      rw [if_pos (by omega), idx_co (by rw [atR_len]; exact hk), obs, hks, obs]
      by_cases hb : oddB ps xs rows L i k = true
      · rw [if_pos hb, hb, Bool.true_or, wI_succ k (by omega), Int.toNat_natCast]
      · rw [if_neg hb, idx_getD (by omega), obs, idx_co (by rw [hr i hi2]; exact hk), obs, wI_succ k (by omega), Int.toNat_natCast]
        rw [Bool.not_eq_true] at hb
        rw [hb, Bool.false_or]
        unfold dif
        by_cases hc : co (atR ps (rows.take ps.length) L (co xs i)) k = co (rows.getD i []) k <;> simp [hc]
    · refine bt_congr fun k hk => ?_
      rw [if_pos hk, oddB_succ _ _ _ _ _ _ hi1]
  · rintro s rfl
    exact ⟨_, by simp only; rw [if_neg (by omega)], rfl⟩
  · rw [bt_len]
    refine bind_of (filt_loop L (oddB ps xs rows L xs.length) (fun k s hk hks => ?_) (fun s => by simp)) rfl
    simp only
    rw [if_pos (by omega), idx_bt _ hk, obs]
    by_cases hb : oddB ps xs rows L xs.length k = true
    · rw [if_pos hb, if_pos hb, appL_ok _ _ (by simp; omega) rfl, obs, wI_succ k (by omega)]
    · rw [if_neg hb, if_neg hb, wI_succ k (by omega)]
open Classical in
noncomputable def PK (t e : Nat) (xs ys : List UInt8) : List UInt8 := if h : ∃ P, Good t e xs ys P then Classical.choose h else []
theorem PK_good {t e : Nat} {xs ys : List UInt8} (h : ∃ P, Good t e xs ys P) : Good t e xs ys (PK t e xs ys) := by
  unfold PK; rw [dif_pos h]; exact Classical.choose_spec h
theorem wrg_zero {xs ys P : List UInt8} : ∀ n, (∀ i, i < n → evp P (co xs i) = co ys i) → wrg xs ys P n = 0
  | 0, _ => rfl
  | n + 1, h => by unfold wrg; rw [wrg_zero n (fun i hi => h i (by omega)), h n (by omega), if_pos rfl]
theorem co_takeU (xs : List UInt8) {t i : Nat} (h : i < t) : co (xs.take t) i = co xs i := by rw [co_take, if_pos h]
theorem atR_poly {ps : List UInt8} {rs : List (List UInt8)} {L k : Nat} (hn : ps.Nodup) {P : List UInt8} (hP : dg P ≤ ps.length) (hk : k < L) (h : ∀ i, i < ps.length → co (rs.getD i []) k = evp P (co ps i)) (x : UInt8) : co (atR ps rs L x) k = evp P x := by
  unfold atR
  rw [co_tab, if_pos hk, lagrange hn hP x]
  exact sm_congr _ fun i hi => by rw [h i hi]
theorem even_good {xs : List UInt8} {rows : List (List UInt8)} {t L k : Nat} (hn : xs.Nodup) (ht : t ≤ xs.length) (hk : k < L) (ho : oddB (xs.take t) xs rows L xs.length k = false) : ∃ P, dg P ≤ t ∧ ∀ i, i < xs.length → evp P (co xs i) = co (rows.getD i []) k := by
  have hpl : (xs.take t).length = t := by simp; omega
  have hpn : (xs.take t).Nodup := hn.sublist (List.take_sublist _ _)
  obtain ⟨P, hPe⟩ : ∃ P, P = lag (xs.take t) (fun i => mul (co (rows.getD i []) k) (inv (pe (xs.take t) i (co (xs.take t) i) (xs.take t).length))) (xs.take t).length := ⟨_, rfl⟩
  have hP : dg P ≤ t := by
    have := dg_lag (xs.take t) (fun i => mul (co (rows.getD i []) k) (inv (pe (xs.take t) i (co (xs.take t) i) (xs.take t).length))) (xs.take t).length (Nat.le_refl _)
    rw [hPe]; omega
  have hat : ∀ i, i < t → evp P (co xs i) = co (rows.getD i []) k := fun i hi => by
    have := lag_at hpn (fun i => co (rows.getD i []) k) (j := i) (by omega)
    rw [co_takeU xs hi] at this
    rw [hPe]; exact this
  refine ⟨P, hP, fun i hi => ?_⟩
  by_cases h : i < t
  · exact hat i h
  · unfold oddB at ho
    rw [List.any_eq_false] at ho
    have h2 := ho i (List.mem_range.2 hi)
    rw [hpl] at h2
    simp only [show t ≤ i by omega, decide_true, Bool.true_and] at h2
    unfold dif at h2
    simp only [ne_eq, decide_eq_true_eq, Classical.not_not] at h2
    rw [← h2, atR_poly hpn (P := P) (by omega) hk (fun j hj => ?_)]
    rw [hpl] at hj
    rw [co_takeU xs hj, hat j hj]
    simp [List.getD_eq_getElem?_getD, List.getElem?_take, hpl, hj]
theorem good_even {xs : List UInt8} {rows : List (List UInt8)} {t e k : Nat} {P : List UInt8} (hP : dg P ≤ t) (h : ∀ i, i < xs.length → evp P (co xs i) = co (rows.getD i []) k) : Good t e xs (clm rows k xs.length) P := by
  have : wrg xs (clm rows k xs.length) P xs.length = 0 := wrg_zero _ fun i hi => by rw [co_clm _ _ _ _ hi]; exact h i hi
  exact ⟨hP, by omega, by omega⟩
theorem clm_loop (rows : List (List UInt8)) (k L n : Nat) (hl : rows.length = n) (hr : ∀ i, i < n → (rows.getD i []).length = L) (hk : k < L) (hn : n ≤ 1000) : iterC (fun s56 : List UInt8 × Int =>
(if s56.2 < (rows.length : Int) then
((idx rows s56.2).bind fun c59 =>
((idx c59 (k : Int)).bind fun c61 =>
((appL s56.1 (([c61] : List UInt8))).bind fun c65 => some (.inl (c65, (wI (s56.2 + 1)))))))
else some (.inr s56.1))) (([] : List UInt8), 0) = some (clm rows k n) := by
  have hm : 1000 < most := by decide
  refine iterC_count (fun i => (clm rows k i, (i : Int))) n _ rfl (fun i hi => ?_) (by simp only; rw [if_neg (by omega)])
  simp only
  rw [if_pos (by omega), idx_getD (by omega), obs, idx_co (by rw [hr i hi]; exact hk), obs, appL_ok _ _ (by rw [clm_len]; simp; omega) rfl, obs, wI_succ i (by omega)]
  unfold clm
  rw [List.range_succ, List.map_append]; rfl
end Gk

/- Chapter 10: rows, mended. No condition. -/
namespace Gk
open Gf
theorem subL_0 {α : Type} (l : List α) (b : Nat) (h : b ≤ l.length) : subL l 0 (b : Int) = some (l.take b) := by
  have := subL_nat l 0 b (Nat.zero_le _) h
  rwa [show ((0 : Nat) : Int) = 0 from rfl, List.drop_zero] at this
theorem getD_takeR (rows : List (List UInt8)) {t i : Nat} (h : i < t) : (rows.take t).getD i [] = rows.getD i [] := by simp [List.getD_eq_getElem?_getD, List.getElem?_take, h]
theorem CloneB_eq (b : List UInt8) (h : b.length ≤ most) : slices_Clone_sbytebyte b = some b := by
  unfold slices_Clone_sbytebyte; exact appL_nil b h
def Fixed (t e : Nat) (xs : List UInt8) (rows : List (List UInt8)) (L : Nat) (R : List (List UInt8)) : Prop :=
  R.length = t ∧ (∀ i, i < t → (R.getD i []).length = L) ∧ (∀ k, k < L → ∃ P, Good t e xs (clm rows k xs.length) P) ∧ ∀ i, i < t → ∀ k, k < L → co (R.getD i []) k = evp (PK t e xs (clm rows k xs.length)) (co xs i)
theorem fix_rows (t e : Nat) (xs : List UInt8) (rows : List (List UInt8)) (L : Nat) (h1 : 1 ≤ t) (ht : t ≤ xs.length) (h255 : xs.length ≤ 255) (hn : xs.Nodup) (hl : rows.length = xs.length) (hr : ∀ i, i < xs.length → (rows.getD i []).length = L) (hL : L ≤ 1000) (od : List Nat) (hod : od = (List.range L).filter (oddB (xs.take t) xs rows L xs.length)) :
    ∃ x : (List (List UInt8)) ⊕ (Option (Bool × List UInt8 × List (List UInt8) × List Int) × Int), iterC (fun s52 : List (List UInt8) × Int =>
(if s52.2 < ((od.map fun (k : Nat) => (k : Int)).length : Int) then
((idx (od.map fun (k : Nat) => (k : Int)) s52.2).bind fun c55 =>
((iterC (fun s56 : List UInt8 × Int =>
(if s56.2 < (rows.length : Int) then
((idx rows s56.2).bind fun c59 =>
((idx c59 c55).bind fun c61 =>
((appL s56.1 (([c61] : List UInt8))).bind fun c65 => some (.inl (c65, (wI (s56.2 + 1)))))))
else some (.inr s56.1))) (([] : List UInt8), 0)).bind fun x56 =>
((mend_column true (t : Int) xs x56 (e : Int)).bind fun r73 =>
(if r73.2 = 0 then
((iterC (fun s76 : List (List UInt8) × Int =>
(if s76.2 < ((xs.take t).length : Int) then
((idx (xs.take t) s76.2).bind fun c79 =>
((idx s76.1 s76.2).bind fun c82 =>
((poly_Eval true r73.1 c79).bind fun r84 =>
((idx c82 c55).bind fun c86 => some (.inl ((s76.1.set (s76.2 : Int).toNat (c82.set (c55 : Int).toNat r84)), (wI (s76.2 + 1))))))))
else some (.inr s76.1))) (s52.1, 0)).bind fun x76 => some (.inl (x76, (wI (s52.2 + 1)))))
else some (.inr (.inr ((none : Option (Bool × List UInt8 × List (List UInt8) × List Int)), r73.2)))))))
else some (.inr (.inl s52.1)))) (rows.take t, 0) = some x ∧ ((∃ R, x = .inl R ∧ Fixed t e xs rows L R) ∨ (x = .inr (none, 11) ∧ ∃ k, k < L ∧ ∀ P, ¬ Good t e xs (clm rows k xs.length) P)) := by
  have hm : 1000 ≤ most := by decide
  have hm2 := most_lt'
  have hodq : ∀ q, q ∈ od → q < L := fun q hq => by
    rw [hod] at hq
    exact List.mem_range.1 (List.mem_filter.1 hq).1
  have hodl : ∀ m, m < od.length → od.getD m 0 < L := fun m hm3 => hodq _ (by simp [List.getD_eq_getElem?_getD, hm3])
  have hodn : od.length ≤ L := by
    rw [hod]
    have := List.length_filter_le (oddB (xs.take t) xs rows L xs.length) (List.range L)
    simpa using this
  have hidx : ∀ m, m < od.length → idx (od.map fun (k : Nat) => (k : Int)) (m : Int) = some ((od.getD m 0 : Nat) : Int) := fun m hm3 => by
    rw [idx_nat]; simp [List.getD_eq_getElem?_getD, hm3]
  refine iterC_inv (fun s => ∃ j : Nat, s.2 = (j : Int) ∧ j ≤ od.length ∧ s.1.length = t ∧ (∀ i, i < t → (s.1.getD i []).length = L) ∧ (∀ k, k ∈ od.take j → ∃ P, Good t e xs (clm rows k xs.length) P) ∧ ∀ i, i < t → ∀ k, k < L → co (s.1.getD i []) k = if k ∈ od.take j then evp (PK t e xs (clm rows k xs.length)) (co xs i) else co (rows.getD i []) k) (fun s => od.length - s.2.toNat) _ ?_ _ ⟨0, rfl, Nat.zero_le _, by simp; omega, fun i hi => by rw [getD_takeR rows hi]; exact hr i (by omega), by simp, fun i hi k hk => by simp only; rw [if_neg (by simp), getD_takeR rows hi]⟩
  rintro ⟨R, _⟩ ⟨j, rfl, hj, hRl, hRr, hg, hco⟩
  simp only at hRl hRr hco ⊢
  by_cases hjl : j < od.length
  · have hkL := hodl j hjl
    have htk : od.take (j + 1) = od.take j ++ [od.getD j 0] := by
      rw [List.take_add_one]
      simp [List.getD_eq_getElem?_getD, hjl]
    rw [List.length_map, if_pos (by omega), hidx j hjl, obs, clm_loop rows (od.getD j 0) L xs.length hl hr hkL (by omega), obs]
    generalize od.getD j 0 = k at hkL htk ⊢
    have hcs := column_spec xs (clm rows k xs.length) t e (by rw [clm_len]) h1 ht h255 hn
    by_cases hgd : ∃ P, Good t e xs (clm rows k xs.length) P
    · left
      have hP := PK_good hgd
      generalize hPe : PK t e xs (clm rows k xs.length) = P at hP
      have hPl : (trim P).length ≤ 255 := by have := hP.1; unfold dg at this; omega
      rw [hcs.1 P hP, obs, if_pos rfl]
      simp only
      refine ⟨_, bind_of (rows_loop R t hRl (fun i => (R.getD i []).set k (evp P (co xs i))) (fun i hi => ?_) (fun s => by simp; omega)) (by rw [wI_succ j (by omega)]), ⟨j + 1, rfl, hjl, by simp, fun i hi => ?_, fun q hq => ?_, fun i hi q hq => ?_⟩, by simp only [Int.toNat_natCast]; omega⟩
      · simp only
        have hU := updR_len R (fun i => (R.getD i []).set k (evp P (co xs i))) i
        have hG := getD_updR R (fun i => (R.getD i []).set k (evp P (co xs i))) i i (by omega)
        rw [if_neg (by omega)] at hG
        generalize updR R (fun i => (R.getD i []).set k (evp P (co xs i))) i = s at hU hG ⊢
        rw [if_pos (by rw [List.length_take]; omega), idx_co (by rw [List.length_take]; omega), obs, idx_getD (by omega), obs, hG, poly_Eval_eq _ _ (by omega), obs, idx_co (by rw [hRr i hi]; exact hkL), obs, wI_succ i (by omega), Int.toNat_natCast, Int.toNat_natCast, ev_trim, co_takeU xs hi]
      · rw [getD_tab _ _ _ hi, List.length_set]; exact hRr i hi
      · rw [htk, List.mem_append] at hq
        rcases hq with hq | hq
        · exact hg q hq
        · rw [List.mem_singleton] at hq; rw [hq]; exact hgd
      · rw [getD_tab _ _ _ hi, co_set (by rw [hRr i hi]; exact hkL), htk]
        by_cases e1 : q = k
        · rw [if_pos e1, if_pos (by simp [e1]), e1, hPe]
        · rw [if_neg e1, hco i hi q hq]
          by_cases e2 : q ∈ od.take j
          · rw [if_pos e2, if_pos (by simp [e2])]
          · rw [if_neg e2, if_neg (by simp [e2, e1])]
    · right
      rw [hcs.2 (fun P hP => hgd ⟨P, hP⟩), obs]
      exact ⟨_, rfl, .inr ⟨rfl, k, hkL, fun P hP => hgd ⟨P, hP⟩⟩⟩
  · right
    rw [List.length_map, if_neg (by omega)]
    have hjo : od.take j = od := List.take_of_length_le (by omega)
    rw [hjo] at hg hco
    have hpn : ∀ k, k < L → k ∉ od → oddB (xs.take t) xs rows L xs.length k = false := fun k hk hno => by
      cases hb : oddB (xs.take t) xs rows L xs.length k with
      | false => rfl
      | true => exact absurd (by rw [hod]; exact List.mem_filter.2 ⟨List.mem_range.2 hk, hb⟩) hno
    have hgood : ∀ k, k < L → ∃ P, Good t e xs (clm rows k xs.length) P := fun k hk => by
      by_cases hko : k ∈ od
      · exact hg k hko
      · obtain ⟨P, hP, hPe⟩ := even_good hn ht hk (hpn k hk hko)
        exact ⟨P, good_even hP hPe⟩
    refine ⟨_, rfl, .inl ⟨R, rfl, hRl, hRr, hgood, fun i hi k hk => ?_⟩⟩
    rw [hco i hi k hk]
    by_cases hko : k ∈ od
    · rw [if_pos hko]
    · rw [if_neg hko]
      obtain ⟨P, hP, hPe⟩ := even_good hn ht hk (hpn k hk hko)
      rw [← hPe i (by omega)]
      exact ev_sim _ _ _ (Good.uniq hn ht (good_even hP hPe) (PK_good (hgood k hk)))
noncomputable def rowP (t e : Nat) (xs : List UInt8) (rows : List (List UInt8)) (L : Nat) (x : UInt8) : List UInt8 := (List.range L).map fun k => evp (PK t e xs (clm rows k xs.length)) x
theorem rowP_len (t e : Nat) (xs : List UInt8) (rows : List (List UInt8)) (L : Nat) (x : UInt8) : (rowP t e xs rows L x).length = L := by simp [rowP]
theorem Fixed.at {t e : Nat} {xs : List UInt8} {rows R : List (List UInt8)} {L : Nat} (h : Fixed t e xs rows L R) (h1 : 1 ≤ t) (ht : t ≤ xs.length) (h255 : xs.length ≤ 255) (hn : xs.Nodup) (hL : L ≤ 1000) (w : List Int) (x : UInt8) : mend_At (some (true, xs.take t, R, w)) x = some (rowP t e xs rows L x) := by
  obtain ⟨hl, hr, hg, hco⟩ := h
  have hpl : (xs.take t).length = t := by simp; omega
  have hpn : (xs.take t).Nodup := hn.sublist (List.take_sublist _ _)
  rw [At_eq (xs.take t) R L w x (by omega) (by omega) hpn (by omega) (fun i hi => hr i (by omega)) hL]
  congr 1
  refine eq_of_co (by rw [atR_len, rowP_len]) fun k => ?_
  by_cases hk : k < L
  · rw [atR_poly hpn (P := PK t e xs (clm rows k xs.length)) (by rw [hpl]; exact (PK_good (hg k hk)).1) hk (fun i hi => by rw [hpl] at hi; rw [hco i hi k hk, co_takeU xs hi])]
    unfold rowP; rw [co_tab, if_pos hk]
  · rw [co_ge (by rw [atR_len]; omega), co_ge (by rw [rowP_len]; omega)]
theorem Equal_eq (a b : List UInt8) (h : a.length ≤ most) : slices_Equal_sbytebyte a b = some (decide (a = b)) := by
  have hm2 := most_lt'
  unfold slices_Equal_sbytebyte
  by_cases hl : a.length = b.length
  · rw [if_pos (by omega)]
    obtain ⟨x, e, h1, h2⟩ := iterC_find (body := fun s2 : Int => (if s2 < (a.length : Int) then ((idx a s2).bind fun c7 => ((idx b s2).bind fun c8 => (if c7 = c8 then some (.inl (wI (s2 + 1))) else some (.inr (.inr false))))) else some (.inr (.inl ())))) a.length (fun i => co a i ≠ co b i) (Sum.inr false : Unit ⊕ Bool) (Sum.inl ())
      (fun i hi hc => by
        rw [if_pos (by omega), idx_co hi, obs, idx_co (by omega), obs, if_pos (Classical.not_not.1 hc), wI_succ i (by omega)])
      (fun i hi hc => by
        rw [if_pos (by omega), idx_co hi, obs, idx_co (by omega), obs, if_neg hc]) (by simp)
    rw [e, obs]
    by_cases hab : ∃ i, i < a.length ∧ co a i ≠ co b i
    · rw [h1 hab, Sum.elim_inr, decide_eq_false]
      rintro rfl
      obtain ⟨i, _, hi⟩ := hab
      exact hi rfl
    · have hall : ∀ i, i < a.length → co a i = co b i := fun i hi => Classical.byContradiction fun hc => hab ⟨i, hi, hc⟩
      rw [h2 (fun i hi hc => hc (hall i hi)), Sum.elim_inl, decide_eq_true]
      refine eq_of_co hl fun i => ?_
      by_cases hi : i < a.length
      · exact hall i hi
      · rw [co_ge (by omega), co_ge (by omega)]
  · rw [if_neg (by omega), decide_eq_false]
    rintro rfl; exact hl rfl
noncomputable def badR (t e : Nat) (xs : List UInt8) (rows : List (List UInt8)) (L i : Nat) : Bool := !decide (rowP t e xs rows L (co xs i) = rows.getD i [])
noncomputable def mended (t e : Nat) (xs : List UInt8) (rows : List (List UInt8)) (L : Nat) (R : List (List UInt8)) : Bool × List UInt8 × List (List UInt8) × List Int := (true, xs.take t, R, ((List.range xs.length).filter (badR t e xs rows L)).map fun (k : Nat) => (k : Int))
theorem Rows_spec (t e : Nat) (xs : List UInt8) (rows : List (List UInt8)) (L : Nat) (hc : mcode (t : Int) xs (rows.length : Int) (e : Int) = 0) (hr : ∀ i, i < rows.length → (rows.getD i []).length = L) (hL : L ≤ 1000) :
    (∃ R, mend_Rows true (t : Int) xs rows (e : Int) = some (some (mended t e xs rows L R), 0) ∧ Fixed t e xs rows L R) ∨ (mend_Rows true (t : Int) xs rows (e : Int) = some (none, 11) ∧ ∃ k, k < L ∧ ∀ P, ¬ Good t e xs (clm rows k xs.length) P) := by
  obtain ⟨q1, q2, q3, q4, q5, q6⟩ := mcode_ok hc
  have hm : 1000 ≤ most := by decide
  have hm2 := most_lt'
  have hpl : (xs.take t).length = t := by simp; omega
  unfold mend_Rows
  rw [mend_check_eq _ _ _ _ (by omega), hc, obs, if_pos rfl, lim_of (by omega), obs]
  have hany : anyO (fun y7 => mend_Rows_1 y7 rows) rows = some (rows.any fun r => decide (r.length ≠ L)) := anyO_all _ _ _ fun r _ => by
    unfold mend_Rows_1
    rw [idx_0 (by omega), obs, hr 0 (by omega)]
    by_cases h : r.length = L <;> simp [h]
    omega
  have hno : (rows.any fun r => decide (r.length ≠ L)) = false := by
    rw [List.any_eq_false]
    intro r hr3
    obtain ⟨i, hi, rfl⟩ := mem_getD hr3
    rw [hr i hi]; simp
  rw [hany, hno, obs, if_neg (by decide), subL_0 xs t (by omega), obs, CloneB_eq _ (by omega), obs, subL_0 rows t (by omega), obs]
  have hcl : iterC (fun s21 : List (List UInt8) × Int => (if s21.2 < ((rows.take t).length : Int) then ((idx (rows.take t) s21.2).bind fun c24 => ((slices_Clone_sbytebyte c24).bind fun r28 => ((appL s21.1 [r28]).bind fun c37 => some (.inl (c37, (wI (s21.2 + 1))))))) else some (.inr s21.1))) (([] : List (List UInt8)), 0) = some (rows.take t) := by
    have htl : (rows.take t).length = t := by simp; omega
    refine iterC_count (fun i => ((rows.take t).take i, (i : Int))) t _ (by simp) (fun i hi => ?_) ?_
    · simp only
      rw [if_pos (by omega), idx_getD (by omega), obs, CloneB_eq _ (by rw [getD_takeR rows hi, hr i (by omega)]; omega), obs, appL_ok _ _ (by simp; omega) rfl, obs, wI_succ i (by omega), rows_snoc (by omega)]
    · simp only
      rw [if_neg (by omega), List.take_of_length_le (by omega)]
  have hodd := odd_eq (xs.take t) xs rows L (by omega) (by omega) (q6.sublist (List.take_sublist _ _)) (by omega) q5 (by omega) (fun i hi => hr i (by omega)) hL
  rw [hpl] at hodd
  rw [hcl, obs, hodd, obs]
  obtain ⟨x, ex, hx⟩ := fix_rows t e xs rows L (by omega) (by omega) q5 q6 (by omega) (fun i hi => hr i (by omega)) hL _ rfl
  rw [ex, obs]
  rcases hx with ⟨R, rfl, hF⟩ | ⟨rfl, hb⟩
  · left
    refine ⟨R, ?_, hF⟩
    rw [Sum.elim_inl]
    refine bind_of (filt_loop xs.length (badR t e xs rows L) (fun i s hi hs => ?_) (fun s => by simp)) rfl
    simp only
    rw [if_pos (by omega), idx_co hi, obs, idx_getD (by omega), obs, hF.at (by omega) (by omega) q5 q6 hL, obs, Equal_eq _ _ (by rw [rowP_len]; omega), obs]
    unfold badR
    by_cases hb : rowP t e xs rows L (co xs i) = rows.getD i []
    · rw [decide_eq_true hb, if_neg (by decide), if_neg (by decide), wI_succ i (by omega)]
    · rw [decide_eq_false hb, if_pos (by decide), if_pos (by decide), appL_ok _ _ (by simp; omega) rfl, obs, wI_succ i (by omega)]
  · right
    exact ⟨by rw [Sum.elim_inr], hb⟩
theorem Rows_code (t : Int) (xs : List UInt8) (rows : List (List UInt8)) (e : Int) (h : xs.length ≤ most) (hc : mcode t xs (rows.length : Int) e ≠ 0) : mend_Rows true t xs rows e = some (none, mcode t xs (rows.length : Int) e) := by
  unfold mend_Rows
  rw [mend_check_eq _ _ _ _ h, obs, if_neg hc]
theorem Rows_form (t : Int) (xs : List UInt8) (rows : List (List UInt8)) (e : Int) (hc : mcode t xs (rows.length : Int) e = 0) (hb : ∃ i, i < rows.length ∧ (rows.getD i []).length ≠ (rows.getD 0 []).length) : mend_Rows true t xs rows e = some (none, 3) := by
  obtain ⟨q1, q2, q3, q4, q5, q6⟩ := mcode_ok hc
  have hm : 1000 ≤ most := by decide
  have hm2 := most_lt'
  obtain ⟨i, hi, hne⟩ := hb
  unfold mend_Rows
  have hany : anyO (fun y7 => mend_Rows_1 y7 rows) rows = some (rows.any fun r => decide (r.length ≠ (rows.getD 0 []).length)) := anyO_all _ _ _ fun r _ => by
    unfold mend_Rows_1
    rw [idx_0 (by omega), obs]
    by_cases h : r.length = (rows.getD 0 []).length
    · simp only [ne_eq, h, decide_true, Bool.not_true, not_true_eq_false, decide_false]
    · have : ¬ (r.length : Int) = ((rows.getD 0 []).length : Int) := by omega
      simp only [ne_eq, h, this, decide_false, Bool.not_false, not_false_eq_true, decide_true]
  have hyes : (rows.any fun r => decide (r.length ≠ (rows.getD 0 []).length)) = true := by
    rw [List.any_eq_true]
    exact ⟨rows.getD i [], getD_mem hi, by simpa using hne⟩
  rw [mend_check_eq _ _ _ _ (by omega), hc, obs, if_pos rfl, lim_of (by omega), obs, hany, hyes, obs, if_pos rfl]
end Gk

/- The law MendRows. No condition. -/
namespace Gk
open Gf
theorem zero_good (t e : Nat) (xs : List UInt8) (n : Nat) (hn : n = xs.length) : Good t e xs (List.replicate n 0) [] := by
  have : wrg xs (List.replicate n 0) [] xs.length = 0 := wrg_zero _ fun i hi => by rw [co_rep]; rfl
  exact ⟨by rw [show dg [] = 0 from rfl]; exact Nat.zero_le _, by omega, by omega⟩
theorem form_loop (rows : List (List UInt8)) (h6 : rows.length ≤ 6) : ∃ r : Int ⊕ Bool, iterC (fun s12 : Int × Int =>
(if s12.2 < (rows.length : Int) then
((idx rows s12.2).bind fun c15 =>
(if 8 < (c15.length : Int) then some (.inr (.inr true))
else
((idx rows 0).bind fun c18 =>
(if (c15.length : Int) = (c18.length : Int) then some (.inl (s12.1, (wI (s12.2 + 1))))
else some (.inl (3, (wI (s12.2 + 1))))))))
else some (.inr (.inl s12.1)))) (0, 0) = some r ∧ (r = .inr true ∨ ∃ y : Int, r = .inl y ∧ (∀ i, i < rows.length → (rows.getD i []).length ≤ 8) ∧ ((y = 0 ∧ ∀ i, i < rows.length → (rows.getD i []).length = (rows.getD 0 []).length) ∨ (y = 3 ∧ ∃ i, i < rows.length ∧ (rows.getD i []).length ≠ (rows.getD 0 []).length))) := by
  refine iterC_inv (fun s => ∃ j : Nat, s.2 = (j : Int) ∧ j ≤ rows.length ∧ (∀ i, i < j → (rows.getD i []).length ≤ 8) ∧ ((s.1 = 0 ∧ ∀ i, i < j → (rows.getD i []).length = (rows.getD 0 []).length) ∨ (s.1 = 3 ∧ ∃ i, i < rows.length ∧ (rows.getD i []).length ≠ (rows.getD 0 []).length))) (fun s => rows.length - s.2.toNat) _ ?_ _ ⟨0, rfl, Nat.zero_le _, fun i hi => absurd hi (by omega), .inl ⟨rfl, fun i hi => absurd hi (by omega)⟩⟩
  rintro ⟨y, _⟩ ⟨j, rfl, hj, h8, hy⟩
  simp only at hy ⊢
  by_cases hjl : j < rows.length
  · rw [if_pos (by omega), idx_getD hjl, obs]
    by_cases h9 : 8 < ((rows.getD j []).length : Int)
    · right
      rw [if_pos h9]
      exact ⟨_, rfl, .inl rfl⟩
    · left
      rw [if_neg h9, idx_0 (by omega), obs, wI_succ j (by omega)]
      have h8' : ∀ i, i < j + 1 → (rows.getD i []).length ≤ 8 := fun i hi => by
        by_cases e : i = j
        · rw [e]; omega
        · exact h8 i (by omega)
      by_cases he : ((rows.getD j []).length : Int) = ((rows.getD 0 []).length : Int)
      · rw [if_pos he]
        refine ⟨_, rfl, ⟨j + 1, rfl, hjl, h8', ?_⟩, by simp only [Int.toNat_natCast]; omega⟩
        rcases hy with ⟨h1, h2⟩ | h
        · exact .inl ⟨h1, fun i hi => by
            by_cases e : i = j
            · rw [e]; omega
            · exact h2 i (by omega)⟩
        · exact .inr h
      · rw [if_neg he]
        exact ⟨_, rfl, ⟨j + 1, rfl, hjl, h8', .inr ⟨rfl, j, hjl, by omega⟩⟩, by simp only [Int.toNat_natCast]; omega⟩
  · right
    rw [if_neg (by omega)]
    have : j = rows.length := by omega
    subst this
    exact ⟨_, rfl, .inr ⟨y, rfl, h8, hy⟩⟩
theorem Wrong_eq (m : Bool × List UInt8 × List (List UInt8) × List Int) (h : m.2.2.2.length ≤ most) : mend_Wrong (some m) = some m.2.2.2 := by
  unfold mend_Wrong
  rw [if_neg (by simp), obs]
  unfold slices_Clone_sintint
  rw [appL_nil _ h]; rfl
theorem filter_at (g : Nat → Bool) (n i : Nat) (hi : i < n) (hg : g i = true) : ((List.range n).filter g)[((List.range i).filter g).length]? = some i := by
  have e : List.range n = List.range i ++ i :: (List.range' (i + 1) (n - i - 1)) := by
    rw [show n = i + (n - i) by omega, List.range_add, show i + (n - i) - i - 1 = n - i - 1 by omega]
    congr 1
    rw [← List.range'_eq_map_range, show n - i = (n - i - 1) + 1 by omega, List.range'_succ, show n - i - 1 + 1 - 1 = n - i - 1 by omega]
  rw [e, List.filter_append, List.filter_cons_of_pos hg, List.getElem?_append_right (Nat.le_refl _), Nat.sub_self]; rfl
def anyB (f : Nat → Nat → Bool) (j i : Nat) : Bool := (List.range j).any fun k => f i k
theorem anyB_succ (f : Nat → Nat → Bool) (j i : Nat) : anyB f (j + 1) i = (anyB f j i || f i j) := by
  unfold anyB; rw [List.range_succ, List.any_append]; simp
noncomputable def cell (t e : Nat) (xs : List UInt8) (rows : List (List UInt8)) (i k : Nat) : Bool := !decide (evp (PK t e xs (clm rows k xs.length)) (co xs i) = co (rows.getD i []) k)
theorem anyB_badR {t e : Nat} {xs : List UInt8} {rows : List (List UInt8)} {L : Nat} {i : Nat} (hr : (rows.getD i []).length = L) : anyB (cell t e xs rows) L i = badR t e xs rows L i := by
  unfold anyB badR
  by_cases h : rowP t e xs rows L (co xs i) = rows.getD i []
  · rw [decide_eq_true h, Bool.not_true, List.any_eq_false]
    intro k hk
    have hkL := List.mem_range.1 hk
    unfold cell
    rw [← h]
    unfold rowP
    rw [co_tab, if_pos hkL]; simp
  · rw [decide_eq_false h, Bool.not_false, List.any_eq_true]
    refine Classical.byContradiction fun hno => h (eq_of_co (by rw [rowP_len, hr]) fun k => ?_)
    by_cases hk : k < L
    · unfold rowP
      rw [co_tab, if_pos hk]
      refine Classical.byContradiction fun hne => hno ⟨k, List.mem_range.2 hk, ?_⟩
      unfold cell
      rw [decide_eq_false hne]; rfl
    · rw [co_ge (by rw [rowP_len]; omega), co_ge (by omega)]
noncomputable def cols (t e : Nat) (xs : List UInt8) (rows : List (List UInt8)) (x : UInt8) (L j : Nat) : List UInt8 := (List.range L).map fun k => if k < j then evp (PK t e xs (clm rows k xs.length)) x else 0
theorem cols_loop (t e : Nat) (xs : List UInt8) (rows : List (List UInt8)) (L : Nat) (x : UInt8) (g : Option (Bool × List UInt8 × List (List UInt8) × List Int) × Int) (h1 : 1 ≤ t) (ht : t ≤ xs.length) (h7 : xs.length ≤ 7) (hn : xs.Nodup) (hl : rows.length = xs.length) (hr : ∀ i, i < xs.length → (rows.getD i []).length = L) (hL : L ≤ 1000) (n : Nat) (hnn : n = xs.length) :
    ∃ r : (List UInt8 × List Bool) ⊕ Bool, iterC (fun s44 : List UInt8 × List Bool × Int =>
(if s44.2.2 < ((List.replicate L (0 : UInt8)).length : Int) then
((iterC (fun s47 : List UInt8 × Int =>
(if s47.2 < (rows.length : Int) then
((idx rows s47.2).bind fun c50 =>
((idx c50 s44.2.2).bind fun c52 =>
((appL s47.1 (([c52] : List UInt8))).bind fun c55 => some (.inl (c55, (wI (s47.2 + 1)))))))
else some (.inr s47.1))) (([] : List UInt8), 0)).bind fun x47 =>
((ref10_Column (t : Int) xs x47 (e : Int)).bind fun r62 =>
(if (!r62.2) = true then
(if g.2 = 11 then some (.inr (.inr g.1.isNone))
else some (.inr (.inr false)))
else
((ref03_Eval r62.1 x).bind fun r67 =>
((idx s44.1 s44.2.2).bind fun c69 =>
((iterC (fun s72 : List Bool × Int =>
(if s72.2 < (xs.length : Int) then
((idx s72.1 s72.2).bind fun c77 =>
(if c77 = true then some (.inl ((s72.1.set (s72.2 : Int).toNat true), (wI (s72.2 + 1))))
else
((idx xs s72.2).bind fun c81 =>
((idx x47 s72.2).bind fun c82 =>
((ref03_Eval r62.1 c81).bind fun r83 => some (.inl ((s72.1.set (s72.2 : Int).toNat ((!decide (r83 = c82)))), (wI (s72.2 + 1)))))))))
else some (.inr s72.1))) (s44.2.1, 0)).bind fun x72 => some (.inl ((s44.1.set (s44.2.2 : Int).toNat r67), x72, (wI (s44.2.2 + 1))))))))))
else some (.inr (.inl (s44.1, s44.2.1))))) (List.replicate L 0, List.replicate n false, 0) = some r ∧
    ((r = .inl (rowP t e xs rows L x, bt n (anyB (cell t e xs rows) L)) ∧ ∀ k, k < L → ∃ P, Good t e xs (clm rows k xs.length) P) ∨ (r = .inr (decide (g.2 = 11) && g.1.isNone) ∧ ∃ k, k < L ∧ ∀ P, ¬ Good t e xs (clm rows k xs.length) P)) := by
  subst hnn
  have hm : 1000 ≤ most := by decide
  have hm2 := most_lt'
  refine iterC_inv (fun s => ∃ j : Nat, j ≤ L ∧ s = (cols t e xs rows x L j, bt xs.length (anyB (cell t e xs rows) j), (j : Int)) ∧ ∀ k, k < j → ∃ P, Good t e xs (clm rows k xs.length) P) (fun s => L - s.2.2.toNat) _ ?_ _ ⟨0, Nat.zero_le _, ?_, fun k hk => absurd hk (by omega)⟩
  · rintro _ ⟨j, hj, rfl, hg⟩
    simp only
    by_cases hjl : j < L
    · rw [List.length_replicate, if_pos (by omega), clm_loop rows j L xs.length hl hr hjl (by omega), obs]
      obtain ⟨q, ok, hq, hok, hno⟩ := refColumn_spec t xs (clm rows j xs.length) e (by rw [clm_len]) h1 ht h7 hn
      rw [hq, obs]
      cases ok with
      | false =>
        right
        rw [if_pos (by simp)]
        by_cases hg11 : g.2 = 11
        · rw [if_pos hg11]
          exact ⟨_, rfl, .inr ⟨by rw [decide_eq_true hg11, Bool.true_and], j, hjl, hno rfl⟩⟩
        · rw [if_neg hg11]
          exact ⟨_, rfl, .inr ⟨by rw [decide_eq_false hg11, Bool.false_and], j, hjl, hno rfl⟩⟩
      | true =>
        left
        obtain ⟨P, hP, rfl⟩ := hok rfl
        have hgd : ∃ P, Good t e xs (clm rows j xs.length) P := ⟨P, hP⟩
        have hev : ∀ a, evp (trim P) a = evp (PK t e xs (clm rows j xs.length)) a := fun a => by
          rw [ev_trim]; exact ev_sim _ _ _ (Good.uniq hn ht hP (PK_good hgd))
        have hPl : (trim P).length ≤ 255 := by have := hP.1; unfold dg at this; omega
        rw [if_neg (by simp)]
        simp only
        rw [ref03_Eval_eq _ _ (by omega), obs, idx_co (by simp [cols]; omega), obs]
        refine ⟨_, bind_of (or_loop xs.length xs.length (Nat.le_refl _) _ (fun i => cell t e xs rows i j) (fun i s hi his => ?_) (fun s => by simp)) (by rw [wI_succ j (by omega)]), ⟨j + 1, hjl, ?_, fun k hk => ?_⟩, by simp only [Int.toNat_natCast]; omega⟩
        · simp only
          rw [if_pos (by omega), his, obs]
          by_cases hb : anyB (cell t e xs rows) j i = true
          · rw [if_pos hb, hb, Bool.true_or, wI_succ i (by omega), Int.toNat_natCast]
          · rw [if_neg hb, idx_co hi, obs, idx_co (by rw [clm_len]; exact hi), obs, ref03_Eval_eq _ _ (by omega), obs, wI_succ i (by omega), Int.toNat_natCast, hev, co_clm _ _ _ _ hi]
            rw [Bool.not_eq_true] at hb
            rw [hb, Bool.false_or]; rfl
        · congr 1
          · rw [Int.toNat_natCast, hev]
            refine eq_of_co (by simp [cols]) fun k => ?_
            rw [co_set (by simp [cols]; omega)]
            unfold cols
            rw [co_tab, co_tab]
            by_cases e1 : k = j
            · rw [if_pos e1, if_pos (by omega), if_pos (by omega), e1]
            · rw [if_neg e1]
              by_cases hk : k < L
              · rw [if_pos hk, if_pos hk]
                by_cases h2 : k < j
                · rw [if_pos h2, if_pos (by omega)]
                · rw [if_neg h2, if_neg (by omega)]
              · rw [if_neg hk, if_neg hk]
          · congr 1
            refine bt_congr fun i hi => ?_
            rw [if_pos hi, anyB_succ]
        · by_cases e1 : k = j
          · rw [e1]; exact hgd
          · exact hg k (by omega)
    · right
      rw [List.length_replicate, if_neg (by omega)]
      obtain rfl : j = L := by omega
      refine ⟨_, rfl, .inl ⟨?_, hg⟩⟩
      congr 2
      unfold cols rowP
      exact List.map_congr_left fun k hk => by rw [if_pos (List.mem_range.1 hk)]
  · congr 1
    · refine eq_of_co (by simp [cols]) fun k => ?_
      unfold cols
      rw [co_rep, co_tab]
      split <;> simp
    · congr 1
      rw [bt_rep]; rfl
theorem count_loop (n : Nat) (hn : n ≤ 1000) (g : Nat → Bool) (m : Bool × List UInt8 × List (List UInt8) × List Int) (hm : m.2.2.2 = ((List.range n).filter g).map fun (k : Nat) => (k : Int)) : iterC (fun s99 : Int × Int =>
(if s99.2 < ((bt n g).length : Int) then
((idx (bt n g) s99.2).bind fun c102 =>
(if (!c102) = true then some (.inl (s99.1, (wI (s99.2 + 1))))
else
((mend_Wrong (some m)).bind fun r104 =>
(if (r104.length : Int) ≤ s99.1 then some (.inr (.inr false))
else
((mend_Wrong (some m)).bind fun r107 =>
((idx r107 s99.1).bind fun c109 =>
(if c109 = s99.2 then some (.inl ((wI (s99.1 + 1)), (wI (s99.2 + 1))))
else some (.inr (.inr false)))))))))
else some (.inr (.inl s99.1)))) (0, 0) = some ((.inl (((List.range n).filter g).length : Int)) : Int ⊕ Bool) := by
  have hmo : 1000 ≤ most := by decide
  have hle : ∀ i, ((List.range i).filter g).length ≤ i := fun i => by
    have := List.length_filter_le g (List.range i); simpa using this
  have hW : mend_Wrong (some m) = some (((List.range n).filter g).map fun (k : Nat) => (k : Int)) := by
    rw [Wrong_eq m (by rw [hm, List.length_map]; have := hle n; omega), hm]
  refine iterC_count (fun i => ((((List.range i).filter g).length : Int), (i : Int))) n _ rfl (fun i hi => ?_) (by simp only; rw [bt_len, if_neg (by omega)])
  simp only
  rw [bt_len, if_pos (by omega), idx_bt g hi, obs, List.range_succ, List.filter_append, List.length_append]
  have hli := hle i
  by_cases hb : g i = true
  · have hat := filter_at g n i hi hb
    have hlt : ((List.range i).filter g).length < ((List.range n).filter g).length := (List.getElem?_eq_some_iff.1 hat).1
    have hix : idx (((List.range n).filter g).map fun (k : Nat) => (k : Int)) (((List.range i).filter g).length : Int) = some (i : Int) := by
      rw [idx_nat, List.getElem?_map, hat]; rfl
    rw [hb, if_neg (by decide), hW, obs, List.length_map, if_neg (by omega), obs, hix, obs, if_pos rfl, wI_succ _ (by omega), wI_succ i (by omega)]
    simp [hb]
  · rw [Bool.not_eq_true] at hb
    rw [hb, if_pos (by decide), wI_succ i (by omega)]
    simp [hb]
theorem law10_MendRows_true (t : Int) (xs : List UInt8) (rows : List (List UInt8)) (e : Int) (x : UInt8) (lo0 : -9223372036854775808 ≤ t) (hi0 : t ≤ 9223372036854775807) (lo1 : -9223372036854775808 ≤ e) (hi1 : e ≤ 9223372036854775807) : law10_MendRows t xs rows e x = some true := by
  unfold law10_MendRows
  have hm : (1000 : Nat) ≤ most := by decide
  have hm2 := most_lt'
  rw [lives10, obs, if_neg (by decide)]
  by_cases hx : 6 < (rows.length : Int)
  · rw [if_pos hx]; rfl
  rw [if_neg hx]
  by_cases hy : 6 < (xs.length : Int)
  · rw [if_pos hy]; rfl
  rw [if_neg hy]
  obtain ⟨r, er, hr⟩ := form_loop rows (by omega)
  rw [er, obs]
  rcases hr with rfl | ⟨y, rfl, h8, hy3⟩
  · rw [Sum.elim_inr]
  rw [Sum.elim_inl, field_New, obs]
  by_cases hc : mcode t xs (rows.length : Int) e = 0
  · obtain ⟨q1, q2, q3, q4, q5, q6⟩ := mcode_ok hc
    obtain ⟨t', rfl⟩ : ∃ k : Nat, t = (k : Int) := ⟨t.toNat, by omega⟩
    obtain ⟨e', rfl⟩ : ∃ k : Nat, e = (k : Int) := ⟨e.toNat, by omega⟩
    have hcol : mend_Column true (t' : Int) xs (List.replicate rows.length 0) (e' : Int) = some ([], 0) := by
      have := (Column_spec t' xs (List.replicate rows.length 0) e' (by rw [List.length_replicate]; exact hc)).1 [] (zero_good _ _ _ _ (by omega))
      exact this
    rcases hy3 with ⟨rfl, hf⟩ | ⟨rfl, hf⟩
    · have hL := h8 0 (by omega)
      obtain ⟨L, hLe⟩ : ∃ L, L = (rows.getD 0 []).length := ⟨_, rfl⟩
      rw [← hLe] at hf hL
      have hf' : ∀ i, i < xs.length → (rows.getD i []).length = L := fun i hi => hf i (by omega)
      have hrows := Rows_spec t' e' xs rows L hc hf (by omega)
      obtain ⟨g, hge, hgs⟩ : ∃ g, mend_Rows true (t' : Int) xs rows (e' : Int) = some g ∧ ((∃ R, g = (some (mended t' e' xs rows L R), 0) ∧ Fixed t' e' xs rows L R) ∨ (g = (none, 11) ∧ ∃ k, k < L ∧ ∀ P, ¬ Good t' e' xs (clm rows k xs.length) P)) := by
        rcases hrows with ⟨R, h1, h2⟩ | ⟨h1, h2⟩
        · exact ⟨_, h1, .inl ⟨R, rfl, h2⟩⟩
        · exact ⟨_, h1, .inr ⟨rfl, h2⟩⟩
      rw [hge, obs, makeL_nat _ _ (by omega), obs, hcol, obs, if_pos (by rfl), if_pos (by rfl), idx_0 (by omega), obs, ← hLe, makeL_nat _ _ (by omega), obs, makeL_nat _ _ (by omega), obs]
      obtain ⟨r, er, hr⟩ := cols_loop t' e' xs rows L x g (by omega) (by omega) (by omega) q6 (by omega) hf' (by omega) rows.length (by omega)
      rw [er, obs]
      rcases hr with ⟨rfl, hall⟩ | ⟨rfl, hbad⟩
      · rcases hgs with ⟨R, rfl, hF⟩ | ⟨_, k, hk, hkb⟩
        · rw [Sum.elim_inl]
          simp only
          have hAt := hF.at (by omega) (by omega) q5 q6 (by omega) (((List.range xs.length).filter (badR t' e' xs rows L)).map fun (k : Nat) => (k : Int)) x
          have hbt : bt rows.length (anyB (cell t' e' xs rows) L) = bt xs.length (badR t' e' xs rows L) := by
            rw [show rows.length = xs.length by omega]
            exact bt_congr fun i hi => anyB_badR (hf' i hi)
          have hlen := List.length_filter_le (badR t' e' xs rows L) (List.range xs.length)
          rw [List.length_range] at hlen
          rw [if_pos trivial]
          unfold mended
          rw [hAt, obs, if_pos rfl, hbt, count_loop xs.length (by omega) (badR t' e' xs rows L) _ rfl, obs, Sum.elim_inl, Wrong_eq _ (by simp only [List.length_map]; omega), obs, List.length_map, if_pos rfl]
          have n1 : mend_At (none : Option (Bool × List UInt8 × List (List UInt8) × List Int)) 1 = some [] := by unfold mend_At; rw [if_pos (by rfl)]
          have n2 : mend_Wrong (none : Option (Bool × List UInt8 × List (List UInt8) × List Int)) = some [] := by unfold mend_Wrong; rw [if_pos (by rfl)]
          have hdiv := divI_nat (xs.length - t') 2 (by decide) (by omega)
          rw [show ((2 : Nat) : Int) = 2 from rfl] at hdiv
          have hR2 : mend_Radius 1 3 = some 0 := by unfold mend_Radius; rw [if_pos (by decide)]
          rw [n1, obs, n2, obs, if_pos (by simp; decide), Radius_eq xs.length t' (by omega) (by omega), obs, wI_sub xs.length t' (by omega) (by omega), hdiv, obs, if_pos rfl, hR2, obs]
          rfl
        · obtain ⟨P, hP⟩ := hall k hk
          exact absurd hP (hkb P)
      · rcases hgs with ⟨R, rfl, hF⟩ | ⟨rfl, _⟩
        · obtain ⟨k, hk, hkb⟩ := hbad
          obtain ⟨P, hP⟩ := hF.2.2.1 k hk
          exact absurd hP (hkb P)
        · rw [Sum.elim_inr]; rfl
    · rw [Rows_form _ xs rows _ hc hf, obs, makeL_nat _ _ (by omega), obs, hcol, obs, if_pos rfl, if_neg (by decide), if_pos rfl]; rfl
  · rw [Rows_code t xs rows e (by omega) hc, obs, makeL_nat _ _ (by omega), obs, Column_bad t xs _ e (by omega) (by rw [List.length_replicate]; exact hc), obs, List.length_replicate, if_neg hc, if_pos rfl]; rfl
end Gk

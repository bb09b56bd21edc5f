/- Parts Nd0, Pf, Ph, Pi, one behind the other. What is proved: said at the head of each part. No condition beside those said there. -/
import Derived.Test.YtpakbhiabgcglaaRows
import Derived.Orders
import Derived.Deep.Draws
import Derived.Laws.World
import Derived.KernelRfl
import Derived.OrdersIn
import Derived.TacticsIn
import Derived.RangeFuncCalls
import Derived.Deep.LoopGhost
import Derived.Tactics
import Derived.Sort.LoopGhostIn
import Derived.RangeFuncLeaves
import Derived.RangeFuncNested
import Derived.RangeFuncRecord
import Derived.Laws.Sem
import Derived.OwnWalk
import Derived.RangeFuncWrites
import Derived.Laws.IdiomCopy
import Derived.WalkKit
import Derived.ProofKit
import Derived.OpenShut
import Derived.ChangeOld
import Derived.Below
import Derived.Test.YtpakbhiabgcglaaProg
import Derived.MapKept
import Derived.Lib.AppendZerosOnto
import Derived.Test.YtpakbhiabgcglaaZPSyndromeCorrects1
import Derived.Test.YtpakbhiabgcglaaZPSyndromeCorrects2
import Derived.Test.YtpakbhiabgcglaaZPSyndromeCorrects3
import Derived.Test.YtpakbhiabgcglaaZPSyndromeCorrects4
import Derived.Test.YtpakbhiabgcglaaZPSyndromeCorrects5
/- Chapter 8: unlike places, sums of shares, what shares of a dealing tell. No condition but lengths. -/


set_option linter.unusedSimpArgs false
set_option linter.unusedVariables false
namespace Gk
open Gf
/-- Bytes, cut or filled up with noughts. -/
def mad (b : List UInt8) (n : Nat) : List UInt8 := copyL (List.replicate n 0) 0 b
theorem mad_len (b : List UInt8) (n : Nat) : (mad b n).length = n := by
  have := copyL_len (List.replicate n (0 : UInt8)) 0 b (Nat.zero_le _)
  simpa [mad] using this
theorem Made_eq (b : List UInt8) (n : Nat) (h : n ≤ most) : law08_Made b (n : Int) = some (mad b n) := by
  unfold law08_Made
  rw [makeL_nat _ _ h]; rfl

/-! ### Unlike places -/
theorem nodup_sub_len {α : Type} [DecidableEq α] : ∀ l m : List α, l.Nodup → (∀ a ∈ l, a ∈ m) → l.length ≤ m.length
  | [], m, _, _ => Nat.zero_le _
  | a :: l, m, hn, hs => by
    rw [List.nodup_cons] at hn
    have ha : a ∈ m := hs a (by simp)
    have := nodup_sub_len l (m.erase a) hn.2 (fun b hb => by
      have hne : b ≠ a := fun e => hn.1 (e ▸ hb)
      exact (List.mem_erase_of_ne hne).2 (hs b (by simp [hb])))
    rw [List.length_erase_of_mem ha] at this
    have hpos := List.length_pos_of_mem ha
    simp only [List.length_cons]; omega
theorem mget_mput (m : List (UInt8 × Bool)) (k a : UInt8) : mget (mput m k true) a = (decide (a = k) || mget m a) := by
  unfold mput
  split
  · rename_i hk
    unfold mget
    rw [List.find?_map]
    have hf : ((fun p : UInt8 × Bool => p.1 == a) ∘ fun p => if p.1 = k then (p.1, true) else p) = (fun p => p.1 == a) := by
      funext p; simp only [Function.comp]; split <;> rfl
    rw [hf]
    cases hm : m.find? (fun p => p.1 == a) with
    | none =>
      by_cases hak : a = k
      · subst hak
        obtain ⟨p, hp, e⟩ := List.mem_map.1 hk
        have := List.find?_eq_none.1 hm p hp
        simp [e] at this
      · simp [hak]
    | some p =>
      have hp : p.1 = a := by simpa using List.find?_some hm
      by_cases hak : a = k
      · subst hak; simp [hp]
      · have : p.1 ≠ k := fun e => hak (hp.symm.trans e)
        simp [hak, this]
  · rename_i hk
    unfold mget
    rw [List.find?_append]
    cases hm : m.find? (fun p => p.1 == a) with
    | none =>
      by_cases hak : a = k
      · subst hak; simp
      · simp [hak, Ne.symm hak]
    | some p =>
      have hp : p.1 = a := by simpa using List.find?_some hm
      have : a ≠ k := fun e => hk (List.mem_map.2 ⟨p, List.mem_of_find?_eq_some hm, hp.trans e⟩)
      simp [this]
theorem in_eq (out : List UInt8) (x : UInt8) (h : out.length ≤ most) : iterC (fun s30 : Bool × Int => (if s30.2 < (out.length : Int) then ((idx out s30.2).bind fun c33 => (if s30.1 = true then some (.inl (true, (wI (s30.2 + 1)))) else some (.inl ((decide (x = c33)), (wI (s30.2 + 1)))))) else some (.inr s30.1))) (false, 0) = some (decide (x ∈ out)) := by
  have hm := most_lt'
  refine iterC_count (fun i => (decide (x ∈ out.take i), (i : Int))) out.length _ (by simp) ?_ ?_
  · intro i hi
    simp only
    rw [if_pos (by omega), idx_co hi, Option.bind_some, wI_succ i (by omega), take_snoc hi]
    by_cases hin : x ∈ out.take i
    · rw [if_pos (by simpa using hin)]; simp [hin]
    · rw [if_neg (by simpa using hin)]; simp [hin]
  · simp
theorem Unlike_eq (b : List UInt8) (n : Nat) (hn : n ≤ 200) (hb : b.length ≤ 9223372036854775807) : ∃ r, law08_Unlike b (n : Int) = some r ∧ r.length = n ∧ r.Nodup ∧ (0 : UInt8) ∉ r := by
  unfold law08_Unlike
  have hmo := most_lt'
  have h1000 : 1000 ≤ most := by decide
  obtain ⟨out, e1, o1, o2, o3⟩ := iterC_inv (body := fun s6 : (List (UInt8 × Bool)) × List UInt8 × Int => (if s6.2.2 < (b.length : Int) then ((idx b s6.2.2).bind fun c9 => (if (!((mget s6.1 c9))) = true then (if (s6.2.1.length : Int) < (n : Int) then ((appL s6.2.1 (([c9] : List UInt8))).bind fun c14 =>
      some (.inl ((mput s6.1 c9 true), c14, (wI (s6.2.2 + 1))))) else some (.inl ((mput s6.1 c9 true), s6.2.1, (wI (s6.2.2 + 1))))) else some (.inl ((mput s6.1 c9 true), s6.2.1, (wI (s6.2.2 + 1)))))) else some (.inr s6.2.1)))
    (fun s => ∃ i : Nat, i ≤ b.length ∧ s.2.2 = (i : Int) ∧ (∀ a, a = 0 ∨ a ∈ s.2.1 → mget s.1 a = true) ∧ s.2.1.Nodup ∧ (0 : UInt8) ∉ s.2.1 ∧ s.2.1.length ≤ n) (fun s => b.length - s.2.2.toNat)
    (fun out : List UInt8 => out.Nodup ∧ (0 : UInt8) ∉ out ∧ out.length ≤ n)
    (by
      rintro ⟨m, out, _⟩ ⟨i, hi, rfl, h1, h2, h3, h4⟩
      simp only at h1 h2 h3 h4 ⊢
      by_cases hlt : i < b.length
      · have keep : ∀ a, a = 0 ∨ a ∈ out → mget (mput m (co b i) true) a = true := fun a ha => by rw [mget_mput, h1 a ha, Bool.or_true]
        rw [if_pos (by omega), idx_co hlt, Option.bind_some, wI_succ i (by omega)]
        by_cases hg : mget m (co b i) = true
        · rw [if_neg (by simp [hg])]
          exact .inl ⟨_, rfl, ⟨i + 1, hlt, rfl, keep, h2, h3, h4⟩, by simp only [Int.toNat_natCast]; omega⟩
        · rw [if_pos (by simp [hg])]
          by_cases hln : (out.length : Int) < (n : Int)
          · have hni : co b i ∉ out := fun h => hg (h1 _ (.inr h))
            have hn0 : co b i ≠ 0 := fun e => hg (h1 _ (.inl e))
            unfold appL
            rw [if_pos hln, if_pos (by simp; omega), Option.bind_some]
            refine .inl ⟨_, rfl, ⟨i + 1, hlt, rfl, fun a ha => ?_, ?_, ?_, ?_⟩, by simp only [Int.toNat_natCast]; omega⟩
            · rw [mget_mput]
              rcases ha with ha | ha
              · rw [h1 a (.inl ha), Bool.or_true]
              · rcases List.mem_append.1 ha with ha | ha
                · rw [h1 a (.inr ha), Bool.or_true]
                · rw [List.mem_singleton.1 ha]; simp
            · rw [List.nodup_append]
              refine ⟨h2, by simp, ?_⟩
              intro a ha c hc e
              rw [List.mem_singleton] at hc
              subst hc; subst e; exact hni ha
            · simp only [List.mem_append, List.mem_singleton, not_or]
              exact ⟨h3, Ne.symm hn0⟩
            · simp; omega
          · rw [if_neg hln]
            exact .inl ⟨_, rfl, ⟨i + 1, hlt, rfl, keep, h2, h3, h4⟩, by simp only [Int.toNat_natCast]; omega⟩
      · obtain rfl : i = b.length := by omega
        rw [if_neg (by omega)]
        exact .inr ⟨_, rfl, h2, h3, h4⟩) (mput [] 0 true, [], 0) ⟨0, Nat.zero_le _, rfl, fun a ha => by
      rcases ha with rfl | ha
      · rfl
      · simp at ha, by simp, by simp, by simp⟩
  rw [e1, Option.bind_some]
  obtain ⟨r, e2, r1, r2, r3⟩ := iterC_inv (body := fun s26 : List UInt8 × UInt8 => (if (s26.1.length : Int) < (n : Int) then (if (0 : UInt8) < s26.2 then ((iterC (fun s30 : Bool × Int => (if s30.2 < (s26.1.length : Int) then ((idx s26.1 s30.2).bind fun c33 => (if s30.1 = true then some (.inl (true, (wI (s30.2 + 1)))) else some (.inl ((decide (s26.2 = c33)), (wI (s30.2 + 1)))))) else some (.inr s30.1))) (false, 0)).bind fun x30 =>
      (if (!x30) = true then ((appL s26.1 (([s26.2] : List UInt8))).bind fun c40 => some (.inl (c40, (s26.2 + (1 : UInt8))))) else some (.inl (s26.1, (s26.2 + (1 : UInt8)))))) else some (.inr s26.1)) else some (.inr s26.1)))
    (fun s => s.1.Nodup ∧ (0 : UInt8) ∉ s.1 ∧ s.1.length ≤ n ∧ ∃ k : Nat, 1 ≤ k ∧ k ≤ 256 ∧ s.2 = UInt8.ofNat k ∧ ∀ y : UInt8, 1 ≤ y.toNat → y.toNat < k → y ∈ s.1) (fun s => if s.2 = 0 then 0 else 256 - s.2.toNat)
    (fun r : List UInt8 => r.length = n ∧ r.Nodup ∧ (0 : UInt8) ∉ r)
    (by
      rintro ⟨out, x⟩ ⟨h1, h2, h3, k, k1, k2, hk, hall⟩
      simp only at h1 h2 h3 hk hall ⊢
      by_cases hln : (out.length : Int) < (n : Int)
      · rw [if_pos hln]
        by_cases hx : (0 : UInt8) < x
        · have hk256 : k < 256 := by
            rcases Nat.lt_or_ge k 256 with h | h
            · exact h
            · obtain rfl : k = 256 := by omega
              rw [hk] at hx; exact absurd hx (by decide)
          have hxk : x.toNat = k := by rw [hk, UInt8.toNat_ofNat']; omega
          have hx0 : x ≠ 0 := fun e => by rw [e] at hxk; simp at hxk; omega
          have hx1 : x + 1 = UInt8.ofNat (k + 1) := by rw [hk]; apply UInt8.toNat_inj.1; simp
          have hmeas : (if x + 1 = 0 then 0 else 256 - (x + 1).toNat) < (if x = 0 then 0 else 256 - x.toNat) := by
            rw [if_neg hx0, hxk]
            split
            · omega
            · rename_i h9
              have : (x + 1).toNat = k + 1 := by
                rw [hx1, UInt8.toNat_ofNat']
                have : k + 1 ≠ 256 := fun e => h9 (by rw [hx1, e]; rfl)
                omega
              omega
          rw [if_pos hx, in_eq out x (by omega), Option.bind_some]
          by_cases hin : x ∈ out
          · rw [if_neg (by simp [hin])]
            refine .inl ⟨_, rfl, ⟨h1, h2, h3, k + 1, by omega, by omega, hx1, fun y hy1 hy2 => ?_⟩, hmeas⟩
            by_cases hyk : y.toNat = k
            · rw [UInt8.toNat_inj.1 (hyk.trans hxk.symm)]; exact hin
            · exact hall y hy1 (by omega)
          · unfold appL
            rw [if_pos (by simp [hin]), if_pos (by simp; omega), Option.bind_some]
            refine .inl ⟨_, rfl, ⟨?_, ?_, by simp; omega, k + 1, by omega, by omega, hx1, fun y hy1 hy2 => ?_⟩, hmeas⟩
            · rw [List.nodup_append]
              refine ⟨h1, by simp, ?_⟩
              intro a ha c hc e
              rw [List.mem_singleton] at hc
              subst hc; subst e; exact hin ha
            · simp only [List.mem_append, List.mem_singleton, not_or]
              exact ⟨h2, Ne.symm hx0⟩
            · by_cases hyk : y.toNat = k
              · rw [UInt8.toNat_inj.1 (hyk.trans hxk.symm)]; simp
              · exact List.mem_append_left _ (hall y hy1 (by omega))
        · rw [if_neg hx]
          exfalso
          have hx0 : x = 0 := by
            apply UInt8.toNat_inj.1
            have : ¬ (0 : UInt8).toNat < x.toNat := fun h => hx (UInt8.lt_iff_toNat_lt.2 h)
            simp at this ⊢; exact this
          have hk256 : k = 256 := by
            have : (UInt8.ofNat k).toNat = 0 := by rw [← hk, hx0]; rfl
            rw [UInt8.toNat_ofNat'] at this
            omega
          have := nodup_sub_len E out E_nodup (fun a ha => hall a (by
            have : a ≠ 0 := fun e => E_ne (e ▸ ha)
            have h0 : a.toNat ≠ 0 := fun e => this (UInt8.toNat_inj.1 e)
            omega) (by rw [hk256]; exact a.toNat_lt))
          rw [E_len] at this
          omega
      · rw [if_neg hln]
        exact .inr ⟨_, rfl, by omega, h1, h2⟩) (out, 1) ⟨o1, o2, o3, 1, Nat.le_refl _, by decide, rfl, fun y h1 h2 => by omega⟩
  rw [e2, Option.bind_some]
  exact ⟨r, rfl, r1, r2, r3⟩

/-! ### Sums -/
theorem co_pplus_eq {p q : List UInt8} (h : p.length = q.length) : (pplus p q).length = p.length := by rw [pplus_len]; omega
/-- A loop that adds q to what lies there, number by number. -/
theorem xorLoop (p q : List UInt8) (h : p.length = q.length) {body : List UInt8 × Int → Option ((List UInt8 × Int) ⊕ List UInt8)} (n : Nat) (hn : n = p.length)
    (hb1 : ∀ (s : List UInt8) (i : Nat), i < n → s.length = p.length → body (s, (i : Int)) = some (.inl (s.set i (co s i ^^^ co q i), ((i + 1 : Nat) : Int))))
    (hb2 : ∀ s : List UInt8, body (s, (n : Int)) = some (.inr s)) : iterC body (p, 0) = some (pplus p q) := by
  subst hn
  obtain ⟨x, e1, e2⟩ := iterC_up (s0 := p) (fun i s => s.length = p.length ∧ ∀ j, co s j = co p j ^^^ (if j < i then co q j else 0)) p.length (fun x : List UInt8 => x = pplus p q)
    (body := body) ⟨rfl, fun j => by rw [if_neg (by omega), xor_zero]⟩
    (fun i s hi hI => by
      obtain ⟨hl, hs⟩ := hI
      refine ⟨_, hb1 s i hi hl, by simpa using hl, fun j => ?_⟩
      rw [co_set (by omega)]
      by_cases hj : j = i
      · subst hj; rw [if_pos rfl, hs j, if_neg (by omega), if_pos (by omega), xor_zero]
      · rw [if_neg hj, hs j]
        have : j < i + 1 ↔ j < i := by omega
        simp only [this])
    (fun s hI => ⟨s, hb2 s, eq_of_co (by rw [hI.1, co_pplus_eq h]) (fun j => by
      rw [hI.2 j, co_pplus]
      split
      · rfl
      · rw [co_ge (show q.length ≤ j by omega)])⟩)
  rw [e1, e2]
theorem Xor_eq (p q : List UInt8) (h : p.length = q.length) (hp : p.length ≤ most) : word_Xor p q = some (pplus p q) := by
  unfold word_Xor
  have hm := most_lt'
  have hmin : (if (q.length : Int) < (p.length : Int) then (q.length : Int) else (p.length : Int)) = (p.length : Int) := by split <;> omega
  rw [hmin, makeL_nat _ _ hp, Option.bind_some]
  obtain ⟨x, e1, e2⟩ := iterC_up (s0 := List.replicate p.length (0 : UInt8)) (fun i s => s.length = p.length ∧ ∀ j, co s j = if j < i then co p j ^^^ co q j else 0) p.length (fun x : List UInt8 => x = pplus p q)
    (body := fun s4 : List UInt8 × Int => (if s4.2 < ((List.replicate p.length (0 : UInt8)).length : Int) then ((idx p s4.2).bind fun c9 => ((idx q s4.2).bind fun c10 => ((idx s4.1 s4.2).bind fun c11 => some (.inl ((s4.1.set (s4.2 : Int).toNat ((c9 ^^^ c10))), (wI (s4.2 + 1))))))) else some (.inr s4.1)))
    ⟨by simp, fun j => by rw [co_rep, if_neg (by omega)]⟩
    (fun i s hi hI => by
      obtain ⟨hl, hs⟩ := hI
      refine ⟨s.set i (co p i ^^^ co q i), ?_, by simpa using hl, fun j => ?_⟩
      · simp only
        rw [if_pos (by rw [List.length_replicate]; omega), idx_co hi, Option.bind_some, idx_co (by omega), Option.bind_some, idx_co (by omega), Option.bind_some, wI_succ i (by omega), Int.toNat_natCast]
      · rw [co_set (by omega)]
        by_cases hj : j = i
        · subst hj; rw [if_pos rfl, if_pos (by omega)]
        · rw [if_neg hj, hs j]
          have : j < i + 1 ↔ j < i := by omega
          simp only [this])
    (fun s hI => ⟨s, by simp, eq_of_co (by rw [hI.1, co_pplus_eq h]) (fun j => by
      rw [hI.2 j, co_pplus]
      split
      · rfl
      · rw [co_ge (show p.length ≤ j by omega), co_ge (show q.length ≤ j by omega), xor_zero])⟩)
  rw [e1, Option.bind_some, e2]
theorem pplus_comm_eq {p q : List UInt8} (h : p.length = q.length) : pplus p q = pplus q p := eq_of_co (by rw [co_pplus_eq h, co_pplus_eq h.symm, h]) (fun i => by rw [co_pplus, co_pplus, xor_comm])
/-- Shares of sums are sums of shares. -/
theorem shr_add (s s' m m' : List UInt8) (q : Nat) (x : UInt8) (h : s.length = s'.length) : pplus (shr s m q x) (shr s' m' q x) = shr (pplus s s') (pplus m m') q x := by
  have hl := co_pplus_eq h
  refine eq_of_co (by rw [co_pplus_eq (by rw [shr_len, shr_len, h]), shr_len, shr_len, hl]) fun i => ?_
  rw [co_pplus]
  by_cases hi : i < s.length
  · rw [co_shr _ _ _ _ _ hi, co_shr _ _ _ _ _ (by omega), co_shr _ _ _ _ _ (by omega), ← ev_pplus]
    refine ev_sim _ _ x fun j => ?_
    rw [co_pplus]
    cases j with
    | zero => simp only [colp, co_zero, co_pplus]
    | succ j =>
      simp only [colp, co_succ]
      by_cases hj : j < q
      · rw [co_rowsp _ _ _ _ _ hj, co_rowsp _ _ _ _ _ hj, co_rowsp _ _ _ _ _ hj, co_pplus, hl, ← h]
      · rw [co_ge (by rw [rowsp_len]; omega), co_ge (by rw [rowsp_len]; omega), co_ge (by rw [rowsp_len]; omega), xor_zero]
  · rw [co_ge (by rw [shr_len]; omega), co_ge (by rw [shr_len]; omega), co_ge (by rw [shr_len]; omega), xor_zero]
/-- Enough shares tell any place. -/
theorem atv_shr (s m : List UInt8) (q : Nat) (F : List UInt8) (x : UInt8) (hn : F.Nodup) (hq : q + 1 ≤ F.length) : atv F (F.map (shr s m q)) s.length x = shr s m q x := by
  refine eq_of_co (by simp [atv, shr_len]) fun i => ?_
  unfold atv
  rw [co_tab]
  by_cases hi : i < s.length
  · rw [if_pos hi, co_shr _ _ _ _ _ hi, lagrange hn (p := colp s m q i) (Nat.le_trans (dg_len _) (by rw [colp_len]; exact hq)) x]
    refine sm_congr _ fun k hk => ?_
    have : (F.map (shr s m q)).getD k [] = shr s m q (co F k) := by
      rw [List.getD_eq_getElem?_getD, List.getElem?_map, co_get hk]; rfl
    rw [this, co_shr _ _ _ _ _ hi]
  · rw [if_neg hi, co_ge (by rw [shr_len]; omega)]
/-- At 0 lies the secret. -/
theorem shr_zero (s m : List UInt8) (q : Nat) : shr s m q 0 = s := by
  refine eq_of_co (shr_len _ _ _ _) fun i => ?_
  by_cases hi : i < s.length
  · rw [co_shr _ _ _ _ _ hi]
    show co s i ^^^ mul _ 0 = co s i
    rw [mul_zero, xor_zero]
  · rw [co_ge (by rw [shr_len]; omega), co_ge (by omega)]
end Gk

/- Syndromes and the errors behind them. No condition but lengths. -/



set_option linter.unusedSimpArgs false
set_option linter.unusedVariables false
namespace Gk
open Gf

/-- The places, by number, where the values aren't the polynomial's. -/
def wix (xs ys P : List UInt8) (n : Nat) : List Nat := (List.range n).filter fun i => decide (evp P (co xs i) ≠ co ys i)
/-- The places themselves. -/
def wxs (xs ys P : List UInt8) : List UInt8 := (wix xs ys P xs.length).map (co xs)
theorem mem_wix {xs ys P : List UInt8} {n i : Nat} : i ∈ wix xs ys P n ↔ i < n ∧ evp P (co xs i) ≠ co ys i := by simp [wix]
theorem wix_succ (xs ys P : List UInt8) (n : Nat) : wix xs ys P (n + 1) = if evp P (co xs n) = co ys n then wix xs ys P n else wix xs ys P n ++ [n] := by
  unfold wix
  rw [List.range_succ, List.filter_append]
  by_cases h : evp P (co xs n) = co ys n
  · rw [if_pos h]; simp [h]
  · rw [if_neg h]; simp [h]
theorem wix_len (xs ys P : List UInt8) : ∀ n, (wix xs ys P n).length = wr xs ys P n
  | 0 => rfl
  | n + 1 => by
    rw [wix_succ, wr]
    split
    · rw [wix_len xs ys P n, Nat.add_zero]
    · rw [List.length_append, wix_len xs ys P n]; rfl
theorem mem_wxs {xs ys P : List UInt8} (hn : xs.Nodup) {i : Nat} (hi : i < xs.length) : co xs i ∈ wxs xs ys P ↔ evp P (co xs i) ≠ co ys i := by
  unfold wxs
  rw [List.mem_map]
  constructor
  · rintro ⟨j, hj, e⟩
    obtain ⟨h1, h2⟩ := mem_wix.1 hj
    rw [co_inj hn h1 hi e] at h2
    exact h2
  · intro h; exact ⟨i, mem_wix.2 ⟨hi, h⟩, rfl⟩
theorem wxs_nodup {xs ys P : List UInt8} (hn : xs.Nodup) : (wxs xs ys P).Nodup := by
  unfold wxs
  refine List.pairwise_map.2 ?_
  have h1 : (wix xs ys P xs.length).Nodup := List.Nodup.sublist List.filter_sublist List.nodup_range
  refine h1.imp_of_mem fun ha hb hne e => hne (co_inj hn (mem_wix.1 ha).1 (mem_wix.1 hb).1 e)
theorem wxs_mem {xs ys P : List UInt8} {a : UInt8} (h : a ∈ wxs xs ys P) : a ∈ xs := by
  unfold wxs at h
  obtain ⟨j, hj, rfl⟩ := List.mem_map.1 h
  exact co_mem (mem_wix.1 hj).1
theorem wxs_len (xs ys P : List UInt8) : (wxs xs ys P).length = wr xs ys P xs.length := by unfold wxs; rw [List.length_map, wix_len]
/-- What an error counts in the syndromes. -/
def ew (xs ys P : List UInt8) (i : Nat) : UInt8 := mul (wgt xs i) (co ys i ^^^ evp P (co xs i))
theorem syk_errors {xs ys P : List UInt8} {t : Nat} (hn : xs.Nodup) (hP : dg P ≤ t) (ht : t ≤ xs.length) (k : Nat) (hk : k < xs.length - t) : syk xs ys k = psum (co xs) (ew xs ys P) xs.length k := by
  have h1 : syk xs ((List.range xs.length).map fun i => evp P (co xs i)) k = 0 :=
    (syk_zero hn _ P t (fun i hi => by rw [co_tab, if_pos hi]) (Nat.le_trans hP ht) ht).2 hP k hk
  have h2 : syk xs ys k = psum (co xs) (ew xs ys P) xs.length k ^^^ syk xs ((List.range xs.length).map fun i => evp P (co xs i)) k := by
    unfold syk psum
    rw [← sm_add]
    refine sm_congr _ fun i hi => ?_
    rw [co_tab, if_pos hi, ← add_mul]
    unfold ew
    rw [← mul_add, xor_assoc, xor_self, xor_zero]
  rw [h2, h1, xor_zero]
/-- The syndromes' locator is that of the errors, where they are few enough. -/
theorem loc_errors {xs ys P C : List UInt8} {t L : Nat} (hn : xs.Nodup) (h0 : (0 : UInt8) ∉ xs) (hP : dg P ≤ t) (ht : t ≤ xs.length) (hw : 2 * wr xs ys P xs.length ≤ xs.length - t) (hC : Loc (synd xs ys (xs.length - t)) C L) :
    Sim C (lol (wxs xs ys P)) := by
  have hX : ∀ j, j < xs.length → co xs j ≠ 0 := fun j hj e => h0 (e ▸ co_mem hj)
  have hs : ∀ k, k < xs.length - t → co (synd xs ys (xs.length - t)) k = psum (co xs) (ew xs ys P) xs.length k := fun k hk => by
    unfold synd
    rw [co_tab, if_pos hk]
    exact syk_errors hn hP ht k hk
  have hz : ∀ j, j < xs.length → co xs j ∉ wxs xs ys P → ew xs ys P j = 0 := fun j hj hm => by
    have : evp P (co xs j) = co ys j := Classical.not_not.1 fun h => hm ((mem_wxs hn hj).2 h)
    unfold ew
    rw [this, xor_self, mul_zero]
  have hlen := wxs_len xs ys P
  have hL : L ≤ (wxs xs ys P).length := hC.least (lol (wxs xs ys P)) _ (dg_lol _) (lol_one _) (fun k h1 h2 => lol_makes hX hs hz k h1 (by rw [synd_len] at h2; exact h2))
  refine loc_found hX (fun i j hi hj e => co_inj hn hi hj e) hs (wxs_nodup hn) (fun a ha => ?_) hz (by omega) hL hC.dgn hC.one (fun k h1 h2 => hC.mks k h1 (by rw [synd_len]; exact h2))
  unfold wxs at ha
  obtain ⟨j, hj, rfl⟩ := List.mem_map.1 ha
  obtain ⟨h1, h2⟩ := mem_wix.1 hj
  refine ⟨j, h1, rfl, mul_ne (inv_ne (pe_ne hn h1 _ (Nat.le_refl _))) (fun e => h2 (xor_eq_zero e).symm)⟩
theorem dg_lol_eq : ∀ E : List UInt8, (0 : UInt8) ∉ E → dg (lol E) = E.length + 1
  | [], _ => by
    show dg [1] = 1
    unfold dg
    rw [trim_id (fun _ => by show (1 : UInt8) ≠ 0; decide)]; rfl
  | a :: E, h => by
    have ih := dg_lol_eq E (fun h' => h (by simp [h']))
    have ha : a ≠ 0 := fun e => h (by simp [e])
    have h2 : dg [1, a] = 2 := by
      unfold dg
      rw [trim_id (fun _ => by show a ≠ 0; exact ha)]; rfl
    show dg (pmul (lol E) [1, a]) = _
    rw [dg_pmul_eq (by omega) (by omega), ih, h2, List.length_cons]; omega
section
variable {xs ys P C : List UInt8} {t L : Nat} (hn : xs.Nodup) (h0 : (0 : UInt8) ∉ xs) (hP : dg P ≤ t) (ht : t ≤ xs.length) (hw : 2 * wr xs ys P xs.length ≤ xs.length - t) (hC : Loc (synd xs ys (xs.length - t)) C L)
include hn h0 hP ht hw hC
/-- It locates just the errors. -/
theorem lcs_errors : lcs C xs xs.length = wix xs ys P xs.length := by
  have h1 := loc_errors hn h0 hP ht hw hC
  unfold lcs wix
  refine List.filter_congr fun i hi => ?_
  have hi' := List.mem_range.1 hi
  have hne : co xs i ≠ 0 := fun e => h0 (e ▸ co_mem hi')
  refine decide_eq_decide.2 ⟨fun ⟨_, h⟩ => ?_, fun h => ⟨hne, ?_⟩⟩
  · rw [ev_sim _ _ _ h1] at h
    exact (mem_wxs hn hi').1 ((ev_lol hne _).1 h)
  · rw [ev_sim _ _ _ h1]
    exact (ev_lol hne _).2 ((mem_wxs hn hi').2 h)
theorem dg_errors : dg C = wr xs ys P xs.length + 1 := by
  rw [dg_sim (loc_errors hn h0 hP ht hw hC), dg_lol_eq _ (fun h => h0 (wxs_mem h)), wxs_len]
/-- It tells by how much. -/
theorem vlu_errors {i : Nat} (hi : i ∈ wix xs ys P xs.length) : dwn C xs i ≠ 0 ∧ vlu (synd xs ys (xs.length - t)) C xs i = co ys i ^^^ evp P (co xs i) := by
  have h1 := loc_errors hn h0 hP ht hw hC
  obtain ⟨hi1, hi2⟩ := mem_wix.1 hi
  have hX : ∀ j, j < xs.length → co xs j ≠ 0 := fun j hj e => h0 (e ▸ co_mem hj)
  have hs : ∀ k, k < xs.length - t → co (synd xs ys (xs.length - t)) k = psum (co xs) (ew xs ys P) xs.length k := fun k hk => by
    unfold synd
    rw [co_tab, if_pos hk]
    exact syk_errors hn hP ht k hk
  have hz : ∀ j, j < xs.length → co xs j ∉ wxs xs ys P → ew xs ys P j = 0 := fun j hj hm => by
    have : evp P (co xs j) = co ys j := Classical.not_not.1 fun h => hm ((mem_wxs hn hj).2 h)
    unfold ew
    rw [this, xor_self, mul_zero]
  have hE0 : (0 : UInt8) ∉ wxs xs ys P := fun h => h0 (wxs_mem h)
  have hm := (mem_wxs (ys := ys) (P := P) hn hi1).2 hi2
  have hom : ∀ k, co (om (synd xs ys (xs.length - t)) C) k = if k < xs.length - t then co (pmul (lol (wxs xs ys P)) (synd xs ys (xs.length - t))) k else 0 := fun k => by
    unfold om
    rw [co_take, synd_len, co_trim]
    split
    · rw [← pmul_simL _ _ _ h1 k]
      have e1 := pmul_left_comm (synd xs ys (xs.length - t)) C [1]
      have one : ∀ p : List UInt8, Sim (pmul p [1]) p := fun p => by
        induction p with
        | nil => exact Sim.refl _
        | cons c p ih =>
          intro i
          cases i with
          | zero => rw [co_pmul_zero, co_zero, co_zero, mul_one]
          | succ i => rw [co_pmul_succ, co_succ, co_nil, mul_zero, zero_xor, ih i, co_succ]
      rw [← pmul_simR (synd xs ys (xs.length - t)) _ _ (one C) k, e1 k, pmul_simR C _ _ (one _) k]
    · rfl
  have hat := omega_at (om := om (synd xs ys (xs.length - t)) C) hX (fun i j hi hj e => co_inj hn hi hj e) hs (wxs_nodup hn) hE0 hz (by rw [wxs_len]; omega) hom hi1 hm
  have hg : wgt xs i ≠ 0 := inv_ne (pe_ne hn hi1 _ (Nat.le_refl _))
  have hf := forney (wxs_nodup hn) hE0 hm hg (show ew xs ys P i = mul (wgt xs i) (co ys i ^^^ evp P (co xs i)) from rfl) hat
  have hd : dwn C xs i = mul (evp (der (lol (wxs xs ys P))) (inv (co xs i))) (wgt xs i) := by
    unfold dwn
    rw [ev_sim _ _ _ (der_sim h1)]
  exact ⟨by rw [hd]; exact hf.1, by unfold vlu; rw [hd]; exact hf.2⟩
end

/-! ### Put right -/
/-- The polynomial through all places. -/
def thr (xs ys : List UInt8) : List UInt8 := lag xs (fun i => mul (co ys i) (inv (pe xs i (co xs i) xs.length))) xs.length
theorem dg_thr (xs ys : List UInt8) : dg (thr xs ys) ≤ xs.length := dg_lag _ _ _ (Nat.le_refl _)
theorem ev_thr {xs : List UInt8} (ys : List UInt8) (hn : xs.Nodup) {i : Nat} (hi : i < xs.length) : evp (thr xs ys) (co xs i) = co ys i := lag_at hn (co ys) hi
theorem synd_zero {xs : List UInt8} (ys : List UInt8) {t : Nat} (hn : xs.Nodup) (ht : t ≤ xs.length) : (∀ x ∈ synd xs ys (xs.length - t), x = 0) ↔ dg (thr xs ys) ≤ t := by
  rw [← syk_zero hn ys (thr xs ys) t (fun i hi => ev_thr ys hn hi) (dg_thr xs ys) ht]
  unfold synd
  constructor
  · intro h k hk; exact h _ (List.mem_map.2 ⟨k, List.mem_range.2 hk, rfl⟩)
  · intro h x hx
    obtain ⟨k, hk, rfl⟩ := List.mem_map.1 hx
    exact h k (List.mem_range.1 hk)
/-- How the values are put right at these places. -/
theorem fix_loop (ys by' : List UInt8) (l : List Nat) (hnd : l.Nodup) (hl : ∀ i ∈ l, i < ys.length) (hb : by'.length = l.length) (hll : l.length ≤ 1000) :
    ∃ out, iterC (fun s23 : List UInt8 × Int => (if s23.2 < ((ints l).length : Int) then ((idx (ints l) s23.2).bind fun c26 => ((idx s23.1 c26).bind fun c29 => ((idx by' s23.2).bind fun c30 => ((field_Add c29 c30).bind fun r31 => some (.inl ((s23.1.set (c26 : Int).toNat r31), (wI (s23.2 + 1)))))))) else some (.inr s23.1))) (ys, 0) = some out ∧
      out.length = ys.length ∧ (∀ j, j ∉ l → co out j = co ys j) ∧ ∀ k (h : k < l.length), co out l[k] = co ys l[k] ^^^ co by' k := by
  obtain ⟨out, e, h1, h2, h3⟩ := iterC_up (s0 := ys) (fun i (s : List UInt8) => s.length = ys.length ∧ (∀ j, j ∉ l.take i → co s j = co ys j) ∧ ∀ k (h : k < l.length), k < i → co s l[k] = co ys l[k] ^^^ co by' k) l.length (fun s : List UInt8 => s.length = ys.length ∧ (∀ j, j ∉ l → co s j = co ys j) ∧ ∀ k (h : k < l.length), co s l[k] = co ys l[k] ^^^ co by' k)
    (body := fun s23 : List UInt8 × Int => (if s23.2 < ((ints l).length : Int) then ((idx (ints l) s23.2).bind fun c26 => ((idx s23.1 c26).bind fun c29 => ((idx by' s23.2).bind fun c30 => ((field_Add c29 c30).bind fun r31 => some (.inl ((s23.1.set (c26 : Int).toNat r31), (wI (s23.2 + 1)))))))) else some (.inr s23.1)))
    ⟨rfl, fun _ _ => rfl, fun k _ h => absurd h (Nat.not_lt_zero _)⟩
    (fun i s hi hI => by
      obtain ⟨sl, s1, s2⟩ := hI
      have hlt := hl l[i] (List.getElem_mem hi)
      have hni : l[i] ∉ l.take i := fun h => by
        obtain ⟨j, hj, e⟩ := List.getElem_of_mem h
        rw [List.getElem_take] at e
        have hji : j < i := by simp at hj; omega
        exact (List.pairwise_iff_getElem.1 hnd j i (by omega) hi hji) e
      refine ⟨s.set l[i] (co s l[i] ^^^ co by' i), ?_, by simpa using sl, fun j hj => ?_, fun k hk hki => ?_⟩
      · simp only
        rw [if_pos (by rw [ints_len]; omega), idx_ints hi, Option.bind_some, idx_co (by omega), Option.bind_some, idx_co (by omega), Option.bind_some, Add_eq, Option.bind_some, Int.toNat_natCast, wI_succ i (by omega)]
      · rw [List.take_succ_eq_append_getElem hi, List.mem_append, not_or, List.mem_singleton] at hj
        rw [co_set (by omega), if_neg hj.2]
        exact s1 j hj.1
      · rw [co_set (by omega)]
        by_cases hkk : k = i
        · subst hkk; rw [if_pos rfl, s1 _ hni]
        · have hne : l[k] ≠ l[i] := (List.pairwise_iff_getElem.1 hnd k i hk hi (by omega))
          rw [if_neg hne]
          exact s2 k hk (by omega))
    (fun s hI => ⟨s, by simp only; rw [if_neg (by rw [ints_len]; omega)], hI.1, fun j hj => hI.2.1 j (by rw [List.take_of_length_le (Nat.le_refl _)]; exact hj), fun k h => hI.2.2 k h h⟩)
  exact ⟨out, e, h1, h2, h3⟩
theorem wix_nodup (xs ys P : List UInt8) (n : Nat) : (wix xs ys P n).Nodup := List.Nodup.sublist List.filter_sublist List.nodup_range
theorem lcs_nodup (C xs : List UInt8) (n : Nat) : (lcs C xs n).Nodup := List.Nodup.sublist List.filter_sublist List.nodup_range
theorem wr_few {xs ys out P : List UInt8} {l : List Nat} (hl : l.Nodup) (ho : ∀ j, j < xs.length → j ∉ l → co out j = co ys j) (hP : ∀ i, i < xs.length → evp P (co xs i) = co out i) : wr xs ys P xs.length ≤ l.length := by
  rw [← wix_len]
  refine nodup_sub_len _ _ (wix_nodup _ _ _ _) fun i hi => ?_
  obtain ⟨h1, h2⟩ := mem_wix.1 hi
  refine Classical.not_not.1 fun h => h2 ?_
  rw [hP i h1, ho i h1 h]
/-- What Correct comes to. -/
theorem Correct_spec (t : Nat) (xs ys : List UInt8) (h100 : xs.length ≤ 100) (hc : scode (t : Int) xs (ys.length : Int) = 0) :
    (∀ P, dg P ≤ t → 2 * wr xs ys P xs.length ≤ xs.length - t → syndrome_Correct true (t : Int) xs ys = some ((List.range xs.length).map (fun i => evp P (co xs i)), ints (wix xs ys P xs.length), 0)) ∧
    ((∀ P, dg P ≤ t → ¬ 2 * wr xs ys P xs.length ≤ xs.length - t) → syndrome_Correct true (t : Int) xs ys = some ([], [], 11)) := by
  obtain ⟨hl, h1, h2, h0, h255, hn⟩ := scode_ok hc
  have hm := most_lt'
  have h1000 : 10000 ≤ most := by decide
  have hyl : ys.length = xs.length := by omega
  have ht : t ≤ xs.length := by omega
  have hsl := synd_len xs ys (xs.length - t)
  unfold syndrome_Correct
  rw [Syndromes_ok t xs ys hc, Option.bind_some, if_pos rfl]
  unfold slices_Clone_sbytebyte
  rw [appL_nil ys (by omega), Option.bind_some, word_Zero_eq _ (by simp only; omega), Option.bind_some]
  by_cases hz : ∀ x ∈ synd xs ys (xs.length - t), x = 0
  · rw [if_pos (decide_eq_true hz)]
    have hd := (synd_zero ys hn ht).1 hz
    have hthr : wr xs ys (thr xs ys) xs.length = 0 := by
      have := wr_few (xs := xs) (ys := ys) (out := ys) (P := thr xs ys) (l := []) List.nodup_nil (fun j _ _ => rfl) (fun i hi => ev_thr ys hn hi)
      simpa using this
    refine ⟨fun P hP hw => ?_, fun hno => absurd (by omega) (hno (thr xs ys) hd)⟩
    have hs : Sim P (thr xs ys) := two_one (ys := ys) hn hP hd (by omega)
    have hall : ∀ i, i < xs.length → evp P (co xs i) = co ys i := fun i hi => by rw [ev_sim _ _ _ hs, ev_thr ys hn hi]
    have e1 : ys = (List.range xs.length).map (fun i => evp P (co xs i)) := eq_of_co (by simp [hyl]) fun i => by
      rw [co_tab]
      split
      · rename_i hi; exact (hall i hi).symm
      · exact co_ge (by omega)
    have e2 : wix xs ys P xs.length = [] := List.eq_nil_of_length_eq_zero (by rw [wix_len, wr_sim hs, hthr])
    rw [← e1, e2]; rfl
  · obtain ⟨C, L, eC, hC⟩ := Locator_eq (synd xs ys (xs.length - t)) (by omega)
    have hCl : C.length ≤ L + 1 := by rw [trim_len_dg hC.trm]; exact hC.dgn
    have hLl := hC.len
    have hll := lcs_le C xs xs.length
    rw [if_neg (by simpa using hz), eC, Option.bind_some, Located_eq _ _ (by simp only; omega) (by omega), Option.bind_some, poly_Degree_eq _ (by simp only; omega), Option.bind_some]
    simp only
    rw [hC.trm, ints_len]
    have e2 : wI (2 * ((lcs C xs xs.length).length : Int)) = ((2 * (lcs C xs xs.length).length : Nat) : Int) := by rw [wI_of (by omega) (by omega)]; omega
    rw [e2]
    have hV := Values_eq (synd xs ys (xs.length - t)) C xs (lcs C xs xs.length) (fun i hi => by
      unfold lcs at hi
      obtain ⟨k1, k2⟩ := List.mem_filter.1 hi
      exact ⟨List.mem_range.1 k1, (of_decide_eq_true k2).1⟩) (by omega) (by omega) h255 hn (by omega) (by omega) (by have := trim_le (synd xs ys (xs.length - t)); rw [hC.trm]; omega)
    constructor
    · intro P hP hw
      have k1 := lcs_errors hn h0 hP ht hw hC
      have k2 := dg_errors hn h0 hP ht hw hC
      have k3 := fun i (hi : i ∈ wix xs ys P xs.length) => vlu_errors hn h0 hP ht hw hC hi
      have k4 := wix_len xs ys P xs.length
      rw [k1] at hV ⊢
      have hCl2 := trim_len_dg hC.trm
      rw [if_pos (by omega), if_neg (by omega), hV.1 (fun i hi => (k3 i hi).1), Option.bind_some, if_pos rfl]
      have hmap : (wix xs ys P xs.length).map (vlu (synd xs ys (xs.length - t)) C xs) = (wix xs ys P xs.length).map (fun i => co ys i ^^^ evp P (co xs i)) := List.map_congr_left fun i hi => (k3 i hi).2
      rw [hmap]
      obtain ⟨out, f1, f2, f3, f4⟩ := fix_loop ys ((wix xs ys P xs.length).map (fun i => co ys i ^^^ evp P (co xs i))) (wix xs ys P xs.length) (wix_nodup _ _ _ _) (fun i hi => by rw [hyl]; exact (mem_wix.1 hi).1) (by simp) (by omega)
      have hout : out = (List.range xs.length).map (fun i => evp P (co xs i)) := eq_of_co (by simp [f2, hyl]) fun i => by
        rw [co_tab]
        split
        · rename_i hi
          by_cases hw2 : i ∈ wix xs ys P xs.length
          · obtain ⟨k, hk, e⟩ := List.getElem_of_mem hw2
            have := f4 k hk
            rw [e] at this
            rw [this, co_lt (p := (wix xs ys P xs.length).map (fun i => co ys i ^^^ evp P (co xs i))) (i := k) (by simpa using hk)]
            simp only [List.getElem_map, e]
            rw [← xor_assoc, xor_self, zero_xor]
          · rw [f3 i hw2]
            exact (Classical.not_not.1 fun h => hw2 (mem_wix.2 ⟨hi, h⟩)).symm
        · exact co_ge (by omega)
      rw [ints_len] at f1
      rw [f1, Option.bind_some, hout]
      have hc2 : scode (t : Int) xs (((List.range xs.length).map (fun i => evp P (co xs i))).length : Int) = 0 := by simpa [hl] using hc
      have hz2 : ∀ x ∈ synd xs ((List.range xs.length).map (fun i => evp P (co xs i))) (xs.length - t), x = 0 := fun x hx => by
        unfold synd at hx
        obtain ⟨k, hk, rfl⟩ := List.mem_map.1 hx
        exact (syk_zero hn _ P t (fun i hi => by rw [co_tab, if_pos hi]) (Nat.le_trans hP ht) ht).2 hP k (List.mem_range.1 hk)
      have hb0 : (0 : UInt8) ∉ (wix xs ys P xs.length).map (fun i => co ys i ^^^ evp P (co xs i)) := fun h => by
        obtain ⟨i, hi, e⟩ := List.mem_map.1 h
        exact (mem_wix.1 hi).2 (xor_eq_zero e).symm
      rw [Syndromes_ok t xs _ hc2, Option.bind_some, if_pos rfl, word_Zero_eq _ (by rw [synd_len]; omega), Option.bind_some, decide_eq_true hz2, if_neg (by decide), Contains_eq _ _ (by simp; omega), Option.bind_some, decide_eq_false hb0, if_neg (by decide)]
    · intro hno
      by_cases g1 : ((lcs C xs xs.length).length : Int) = (C.length : Int) - 1
      · rw [if_pos g1]
        by_cases g2 : ((synd xs ys (xs.length - t)).length : Int) < ((2 * (lcs C xs xs.length).length : Nat) : Int)
        · rw [if_pos g2]
        · rw [if_neg g2]
          by_cases g3 : ∃ i ∈ lcs C xs xs.length, dwn C xs i = 0
          · rw [hV.2 g3, Option.bind_some, if_neg (by decide)]
          · rw [hV.1 (fun i hi h => g3 ⟨i, hi, h⟩), Option.bind_some, if_pos rfl]
            obtain ⟨out, f1, f2, f3, f4⟩ := fix_loop ys ((lcs C xs xs.length).map (vlu (synd xs ys (xs.length - t)) C xs)) (lcs C xs xs.length) (lcs_nodup _ _ _) (fun i hi => by
              rw [hyl]; unfold lcs at hi; exact List.mem_range.1 (List.mem_filter.1 hi).1) (by simp) (by omega)
            rw [ints_len] at f1
            have hc2 : scode (t : Int) xs (out.length : Int) = 0 := by rw [f2]; exact hc
            rw [f1, Option.bind_some, Syndromes_ok t xs out hc2, Option.bind_some, if_pos rfl, word_Zero_eq _ (by rw [synd_len]; omega), Option.bind_some]
            by_cases g4 : ∀ x ∈ synd xs out (xs.length - t), x = 0
            · exfalso
              have hd := (synd_zero out hn ht).1 g4
              refine hno (thr xs out) hd ?_
              have := wr_few (xs := xs) (ys := ys) (out := out) (P := thr xs out) (lcs_nodup C xs xs.length) (fun j _ hj => f3 j hj) (fun i hi => ev_thr out hn hi)
              omega
            · rw [decide_eq_false g4, if_pos (by decide)]
      · rw [if_neg g1]
theorem Correct_bad (t : Int) (xs ys : List UInt8) (h : xs.length ≤ most) (hc : scode t xs (ys.length : Int) ≠ 0) : syndrome_Correct true t xs ys = some ([], [], scode t xs (ys.length : Int)) := by
  unfold syndrome_Correct
  rw [Syndromes_bad t xs ys h hc, Option.bind_some, if_neg hc]
end Gk

/- Chapter 30: the laws SyndromeAdds and SyndromeTells. No condition. -/



set_option linter.unusedSimpArgs false
set_option linter.unusedVariables false
namespace Gk
open Gf
theorem lives30 : law30_lives = some true := by
  unfold law30_lives
  simp only [field_New, Option.bind_some]
  have e1 := (Correct_spec 1 [1, 2, 3] [5, 5, 9] (by decide) (by decide +kernel)).1 [5] (dg_len _) (by decide +kernel)
  have e2 : (List.range [(1 : UInt8), 2, 3].length).map (fun i => evp [5] (co [1, 2, 3] i)) = [5, 5, 5] := by decide +kernel
  have e3 : ints (wix [1, 2, 3] [5, 5, 9] [5] [(1 : UInt8), 2, 3].length) = [2] := by decide +kernel
  rw [e2, e3] at e1
  simp only [show ((1 : Nat) : Int) = 1 from rfl] at e1
  rw [e1, Option.bind_some]
  decide +kernel
theorem law30_SyndromeAdds_true (t : Int) (xs ys zs : List UInt8) (lo : -9223372036854775808 ≤ t) (hi : t ≤ 9223372036854775807) : law30_SyndromeAdds t xs ys zs = some true := by
  unfold law30_SyndromeAdds
  rw [lives30, Option.bind_some, if_neg (by decide)]
  by_cases hx : 16 < (xs.length : Int)
  · rw [if_pos hx]; rfl
  rw [if_neg hx]
  by_cases hy : 16 < (ys.length : Int)
  · rw [if_pos hy]; rfl
  rw [if_neg hy]
  by_cases hz : 100 < (zs.length : Int)
  · rw [if_pos hz]; rfl
  rw [if_neg hz]
  have hm := most_lt'
  have h1000 : 10000 ≤ most := by decide
  simp only [field_New, Option.bind_some]
  by_cases hc : scode t xs (ys.length : Int) = 0
  · obtain ⟨hl, h1, h2, h0, h255, hn⟩ := scode_ok hc
    obtain ⟨t, rfl⟩ : ∃ k : Nat, t = (k : Int) := ⟨t.toNat, by omega⟩
    have hml := mad_len zs ys.length
    have hpl : (pplus ys (mad zs ys.length)).length = ys.length := by rw [pplus_len]; omega
    have hs1 := synd_len xs ys (xs.length - t)
    have hs2 := synd_len xs (mad zs ys.length) (xs.length - t)
    rw [Syndromes_ok t xs ys hc, Option.bind_some, if_pos rfl, Made_eq _ _ (by omega), Option.bind_some, Syndromes_ok t xs _ (by rw [hml]; exact hc), Option.bind_some, Xor_eq _ _ hml.symm (by omega), Option.bind_some,
      Syndromes_ok t xs _ (by rw [hpl]; exact hc), Option.bind_some, if_pos rfl, if_pos rfl, Xor_eq _ _ (by simp only; omega) (by simp only; omega), Option.bind_some, if_pos ?_, wI_sub _ _ (by omega) (by omega)]
    · simp only [hs1, decide_true]
    · refine eq_of_co (by rw [synd_len, pplus_len]; simp only; omega) fun i => ?_
      rw [co_pplus]
      unfold synd
      rw [co_tab, co_tab, co_tab]
      split
      · exact syk_add xs ys _ i
      · rw [xor_zero]
  · rw [Syndromes_bad t xs ys (by omega) hc, Option.bind_some, if_neg hc]; rfl
theorem zero_loop (xs : List UInt8) (h : xs.length ≤ most) : iterC (fun s16 : Bool × Int => (if s16.2 < (xs.length : Int) then ((idx xs s16.2).bind fun c19 => (if s16.1 = true then some (.inl (true, (wI (s16.2 + 1)))) else some (.inl ((decide (c19 = (0 : UInt8))), (wI (s16.2 + 1)))))) else some (.inr s16.1))) (false, 0) = some (decide ((0 : UInt8) ∈ xs)) := by
  have hm := most_lt'
  refine iterC_count (fun i => (decide ((0 : UInt8) ∈ xs.take i), (i : Int))) xs.length _ (by simp) ?_ ?_
  · intro i hi
    simp only
    rw [if_pos (by omega), idx_co hi, Option.bind_some, wI_succ i (by omega), take_snoc hi]
    by_cases hin : (0 : UInt8) ∈ xs.take i
    · rw [if_pos (by simpa using hin)]; simp [hin]
    · rw [if_neg (by simpa using hin)]; simp [hin, eq_comm]
  · simp
theorem ref30_Weight_eq (xs : List UInt8) (i : Nat) (hi : i < xs.length) (h : xs.length ≤ most) : ref30_Weight xs (i : Int) = some (wgt xs i) := by
  unfold ref30_Weight
  have hm := most_lt'
  refine bind_of (x := pe xs i (co xs i) xs.length) ?_ ?_
  · refine iterC_count (fun k => (pe xs i (co xs i) k, (k : Int))) xs.length _ rfl ?_ ?_
    · intro k hk
      simp only
      rw [if_pos (by omega)]
      by_cases hki : k = i
      · subst hki
        rw [if_pos rfl, wI_succ k (by omega)]
        simp [pe]
      · rw [if_neg (by omega), idx_co hi, Option.bind_some, idx_co hk, Option.bind_some, refMul_eq, Option.bind_some, wI_succ k (by omega)]
        simp [pe, hki]
    · simp
  · rw [refInv_eq, Option.bind_some]; rfl
theorem ref30_Syndromes_eq (r : Nat) (xs ys : List UInt8) (hl : xs.length = ys.length) (hr : r ≤ most) (h : xs.length ≤ most) : ref30_Syndromes (r : Int) xs ys = some (synd xs ys r) := by
  unfold ref30_Syndromes
  have hm := most_lt'
  refine bind_of ?_ rfl
  refine iterC_count (fun k => ((List.range k).map (syk xs ys), (k : Int))) r _ rfl ?_ ?_
  · intro k hk
    simp only
    have inner : iterC (fun s7 : UInt8 × Int => (if s7.2 < (xs.length : Int) then ((idx ys s7.2).bind fun c12 => ((idx xs s7.2).bind fun c13 => ((ref30_Weight xs s7.2).bind fun r14 => ((ref02_Pow c13 (k : Int)).bind fun r16 => ((ref02_Mul c12 r16).bind fun r18 => ((ref02_Mul r14 r18).bind fun r20 =>
        some (.inl ((s7.1 ^^^ r20), (wI (s7.2 + 1)))))))))) else some (.inr s7.1))) ((0 : UInt8), 0) = some (syk xs ys k) := by
      refine iterC_count (fun i => (sm (fun i => mul (mul (wgt xs i) (co ys i)) (pow (co xs i) k)) i, (i : Int))) xs.length _ rfl ?_ ?_
      · intro i hi
        simp only
        rw [if_pos (by omega), idx_co (by omega), Option.bind_some, idx_co hi, Option.bind_some, ref30_Weight_eq xs i hi h, Option.bind_some, refPow_eq, Option.bind_some, refMul_eq, Option.bind_some, refMul_eq, Option.bind_some, wI_succ i (by omega), powZ_nat, ← mul_assoc]
        rfl
      · simp only
        rw [if_neg (by omega)]; rfl
    rw [if_pos (by omega), inner, Option.bind_some, appL_ok _ _ (by simp; omega) rfl, Option.bind_some, wI_succ k (by omega), List.range_succ, List.map_append]
    rfl
  · simp only
    rw [if_neg (by omega)]; rfl
theorem law30_SyndromeTells_true (t : Int) (xs ys : List UInt8) (lo : -9223372036854775808 ≤ t) (hi : t ≤ 9223372036854775807) : law30_SyndromeTells t xs ys = some true := by
  unfold law30_SyndromeTells
  rw [lives30, Option.bind_some, if_neg (by decide)]
  by_cases hx : 12 < (xs.length : Int)
  · rw [if_pos hx]; rfl
  rw [if_neg hx]
  by_cases hy : 12 < (ys.length : Int)
  · rw [if_pos hy]; rfl
  rw [if_neg hy]
  have hm := most_lt'
  have h1000 : 10000 ≤ most := by decide
  simp only [field_New, Option.bind_some]
  rw [zero_loop xs (by omega)]
  have hw : (if (xs.length : Int) = (ys.length : Int) then (if t < 1 then some 2 else (if 255 < t then some 2 else (if decide ((0 : UInt8) ∈ xs) = true then some 2 else (if (xs.length : Int) < t then some 5 else ((ref03_Places xs).bind fun r29 => some r29))))) else some 1) = some (scode t xs (ys.length : Int)) := by
    unfold scode
    by_cases h1 : (xs.length : Int) = (ys.length : Int)
    · rw [if_pos h1, if_pos h1]
      by_cases h2 : t < 1
      · rw [if_pos h2, if_pos (.inl h2)]
      · rw [if_neg h2]
        by_cases h3 : 255 < t
        · rw [if_pos h3, if_pos (.inr (.inl h3))]
        · rw [if_neg h3]
          by_cases h4 : (0 : UInt8) ∈ xs
          · rw [if_pos (by simpa using h4), if_pos (.inr (.inr h4))]
          · rw [if_neg (by simpa using h4), if_neg (show ¬ (t < 1 ∨ 255 < t ∨ (0 : UInt8) ∈ xs) from not_or.2 ⟨h2, not_or.2 ⟨h3, h4⟩⟩)]
            by_cases h5 : (xs.length : Int) < t
            · rw [if_pos h5, if_pos h5]
            · rw [if_neg h5, if_neg h5, ref03_Places_eq xs (by omega)]; rfl
    · rw [if_neg h1, if_neg h1]
  by_cases hc : scode t xs (ys.length : Int) = 0
  · obtain ⟨hl, h1, h2, h0, h255, hn⟩ := scode_ok hc
    obtain ⟨t, rfl⟩ : ∃ k : Nat, t = (k : Int) := ⟨t.toNat, by omega⟩
    have hsl := synd_len xs ys (xs.length - t)
    obtain ⟨out, o1, o2, o3⟩ := ref03_Through_eq xs ys (by omega) (by omega)
    rw [Syndromes_ok t xs ys hc, Option.bind_some, Option.bind_some, hw, hc, Option.bind_some, Syndromes_nil, Option.bind_some, if_pos rfl, if_pos rfl, if_pos rfl, o1, Option.bind_some, wI_sub _ _ (by omega) (by omega), ref30_Syndromes_eq _ xs ys (by omega) (by omega) (by omega), Option.bind_some, if_pos rfl,
      word_Zero_eq _ (by simp only; omega), Option.bind_some]
    have hs : Sim out (thr xs ys) := agree hn o2 (dg_thr xs ys) (fun a ha => by
      obtain ⟨j, hj, rfl⟩ := mem_co ha
      rw [o3, ev_thr ys hn hj]
      have := lagrange hn (dg_thr xs ys) (co xs j)
      rw [ev_thr ys hn hj] at this
      rw [this]
      exact sm_congr _ fun i hi => by rw [ev_thr ys hn hi, mul_comm])
    have hd : (trim out).length = dg (thr xs ys) := dg_sim hs
    have hz := synd_zero ys hn (show t ≤ xs.length by omega)
    rw [hd]
    by_cases h9 : dg (thr xs ys) ≤ t
    · rw [decide_eq_true (hz.2 h9), decide_eq_true (show ((dg (thr xs ys) : Nat) : Int) ≤ (t : Int) by omega)]; rfl
    · rw [decide_eq_false (fun h => h9 (hz.1 h)), decide_eq_false (show ¬ ((dg (thr xs ys) : Nat) : Int) ≤ (t : Int) by omega)]; rfl
  · rw [Syndromes_bad t xs ys (by omega) hc, Option.bind_some, Option.bind_some, hw, Option.bind_some, Syndromes_nil, Option.bind_some, if_pos rfl, if_pos rfl, if_neg hc, if_pos rfl, if_pos rfl]
    rfl
end Gk

/- Chapter 30: the law SyndromeCorrects. No condition. -/


set_option linter.unusedSimpArgs false
set_option linter.unusedVariables false
namespace Gk
open Gf
theorem wix_prefix (xs ys P : List UInt8) (i : Nat) : ∀ k, ∃ r, wix xs ys P (i + k) = wix xs ys P i ++ r
  | 0 => ⟨[], by simp⟩
  | k + 1 => by
    obtain ⟨r, e⟩ := wix_prefix xs ys P i k
    rw [← Nat.add_assoc, wix_succ]
    split
    · exact ⟨r, e⟩
    · exact ⟨r ++ [i + k], by rw [e, List.append_assoc]⟩
theorem wix_at {xs ys P : List UInt8} {i n : Nat} (hi : i < n) (h : evp P (co xs i) ≠ co ys i) : ∃ hlt : (wix xs ys P i).length < (wix xs ys P n).length, (wix xs ys P n)[(wix xs ys P i).length] = i := by
  obtain ⟨r, e⟩ := wix_prefix xs ys P (i + 1) (n - (i + 1))
  rw [show i + 1 + (n - (i + 1)) = n by omega, wix_succ, if_neg h] at e
  refine ⟨by rw [e]; simp, ?_⟩
  simp only [e, List.append_assoc]
  rw [List.getElem_append_right (Nat.le_refl _)]
  simp
theorem codes_same {t : Int} {xs : List UInt8} {n : Int} (h0 : (0 : UInt8) ∉ xs) : scode t xs n = mcode t xs n (xs.length : Int) := by
  unfold scode mcode pc
  have : (t < 1 ∨ 255 < t ∨ (0 : UInt8) ∈ xs) ↔ (t < 1 ∨ 255 < t ∨ (xs.length : Int) < 0) := by
    constructor
    · rintro (h | h | h)
      · exact .inl h
      · exact .inr (.inl h)
      · exact absurd h h0
    · rintro (h | h | h)
      · exact .inl h
      · exact .inr (.inl h)
      · omega
  simp only [this]
theorem law30_SyndromeCorrects_true (t : Int) (xs ys : List UInt8) (lo : -9223372036854775808 ≤ t) (hi : t ≤ 9223372036854775807) : law30_SyndromeCorrects t xs ys = some true := by
  unfold law30_SyndromeCorrects
  rw [lives30, Option.bind_some, if_neg (by decide)]
  by_cases hx : 16 < (xs.length : Int)
  · rw [if_pos hx]; rfl
  rw [if_neg hx]
  by_cases hy : 16 < (ys.length : Int)
  · rw [if_pos hy]; rfl
  rw [if_neg hy]
  have hm := most_lt'
  have h1000 : 10000 ≤ most := by decide
  simp only [field_New, Option.bind_some]
  obtain ⟨z, e1, z1, z2⟩ := iterC_find (X := Unit ⊕ Bool) (body := fun s14 : Int => (if s14 < (xs.length : Int) then ((idx xs s14).bind fun c17 => (if c17 = (0 : UInt8) then ((syndrome_Correct true t xs ys).bind fun r19 => (if r19.2.2 = 2 then some (.inr (.inr true)) else (if (xs.length : Int) = (ys.length : Int) then some (.inr (.inr false)) else
      some (.inr (.inr (decide (r19.2.2 = 1))))))) else some (.inl (wI (s14 + 1))))) else some (.inr (.inl ())))) xs.length (fun i => co xs i = 0) (.inr true) (.inl ())
    (fun i hi hb => by
      rw [if_pos (by omega), idx_co hi, Option.bind_some, if_neg hb, wI_succ i (by omega)])
    (fun i hi hb => by
      have hin : (0 : UInt8) ∈ xs := by rw [← hb]; exact co_mem hi
      rw [if_pos (by omega), idx_co hi, Option.bind_some, if_pos hb]
      by_cases hl : (xs.length : Int) = (ys.length : Int)
      · have hs : scode t xs (ys.length : Int) = 2 := by unfold scode; rw [if_pos hl, if_pos (.inr (.inr hin))]
        rw [Correct_bad t xs ys (by omega) (by rw [hs]; decide), hs, Option.bind_some, if_pos rfl]
      · have hs : scode t xs (ys.length : Int) = 1 := by unfold scode; rw [if_neg hl]
        rw [Correct_bad t xs ys (by omega) (by rw [hs]; decide), hs, Option.bind_some, if_neg (by decide), if_neg hl]; rfl)
    (by simp)
  rw [e1, Option.bind_some]
  by_cases h0 : (0 : UInt8) ∈ xs
  · obtain ⟨j, hj, e⟩ := mem_co h0
    rw [z1 ⟨j, hj, e.symm⟩]; rfl
  rw [z2 (fun i hi e => h0 (e ▸ co_mem hi))]
  simp only [Sum.elim_inl]
  have hcs := codes_same (t := t) (n := (ys.length : Int)) h0
  by_cases hc : scode t xs (ys.length : Int) = 0
  · obtain ⟨hl, h1, h2, _, h255, hn⟩ := scode_ok hc
    obtain ⟨t, rfl⟩ : ∃ k : Nat, t = (k : Int) := ⟨t.toNat, by omega⟩
    have hC := Correct_spec t xs ys (by omega) hc
    have hM := Column_spec t xs ys xs.length (by rw [← hcs]; exact hc)
    by_cases hex : ∃ P, dg P ≤ t ∧ 2 * wr xs ys P xs.length ≤ xs.length - t
    · obtain ⟨P, hP, hw⟩ := hex
      have htl := dg_sim (trim_sim P)
      have htp : (trim P).length ≤ t := hP
      rw [hC.1 P hP hw, Option.bind_some, hM.1 P ⟨hP, wr_le _ _ _ _, hw⟩, Option.bind_some, if_pos rfl, if_pos rfl]
      refine bind_of (x := Sum.inl ((((wix xs ys P xs.length).length : Nat) : Int))) ?_ ?_
      · refine iterC_count (fun i => ((((wix xs ys P i).length : Nat) : Int), (i : Int))) xs.length _ rfl ?_ ?_
        · intro i hi
          simp only
          have hv : idx ((List.range xs.length).map (fun i => evp P (co xs i))) (i : Int) = some (evp P (co xs i)) := by rw [idx_nat]; simp [hi]
          rw [if_pos (by omega), idx_co hi, Option.bind_some, poly_Eval_eq _ _ (by omega), ev_trim, Option.bind_some, hv, Option.bind_some, if_pos rfl, idx_co (by omega), Option.bind_some, wI_succ i (by omega)]
          by_cases he : evp P (co xs i) = co ys i
          · rw [if_pos he, wix_succ, if_pos he]
          · obtain ⟨hlt, ha⟩ := wix_at hi he
            have hwl := wix_len xs ys P xs.length
            have hwl2 := wr_le xs ys P xs.length
            rw [if_neg he, ints_len, if_neg (by omega), idx_ints hlt, Option.bind_some, ha, if_pos rfl, wI_succ _ (by omega), wix_succ, if_neg he, List.length_append]
            rfl
        · simp
      · simp only [Sum.elim_inl]
        rw [ints_len, if_pos rfl]
        simp
        omega
    · have hno : ∀ P, dg P ≤ t → ¬ 2 * wr xs ys P xs.length ≤ xs.length - t := fun P hP hw => hex ⟨P, hP, hw⟩
      rw [hC.2 hno, Option.bind_some, hM.2 (fun P hP => hno P hP.1 hP.2.2), Option.bind_some, if_pos rfl, if_neg (by decide)]
      decide
  · rw [Correct_bad t xs ys (by omega) hc, Option.bind_some, Column_bad t xs ys _ (by omega) (by rw [← hcs]; exact hc), Option.bind_some, if_pos hcs, if_neg hc]
    rfl
end Gk

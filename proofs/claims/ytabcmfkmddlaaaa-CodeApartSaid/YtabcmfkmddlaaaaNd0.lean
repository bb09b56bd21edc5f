/- Chapter 8: unlike places, sums of shares, what shares of a dealing tell. No condition but lengths. -/
import Derived.Test.YtabcmfkmddlaaaaL8a
import Derived.Test.YtabcmfkmddlaaaaNa
set_option linter.unusedSimpArgs false
set_option linter.unusedVariables false
namespace Gk
open Gf
/-- Bytes, cut or filled up with noughts. -/
def mad (b : List UInt8) (n : Nat) : List UInt8 := copyL (List.replicate n 0) 0 b
theorem mad_len (b : List UInt8) (n : Nat) : (mad b n).length = n := by
  have := copyL_len (List.replicate n (0 : UInt8)) 0 b (Nat.zero_le _)
  simpa [mad] using this
theorem Made_eq (b : List UInt8) (n : Nat) (h : n ≤ most) : law08_Made b (n : Int) = some (mad b n) := by
  unfold law08_Made
  rw [makeL_nat _ _ h]; rfl

/-! ### Unlike places -/
theorem nodup_sub_len {α : Type} [DecidableEq α] : ∀ l m : List α, l.Nodup → (∀ a ∈ l, a ∈ m) → l.length ≤ m.length
  | [], m, _, _ => Nat.zero_le _
  | a :: l, m, hn, hs => by
    rw [List.nodup_cons] at hn
    have ha : a ∈ m := hs a (by simp)
    have := nodup_sub_len l (m.erase a) hn.2 (fun b hb => by
      have hne : b ≠ a := fun e => hn.1 (e ▸ hb)
      exact (List.mem_erase_of_ne hne).2 (hs b (by simp [hb])))
    rw [List.length_erase_of_mem ha] at this
    have hpos := List.length_pos_of_mem ha
    simp only [List.length_cons]; omega
theorem mget_mput (m : List (UInt8 × Bool)) (k a : UInt8) : mget (mput m k true) a = (decide (a = k) || mget m a) := by
  unfold mput
  split
  · rename_i hk
    unfold mget
    rw [List.find?_map]
    have hf : ((fun p : UInt8 × Bool => p.1 == a) ∘ fun p => if p.1 = k then (p.1, true) else p) = (fun p => p.1 == a) := by
      funext p; simp only [Function.comp]; split <;> rfl
    rw [hf]
    cases hm : m.find? (fun p => p.1 == a) with
    | none =>
      by_cases hak : a = k
      · subst hak
        obtain ⟨p, hp, e⟩ := List.mem_map.1 hk
        have := List.find?_eq_none.1 hm p hp
        simp [e] at this
      · simp [hak]
    | some p =>
      have hp : p.1 = a := by simpa using List.find?_some hm
      by_cases hak : a = k
      · subst hak; simp [hp]
      · have : p.1 ≠ k := fun e => hak (hp.symm.trans e)
        simp [hak, this]
  · rename_i hk
    unfold mget
    rw [List.find?_append]
    cases hm : m.find? (fun p => p.1 == a) with
    | none =>
      by_cases hak : a = k
      · subst hak; simp
      · simp [hak, Ne.symm hak]
    | some p =>
      have hp : p.1 = a := by simpa using List.find?_some hm
      have : a ≠ k := fun e => hk (List.mem_map.2 ⟨p, List.mem_of_find?_eq_some hm, hp.trans e⟩)
      simp [this]
theorem in_eq (out : List UInt8) (x : UInt8) (h : out.length ≤ most) : iterC (fun s30 : Bool × Int => (if s30.2 < (out.length : Int) then ((idx out s30.2).bind fun c33 => (if s30.1 = true then some (.inl (true, (wI (s30.2 + 1)))) else some (.inl ((decide (x = c33)), (wI (s30.2 + 1)))))) else some (.inr s30.1))) (false, 0) = some (decide (x ∈ out)) := by
  have hm := most_lt'
  refine iterC_count (fun i => (decide (x ∈ out.take i), (i : Int))) out.length _ (by simp) ?_ ?_
  · intro i hi
    simp only
    rw [if_pos (by omega), idx_co hi, Option.bind_some, wI_succ i (by omega), take_snoc hi]
    by_cases hin : x ∈ out.take i
    · rw [if_pos (by simpa using hin)]; simp [hin]
    · rw [if_neg (by simpa using hin)]; simp [hin]
  · simp
theorem Unlike_eq (b : List UInt8) (n : Nat) (hn : n ≤ 200) (hb : b.length ≤ 9223372036854775807) : ∃ r, law08_Unlike b (n : Int) = some r ∧ r.length = n ∧ r.Nodup ∧ (0 : UInt8) ∉ r := by
  unfold law08_Unlike
  have hmo := most_lt'
  have h1000 : 1000 ≤ most := by decide
  obtain ⟨out, e1, o1, o2, o3⟩ := iterC_inv (body := fun s6 : (List (UInt8 × Bool)) × List UInt8 × Int => (if s6.2.2 < (b.length : Int) then ((idx b s6.2.2).bind fun c9 => (if (!((mget s6.1 c9))) = true then (if (s6.2.1.length : Int) < (n : Int) then ((appL s6.2.1 (([c9] : List UInt8))).bind fun c14 =>
      some (.inl ((mput s6.1 c9 true), c14, (wI (s6.2.2 + 1))))) else some (.inl ((mput s6.1 c9 true), s6.2.1, (wI (s6.2.2 + 1))))) else some (.inl ((mput s6.1 c9 true), s6.2.1, (wI (s6.2.2 + 1)))))) else some (.inr s6.2.1)))
    (fun s => ∃ i : Nat, i ≤ b.length ∧ s.2.2 = (i : Int) ∧ (∀ a, a = 0 ∨ a ∈ s.2.1 → mget s.1 a = true) ∧ s.2.1.Nodup ∧ (0 : UInt8) ∉ s.2.1 ∧ s.2.1.length ≤ n) (fun s => b.length - s.2.2.toNat)
    (fun out : List UInt8 => out.Nodup ∧ (0 : UInt8) ∉ out ∧ out.length ≤ n)
    (by
      rintro ⟨m, out, _⟩ ⟨i, hi, rfl, h1, h2, h3, h4⟩
      simp only at h1 h2 h3 h4 ⊢
      by_cases hlt : i < b.length
      · have keep : ∀ a, a = 0 ∨ a ∈ out → mget (mput m (co b i) true) a = true := fun a ha => by rw [mget_mput, h1 a ha, Bool.or_true]
        rw [if_pos (by omega), idx_co hlt, Option.bind_some, wI_succ i (by omega)]
        by_cases hg : mget m (co b i) = true
        · rw [if_neg (by simp [hg])]
          exact .inl ⟨_, rfl, ⟨i + 1, hlt, rfl, keep, h2, h3, h4⟩, by simp only [Int.toNat_natCast]; omega⟩
        · rw [if_pos (by simp [hg])]
          by_cases hln : (out.length : Int) < (n : Int)
          · have hni : co b i ∉ out := fun h => hg (h1 _ (.inr h))
            have hn0 : co b i ≠ 0 := fun e => hg (h1 _ (.inl e))
            unfold appL
            rw [if_pos hln, if_pos (by simp; omega), Option.bind_some]
            refine .inl ⟨_, rfl, ⟨i + 1, hlt, rfl, fun a ha => ?_, ?_, ?_, ?_⟩, by simp only [Int.toNat_natCast]; omega⟩
            · rw [mget_mput]
              rcases ha with ha | ha
              · rw [h1 a (.inl ha), Bool.or_true]
              · rcases List.mem_append.1 ha with ha | ha
                · rw [h1 a (.inr ha), Bool.or_true]
                · rw [List.mem_singleton.1 ha]; simp
            · rw [List.nodup_append]
              refine ⟨h2, by simp, ?_⟩
              intro a ha c hc e
              rw [List.mem_singleton] at hc
              subst hc; subst e; exact hni ha
            · simp only [List.mem_append, List.mem_singleton, not_or]
              exact ⟨h3, Ne.symm hn0⟩
            · simp; omega
          · rw [if_neg hln]
            exact .inl ⟨_, rfl, ⟨i + 1, hlt, rfl, keep, h2, h3, h4⟩, by simp only [Int.toNat_natCast]; omega⟩
      · obtain rfl : i = b.length := by omega
        rw [if_neg (by omega)]
        exact .inr ⟨_, rfl, h2, h3, h4⟩) (mput [] 0 true, [], 0) ⟨0, Nat.zero_le _, rfl, fun a ha => by
      rcases ha with rfl | ha
      · rfl
      · simp at ha, by simp, by simp, by simp⟩
  rw [e1, Option.bind_some]
  obtain ⟨r, e2, r1, r2, r3⟩ := iterC_inv (body := fun s26 : List UInt8 × UInt8 => (if (s26.1.length : Int) < (n : Int) then (if (0 : UInt8) < s26.2 then ((iterC (fun s30 : Bool × Int => (if s30.2 < (s26.1.length : Int) then ((idx s26.1 s30.2).bind fun c33 => (if s30.1 = true then some (.inl (true, (wI (s30.2 + 1)))) else some (.inl ((decide (s26.2 = c33)), (wI (s30.2 + 1)))))) else some (.inr s30.1))) (false, 0)).bind fun x30 =>
      (if (!x30) = true then ((appL s26.1 (([s26.2] : List UInt8))).bind fun c40 => some (.inl (c40, (s26.2 + (1 : UInt8))))) else some (.inl (s26.1, (s26.2 + (1 : UInt8)))))) else some (.inr s26.1)) else some (.inr s26.1)))
    (fun s => s.1.Nodup ∧ (0 : UInt8) ∉ s.1 ∧ s.1.length ≤ n ∧ ∃ k : Nat, 1 ≤ k ∧ k ≤ 256 ∧ s.2 = UInt8.ofNat k ∧ ∀ y : UInt8, 1 ≤ y.toNat → y.toNat < k → y ∈ s.1) (fun s => if s.2 = 0 then 0 else 256 - s.2.toNat)
    (fun r : List UInt8 => r.length = n ∧ r.Nodup ∧ (0 : UInt8) ∉ r)
    (by
      rintro ⟨out, x⟩ ⟨h1, h2, h3, k, k1, k2, hk, hall⟩
      simp only at h1 h2 h3 hk hall ⊢
      by_cases hln : (out.length : Int) < (n : Int)
      · rw [if_pos hln]
        by_cases hx : (0 : UInt8) < x
        · have hk256 : k < 256 := by
            rcases Nat.lt_or_ge k 256 with h | h
            · exact h
            · obtain rfl : k = 256 := by omega
              rw [hk] at hx; exact absurd hx (by decide)
          have hxk : x.toNat = k := by rw [hk, UInt8.toNat_ofNat']; omega
          have hx0 : x ≠ 0 := fun e => by rw [e] at hxk; simp at hxk; omega
          have hx1 : x + 1 = UInt8.ofNat (k + 1) := by rw [hk]; apply UInt8.toNat_inj.1; simp
          have hmeas : (if x + 1 = 0 then 0 else 256 - (x + 1).toNat) < (if x = 0 then 0 else 256 - x.toNat) := by
            rw [if_neg hx0, hxk]
            split
            · omega
            · rename_i h9
              have : (x + 1).toNat = k + 1 := by
                rw [hx1, UInt8.toNat_ofNat']
                have : k + 1 ≠ 256 := fun e => h9 (by rw [hx1, e]; rfl)
                omega
              omega
          rw [if_pos hx, in_eq out x (by omega), Option.bind_some]
          by_cases hin : x ∈ out
          · rw [if_neg (by simp [hin])]
            refine .inl ⟨_, rfl, ⟨h1, h2, h3, k + 1, by omega, by omega, hx1, fun y hy1 hy2 => ?_⟩, hmeas⟩
            by_cases hyk : y.toNat = k
            · rw [UInt8.toNat_inj.1 (hyk.trans hxk.symm)]; exact hin
            · exact hall y hy1 (by omega)
          · unfold appL
            rw [if_pos (by simp [hin]), if_pos (by simp; omega), Option.bind_some]
            refine .inl ⟨_, rfl, ⟨?_, ?_, by simp; omega, k + 1, by omega, by omega, hx1, fun y hy1 hy2 => ?_⟩, hmeas⟩
            · rw [List.nodup_append]
              refine ⟨h1, by simp, ?_⟩
              intro a ha c hc e
              rw [List.mem_singleton] at hc
              subst hc; subst e; exact hin ha
            · simp only [List.mem_append, List.mem_singleton, not_or]
              exact ⟨h2, Ne.symm hx0⟩
            · by_cases hyk : y.toNat = k
              · rw [UInt8.toNat_inj.1 (hyk.trans hxk.symm)]; simp
              · exact List.mem_append_left _ (hall y hy1 (by omega))
        · rw [if_neg hx]
          exfalso
          have hx0 : x = 0 := by
            apply UInt8.toNat_inj.1
            have : ¬ (0 : UInt8).toNat < x.toNat := fun h => hx (UInt8.lt_iff_toNat_lt.2 h)
            simp at this ⊢; exact this
          have hk256 : k = 256 := by
            have : (UInt8.ofNat k).toNat = 0 := by rw [← hk, hx0]; rfl
            rw [UInt8.toNat_ofNat'] at this
            omega
          have := nodup_sub_len E out E_nodup (fun a ha => hall a (by
            have : a ≠ 0 := fun e => E_ne (e ▸ ha)
            have h0 : a.toNat ≠ 0 := fun e => this (UInt8.toNat_inj.1 e)
            omega) (by rw [hk256]; exact a.toNat_lt))
          rw [E_len] at this
          omega
      · rw [if_neg hln]
        exact .inr ⟨_, rfl, by omega, h1, h2⟩) (out, 1) ⟨o1, o2, o3, 1, Nat.le_refl _, by decide, rfl, fun y h1 h2 => by omega⟩
  rw [e2, Option.bind_some]
  exact ⟨r, rfl, r1, r2, r3⟩

/-! ### Sums -/
theorem co_pplus_eq {p q : List UInt8} (h : p.length = q.length) : (pplus p q).length = p.length := by rw [pplus_len]; omega
/-- A loop that adds q to what lies there, number by number. -/
theorem xorLoop (p q : List UInt8) (h : p.length = q.length) {body : List UInt8 × Int → Option ((List UInt8 × Int) ⊕ List UInt8)} (n : Nat) (hn : n = p.length)
    (hb1 : ∀ (s : List UInt8) (i : Nat), i < n → s.length = p.length → body (s, (i : Int)) = some (.inl (s.set i (co s i ^^^ co q i), ((i + 1 : Nat) : Int))))
    (hb2 : ∀ s : List UInt8, body (s, (n : Int)) = some (.inr s)) : iterC body (p, 0) = some (pplus p q) := by
  subst hn
  obtain ⟨x, e1, e2⟩ := iterC_up (s0 := p) (fun i s => s.length = p.length ∧ ∀ j, co s j = co p j ^^^ (if j < i then co q j else 0)) p.length (fun x : List UInt8 => x = pplus p q)
    (body := body) ⟨rfl, fun j => by rw [if_neg (by omega), xor_zero]⟩
    (fun i s hi hI => by
      obtain ⟨hl, hs⟩ := hI
      refine ⟨_, hb1 s i hi hl, by simpa using hl, fun j => ?_⟩
      rw [co_set (by omega)]
      by_cases hj : j = i
      · subst hj; rw [if_pos rfl, hs j, if_neg (by omega), if_pos (by omega), xor_zero]
      · rw [if_neg hj, hs j]
        have : j < i + 1 ↔ j < i := by omega
        simp only [this])
    (fun s hI => ⟨s, hb2 s, eq_of_co (by rw [hI.1, co_pplus_eq h]) (fun j => by
      rw [hI.2 j, co_pplus]
      split
      · rfl
      · rw [co_ge (show q.length ≤ j by omega)])⟩)
  rw [e1, e2]
theorem Xor_eq (p q : List UInt8) (h : p.length = q.length) (hp : p.length ≤ most) : word_Xor p q = some (pplus p q) := by
  unfold word_Xor
  have hm := most_lt'
  have hmin : (if (q.length : Int) < (p.length : Int) then (q.length : Int) else (p.length : Int)) = (p.length : Int) := by split <;> omega
  rw [hmin, makeL_nat _ _ hp, Option.bind_some]
  obtain ⟨x, e1, e2⟩ := iterC_up (s0 := List.replicate p.length (0 : UInt8)) (fun i s => s.length = p.length ∧ ∀ j, co s j = if j < i then co p j ^^^ co q j else 0) p.length (fun x : List UInt8 => x = pplus p q)
    (body := fun s4 : List UInt8 × Int => (if s4.2 < ((List.replicate p.length (0 : UInt8)).length : Int) then ((idx p s4.2).bind fun c9 => ((idx q s4.2).bind fun c10 => ((idx s4.1 s4.2).bind fun c11 => some (.inl ((s4.1.set (s4.2 : Int).toNat ((c9 ^^^ c10))), (wI (s4.2 + 1))))))) else some (.inr s4.1)))
    ⟨by simp, fun j => by rw [co_rep, if_neg (by omega)]⟩
    (fun i s hi hI => by
      obtain ⟨hl, hs⟩ := hI
      refine ⟨s.set i (co p i ^^^ co q i), ?_, by simpa using hl, fun j => ?_⟩
      · simp only
        rw [if_pos (by rw [List.length_replicate]; omega), idx_co hi, Option.bind_some, idx_co (by omega), Option.bind_some, idx_co (by omega), Option.bind_some, wI_succ i (by omega), Int.toNat_natCast]
      · rw [co_set (by omega)]
        by_cases hj : j = i
        · subst hj; rw [if_pos rfl, if_pos (by omega)]
        · rw [if_neg hj, hs j]
          have : j < i + 1 ↔ j < i := by omega
          simp only [this])
    (fun s hI => ⟨s, by simp, eq_of_co (by rw [hI.1, co_pplus_eq h]) (fun j => by
      rw [hI.2 j, co_pplus]
      split
      · rfl
      · rw [co_ge (show p.length ≤ j by omega), co_ge (show q.length ≤ j by omega), xor_zero])⟩)
  rw [e1, Option.bind_some, e2]
theorem Add_map (xs : List UInt8) (f g : UInt8 → List UInt8) (d : Nat) (hf : ∀ x, (f x).length = d) (hg : ∀ x, (g x).length = d) (hd : d ≤ most) (hx : xs.length ≤ most) : shamir_Add (xs.map f) (xs.map g) = some (xs.map fun x => pplus (f x) (g x), 0) := by
  unfold shamir_Add
  have hm := most_lt'
  have im : ∀ (h : UInt8 → List UInt8) (i : Nat), i < xs.length → idx (xs.map h) (i : Int) = some (h (co xs i)) := fun h i hi => by rw [idx_nat, List.getElem?_map, co_get hi]; rfl
  rw [if_pos (by simp)]
  have : iterC (fun s2 : List (List UInt8) × Int => (if s2.2 < ((xs.map f).length : Int) then ((idx (xs.map f) s2.2).bind fun c7 => ((idx (xs.map g) s2.2).bind fun c9 => (if (c7.length : Int) = (c9.length : Int) then ((idx (xs.map f) s2.2).bind fun c14 => ((idx (xs.map g) s2.2).bind fun c16 =>
      ((word_Xor c14 c16).bind fun r18 => ((appL s2.1 (([r18] : List (List UInt8)))).bind fun c22 => some (.inl (c22, (wI (s2.2 + 1)))))))) else some (.inr (Sum.inr (α := List (List UInt8)) (([] : List (List UInt8)), (3 : Int))))))) else some (.inr (.inl s2.1)))) (([] : List (List UInt8)), 0) = some (.inl (xs.map fun x => pplus (f x) (g x))) := by
    refine iterC_count (fun i => ((xs.take i).map fun x => pplus (f x) (g x), (i : Int))) xs.length _ rfl ?_ ?_
    · intro i hi
      simp only
      rw [if_pos (by rw [List.length_map]; omega), im f i hi, im g i hi]
      simp only [Option.bind_some]
      rw [if_pos (by rw [hf, hg]), Xor_eq _ _ (by rw [hf, hg]) (by rw [hf]; exact hd), Option.bind_some]
      unfold appL
      rw [if_pos (by simp; omega), Option.bind_some, wI_succ i (by omega), take_snoc hi, List.map_append]
      rfl
    · simp
  rw [this, Option.bind_some, Sum.elim_inl]
theorem pplus_comm_eq {p q : List UInt8} (h : p.length = q.length) : pplus p q = pplus q p := eq_of_co (by rw [co_pplus_eq h, co_pplus_eq h.symm, h]) (fun i => by rw [co_pplus, co_pplus, xor_comm])
/-- Shares of sums are sums of shares. -/
theorem shr_add (s s' m m' : List UInt8) (q : Nat) (x : UInt8) (h : s.length = s'.length) : pplus (shr s m q x) (shr s' m' q x) = shr (pplus s s') (pplus m m') q x := by
  have hl := co_pplus_eq h
  refine eq_of_co (by rw [co_pplus_eq (by rw [shr_len, shr_len, h]), shr_len, shr_len, hl]) fun i => ?_
  rw [co_pplus]
  by_cases hi : i < s.length
  · rw [co_shr _ _ _ _ _ hi, co_shr _ _ _ _ _ (by omega), co_shr _ _ _ _ _ (by omega), ← ev_pplus]
    refine ev_sim _ _ x fun j => ?_
    rw [co_pplus]
    cases j with
    | zero => simp only [colp, co_zero, co_pplus]
    | succ j =>
      simp only [colp, co_succ]
      by_cases hj : j < q
      · rw [co_rowsp _ _ _ _ _ hj, co_rowsp _ _ _ _ _ hj, co_rowsp _ _ _ _ _ hj, co_pplus, hl, ← h]
      · rw [co_ge (by rw [rowsp_len]; omega), co_ge (by rw [rowsp_len]; omega), co_ge (by rw [rowsp_len]; omega), xor_zero]
  · rw [co_ge (by rw [shr_len]; omega), co_ge (by rw [shr_len]; omega), co_ge (by rw [shr_len]; omega), xor_zero]
/-- Enough shares tell any place. -/
theorem atv_shr (s m : List UInt8) (q : Nat) (F : List UInt8) (x : UInt8) (hn : F.Nodup) (hq : q + 1 ≤ F.length) : atv F (F.map (shr s m q)) s.length x = shr s m q x := by
  refine eq_of_co (by simp [atv, shr_len]) fun i => ?_
  unfold atv
  rw [co_tab]
  by_cases hi : i < s.length
  · rw [if_pos hi, co_shr _ _ _ _ _ hi, lagrange hn (p := colp s m q i) (Nat.le_trans (dg_len _) (by rw [colp_len]; exact hq)) x]
    refine sm_congr _ fun k hk => ?_
    have : (F.map (shr s m q)).getD k [] = shr s m q (co F k) := by
      rw [List.getD_eq_getElem?_getD, List.getElem?_map, co_get hk]; rfl
    rw [this, co_shr _ _ _ _ _ hi]
  · rw [if_neg hi, co_ge (by rw [shr_len]; omega)]
/-- At 0 lies the secret. -/
theorem shr_zero (s m : List UInt8) (q : Nat) : shr s m q 0 = s := by
  refine eq_of_co (shr_len _ _ _ _) fun i => ?_
  by_cases hi : i < s.length
  · rw [co_shr _ _ _ _ _ hi]
    show co s i ^^^ mul _ 0 = co s i
    rw [mul_zero, xor_zero]
  · rw [co_ge (by rw [shr_len]; omega), co_ge (by omega)]
end Gk

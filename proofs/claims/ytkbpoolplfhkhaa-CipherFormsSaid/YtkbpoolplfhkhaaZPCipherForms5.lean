/- Parts Qe, L5, L5b, Qf, one behind the other. What is proved: said at the head of each part. No condition beside those said there. -/
import Derived.Test.YtkbpoolplfhkhaaRows
import Derived.Orders
import Derived.Deep.Draws
import Derived.Laws.World
import Derived.KernelRfl
import Derived.OrdersIn
import Derived.TacticsIn
import Derived.RangeFuncCalls
import Derived.Deep.LoopGhost
import Derived.Tactics
import Derived.Sort.LoopGhostIn
import Derived.RangeFuncLeaves
import Derived.RangeFuncNested
import Derived.RangeFuncRecord
import Derived.Laws.Sem
import Derived.OwnWalk
import Derived.RangeFuncWrites
import Derived.Laws.IdiomCopy
import Derived.WalkKit
import Derived.ProofKit
import Derived.OpenShut
import Derived.ChangeOld
import Derived.Below
import Derived.Test.YtkbpoolplfhkhaaProg
import Derived.MapKept
import Derived.Lib.AppendZerosOnto
import Derived.Laws.CopyRow
import Derived.Laws.Cells
import Derived.Lib.SlBytesConst
import Derived.Test.YtkbpoolplfhkhaaZPCipherForms1
import Derived.Test.YtkbpoolplfhkhaaZPCipherForms2
import Derived.Test.YtkbpoolplfhkhaaZPCipherForms3
import Derived.Test.YtkbpoolplfhkhaaZPCipherForms4
/- The document's words of a key, and its encryption, in plain Lean (chapter 5). No condition but lengths. -/

set_option linter.unusedSimpArgs false
set_option linter.unusedVariables false
namespace Gk
open Gf

theorem co_left (a b : List UInt8) (i : Nat) (h : i < a.length) : co (a ++ b) i = co a i := by
  simp [co, List.getD_eq_getElem?_getD, List.getElem?_append, h]
theorem rKeys_eq (key : List UInt8) (n : Nat) (hn : n = 4 ∨ n = 8) (h : key.length = 4 * n) : ref05_Keys key = some (worF key).flatten := by
  have hm : (1000 : Nat) ≤ most := by decide
  have hn0 : 0 < n := by omega
  unfold ref05_Keys
  rw [show (4 : Int) = ((4 : Nat) : Int) by rfl, divI_nat _ _ (by omega) (by omega), show key.length / 4 = n by omega, Option.bind_some, appL_nil _ (by omega), Option.bind_some]
  have hok := kS_ok n (wor0 key) hn0 (wor0_len key n h) (wor0_4 key n h)
  refine bind_of (x := (worF key).flatten) (iterC_count (fun j => ((kS n (wor0 key) j).1.flatten, (kS n (wor0 key) j).2, ((n + j : Nat) : Int))) (3 * n + 28) _ (by rw [show (kS n (wor0 key) 0).1 = wor0 key by rfl, wor0_flat key n h]; rfl) ?_ ?_) rfl
  · intro j hj
    obtain ⟨hl, h4⟩ := hok j
    have hfl := flat_len 4 _ h4
    have eb : wI (((4 : Nat) : Int) * wI ((n : Int) + 7)) = ((4 * (n + 7) : Nat) : Int) := by
      rw [wI_of (x := (n : Int) + 7) (by omega) (by omega), wI_of (by omega) (by omega)]; omega
    have e4 : wI (((4 : Nat) : Int) * ((n + j : Nat) : Int)) = ((4 * (n + j) : Nat) : Int) := by rw [wI_of (by omega) (by omega)]; omega
    have em : wI (((n + j : Nat) : Int) - (n : Int)) = ((n + j - n : Nat) : Int) := wI_sub _ _ (by omega) (by omega)
    have ei : wI (((n + j : Nat) : Int) + 1) = ((n + (j + 1) : Nat) : Int) := by rw [wI_succ _ (by omega)]; rfl
    have ht : ((kS n (wor0 key) j).1.getD (n + j - 1) []).length = 4 := h4 _ (getD_mem (by omega))
    have hu : ((kS n (wor0 key) j).1.getD (n + j - n) []).length = 4 := h4 _ (getD_mem (by omega))
    have ek : ∀ k : Nat, k < 4 → wI (((4 * (n + j) : Nat) : Int) - ((4 - k : Nat) : Int)) = ((4 * (n + j - 1) + k : Nat) : Int) := fun k hk => by rw [wI_sub _ _ (by omega) (by omega)]; omega
    have ek0 := ek 0 (by omega)
    have ek1 := ek 1 (by omega)
    have ek2 := ek 2 (by omega)
    have ek3 := ek 3 (by omega)
    have i0 := co_flat 4 _ h4 (n + j - 1) 0 (by omega) (by omega)
    have i1 := co_flat 4 _ h4 (n + j - 1) 1 (by omega) (by omega)
    have i2 := co_flat 4 _ h4 (n + j - 1) 2 (by omega) (by omega)
    have i3 := co_flat 4 _ h4 (n + j - 1) 3 (by omega) (by omega)
    have hW4 : ∀ k, k < 4 → co (kS n (wor0 key) j).1.flatten (4 * (n + j - n) + k) = co ((kS n (wor0 key) j).1.getD (n + j - n) []) k := fun k hk => co_flat 4 _ h4 (n + j - n) k (by omega) hk
    dsimp only
    rw [eb, if_pos (by omega), e4]
    rw [kS, kst]
    generalize hp : (kS n (wor0 key) j).2 = p at *
    generalize hW : (kS n (wor0 key) j).1 = W at *
    obtain ⟨a, b, c, d, habcd⟩ := list4 ht
    rw [habcd] at i0 i1 i2 i3 ⊢
    simp only [show (((4 - 0 : Nat) : Int)) = ((4 : Nat) : Int) by rfl, show (((4 - 1 : Nat) : Int)) = 3 by rfl, show (((4 - 2 : Nat) : Int)) = 2 by rfl, show (((4 - 3 : Nat) : Int)) = 1 by rfl] at ek0 ek1 ek2 ek3
    rw [ek0, ek1, ek2, ek3, idx_co (by omega), idx_co (by omega), idx_co (by omega), idx_co (by omega), i0, i1, i2, i3]
    simp only [Option.bind_some]
    rw [show co [a, b, c, d] 0 = a by rfl, show co [a, b, c, d] 1 = b by rfl, show co [a, b, c, d] 2 = c by rfl, show co [a, b, c, d] 3 = d by rfl, remI_nat _ _ hn0, Option.bind_some]
    have fin : ∀ (t : List UInt8) (q : UInt8), t.length = 4 → ((iterC (fun s60 : List UInt8 × Int => (if s60.2 < ((4 : Nat) : Int) then ((idx s60.1 ((wI ((wI (((4 : Nat) : Int) * (wI (((n + j : Nat) : Int) - (n : Int))))) + s60.2)))).bind fun c66 => ((idx t s60.2).bind fun c67 => ((appL s60.1 (([(c66 ^^^ c67)] : List UInt8))).bind fun c70 => some (.inl (c70, (wI (s60.2 + 1))))))) else some (.inr s60.1))) (W.flatten, 0)).bind fun x60 => (some (.inl (x60, q, (wI (((n + j : Nat) : Int) + 1)))) : Option ((List UInt8 × UInt8 × Int) ⊕ List UInt8))) = some (.inl ((W ++ [xr t (W.getD (n + j - n) [])]).flatten, q, ((n + (j + 1) : Nat) : Int))) := fun t q ht => by
      have hx : (xr t (W.getD (n + j - n) [])).length = 4 := by rw [xr_len]; omega
      refine bind_of (x := W.flatten ++ xr t (W.getD (n + j - n) [])) (iterC_count (fun k => (W.flatten ++ (xr t (W.getD (n + j - n) [])).take k, (k : Int))) 4 _ (by rw [List.take_zero, List.append_nil]; rfl) ?_ ?_) ?_
      · intro k hk
        have e5 : wI (wI (((4 : Nat) : Int) * (wI (((n + j : Nat) : Int) - (n : Int)))) + (k : Int)) = ((4 * (n + j - n) + k : Nat) : Int) := by
          rw [em, wI_of (x := ((4 : Nat) : Int) * ((n + j - n : Nat) : Int)) (by omega) (by omega), wI_of (by omega) (by omega)]; omega
        have hlt : 4 * (n + j - n) + k < W.flatten.length := by omega
        dsimp only
        rw [if_pos (by omega), e5, idx_co (by rw [List.length_append]; omega), Option.bind_some, idx_co (by omega), Option.bind_some, co_left _ _ _ hlt, hW4 k hk, xor_comm, ← co_xr _ _ _ (by omega) (by omega), appL_ok _ _ (by rw [List.length_append, List.length_singleton, List.length_take]; omega) rfl, Option.bind_some, List.append_assoc, ← take_snoc (by omega), wI_succ _ (by omega)]
      · dsimp only
        rw [if_neg (by omega), List.take_of_length_le (by omega)]
      · rw [ei, List.flatten_append, List.flatten_singleton]
    by_cases hz : (n + j) % n = 0
    · rw [if_pos (by omega), if_pos hz]
      rw [show idx [a, b, c, d] 1 = some b by rfl, show idx [a, b, c, d] 2 = some c by rfl, show idx [a, b, c, d] 3 = some d by rfl, show idx [a, b, c, d] 0 = some a by rfl]
      simp only [Option.bind_some, rBox_eq, refMul_eq]
      exact fin _ _ rfl
    · rw [if_neg (by omega), if_neg hz]
      by_cases h8 : n = 8 ∧ (n + j) % n = 4
      · have h8c : (n + j) % 8 = 4 := by have := h8.2; rw [h8.1] at this ⊢; exact this
        rw [if_pos (by omega), show (8 : Int) = ((8 : Nat) : Int) by rfl, remI_nat _ _ (by omega), Option.bind_some, if_pos (by omega), if_pos h8]
        rw [show idx [a, b, c, d] 1 = some b by rfl, show idx [a, b, c, d] 2 = some c by rfl, show idx [a, b, c, d] 3 = some d by rfl, show idx [a, b, c, d] 0 = some a by rfl]
        simp only [Option.bind_some, rBox_eq, refMul_eq]
        exact fin _ _ rfl
      · rw [if_neg h8]
        by_cases h9 : n = 8
        · have h10 : ¬ (n + j) % 8 = 4 := fun e => h8 ⟨h9, by rw [h9] at e ⊢; exact e⟩
          rw [if_pos (by omega), show (8 : Int) = ((8 : Nat) : Int) by rfl, remI_nat _ _ (by omega), Option.bind_some, if_neg (by omega), Option.bind_some]
          exact fin _ _ rfl
        · rw [if_neg (by omega), Option.bind_some]
          exact fin _ _ rfl
  · have eb : wI (((4 : Nat) : Int) * wI ((n : Int) + 7)) = ((4 * (n + 7) : Nat) : Int) := by
      rw [wI_of (x := (n : Int) + 7) (by omega) (by omega), wI_of (by omega) (by omega)]; omega
    dsimp only
    rw [eb, if_neg (by omega), worF, show key.length / 4 = n by omega]
theorem rT_loop (S : List UInt8) (h : S.length = 16) : (iterC (fun s34 : List UInt8 × Int =>
(if s34.2 < 4 then
((iterC (fun s37 : List UInt8 × Int =>
(if s37.2 < 4 then
((remI ((wI (s34.2 + s37.2))) 4).bind fun c40 =>
((lenA 16 S).bind fun c41 =>
((idx S ((wI ((wI (4 * c40)) + s37.2)))).bind fun c42 =>
((ref05_Box c42).bind fun r43 =>
((lenA 16 s37.1).bind fun c45 =>
((idx s37.1 ((wI ((wI (4 * s34.2)) + s37.2)))).bind fun c46 => some (.inl ((s37.1.set ((wI ((wI (4 * s34.2)) + s37.2)) : Int).toNat r43), (wI (s37.2 + 1))))))))))
else some (.inr s37.1))) (s34.1, 0)).bind fun x37 => some (.inl (x37, (wI (s34.2 + 1)))))
else some (.inr s34.1))) ((List.replicate 16 (0 : UInt8)), 0)) = some (rowsF 1 (S.map sb)) := by
  obtain ⟨a0, a1, a2, a3, a4, a5, a6, a7, a8, a9, a10, a11, a12, a13, a14, a15, rfl⟩ := list16 h
  simp only [rBox_eq, Option.bind_some]
  refine fill44 (fun s => rfl) (fun i k => tab16 fun j => cond (Nat.blt j (4 * i + k)) (sb (co [a0, a1, a2, a3, a4, a5, a6, a7, a8, a9, a10, a11, a12, a13, a14, a15] (4 * ((j / 4 + j % 4) % 4) + j % 4))) 0) (by kernel_rfl) (by kernel_rfl) ?_ ?_ ?_
  · intro i k hi hk
    rcases lt4 hi with rfl | rfl | rfl | rfl <;> rcases lt4 hk with rfl | rfl | rfl | rfl <;> kernel_rfl
  · intro i hi
    rcases lt4 hi with rfl | rfl | rfl | rfl <;> kernel_rfl
  · intro i hi
    rcases lt4 hi with rfl | rfl | rfl | rfl <;> kernel_rfl
def uF (S : List UInt8) : List UInt8 := tab16 fun j => (((mul 2 (co S j) ^^^ mul 3 (co S (4 * (j / 4) + (j % 4 + 1) % 4))) ^^^ co S (4 * (j / 4) + (j % 4 + 2) % 4)) ^^^ co S (4 * (j / 4) + (j % 4 + 3) % 4))
theorem uF_eq (S : List UInt8) (h : S.length = 16) : uF S = colF pE S := by
  refine ext_co (by rw [colF_len]; exact tab16_len _) fun j hj => ?_
  rw [uF, tab16_len] at hj
  obtain ⟨k, i, hk, hi, rfl⟩ : ∃ k i, k < 4 ∧ i < 4 ∧ j = 4 * k + i := ⟨j / 4, j % 4, by omega, by omega, by omega⟩
  rw [co_col _ _ _ _ hk hi, uF, co_tab16 _ hj, col_at, show (4 * k + i) / 4 = k by omega, show (4 * k + i) % 4 = i by omega]
  rcases lt4 hi with rfl | rfl | rfl | rfl
  · show ((mul 2 _ ^^^ mul 3 _) ^^^ _) ^^^ _ = (((0 ^^^ mul 2 _) ^^^ mul 3 _) ^^^ mul 1 _) ^^^ mul 1 _
    simp only [one_mul, zero_xor]
  · show ((mul 2 _ ^^^ mul 3 _) ^^^ _) ^^^ _ = (((0 ^^^ mul 1 _) ^^^ mul 2 _) ^^^ mul 3 _) ^^^ mul 1 _
    simp only [one_mul, zero_xor]; ac_rfl
  · show ((mul 2 _ ^^^ mul 3 _) ^^^ _) ^^^ _ = (((0 ^^^ mul 1 _) ^^^ mul 1 _) ^^^ mul 2 _) ^^^ mul 3 _
    simp only [one_mul, zero_xor]; ac_rfl
  · show ((mul 2 _ ^^^ mul 3 _) ^^^ _) ^^^ _ = (((0 ^^^ mul 3 _) ^^^ mul 1 _) ^^^ mul 1 _) ^^^ mul 2 _
    simp only [one_mul, zero_xor]; ac_rfl
theorem rU_loop (S : List UInt8) (h : S.length = 16) : (iterC (fun s65 : List UInt8 × Int =>
(if s65.2 < 4 then
((iterC (fun s68 : List UInt8 × Int =>
(if s68.2 < 4 then
((lenA 16 S).bind fun c73 =>
((idx S ((wI ((wI (4 * s65.2)) + s68.2)))).bind fun c74 =>
((remI ((wI (s68.2 + 1))) 4).bind fun c75 =>
((idx S ((wI ((wI (4 * s65.2)) + c75)))).bind fun c76 =>
((remI ((wI (s68.2 + 2))) 4).bind fun c77 =>
((idx S ((wI ((wI (4 * s65.2)) + c77)))).bind fun c78 =>
((remI ((wI (s68.2 + 3))) 4).bind fun c79 =>
((idx S ((wI ((wI (4 * s65.2)) + c79)))).bind fun c80 =>
((ref02_Mul (2 : UInt8) c74).bind fun r81 =>
((ref02_Mul (3 : UInt8) c76).bind fun r83 =>
((lenA 16 s68.1).bind fun c85 =>
((idx s68.1 ((wI ((wI (4 * s65.2)) + s68.2)))).bind fun c86 => some (.inl ((s68.1.set ((wI ((wI (4 * s65.2)) + s68.2)) : Int).toNat ((((r81 ^^^ r83) ^^^ c78) ^^^ c80))), (wI (s68.2 + 1))))))))))))))))
else some (.inr s68.1))) (s65.1, 0)).bind fun x68 => some (.inl (x68, (wI (s65.2 + 1)))))
else some (.inr s65.1))) ((List.replicate 16 (0 : UInt8)), 0)) = some (colF pE S) := by
  rw [← uF_eq S h]
  obtain ⟨a0, a1, a2, a3, a4, a5, a6, a7, a8, a9, a10, a11, a12, a13, a14, a15, rfl⟩ := list16 h
  simp only [refMul_eq, Option.bind_some]
  refine fill44 (fun s => rfl) (fun i k => tab16 fun j => cond (Nat.blt j (4 * i + k)) (co (uF [a0, a1, a2, a3, a4, a5, a6, a7, a8, a9, a10, a11, a12, a13, a14, a15]) j) 0) (by kernel_rfl) (by kernel_rfl) ?_ ?_ ?_
  · intro i k hi hk
    rcases lt4 hi with rfl | rfl | rfl | rfl <;> rcases lt4 hk with rfl | rfl | rfl | rfl <;> kernel_rfl
  · intro i hi
    rcases lt4 hi with rfl | rfl | rfl | rfl <;> kernel_rfl
  · intro i hi
    rcases lt4 hi with rfl | rfl | rfl | rfl <;> kernel_rfl
theorem rA_loop (a1b r1 k0 : List UInt8) (hb : a1b.length = 16) (hk : k0.length = 16) (h1 : 16 ≤ r1.length) (hc : ∀ i, i < 16 → co k0 i = co r1 i) : (iterC (fun s11 : List UInt8 × Int =>
(if s11.2 < 16 then
((idx a1b s11.2).bind fun c16 =>
((idx r1 s11.2).bind fun c17 =>
((lenA 16 s11.1).bind fun c18 =>
((idx s11.1 s11.2).bind fun c19 => some (.inl ((s11.1.set (s11.2 : Int).toNat ((c16 ^^^ c17))), (wI (s11.2 + 1))))))))
else some (.inr s11.1))) ((List.replicate 16 (0 : UInt8)), 0)) = some (xr a1b k0) := by
  have hl : (List.replicate 16 (0 : UInt8)).length = 16 := rfl
  refine iterC_count (fun i => (updB (List.replicate 16 (0 : UInt8)) (fun j => co a1b j ^^^ co r1 j) i, (i : Int))) 16 _ (by rw [updB_zero]; rfl) ?_ ?_
  · intro i hi
    have hs := updB_succ (List.replicate 16 (0 : UInt8)) (fun j => co a1b j ^^^ co r1 j) i (by rw [hl]; exact hi)
    dsimp only
    rw [if_pos (by omega), idx_co (by omega), Option.bind_some, idx_co (by omega), Option.bind_some, lenA, if_pos (by rw [updB_len, hl]), Option.bind_some, idx_updB _ _ _ _ (by rw [hl]; exact hi), Option.bind_some, wI_succ _ (by omega), Int.toNat_natCast, hs]
  · dsimp only
    rw [if_neg (by omega)]
    have := updB_end (List.replicate 16 (0 : UInt8)) (fun j => co a1b j ^^^ co r1 j)
    rw [hl] at this
    rw [this]
    congr 2
    refine ext_co (by rw [xr_len]; simp; omega) fun i hi => ?_
    simp only [List.length_map, List.length_range] at hi
    rw [co_tab, if_pos hi, co_xr _ _ _ (by omega) (by omega), hc i hi]
theorem rZ_loop (S0 X r1 k : List UInt8) (r : Int) (m : Nat) (hr : r = (m : Int)) (hm : m < 1000) (h0 : S0.length = 16) (hX : X.length = 16) (hk : k.length = 16) (h1 : 16 * m + 16 ≤ r1.length) (hc : ∀ i, i < 16 → co k i = co r1 (16 * m + i)) : (iterC (fun s100 : List UInt8 × Int =>
(if s100.2 < 16 then
((lenA 16 X).bind fun c105 =>
((idx X s100.2).bind fun c106 =>
((idx r1 ((wI ((wI (16 * r)) + s100.2)))).bind fun c107 =>
((lenA 16 s100.1).bind fun c108 =>
((idx s100.1 s100.2).bind fun c109 => some (.inl ((s100.1.set (s100.2 : Int).toNat ((c106 ^^^ c107))), (wI (s100.2 + 1)))))))))
else some (.inr s100.1))) (S0, 0)) = some (xr X k) := by
  subst hr
  refine iterC_count (fun i => (updB S0 (fun j => co X j ^^^ co r1 (16 * m + j)) i, (i : Int))) 16 _ (by rw [updB_zero]; rfl) ?_ ?_
  · intro i hi
    have hs := updB_succ S0 (fun j => co X j ^^^ co r1 (16 * m + j)) i (by omega)
    have e5 : wI (wI (16 * (m : Int)) + (i : Int)) = ((16 * m + i : Nat) : Int) := by
      rw [wI_of (x := 16 * (m : Int)) (by omega) (by omega), wI_of (by omega) (by omega)]; omega
    dsimp only
    rw [if_pos (by omega), lenA, if_pos hX, Option.bind_some, idx_co (by omega), Option.bind_some, e5, idx_co (by omega), Option.bind_some, lenA, if_pos (by rw [updB_len, h0]), Option.bind_some, idx_updB _ _ _ _ (by omega), Option.bind_some, wI_succ _ (by omega), Int.toNat_natCast, hs]
  · dsimp only
    rw [if_neg (by omega)]
    have := updB_end S0 (fun j => co X j ^^^ co r1 (16 * m + j))
    rw [h0] at this
    rw [this]
    congr 2
    refine ext_co (by rw [xr_len]; simp; omega) fun i hi => ?_
    simp only [List.length_map, List.length_range] at hi
    rw [co_tab, if_pos hi, co_xr _ _ _ (by omega) (by omega), hc i hi]
theorem rEncrypt_eq (key b k0 : List UInt8) (ks : List (List UInt8)) (n : Nat) (hn : n = 4 ∨ n = 8) (h : key.length = 4 * n) (hb : b.length = 16) (hK : keysF key = k0 :: ks) : ref05_Encrypt key b = some (encF k0 ks b) := by
  have hm : (1000 : Nat) ≤ most := by decide
  have hn0 : 0 < n := by omega
  have h16 := keysF_16 key n hn0 h
  have hkl := keysF_len key n hn0 h
  have hco := co_keysF key n hn0 h
  obtain ⟨w1, w2⟩ := worF_ok key n hn0 h
  have hfl := flat_len 4 _ w2
  rw [hK] at h16 hkl hco
  have hk0 : k0.length = 16 := h16 k0 (List.mem_cons_self ..)
  have hks : ∀ x ∈ ks, x.length = 16 := fun x hx => h16 x (List.mem_cons_of_mem _ hx)
  have hksl : ks.length = n + 6 := by simpa using hkl
  unfold ref05_Encrypt
  have ed : divI ((worF key).flatten.length : Int) 16 = some ((n + 7 : Nat) : Int) := by
    rw [show (16 : Int) = ((16 : Nat) : Int) by rfl, divI_nat _ _ (by omega) (by omega), show (worF key).flatten.length / 16 = n + 7 by omega]
  have ez : lenA 16 (List.replicate 16 (0 : UInt8)) = some () := rfl
  rw [rKeys_eq key n hn h, Option.bind_some, ed, Option.bind_some, ez, Option.bind_some]
  refine bind_of (x := xr b k0) (rA_loop b _ k0 hb hk0 (by omega) (fun i hi => by have := hco 0 (by omega) i hi; simpa using this)) ?_
  have hx0 : (xr b k0).length = 16 := by rw [xr_len]; omega
  have e6 : wI (((n + 7 : Nat) : Int) - 1) = ((n + 6 : Nat) : Int) := by rw [wI_pred _ (by omega) (by omega)]; rfl
  refine bind_of (x := encF k0 ks b) (iterC_count (fun j => (eS ks (xr b k0) j, ((j + 1 : Nat) : Int))) ks.length _ rfl ?_ ?_) ?_
  · intro j hj
    have hsl := eS_len ks (xr b k0) hks hx0 j (by omega)
    have hkj : (ks.getD j []).length = 16 := hks _ (getD_mem hj)
    dsimp only
    rw [e6, if_pos (by omega), Option.bind_some]
    refine bind_of (x := rowsF 1 ((eS ks (xr b k0) j).map sb)) (rT_loop _ hsl) ?_
    have hcj : ∀ i, i < 16 → co (ks.getD j []) i = co (worF key).flatten (16 * (j + 1) + i) := fun i hi => by
      have := hco (j + 1) (by omega) i hi
      rw [← this]; rfl
    have fin : ∀ X : List UInt8, X.length = 16 → rE (eS ks (xr b k0) j) (ks.getD j []) (Nat.beq (j + 1) ks.length) = xr X (ks.getD j []) → _ := fun X hX hE => bind_of (g := fun x100 => (some (.inl (x100, (wI (((j + 1 : Nat) : Int) + 1)))) : Option ((List UInt8 × Int) ⊕ List UInt8))) (r := some (.inl (eS ks (xr b k0) (j + 1), ((j + 1 + 1 : Nat) : Int)))) (rZ_loop (eS ks (xr b k0) j) X (worF key).flatten (ks.getD j []) _ (j + 1) rfl (by omega) hsl hX hkj (by omega) hcj) (by rw [eS, hE, wI_succ _ (by omega)])
    by_cases hl : j + 1 = ks.length
    · rw [if_neg (by omega), Option.bind_some]
      exact fin _ (rowsF_len _ _) (by rw [rE, show Nat.beq (j + 1) ks.length = true by rw [Nat.beq_eq]; exact hl, if_pos rfl])
    · rw [if_pos (by omega), Option.bind_some]
      refine bind_of (x := colF pE (rowsF 1 ((eS ks (xr b k0) j).map sb))) (bind_of (rU_loop _ (rowsF_len _ _)) ?_) ?_
      · rw [lenA, if_pos (colF_len _ _), Option.bind_some, lenA, if_pos (rowsF_len _ _), Option.bind_some]
      · exact fin _ (colF_len _ _) (by rw [rE, show Nat.beq (j + 1) ks.length = false by rw [Bool.eq_false_iff, ne_eq, Nat.beq_eq]; exact hl]; rfl)
  · dsimp only
    rw [e6, if_neg (by omega)]; rfl
  · rw [lenA, if_pos (encF_len k0 ks b hk0 hks hb), Option.bind_some]
end Gk

/- Printed by gen.py: for each Go function a pure function, and that the Go code comes to it. No condition beside the equation that says what the pure function gives. -/





set_option linter.unusedVariables false
set_option linter.unusedSimpArgs false
namespace Gk
open Go Go.Proofs

/-! largesse/largesselaw05.key -/
noncomputable def law05_key (a0b : List UInt8) (a1long : Bool) : Option (List UInt8) :=
(if a1long = true then
((makeL 32 (0 : UInt8)).bind fun c2 => some (copyL c2 0 a0b))
else
((makeL 16 (0 : UInt8)).bind fun c7 => some (copyL c7 0 a0b)))
set_option maxRecDepth 100000 in
set_option maxHeartbeats 8000000 in
theorem law05_key_calls (a0b : List UInt8) (a1long : Bool) (p0 : Value) (r : List UInt8) (w0 : World) (hp0 : By w0 [] p0 a0b) (H : law05_key a0b a1long = some r) :
    Calls Try.prog 16 [p0, (.bool a1long)].toArray w0 (fun e w' => ∃ u0 : Value, e = .returned u0 ∧ Ext w0 w' ∧ Nw w0 u0 ∧ OwK (Sc u8) w' [] 5 u0 r) := by
  have hE : Ext w0 w0 := Ext.refl w0
  unfold law05_key at H
  refine calls_W (n := 14) Try.func16 rfl rfl rfl ?_
  refine W_seq ?_
  refine W_reg (by kernel_rfl) ?_
  refine wla rfl rfl (q_assign (v := (.slice none 0 0)) rfl rfl) ?_
  refine wl_nil ?_
  refine W_th ?_
  refine W_seq ?_
  refine W_reg (by kernel_rfl) ?_
  refine wla rfl rfl (q_assign (v := (i64 16)) rfl rfl) ?_
  refine wl_nil ?_
  refine W_th ?_
  refine W_seq ?_
  refine W_seq ?_
  refine W_reg (by kernel_rfl) ?_
  refine wla rfl rfl (q_move (v := (.bool a1long)) rfl rfl) ?_
  refine wl_nil ?_
  refine W_th ?_
  refine W_cond _ rfl rfl (fun hb1 => ?_) (fun hb1 => ?_)
  · replace H := (if_pos hb1).symm.trans H
    refine W_reg (by kernel_rfl) ?_
    refine wla rfl rfl (q_assign (v := (i64 32)) rfl rfl) ?_
    refine wl_nil ?_
    refine W_th ?_
    refine W_seq ?_
    refine W_reg (by kernel_rfl) ?_
    refine wla rfl rfl (q_move (v := (i64 32)) rfl rfl) ?_
    obtain ⟨c2, hc2, H⟩ := Option.bind_eq_some_iff.1 H
    refine wls rfl rfl (stp_make (L := []) (R := (Sc u8)) rfl T22 rfl rfl hc2 (fun _ _ => rfl) ?_)
    intro v2 w2 o2 n2 g2 l2
    have x2 := grown_ext g2
    have n4 := Nw.ext hE n2
    have e3 := hE.trans x2
    refine wla rfl rfl (q_assign (v := v2) rfl rfl) ?_
    refine wl_nil ?_
    refine W_th ?_
    refine W_seq ?_
    refine W_reg (by kernel_rfl) ?_
    refine wla rfl rfl (q_move (v := v2) rfl rfl) ?_
    refine wla rfl rfl (q_move (v := p0) rfl rfl) ?_
    refine wls rfl rfl (stp_copy (R := (Sc u8)) (off := 0) (dv := v2) (u := p0) (Sc.stab _) [] [] rfl T22 rfl rfl o2 (copy_whole o2) (by decide) (Int.natCast_nonneg _) (hp0.lift (Lift.ext e3 _)) (fun _ _ h => h) oc_u8 ?_)
    intro w5 o5 g5 l5
    have e6 := e3.grown g5 n4
    refine wl_nil ?_
    refine W_th ?_
    refine W_seq ?_
    refine W_reg (by kernel_rfl) ?_
    refine wla rfl rfl (q_move (v := v2) rfl rfl) ?_
    refine wla rfl rfl (q_assign (v := v2) rfl rfl) ?_
    refine wl_nil ?_
    refine W_th ?_
    refine W_ret ?_
    obtain rfl := Option.some.inj H
    refine rt1 v2 rfl rfl rfl rfl ?_
    exact ⟨v2, rfl, e6, n4, (o5.weak (Sc.stab _) (fun _ _ => trivial))⟩
  · replace H := (if_neg (ne_true_of_eq_false hb1)).symm.trans H
    refine W_skip ?_
    refine W_th ?_
    refine W_seq ?_
    refine W_reg (by kernel_rfl) ?_
    refine wla rfl rfl (q_move (v := (i64 16)) rfl rfl) ?_
    obtain ⟨c7, hc7, H⟩ := Option.bind_eq_some_iff.1 H
    refine wls rfl rfl (stp_make (L := []) (R := (Sc u8)) rfl T22 rfl rfl hc7 (fun _ _ => rfl) ?_)
    intro v7 w7 o7 n7 g7 l7
    have x7 := grown_ext g7
    have n9 := Nw.ext hE n7
    have e8 := hE.trans x7
    refine wla rfl rfl (q_assign (v := v7) rfl rfl) ?_
    refine wl_nil ?_
    refine W_th ?_
    refine W_seq ?_
    refine W_reg (by kernel_rfl) ?_
    refine wla rfl rfl (q_move (v := v7) rfl rfl) ?_
    refine wla rfl rfl (q_move (v := p0) rfl rfl) ?_
    refine wls rfl rfl (stp_copy (R := (Sc u8)) (off := 0) (dv := v7) (u := p0) (Sc.stab _) [] [] rfl T22 rfl rfl o7 (copy_whole o7) (by decide) (Int.natCast_nonneg _) (hp0.lift (Lift.ext e8 _)) (fun _ _ h => h) oc_u8 ?_)
    intro w10 o10 g10 l10
    have e11 := e8.grown g10 n9
    refine wl_nil ?_
    refine W_th ?_
    refine W_seq ?_
    refine W_reg (by kernel_rfl) ?_
    refine wla rfl rfl (q_move (v := v7) rfl rfl) ?_
    refine wla rfl rfl (q_assign (v := v7) rfl rfl) ?_
    refine wl_nil ?_
    refine W_th ?_
    refine W_ret ?_
    obtain rfl := Option.some.inj H
    refine rt1 v7 rfl rfl rfl rfl ?_
    exact ⟨v7, rfl, e11, n9, (o10.weak (Sc.stab _) (fun _ _ => trivial))⟩

/-! largesse/largesselaw05.lives -/
noncomputable def law05_lives  : Option Bool :=
((((makeL 16 (0 : UInt8)).bind fun c4 =>
((makeL 16 (0 : UInt8)).bind fun c5 => some (c4, c5)))).bind fun x1 =>
((iterC (fun s14 : List UInt8 × List UInt8 × Int =>
(if s14.2.2 < (x1.1.length : Int) then
((idx s14.1 s14.2.2).bind fun c17 =>
((idx s14.2.1 s14.2.2).bind fun c20 => some (.inl ((s14.1.set (s14.2.2 : Int).toNat ((UInt8.ofInt s14.2.2))), (s14.2.1.set (s14.2.2 : Int).toNat ((UInt8.ofInt ((wI (17 * s14.2.2)))))), (wI (s14.2.2 + 1))))))
else some (.inr (s14.1, s14.2.1)))) (x1.1, x1.2, 0)).bind fun x14 =>
((field_New ).bind fun r25 =>
((cipher_New r25 x14.1).bind fun r27 =>
((cipher_Encrypt r27.1 x14.2).bind fun r29 =>
(if r27.2 = 0 then
(if r29.2 = 0 then
(if (r29.1.length : Int) = 16 then
((idx r29.1 0).bind fun c34 =>
(if c34 = (105 : UInt8) then
((idx r29.1 1).bind fun c36 => some (decide (c36 = (196 : UInt8))))
else some false))
else some false)
else some false)
else some false))))))
set_option maxRecDepth 100000 in
set_option maxHeartbeats 8000000 in
theorem law05_lives_calls  (r : Bool) (w0 : World) (H : law05_lives = some r) :
    Calls Try.prog 15 [].toArray w0 (fun e w' => e = .returned (.bool r) ∧ Ext w0 w') := by
  have hE : Ext w0 w0 := Ext.refl w0
  unfold law05_lives at H
  refine calls_W (n := 62) Try.func15 rfl rfl rfl ?_
  refine W_seq ?_
  refine W_reg (by kernel_rfl) ?_
  refine wla rfl rfl (q_assign (v := (.bool false)) rfl rfl) ?_
  refine wl_nil ?_
  refine W_th ?_
  refine W_seq ?_
  obtain ⟨x1, H1, H⟩ := Option.bind_eq_some_iff.1 H
  refine W_mid (fun f w => ∃ v1_38 : Value, ∃ v2_38 : Value, f 1 = v1_38 ∧ f 2 = v2_38 ∧ f 62 = undef ∧ Ext w0 w ∧ OwK (Sc u8) w [v1_38, v2_38] 5 v1_38 x1.1 ∧ Nw w0 v1_38 ∧ OwK (Sc u8) w [v1_38, v2_38] 5 v2_38 x1.2 ∧ Nw w0 v2_38 ∧ Nq v1_38 v2_38) ?_ ?_
  · refine W_draw2 [] [] 0 1 [(2, 0), (1, 2), (3, 0)] [(0, 2), (2, 0), (3, 0)] mixed (by kernel_rfl) (by kernel_rfl) (by kernel_rfl) (by kernel_rfl) ?_
    have x2 := Ext.drew w0
    have e3 := hE.trans x2
    obtain ⟨c4, hc4, H1⟩ := Option.bind_eq_some_iff.1 H1
    obtain ⟨c5, hc5, H1⟩ := Option.bind_eq_some_iff.1 H1
    refine ws_nil ⟨?_, ?_⟩
    · refine wsc rfl (by kernel_rfl) rfl rfl (stp_make (L := []) (R := (Sc u8)) rfl T22 rfl rfl hc4 (fun _ _ => rfl) ?_)
      intro v6 w6 o6 n6 g6 l6
      have x6 := grown_ext g6
      have n8 := Nw.ext e3 n6
      have e7 := e3.trans x6
      refine wsa rfl rfl rfl (q_assign (v := v6) rfl rfl) ?_
      refine wsc rfl (by kernel_rfl) rfl rfl (stp_make (L := [v6]) (R := (Sc u8)) rfl T22 rfl rfl hc5 (fun _ _ => rfl) ?_)
      intro v9 w9 o9 n9 g9 l9
      have x9 := grown_ext g9
      have q10 : Nq v6 v9 := o6.nq n9
      replace o6 := o6.extL (Sc.stab _) x9 (Lift.call _ x9 n9)
      have n12 := Nw.ext e7 n9
      have e11 := e7.trans x9
      refine wsa rfl rfl rfl (q_assign (v := v9) rfl rfl) ?_
      refine ws_nil ?_
      obtain rfl := Option.some.inj H1
      exact ⟨v6, v9, rfl, rfl, rfl, e11, (o6.weak (Sc.stab _) (fun _ h => ⟨h.2.1, h.1, trivial⟩)), n8, (o9.weak (Sc.stab _) (fun _ h => ⟨h.2.1, h.1, trivial⟩)), n12, q10⟩
    · refine wsc rfl (by kernel_rfl) rfl rfl (stp_make (L := []) (R := (Sc u8)) rfl T22 rfl rfl hc5 (fun _ _ => rfl) ?_)
      intro v6 w6 o6 n6 g6 l6
      have x6 := grown_ext g6
      have n8 := Nw.ext e3 n6
      have e7 := e3.trans x6
      refine wsc rfl (by kernel_rfl) rfl rfl (stp_make (L := [v6]) (R := (Sc u8)) rfl T22 rfl rfl hc4 (fun _ _ => rfl) ?_)
      intro v9 w9 o9 n9 g9 l9
      have x9 := grown_ext g9
      have q10 : Nq v6 v9 := o6.nq n9
      replace o6 := o6.extL (Sc.stab _) x9 (Lift.call _ x9 n9)
      have n12 := Nw.ext e7 n9
      have e11 := e7.trans x9
      refine wsa rfl rfl rfl (q_assign (v := v9) rfl rfl) ?_
      refine wsa rfl rfl rfl (q_assign (v := v6) rfl rfl) ?_
      refine ws_nil ?_
      obtain rfl := Option.some.inj H1
      exact ⟨v9, v6, rfl, rfl, rfl, e11, o9, n12, o6, n8, q10.symm⟩
  · rintro _ w13 ⟨v1_13, v2_13, s1_13, s2_13, s62_13, hE13, o0_13, n0_13, o1_13, n1_13, q0_1_13⟩
    refine W_th ?_
    refine W_seq ?_
    refine W_seq ?_
    refine W_reg (by kernel_rfl) ?_
    refine wla rfl rfl (q_move (v := v1_13) rfl s1_13) ?_
    refine wla rfl rfl (q_len rfl T22.sl rfl (o0_13.rd (Sc.stab _))) ?_
    refine wla rfl rfl (q_move (v := (i64 0)) rfl rfl) ?_
    refine wl_nil ?_
    refine W_th ?_
    obtain ⟨x14, G14, H⟩ := Option.bind_eq_some_iff.1 H
    refine W_mid (fun f w => f 1 = v1_13 ∧ f 2 = v2_13 ∧ f 62 = undef ∧ Ext w0 w ∧ OwK (Sc u8) w [v1_13, v2_13] 5 v1_13 x14.1 ∧ Nw w0 v1_13 ∧ OwK (Sc u8) w [v1_13, v2_13] 5 v2_13 x14.2 ∧ Nw w0 v2_13 ∧ Nq v1_13 v2_13) ?_ ?_
    · refine W_block ?_
      refine W_loop (fun s14 f w => f 1 = v1_13 ∧ f 2 = v2_13 ∧ f 11 = (i64 ((x1.1.length : Int))) ∧ f 12 = (i64 s14.2.2) ∧ f 62 = undef ∧ Ext w0 w ∧ OwK (Sc u8) w [v1_13, v2_13] 5 v1_13 s14.1 ∧ Nw w0 v1_13 ∧ OwK (Sc u8) w [v1_13, v2_13] 5 v2_13 s14.2.1 ∧ Nw w0 v2_13 ∧ Nq v1_13 v2_13) G14 ?_ ?_
      · exact ⟨s1_13, s2_13, rfl, rfl, s62_13, hE13, o0_13, n0_13, o1_13, n1_13, q0_1_13⟩
      · rintro s14 _ _ w15 ⟨s1_15, s2_15, s11_15, s12_15, s62_15, hE15, o0_15, n0_15, o1_15, n1_15, q0_1_15⟩ H14 hr14
        refine W_seq ?_
        refine W_reg (by kernel_rfl) ?_
        refine wla rfl rfl (q_ltI rfl s12_15 s11_15) ?_
        refine wl_nil ?_
        refine W_th ?_
        refine W_seq ?_
        refine W_cond _ rfl rfl (fun hb16 => ?_) (fun hb16 => ?_)
        · replace H14 := (if_pos (of_decide_eq_true hb16)).symm.trans H14
          refine W_skip ?_
          refine W_th ?_
          refine W_seq ?_
          refine W_block ?_
          refine W_seq ?_
          refine W_reg (by kernel_rfl) ?_
          refine wla rfl rfl (q_move (v := (i64 s14.2.2)) rfl s12_15) ?_
          refine wla rfl rfl (q_assign (v := (i64 s14.2.2)) rfl rfl) ?_
          refine wl_nil ?_
          refine W_th ?_
          refine W_reg (by kernel_rfl) ?_
          refine wla rfl rfl (q_move (v := v1_13) rfl s1_15) ?_
          refine wla rfl rfl (q_move (v := (i64 s14.2.2)) rfl rfl) ?_
          refine wla rfl rfl (q_move (v := v2_13) rfl s2_15) ?_
          refine wla rfl rfl (q_move (v := (i64 s14.2.2)) rfl rfl) ?_
          refine wla rfl rfl (q_move (v := (i64 s14.2.2)) rfl rfl) ?_
          refine wla rfl rfl (q_cvt8I rfl rfl rfl rfl) ?_
          refine wla rfl rfl (q_move (v := (i64 s14.2.2)) rfl rfl) ?_
          refine wla rfl rfl (q_mulI rfl rfl rfl) ?_
          refine wla rfl rfl (q_cvt8I rfl rfl rfl rfl) ?_
          obtain ⟨c17, hc17, H14⟩ := Option.bind_eq_some_iff.1 H14
          refine wla rfl rfl (q_adr rfl T22 rfl rfl (o0_15.rd (Sc.stab _)) hc17) ?_
          refine wln rfl rfl (stp_store (R := (Sc u8)) (u := (u8 ((UInt8.ofInt s14.2.2)))) (Sc.stab _) [] [v2_13] rfl T22 rfl rfl o0_15 (put_of ((UInt8.ofInt s14.2.2)) hc17) rfl rfl ?_)
          intro w18 o18 g18 l18
          replace o1_15 := o1_15.other (Sc.stab _) g18 q0_1_15.symm l18
          have e19 := hE15.grown g18 n0_15
          obtain ⟨c20, hc20, H14⟩ := Option.bind_eq_some_iff.1 H14
          refine wla rfl rfl (q_adr rfl T22 rfl rfl (o1_15.rd (Sc.stab _)) hc20) ?_
          refine wln rfl rfl (stp_store (R := (Sc u8)) (u := (u8 ((UInt8.ofInt ((wI (17 * s14.2.2))))))) (Sc.stab _) [v1_13] [] rfl T22 rfl rfl o1_15 (put_of ((UInt8.ofInt ((wI (17 * s14.2.2))))) hc20) rfl rfl ?_)
          intro w21 o21 g21 l21
          replace o18 := o18.other (Sc.stab _) g21 q0_1_15 l21
          have e22 := e19.grown g21 n1_15
          refine wl_nil ?_
          refine bk_n ?_
          refine W_th ?_
          refine W_reg (by kernel_rfl) ?_
          refine wla rfl rfl (q_addI rfl s12_15 rfl) ?_
          refine wla rfl rfl (q_move (v := (i64 ((wI (s14.2.2 + 1))))) rfl rfl) ?_
          refine wl_nil ?_
          obtain rfl := Option.some.inj H14
          exact ⟨_, rfl, s1_15, s2_15, s11_15, rfl, s62_15, e22, o18, n0_15, o21, n1_15, q0_1_15⟩
        · replace H14 := (if_neg (of_decide_eq_false hb16)).symm.trans H14
          refine W_exit ?_
          refine th_x ?_
          obtain rfl := Option.some.inj H14
          obtain rfl := hr14 _ rfl
          refine th_x ?_
          refine bk_x ?_
          exact ⟨s1_15, s2_15, s62_15, hE15, o0_15, n0_15, o1_15, n1_15, q0_1_15⟩
    · rintro _ w24 ⟨s1_24, s2_24, s62_24, hE24, o0_24, n0_24, o1_24, n1_24, q0_1_24⟩
      refine W_th ?_
      refine W_seq ?_
      refine W_reg (by kernel_rfl) ?_
      obtain ⟨r25, hr25, H⟩ := Option.bind_eq_some_iff.1 H
      refine wls rfl rfl (stp_call (vs := []) Try.func18 rfl rfl rfl (ar0 ) (field_New_calls   r25 _ [v1_13, v2_13] (Old.cons (Old.cons (Old.nil _) o1_24.lt) o0_24.lt)  hr25) ?_)
      rintro _ w25 ⟨v25, rfl, x25, i25_0⟩
      refine ⟨_, rfl, ?_⟩
      replace o0_24 := o0_24.extL (Sc.stab _) x25 (Lift.ext x25 _)
      replace o1_24 := o1_24.extL (Sc.stab _) x25 (Lift.ext x25 _)
      have e26 := hE24.trans x25
      refine wla rfl rfl (q_move (v := v1_13) rfl s1_24) ?_
      obtain ⟨r27, hr27, H⟩ := Option.bind_eq_some_iff.1 H
      refine wls rfl rfl (stp_call (vs := [v25, v1_13]) Try.func17 rfl rfl rfl (ar2 rfl rfl) (cipher_New_calls r25 x14.1 v25 v1_13 r27 _ [v1_13, v2_13] (Old.cons (Old.cons (Old.nil _) o1_24.lt) o0_24.lt) i25_0 (o0_24.rd (Sc.stab _)) hr27) ?_)
      rintro _ w27 ⟨v27_0, rfl, x27, i27_0⟩
      refine ⟨_, rfl, ?_⟩
      replace i25_0 := i25_0.lift (Lift.ext x27 _)
      replace o0_24 := o0_24.extL (Sc.stab _) x27 (Lift.ext x27 _)
      replace o1_24 := o1_24.extL (Sc.stab _) x27 (Lift.ext x27 _)
      have e28 := e26.trans x27
      refine wla rfl rfl (q_move (v := (.tuple #[v27_0, (i64 r27.2)])) rfl rfl) ?_
      refine wla rfl rfl (q_extract rfl rfl rfl) ?_
      refine wla rfl rfl (q_extract rfl rfl rfl) ?_
      refine wla rfl rfl (q_assign (v := v27_0) rfl rfl) ?_
      refine wla rfl rfl (q_assign (v := (i64 r27.2)) rfl rfl) ?_
      refine wl_nil ?_
      refine W_th ?_
      refine W_seq ?_
      refine W_reg (by kernel_rfl) ?_
      refine wla rfl rfl (q_move (v := v27_0) rfl rfl) ?_
      refine wla rfl rfl (q_move (v := v2_13) rfl s2_24) ?_
      obtain ⟨r29, hr29, H⟩ := Option.bind_eq_some_iff.1 H
      refine wls rfl rfl (stp_call (vs := [v27_0, v2_13]) Try.func19 rfl rfl rfl (ar2 rfl rfl) (cipher_Encrypt_calls r27.1 x14.2 v27_0 v2_13 r29 _ (i27_0.lift (Lift.sub (fun _ _ => trivial))) (o1_24.rd (Sc.stab _)) hr29) ?_)
      rintro _ w29 ⟨v29_0, rfl, x29, n29_0, o29_0⟩
      refine ⟨_, rfl, ?_⟩
      have i29_0 : By w29 [v1_13, v2_13] v29_0 r29.1 := OwK.slk (Sc.stab _) _ (OwK.scal o29_0 (v29_0 :: [v1_13, v2_13])) (fun k hk => (Old.cons (Old.cons (Old.nil _) o1_24.lt) o0_24.lt) k (n29_0 k hk)) (fun _ h => h.2)
      replace i25_0 := i25_0.lift (Lift.ext x29 _)
      replace i27_0 := i27_0.lift (Lift.ext x29 _)
      replace o0_24 := o0_24.extL (Sc.stab _) x29 (Lift.ext x29 _)
      replace o1_24 := o1_24.extL (Sc.stab _) x29 (Lift.ext x29 _)
      have e30 := e28.trans x29
      refine wla rfl rfl (q_move (v := (.tuple #[v29_0, (i64 r29.2)])) rfl rfl) ?_
      refine wla rfl rfl (q_extract rfl rfl rfl) ?_
      refine wla rfl rfl (q_extract rfl rfl rfl) ?_
      refine wla rfl rfl (q_assign (v := v29_0) rfl rfl) ?_
      refine wla rfl rfl (q_assign (v := (i64 r29.2)) rfl rfl) ?_
      refine wl_nil ?_
      refine W_th ?_
      refine W_seq ?_
      refine W_reg (by kernel_rfl) ?_
      refine wla rfl rfl (q_move (v := (i64 r27.2)) rfl rfl) ?_
      refine wla rfl rfl (q_eqI rfl rfl rfl) ?_
      refine wlb rfl rfl (q_move (v := (.bool ((decide (r27.2 = 0))))) rfl rfl) (fun hb31 => ?_) (fun hb31 => ?_)
      · replace H := (if_pos (of_decide_eq_true hb31)).symm.trans H
        refine wla rfl rfl (q_move (v := (i64 r29.2)) rfl rfl) ?_
        refine wla rfl rfl (q_eqI rfl rfl rfl) ?_
        refine wla rfl rfl (q_pick_t (v := (.bool ((decide (r29.2 = 0))))) rfl rfl rfl) ?_
        refine wlb rfl rfl (q_move (v := (.bool ((decide (r29.2 = 0))))) rfl rfl) (fun hb32 => ?_) (fun hb32 => ?_)
        · replace H := (if_pos (of_decide_eq_true hb32)).symm.trans H
          refine wla rfl rfl (q_move (v := v29_0) rfl rfl) ?_
          refine wla rfl rfl (q_len rfl T22.sl rfl i29_0) ?_
          refine wla rfl rfl (q_eqI rfl rfl rfl) ?_
          refine wla rfl rfl (q_pick_t (v := (.bool ((decide ((r29.1.length : Int) = 16))))) rfl rfl rfl) ?_
          refine wlb rfl rfl (q_move (v := (.bool ((decide ((r29.1.length : Int) = 16))))) rfl rfl) (fun hb33 => ?_) (fun hb33 => ?_)
          · replace H := (if_pos (of_decide_eq_true hb33)).symm.trans H
            refine wla rfl rfl (q_move (v := v29_0) rfl rfl) ?_
            obtain ⟨c34, hc34, H⟩ := Option.bind_eq_some_iff.1 H
            refine wla rfl rfl (q_adr rfl T22 rfl rfl i29_0 hc34) ?_
            refine wlq rfl rfl (q_loadS rfl T22 rfl i29_0 hc34) ?_
            refine wla rfl rfl (q_eq8 rfl rfl (cst8 (105 : UInt8) rfl)) ?_
            refine wla rfl rfl (q_pick_t (v := (.bool ((decide (c34 = (105 : UInt8)))))) rfl rfl rfl) ?_
            refine wlb rfl rfl (q_move (v := (.bool ((decide (c34 = (105 : UInt8)))))) rfl rfl) (fun hb35 => ?_) (fun hb35 => ?_)
            · replace H := (if_pos (of_decide_eq_true hb35)).symm.trans H
              refine wla rfl rfl (q_move (v := v29_0) rfl rfl) ?_
              obtain ⟨c36, hc36, H⟩ := Option.bind_eq_some_iff.1 H
              refine wla rfl rfl (q_adr rfl T22 rfl rfl i29_0 hc36) ?_
              refine wlq rfl rfl (q_loadS rfl T22 rfl i29_0 hc36) ?_
              refine wla rfl rfl (q_eq8 rfl rfl (cst8 (196 : UInt8) rfl)) ?_
              refine wla rfl rfl (q_pick_t (v := (.bool ((decide (c36 = (196 : UInt8)))))) rfl rfl rfl) ?_
              refine wla rfl rfl (q_assign (v := (.bool ((decide (c36 = (196 : UInt8)))))) rfl rfl) ?_
              refine wl_nil ?_
              refine W_th ?_
              refine W_ret ?_
              obtain rfl := Option.some.inj H
              refine rt1 (.bool ((decide (c36 = (196 : UInt8))))) rfl rfl rfl s62_24 ?_
              exact ⟨rfl, e30⟩
            · replace H := (if_neg (of_decide_eq_false hb35)).symm.trans H
              refine wlk rfl rfl ?_
              refine wlk rfl rfl ?_
              refine wlk rfl rfl ?_
              refine wlk rfl rfl ?_
              refine wla rfl rfl (q_pick_f (v := (.bool false)) rfl rfl rfl) ?_
              refine wla rfl rfl (q_assign (v := (.bool false)) rfl rfl) ?_
              refine wl_nil ?_
              refine W_th ?_
              refine W_ret ?_
              obtain rfl := Option.some.inj H
              refine rt1 (.bool false) rfl rfl rfl s62_24 ?_
              exact ⟨rfl, e30⟩
          · replace H := (if_neg (of_decide_eq_false hb33)).symm.trans H
            refine wlk rfl rfl ?_
            refine wlk rfl rfl ?_
            refine wlk rfl rfl ?_
            refine wlk rfl rfl ?_
            refine wla rfl rfl (q_pick_f (v := (.bool false)) rfl rfl rfl) ?_
            refine wla rfl rfl (q_move (v := (.bool false)) rfl rfl) ?_
            refine wlk rfl rfl ?_
            refine wlk rfl rfl ?_
            refine wlk rfl rfl ?_
            refine wlk rfl rfl ?_
            refine wla rfl rfl (q_pick_f (v := (.bool false)) rfl rfl rfl) ?_
            refine wla rfl rfl (q_assign (v := (.bool false)) rfl rfl) ?_
            refine wl_nil ?_
            refine W_th ?_
            refine W_ret ?_
            obtain rfl := Option.some.inj H
            refine rt1 (.bool false) rfl rfl rfl s62_24 ?_
            exact ⟨rfl, e30⟩
        · replace H := (if_neg (of_decide_eq_false hb32)).symm.trans H
          refine wlk rfl rfl ?_
          refine wlk rfl rfl ?_
          refine wlk rfl rfl ?_
          refine wla rfl rfl (q_pick_f (v := (.bool false)) rfl rfl rfl) ?_
          refine wla rfl rfl (q_move (v := (.bool false)) rfl rfl) ?_
          refine wlk rfl rfl ?_
          refine wlk rfl rfl ?_
          refine wlk rfl rfl ?_
          refine wlk rfl rfl ?_
          refine wla rfl rfl (q_pick_f (v := (.bool false)) rfl rfl rfl) ?_
          refine wla rfl rfl (q_move (v := (.bool false)) rfl rfl) ?_
          refine wlk rfl rfl ?_
          refine wlk rfl rfl ?_
          refine wlk rfl rfl ?_
          refine wlk rfl rfl ?_
          refine wla rfl rfl (q_pick_f (v := (.bool false)) rfl rfl rfl) ?_
          refine wla rfl rfl (q_assign (v := (.bool false)) rfl rfl) ?_
          refine wl_nil ?_
          refine W_th ?_
          refine W_ret ?_
          obtain rfl := Option.some.inj H
          refine rt1 (.bool false) rfl rfl rfl s62_24 ?_
          exact ⟨rfl, e30⟩
      · replace H := (if_neg (of_decide_eq_false hb31)).symm.trans H
        refine wlk rfl rfl ?_
        refine wlk rfl rfl ?_
        refine wla rfl rfl (q_pick_f (v := (.bool false)) rfl rfl rfl) ?_
        refine wla rfl rfl (q_move (v := (.bool false)) rfl rfl) ?_
        refine wlk rfl rfl ?_
        refine wlk rfl rfl ?_
        refine wlk rfl rfl ?_
        refine wla rfl rfl (q_pick_f (v := (.bool false)) rfl rfl rfl) ?_
        refine wla rfl rfl (q_move (v := (.bool false)) rfl rfl) ?_
        refine wlk rfl rfl ?_
        refine wlk rfl rfl ?_
        refine wlk rfl rfl ?_
        refine wlk rfl rfl ?_
        refine wla rfl rfl (q_pick_f (v := (.bool false)) rfl rfl rfl) ?_
        refine wla rfl rfl (q_move (v := (.bool false)) rfl rfl) ?_
        refine wlk rfl rfl ?_
        refine wlk rfl rfl ?_
        refine wlk rfl rfl ?_
        refine wlk rfl rfl ?_
        refine wla rfl rfl (q_pick_f (v := (.bool false)) rfl rfl rfl) ?_
        refine wla rfl rfl (q_assign (v := (.bool false)) rfl rfl) ?_
        refine wl_nil ?_
        refine W_th ?_
        refine W_ret ?_
        obtain rfl := Option.some.inj H
        refine rt1 (.bool false) rfl rfl rfl s62_24 ?_
        exact ⟨rfl, e30⟩

/-! largesse/largesselaw05.CipherEncrypts -/
noncomputable def law05_CipherEncrypts (a0k : List UInt8) (a1long : Bool) (a2b : List UInt8) : Option Bool :=
((law05_lives ).bind fun r1 =>
(if (!r1) = true then some false
else
((law05_key a0k a1long).bind fun r4 =>
((law05_key a2b false).bind fun r7 =>
((field_New ).bind fun r9 =>
((cipher_New r9 r4).bind fun r11 =>
((iterC (fun s13 : List UInt8 × Int =>
(if s13.2 < (r4.length : Int) then
((idx s13.1 s13.2).bind fun c16 => some (.inl ((s13.1.set (s13.2 : Int).toNat ((c16 ^^^ (255 : UInt8)))), (wI (s13.2 + 1)))))
else some (.inr s13.1))) (r4, 0)).bind fun x13 =>
((cipher_Encrypt r11.1 r7).bind fun r21 =>
((cipher_Decrypt r11.1 r21.1).bind fun r23 =>
(if r11.2 = 0 then
(if r21.2 = 0 then
(if r23.2 = 0 then
((law05_key a0k a1long).bind fun r30 =>
((ref05_Encrypt r30 r7).bind fun r32 =>
(if r21.1 = r32 then
(if r23.1 = r7 then
((cipher_Rounds r11.1).bind fun r36 =>
((divI ((x13.length : Int)) 4).bind fun c38 => some (decide (r36 = (wI (c38 + 6))))))
else some false)
else some false)))
else some false)
else some false)
else some false))))))))))
set_option maxRecDepth 100000 in
set_option maxHeartbeats 8000000 in
theorem law05_CipherEncrypts_calls (a0k : List UInt8) (a1long : Bool) (a2b : List UInt8) (p0 : Value) (p2 : Value) (r : Bool) (w0 : World) (hp0 : By w0 [] p0 a0k) (hp2 : By w0 [] p2 a2b) (H : law05_CipherEncrypts a0k a1long a2b = some r) :
    Calls Try.prog 3 [p0, (.bool a1long), p2].toArray w0 (fun e w' => e = .returned (.bool r) ∧ Ext w0 w') := by
  have hE : Ext w0 w0 := Ext.refl w0
  unfold law05_CipherEncrypts at H
  refine calls_W (n := 88) Try.func3 rfl rfl rfl ?_
  refine W_seq ?_
  refine W_reg (by kernel_rfl) ?_
  refine wla rfl rfl (q_assign (v := (.bool false)) rfl rfl) ?_
  refine wl_nil ?_
  refine W_th ?_
  refine W_seq ?_
  refine W_seq ?_
  refine W_reg (by kernel_rfl) ?_
  obtain ⟨r1, hr1, H⟩ := Option.bind_eq_some_iff.1 H
  refine wls rfl rfl (stp_call (vs := []) Try.func15 rfl rfl rfl (ar0 ) (law05_lives_calls   r1 _  hr1) ?_)
  rintro _ w1 ⟨rfl, x1⟩
  refine ⟨_, rfl, ?_⟩
  have e2 := hE.trans x1
  refine wla rfl rfl (q_not rfl rfl) ?_
  refine wl_nil ?_
  refine W_th ?_
  refine W_cond _ rfl rfl (fun hb3 => ?_) (fun hb3 => ?_)
  · replace H := (if_pos hb3).symm.trans H
    refine W_seq ?_
    refine W_reg (by kernel_rfl) ?_
    refine wla rfl rfl (q_assign (v := (.bool false)) rfl rfl) ?_
    refine wl_nil ?_
    refine W_th ?_
    refine W_ret ?_
    refine th_r ?_
    obtain rfl := Option.some.inj H
    refine rt1 (.bool false) rfl rfl rfl rfl ?_
    exact ⟨rfl, e2⟩
  · replace H := (if_neg (ne_true_of_eq_false hb3)).symm.trans H
    refine W_skip ?_
    refine W_th ?_
    refine W_seq ?_
    refine W_reg (by kernel_rfl) ?_
    refine wla rfl rfl (q_move (v := p0) rfl rfl) ?_
    refine wla rfl rfl (q_move (v := (.bool a1long)) rfl rfl) ?_
    obtain ⟨r4, hr4, H⟩ := Option.bind_eq_some_iff.1 H
    refine wls rfl rfl (stp_call (vs := [p0, (.bool a1long)]) Try.func16 rfl rfl rfl (ar2 rfl rfl) (law05_key_calls a0k a1long p0 r4 _ (hp0.lift (Lift.ext e2 _)) hr4) ?_)
    rintro _ w4 ⟨v4, rfl, x4, n4_0, o4_0⟩
    refine ⟨_, rfl, ?_⟩
    have o4 : OwK (Sc u8) w4 (v4 :: []) 5 v4 r4 := OwK.scal o4_0 _
    have n6 := Nw.ext e2 n4_0
    have e5 := e2.trans x4
    refine wla rfl rfl (q_assign (v := v4) rfl rfl) ?_
    refine wl_nil ?_
    refine W_th ?_
    refine W_seq ?_
    refine W_reg (by kernel_rfl) ?_
    refine wla rfl rfl (q_move (v := p2) rfl rfl) ?_
    obtain ⟨r7, hr7, H⟩ := Option.bind_eq_some_iff.1 H
    refine wls rfl rfl (stp_call (vs := [p2, (.bool false)]) Try.func16 rfl rfl rfl (ar2 rfl rfl) (law05_key_calls a2b false p2 r7 _ (hp2.lift (Lift.ext e5 _)) hr7) ?_)
    rintro _ w7 ⟨v7, rfl, x7, n7_0, o7_0⟩
    refine ⟨_, rfl, ?_⟩
    have i7_0 : By w7 [v4] v7 r7 := OwK.slk (Sc.stab _) _ (OwK.scal o7_0 (v7 :: [v4])) (fun k hk => (Old.cons (Old.nil _) o4.lt) k (n7_0 k hk)) (fun _ h => h.2)
    replace o4 := o4.extL (Sc.stab _) x7 (Lift.ext x7 _)
    have e8 := e5.trans x7
    refine wla rfl rfl (q_assign (v := v7) rfl rfl) ?_
    refine wl_nil ?_
    refine W_th ?_
    refine W_seq ?_
    refine W_reg (by kernel_rfl) ?_
    obtain ⟨r9, hr9, H⟩ := Option.bind_eq_some_iff.1 H
    refine wls rfl rfl (stp_call (vs := []) Try.func18 rfl rfl rfl (ar0 ) (field_New_calls   r9 _ [v4] (Old.cons (Old.nil _) o4.lt)  hr9) ?_)
    rintro _ w9 ⟨v9, rfl, x9, i9_0⟩
    refine ⟨_, rfl, ?_⟩
    replace i7_0 := i7_0.lift (Lift.ext x9 _)
    replace o4 := o4.extL (Sc.stab _) x9 (Lift.ext x9 _)
    have e10 := e8.trans x9
    refine wla rfl rfl (q_move (v := v4) rfl rfl) ?_
    obtain ⟨r11, hr11, H⟩ := Option.bind_eq_some_iff.1 H
    refine wls rfl rfl (stp_call (vs := [v9, v4]) Try.func17 rfl rfl rfl (ar2 rfl rfl) (cipher_New_calls r9 r4 v9 v4 r11 _ [v4] (Old.cons (Old.nil _) o4.lt) i9_0 (o4.rd (Sc.stab _)) hr11) ?_)
    rintro _ w11 ⟨v11_0, rfl, x11, i11_0⟩
    refine ⟨_, rfl, ?_⟩
    replace i7_0 := i7_0.lift (Lift.ext x11 _)
    replace i9_0 := i9_0.lift (Lift.ext x11 _)
    replace o4 := o4.extL (Sc.stab _) x11 (Lift.ext x11 _)
    have e12 := e10.trans x11
    refine wla rfl rfl (q_move (v := (.tuple #[v11_0, (i64 r11.2)])) rfl rfl) ?_
    refine wla rfl rfl (q_extract rfl rfl rfl) ?_
    refine wla rfl rfl (q_extract rfl rfl rfl) ?_
    refine wla rfl rfl (q_assign (v := v11_0) rfl rfl) ?_
    refine wla rfl rfl (q_assign (v := (i64 r11.2)) rfl rfl) ?_
    refine wl_nil ?_
    refine W_th ?_
    refine W_seq ?_
    refine W_seq ?_
    refine W_reg (by kernel_rfl) ?_
    refine wla rfl rfl (q_move (v := v4) rfl rfl) ?_
    refine wla rfl rfl (q_len rfl T22.sl rfl (o4.rd (Sc.stab _))) ?_
    refine wla rfl rfl (q_move (v := (i64 0)) rfl rfl) ?_
    refine wl_nil ?_
    refine W_th ?_
    obtain ⟨x13, G13, H⟩ := Option.bind_eq_some_iff.1 H
    refine W_mid (fun f w => f 0 = p0 ∧ f 1 = (.bool a1long) ∧ f 7 = v4 ∧ f 8 = v7 ∧ f 9 = v11_0 ∧ f 10 = (i64 r11.2) ∧ f 88 = undef ∧ Ext w0 w ∧ OwK (Sc u8) w [v4] 5 v4 x13 ∧ Nw w0 v4 ∧ By w [v4] v7 r7 ∧ Ci w [v4] v11_0 r11.1) ?_ ?_
    · refine W_block ?_
      refine W_loop (fun s13 f w => f 0 = p0 ∧ f 1 = (.bool a1long) ∧ f 7 = v4 ∧ f 8 = v7 ∧ f 9 = v11_0 ∧ f 10 = (i64 r11.2) ∧ f 30 = (i64 ((r4.length : Int))) ∧ f 31 = (i64 s13.2) ∧ f 88 = undef ∧ Ext w0 w ∧ OwK (Sc u8) w [v4] 5 v4 s13.1 ∧ Nw w0 v4 ∧ By w [v4] v7 r7 ∧ Ci w [v4] v11_0 r11.1) G13 ?_ ?_
      · exact ⟨rfl, rfl, rfl, rfl, rfl, rfl, rfl, rfl, rfl, e12, o4, n6, i7_0, i11_0⟩
      · rintro s13 _ _ w14 ⟨s0_14, s1_14, s7_14, s8_14, s9_14, s10_14, s30_14, s31_14, s88_14, hE14, o0_14, n0_14, i0_14, i1_14⟩ H13 hr13
        refine W_seq ?_
        refine W_reg (by kernel_rfl) ?_
        refine wla rfl rfl (q_ltI rfl s31_14 s30_14) ?_
        refine wl_nil ?_
        refine W_th ?_
        refine W_seq ?_
        refine W_cond _ rfl rfl (fun hb15 => ?_) (fun hb15 => ?_)
        · replace H13 := (if_pos (of_decide_eq_true hb15)).symm.trans H13
          refine W_skip ?_
          refine W_th ?_
          refine W_seq ?_
          refine W_block ?_
          refine W_seq ?_
          refine W_reg (by kernel_rfl) ?_
          refine wla rfl rfl (q_move (v := (i64 s13.2)) rfl s31_14) ?_
          refine wla rfl rfl (q_assign (v := (i64 s13.2)) rfl rfl) ?_
          refine wl_nil ?_
          refine W_th ?_
          refine W_reg (by kernel_rfl) ?_
          refine wla rfl rfl (q_move (v := v4) rfl s7_14) ?_
          refine wla rfl rfl (q_move (v := (i64 s13.2)) rfl rfl) ?_
          obtain ⟨c16, hc16, H13⟩ := Option.bind_eq_some_iff.1 H13
          refine wla rfl rfl (q_adr rfl T22 rfl rfl (o0_14.rd (Sc.stab _)) hc16) ?_
          refine wlq rfl rfl (q_loadS rfl T22 rfl (o0_14.rd (Sc.stab _)) hc16) ?_
          refine wla rfl rfl (q_xor8 rfl rfl (cst8 (255 : UInt8) rfl)) ?_
          refine wla rfl rfl (q_adr rfl T22 rfl rfl (o0_14.rd (Sc.stab _)) hc16) ?_
          refine wln rfl rfl (stp_store (R := (Sc u8)) (u := (u8 ((c16 ^^^ (255 : UInt8))))) (Sc.stab _) [] [] rfl T22 rfl rfl o0_14 (put_of ((c16 ^^^ (255 : UInt8))) hc16) rfl rfl ?_)
          intro w17 o17 g17 l17
          replace i0_14 := i0_14.lift l17
          replace i1_14 := i1_14.lift l17
          have e18 := hE14.grown g17 n0_14
          refine wl_nil ?_
          refine bk_n ?_
          refine W_th ?_
          refine W_reg (by kernel_rfl) ?_
          refine wla rfl rfl (q_addI rfl s31_14 rfl) ?_
          refine wla rfl rfl (q_move (v := (i64 ((wI (s13.2 + 1))))) rfl rfl) ?_
          refine wl_nil ?_
          obtain rfl := Option.some.inj H13
          exact ⟨_, rfl, s0_14, s1_14, s7_14, s8_14, s9_14, s10_14, s30_14, rfl, s88_14, e18, o17, n0_14, i0_14, i1_14⟩
        · replace H13 := (if_neg (of_decide_eq_false hb15)).symm.trans H13
          refine W_exit ?_
          refine th_x ?_
          obtain rfl := Option.some.inj H13
          obtain rfl := hr13 _ rfl
          refine th_x ?_
          refine bk_x ?_
          exact ⟨s0_14, s1_14, s7_14, s8_14, s9_14, s10_14, s88_14, hE14, o0_14, n0_14, i0_14, i1_14⟩
    · rintro _ w20 ⟨s0_20, s1_20, s7_20, s8_20, s9_20, s10_20, s88_20, hE20, o0_20, n0_20, i0_20, i1_20⟩
      refine W_th ?_
      refine W_seq ?_
      refine W_reg (by kernel_rfl) ?_
      refine wla rfl rfl (q_move (v := v11_0) rfl s9_20) ?_
      refine wla rfl rfl (q_move (v := v7) rfl s8_20) ?_
      obtain ⟨r21, hr21, H⟩ := Option.bind_eq_some_iff.1 H
      refine wls rfl rfl (stp_call (vs := [v11_0, v7]) Try.func19 rfl rfl rfl (ar2 rfl rfl) (cipher_Encrypt_calls r11.1 r7 v11_0 v7 r21 _ (i1_20.lift (Lift.sub (fun _ _ => trivial))) (i0_20.lift (Lift.sub (fun _ _ => trivial))) hr21) ?_)
      rintro _ w21 ⟨v21_0, rfl, x21, n21_0, o21_0⟩
      refine ⟨_, rfl, ?_⟩
      have i21_0 : By w21 [v4] v21_0 r21.1 := OwK.slk (Sc.stab _) _ (OwK.scal o21_0 (v21_0 :: [v4])) (fun k hk => (Old.cons (Old.nil _) o0_20.lt) k (n21_0 k hk)) (fun _ h => h.2)
      replace i0_20 := i0_20.lift (Lift.ext x21 _)
      replace i1_20 := i1_20.lift (Lift.ext x21 _)
      replace o0_20 := o0_20.extL (Sc.stab _) x21 (Lift.ext x21 _)
      have e22 := hE20.trans x21
      refine wla rfl rfl (q_move (v := (.tuple #[v21_0, (i64 r21.2)])) rfl rfl) ?_
      refine wla rfl rfl (q_extract rfl rfl rfl) ?_
      refine wla rfl rfl (q_extract rfl rfl rfl) ?_
      refine wla rfl rfl (q_assign (v := v21_0) rfl rfl) ?_
      refine wla rfl rfl (q_assign (v := (i64 r21.2)) rfl rfl) ?_
      refine wl_nil ?_
      refine W_th ?_
      refine W_seq ?_
      refine W_reg (by kernel_rfl) ?_
      refine wla rfl rfl (q_move (v := v11_0) rfl s9_20) ?_
      refine wla rfl rfl (q_move (v := v21_0) rfl rfl) ?_
      obtain ⟨r23, hr23, H⟩ := Option.bind_eq_some_iff.1 H
      refine wls rfl rfl (stp_call (vs := [v11_0, v21_0]) Try.func20 rfl rfl rfl (ar2 rfl rfl) (cipher_Decrypt_calls r11.1 r21.1 v11_0 v21_0 r23 _ (i1_20.lift (Lift.sub (fun _ _ => trivial))) (i21_0.lift (Lift.sub (fun _ _ => trivial))) hr23) ?_)
      rintro _ w23 ⟨v23_0, rfl, x23, n23_0, o23_0⟩
      refine ⟨_, rfl, ?_⟩
      have i23_0 : By w23 [v4] v23_0 r23.1 := OwK.slk (Sc.stab _) _ (OwK.scal o23_0 (v23_0 :: [v4])) (fun k hk => (Old.cons (Old.nil _) o0_20.lt) k (n23_0 k hk)) (fun _ h => h.2)
      replace i0_20 := i0_20.lift (Lift.ext x23 _)
      replace i1_20 := i1_20.lift (Lift.ext x23 _)
      replace i21_0 := i21_0.lift (Lift.ext x23 _)
      replace o0_20 := o0_20.extL (Sc.stab _) x23 (Lift.ext x23 _)
      have e24 := e22.trans x23
      refine wla rfl rfl (q_move (v := (.tuple #[v23_0, (i64 r23.2)])) rfl rfl) ?_
      refine wla rfl rfl (q_extract rfl rfl rfl) ?_
      refine wla rfl rfl (q_extract rfl rfl rfl) ?_
      refine wla rfl rfl (q_assign (v := v23_0) rfl rfl) ?_
      refine wla rfl rfl (q_assign (v := (i64 r23.2)) rfl rfl) ?_
      refine wl_nil ?_
      refine W_th ?_
      refine W_seq ?_
      refine W_seq ?_
      refine W_draw [12, 18, 23, 25] [(0, 0), (1, 0), (2, 0), (3, 0), (4, 0), (5, 0), (6, 0), (7, 0), (8, 0), (9, 0), (10, 0), (11, 0), (12, 1), (13, 0), (14, 0), (16, 0), (15, 2), (17, 2), (18, 1), (19, 0), (20, 0), (21, 0), (22, 0), (23, 1), (24, 0), (25, 1), (26, 0), (27, 0)] mixed (by kernel_rfl) (by kernel_rfl) (by kernel_rfl) (by kernel_rfl) ?_
      have x25 := Ext.drew w23
      replace i0_20 := i0_20.lift (Lift.ext x25 _)
      replace i1_20 := i1_20.lift (Lift.ext x25 _)
      replace i21_0 := i21_0.lift (Lift.ext x25 _)
      replace i23_0 := i23_0.lift (Lift.ext x25 _)
      replace o0_20 := o0_20.extL (Sc.stab _) x25 (Lift.ext x25 _)
      have e26 := e24.trans x25
      refine wsa rfl rfl rfl (q_move (v := (i64 r11.2)) rfl s10_20) ?_
      refine wsa rfl rfl rfl (q_neI rfl rfl rfl) ?_
      refine wsb rfl rfl rfl (q_move (v := (.bool ((!decide (r11.2 = 0))))) rfl rfl) (fun hb27 => ?_) (fun hb27 => ?_)
      · replace H := (if_neg (ndec_t hb27)).symm.trans H
        refine wsk rfl rfl rfl ?_
        refine wsk rfl rfl rfl ?_
        refine wsa rfl rfl rfl (q_pick_t (v := (.bool true)) rfl rfl rfl) ?_
        refine wsa rfl rfl rfl (q_move (v := (.bool true)) rfl rfl) ?_
        refine wsk rfl rfl rfl ?_
        refine wsk rfl rfl rfl ?_
        refine wsa rfl rfl rfl (q_pick_t (v := (.bool true)) rfl rfl rfl) ?_
        refine wsa rfl rfl rfl (q_move (v := (.bool true)) rfl rfl) ?_
        refine wsk rfl rfl rfl ?_
        refine wsk rfl rfl rfl ?_
        refine wsk rfl rfl rfl ?_
        refine wsk rfl rfl rfl ?_
        refine wsk rfl rfl rfl ?_
        refine wsk rfl rfl rfl ?_
        refine wsk rfl rfl rfl ?_
        refine wsk rfl rfl rfl ?_
        refine wsk rfl rfl rfl ?_
        refine wsa rfl rfl rfl (q_pick_t (v := (.bool true)) rfl rfl rfl) ?_
        refine wsa rfl rfl rfl (q_move (v := (.bool true)) rfl rfl) ?_
        refine wsk rfl rfl rfl ?_
        refine wsk rfl rfl rfl ?_
        refine wsk rfl rfl rfl ?_
        refine wsk rfl rfl rfl ?_
        refine wsk rfl rfl rfl ?_
        refine wsa rfl rfl rfl (q_pick_t (v := (.bool true)) rfl rfl rfl) ?_
        refine ws_nil ?_
        refine W_th ?_
        refine W_cond true rfl rfl (fun _ => ?_) (fun hb => by cases hb)
        refine W_seq ?_
        refine W_reg (by kernel_rfl) ?_
        refine wla rfl rfl (q_assign (v := (.bool false)) rfl rfl) ?_
        refine wl_nil ?_
        refine W_th ?_
        refine W_ret ?_
        refine th_r ?_
        obtain rfl := Option.some.inj H
        refine rt1 (.bool false) rfl rfl rfl s88_20 ?_
        exact ⟨rfl, e26⟩
      · replace H := (if_pos (ndec_f hb27)).symm.trans H
        refine wsa rfl rfl rfl (q_move (v := (i64 r21.2)) rfl rfl) ?_
        refine wsa rfl rfl rfl (q_neI rfl rfl rfl) ?_
        refine wsa rfl rfl rfl (q_pick_f (v := (.bool ((!decide (r21.2 = 0))))) rfl rfl rfl) ?_
        refine wsb rfl rfl rfl (q_move (v := (.bool ((!decide (r21.2 = 0))))) rfl rfl) (fun hb28 => ?_) (fun hb28 => ?_)
        · replace H := (if_neg (ndec_t hb28)).symm.trans H
          refine wsk rfl rfl rfl ?_
          refine wsk rfl rfl rfl ?_
          refine wsa rfl rfl rfl (q_pick_t (v := (.bool true)) rfl rfl rfl) ?_
          refine wsa rfl rfl rfl (q_move (v := (.bool true)) rfl rfl) ?_
          refine wsk rfl rfl rfl ?_
          refine wsk rfl rfl rfl ?_
          refine wsk rfl rfl rfl ?_
          refine wsk rfl rfl rfl ?_
          refine wsk rfl rfl rfl ?_
          refine wsk rfl rfl rfl ?_
          refine wsk rfl rfl rfl ?_
          refine wsk rfl rfl rfl ?_
          refine wsk rfl rfl rfl ?_
          refine wsa rfl rfl rfl (q_pick_t (v := (.bool true)) rfl rfl rfl) ?_
          refine wsa rfl rfl rfl (q_move (v := (.bool true)) rfl rfl) ?_
          refine wsk rfl rfl rfl ?_
          refine wsk rfl rfl rfl ?_
          refine wsk rfl rfl rfl ?_
          refine wsk rfl rfl rfl ?_
          refine wsk rfl rfl rfl ?_
          refine wsa rfl rfl rfl (q_pick_t (v := (.bool true)) rfl rfl rfl) ?_
          refine ws_nil ?_
          refine W_th ?_
          refine W_cond true rfl rfl (fun _ => ?_) (fun hb => by cases hb)
          refine W_seq ?_
          refine W_reg (by kernel_rfl) ?_
          refine wla rfl rfl (q_assign (v := (.bool false)) rfl rfl) ?_
          refine wl_nil ?_
          refine W_th ?_
          refine W_ret ?_
          refine th_r ?_
          obtain rfl := Option.some.inj H
          refine rt1 (.bool false) rfl rfl rfl s88_20 ?_
          exact ⟨rfl, e26⟩
        · replace H := (if_pos (ndec_f hb28)).symm.trans H
          refine wsa rfl rfl rfl (q_move (v := (i64 r23.2)) rfl rfl) ?_
          refine wsa rfl rfl rfl (q_neI rfl rfl rfl) ?_
          refine wsa rfl rfl rfl (q_pick_f (v := (.bool ((!decide (r23.2 = 0))))) rfl rfl rfl) ?_
          refine wsb rfl rfl rfl (q_move (v := (.bool ((!decide (r23.2 = 0))))) rfl rfl) (fun hb29 => ?_) (fun hb29 => ?_)
          · replace H := (if_neg (ndec_t hb29)).symm.trans H
            refine wsk rfl rfl rfl ?_
            refine wsk rfl rfl rfl ?_
            refine wsk rfl rfl rfl ?_
            refine wsk rfl rfl rfl ?_
            refine wsk rfl rfl rfl ?_
            refine wsk rfl rfl rfl ?_
            refine wsk rfl rfl rfl ?_
            refine wsk rfl rfl rfl ?_
            refine wsk rfl rfl rfl ?_
            refine wsa rfl rfl rfl (q_pick_t (v := (.bool true)) rfl rfl rfl) ?_
            refine wsa rfl rfl rfl (q_move (v := (.bool true)) rfl rfl) ?_
            refine wsk rfl rfl rfl ?_
            refine wsk rfl rfl rfl ?_
            refine wsk rfl rfl rfl ?_
            refine wsk rfl rfl rfl ?_
            refine wsk rfl rfl rfl ?_
            refine wsa rfl rfl rfl (q_pick_t (v := (.bool true)) rfl rfl rfl) ?_
            refine ws_nil ?_
            refine W_th ?_
            refine W_cond true rfl rfl (fun _ => ?_) (fun hb => by cases hb)
            refine W_seq ?_
            refine W_reg (by kernel_rfl) ?_
            refine wla rfl rfl (q_assign (v := (.bool false)) rfl rfl) ?_
            refine wl_nil ?_
            refine W_th ?_
            refine W_ret ?_
            refine th_r ?_
            obtain rfl := Option.some.inj H
            refine rt1 (.bool false) rfl rfl rfl s88_20 ?_
            exact ⟨rfl, e26⟩
          · replace H := (if_pos (ndec_f hb29)).symm.trans H
            refine wsa rfl rfl rfl (q_move (v := v21_0) rfl rfl) ?_
            refine wsq rfl rfl rfl (q_str rfl T22 rfl rfl rfl i21_0) ?_
            refine wsa rfl rfl rfl (q_move (v := p0) rfl s0_20) ?_
            refine wsa rfl rfl rfl (q_move (v := (.bool a1long)) rfl s1_20) ?_
            refine wsa rfl rfl rfl (q_move (v := v7) rfl s8_20) ?_
            obtain ⟨r30, hr30, H⟩ := Option.bind_eq_some_iff.1 H
            refine wss rfl rfl rfl (stp_call (vs := [p0, (.bool a1long)]) Try.func16 rfl rfl rfl (ar2 rfl rfl) (law05_key_calls a0k a1long p0 r30 _ (hp0.lift (Lift.ext e26 _)) hr30) ?_)
            rintro _ w30 ⟨v30, rfl, x30, n30_0, o30_0⟩
            refine ⟨_, rfl, x30, ?_⟩
            have i30_0 : By w30 [v4] v30 r30 := OwK.slk (Sc.stab _) _ (OwK.scal o30_0 (v30 :: [v4])) (fun k hk => (Old.cons (Old.nil _) o0_20.lt) k (n30_0 k hk)) (fun _ h => h.2)
            replace i0_20 := i0_20.lift (Lift.ext x30 _)
            replace i1_20 := i1_20.lift (Lift.ext x30 _)
            replace i21_0 := i21_0.lift (Lift.ext x30 _)
            replace i23_0 := i23_0.lift (Lift.ext x30 _)
            replace o0_20 := o0_20.extL (Sc.stab _) x30 (Lift.ext x30 _)
            have e31 := e26.trans x30
            obtain ⟨r32, hr32, H⟩ := Option.bind_eq_some_iff.1 H
            refine wss rfl rfl rfl (stp_call (vs := [v30, v7]) Try.func21 rfl rfl rfl (ar2 rfl rfl) (ref05_Encrypt_calls r30 r7 v30 v7 r32 _ (i30_0.lift (Lift.sub (fun _ _ => trivial))) (i0_20.lift (Lift.sub (fun _ _ => trivial))) hr32) ?_)
            rintro _ w32 ⟨v32, rfl, x32, n32_0, o32_0⟩
            refine ⟨_, rfl, x32, ?_⟩
            have i32_0 : By w32 [v4] v32 r32 := SlK.avail o32_0 _ (fun k hk => (Old.cons (Old.nil _) o0_20.lt) k (n32_0 k hk))
            replace i0_20 := i0_20.lift (Lift.ext x32 _)
            replace i1_20 := i1_20.lift (Lift.ext x32 _)
            replace i21_0 := i21_0.lift (Lift.ext x32 _)
            replace i23_0 := i23_0.lift (Lift.ext x32 _)
            replace i30_0 := i30_0.lift (Lift.ext x32 _)
            replace o0_20 := o0_20.extL (Sc.stab _) x32 (Lift.ext x32 _)
            have e33 := e31.trans x32
            refine wsq rfl rfl rfl (q_str rfl T22 rfl rfl rfl i32_0) ?_
            refine wsa rfl rfl rfl (q_neS rfl rfl rfl) ?_
            refine wsa rfl rfl rfl (q_pick_f (v := (.bool ((!decide (r21.1 = r32))))) rfl rfl rfl) ?_
            refine wsb rfl rfl rfl (q_move (v := (.bool ((!decide (r21.1 = r32))))) rfl rfl) (fun hb34 => ?_) (fun hb34 => ?_)
            · replace H := (if_neg (ndec_t hb34)).symm.trans H
              refine wsk rfl rfl rfl ?_
              refine wsk rfl rfl rfl ?_
              refine wsk rfl rfl rfl ?_
              refine wsk rfl rfl rfl ?_
              refine wsk rfl rfl rfl ?_
              refine wsa rfl rfl rfl (q_pick_t (v := (.bool true)) rfl rfl rfl) ?_
              refine ws_nil ?_
              refine W_th ?_
              refine W_cond true rfl rfl (fun _ => ?_) (fun hb => by cases hb)
              refine W_seq ?_
              refine W_reg (by kernel_rfl) ?_
              refine wla rfl rfl (q_assign (v := (.bool false)) rfl rfl) ?_
              refine wl_nil ?_
              refine W_th ?_
              refine W_ret ?_
              refine th_r ?_
              obtain rfl := Option.some.inj H
              refine rt1 (.bool false) rfl rfl rfl s88_20 ?_
              exact ⟨rfl, e33⟩
            · replace H := (if_pos (ndec_f hb34)).symm.trans H
              refine wsa rfl rfl rfl (q_move (v := v23_0) rfl rfl) ?_
              refine wsq rfl rfl rfl (q_str rfl T22 rfl rfl rfl i23_0) ?_
              refine wsa rfl rfl rfl (q_move (v := v7) rfl s8_20) ?_
              refine wsq rfl rfl rfl (q_str rfl T22 rfl rfl rfl i0_20) ?_
              refine wsa rfl rfl rfl (q_neS rfl rfl rfl) ?_
              refine wsa rfl rfl rfl (q_pick_f (v := (.bool ((!decide (r23.1 = r7))))) rfl rfl rfl) ?_
              refine ws_nil ?_
              refine W_th ?_
              refine W_cond _ rfl rfl (fun hb35 => ?_) (fun hb35 => ?_)
              · replace H := (if_neg (ndec_t hb35)).symm.trans H
                refine W_seq ?_
                refine W_reg (by kernel_rfl) ?_
                refine wla rfl rfl (q_assign (v := (.bool false)) rfl rfl) ?_
                refine wl_nil ?_
                refine W_th ?_
                refine W_ret ?_
                refine th_r ?_
                obtain rfl := Option.some.inj H
                refine rt1 (.bool false) rfl rfl rfl s88_20 ?_
                exact ⟨rfl, e33⟩
              · replace H := (if_pos (ndec_f hb35)).symm.trans H
                refine W_skip ?_
                refine W_th ?_
                refine W_seq ?_
                refine W_reg (by kernel_rfl) ?_
                refine wla rfl rfl (q_move (v := v11_0) rfl s9_20) ?_
                obtain ⟨r36, hr36, H⟩ := Option.bind_eq_some_iff.1 H
                refine wls rfl rfl (stp_call (vs := [v11_0]) Try.func22 rfl rfl rfl (ar1 rfl) (cipher_Rounds_calls r11.1 v11_0 r36 _ (i1_20.lift (Lift.sub (fun _ _ => trivial))) hr36) ?_)
                rintro _ w36 ⟨rfl, x36⟩
                refine ⟨_, rfl, ?_⟩
                replace i0_20 := i0_20.lift (Lift.ext x36 _)
                replace i1_20 := i1_20.lift (Lift.ext x36 _)
                replace i21_0 := i21_0.lift (Lift.ext x36 _)
                replace i23_0 := i23_0.lift (Lift.ext x36 _)
                replace i30_0 := i30_0.lift (Lift.ext x36 _)
                replace i32_0 := i32_0.lift (Lift.ext x36 _)
                replace o0_20 := o0_20.extL (Sc.stab _) x36 (Lift.ext x36 _)
                have e37 := e33.trans x36
                refine wla rfl rfl (q_move (v := v4) rfl s7_20) ?_
                refine wla rfl rfl (q_len rfl T22.sl rfl (o0_20.rd (Sc.stab _))) ?_
                obtain ⟨c38, hc38, H⟩ := Option.bind_eq_some_iff.1 H
                refine wla rfl rfl (q_divI rfl rfl rfl hc38) ?_
                refine wla rfl rfl (q_addI rfl rfl rfl) ?_
                refine wla rfl rfl (q_eqI rfl rfl rfl) ?_
                refine wla rfl rfl (q_assign (v := (.bool ((decide (r36 = (wI (c38 + 6))))))) rfl rfl) ?_
                refine wl_nil ?_
                refine W_th ?_
                refine W_ret ?_
                obtain rfl := Option.some.inj H
                refine rt1 (.bool ((decide (r36 = (wI (c38 + 6)))))) rfl rfl rfl s88_20 ?_
                exact ⟨rfl, e37⟩

/-! largesse/largesselaw05.CipherBack -/
noncomputable def law05_CipherBack (a0k : List UInt8) (a1long : Bool) (a2a : List UInt8) (a3b : List UInt8) : Option Bool :=
((law05_lives ).bind fun r1 =>
(if (!r1) = true then some false
else
((field_New ).bind fun r4 =>
((law05_key a0k a1long).bind fun r6 =>
((cipher_New r4 r6).bind fun r8 =>
((law05_key a2a false).bind fun r10 =>
((law05_key a3b false).bind fun r12 =>
((cipher_Decrypt r8.1 r10).bind fun r14 =>
((cipher_Encrypt r8.1 r14.1).bind fun r16 =>
((cipher_Encrypt r8.1 r10).bind fun r18 =>
((cipher_Encrypt r8.1 r12).bind fun r20 =>
(if r8.2 = 0 then
(if r14.2 = 0 then
(if r16.2 = 0 then
(if r16.1 = r10 then some (((decide (r18.1 = r20.1))) == ((decide (r10 = r12))))
else some false)
else some false)
else some false)
else some false))))))))))))
set_option maxRecDepth 100000 in
set_option maxHeartbeats 8000000 in
theorem law05_CipherBack_calls (a0k : List UInt8) (a1long : Bool) (a2a : List UInt8) (a3b : List UInt8) (p0 : Value) (p2 : Value) (p3 : Value) (r : Bool) (w0 : World) (hp0 : By w0 [] p0 a0k) (hp2 : By w0 [] p2 a2a) (hp3 : By w0 [] p3 a3b) (H : law05_CipherBack a0k a1long a2a a3b = some r) :
    Calls Try.prog 4 [p0, (.bool a1long), p2, p3].toArray w0 (fun e w' => e = .returned (.bool r) ∧ Ext w0 w') := by
  have hE : Ext w0 w0 := Ext.refl w0
  unfold law05_CipherBack at H
  refine calls_W (n := 89) Try.func4 rfl rfl rfl ?_
  refine W_seq ?_
  refine W_reg (by kernel_rfl) ?_
  refine wla rfl rfl (q_assign (v := (.bool false)) rfl rfl) ?_
  refine wl_nil ?_
  refine W_th ?_
  refine W_seq ?_
  refine W_seq ?_
  refine W_reg (by kernel_rfl) ?_
  obtain ⟨r1, hr1, H⟩ := Option.bind_eq_some_iff.1 H
  refine wls rfl rfl (stp_call (vs := []) Try.func15 rfl rfl rfl (ar0 ) (law05_lives_calls   r1 _  hr1) ?_)
  rintro _ w1 ⟨rfl, x1⟩
  refine ⟨_, rfl, ?_⟩
  have e2 := hE.trans x1
  refine wla rfl rfl (q_not rfl rfl) ?_
  refine wl_nil ?_
  refine W_th ?_
  refine W_cond _ rfl rfl (fun hb3 => ?_) (fun hb3 => ?_)
  · replace H := (if_pos hb3).symm.trans H
    refine W_seq ?_
    refine W_reg (by kernel_rfl) ?_
    refine wla rfl rfl (q_assign (v := (.bool false)) rfl rfl) ?_
    refine wl_nil ?_
    refine W_th ?_
    refine W_ret ?_
    refine th_r ?_
    obtain rfl := Option.some.inj H
    refine rt1 (.bool false) rfl rfl rfl rfl ?_
    exact ⟨rfl, e2⟩
  · replace H := (if_neg (ne_true_of_eq_false hb3)).symm.trans H
    refine W_skip ?_
    refine W_th ?_
    refine W_seq ?_
    refine W_reg (by kernel_rfl) ?_
    obtain ⟨r4, hr4, H⟩ := Option.bind_eq_some_iff.1 H
    refine wls rfl rfl (stp_call (vs := []) Try.func18 rfl rfl rfl (ar0 ) (field_New_calls   r4 _ [] (Old.nil _)  hr4) ?_)
    rintro _ w4 ⟨v4, rfl, x4, i4_0⟩
    refine ⟨_, rfl, ?_⟩
    have e5 := e2.trans x4
    refine wla rfl rfl (q_move (v := p0) rfl rfl) ?_
    refine wla rfl rfl (q_move (v := (.bool a1long)) rfl rfl) ?_
    obtain ⟨r6, hr6, H⟩ := Option.bind_eq_some_iff.1 H
    refine wls rfl rfl (stp_call (vs := [p0, (.bool a1long)]) Try.func16 rfl rfl rfl (ar2 rfl rfl) (law05_key_calls a0k a1long p0 r6 _ (hp0.lift (Lift.ext e5 _)) hr6) ?_)
    rintro _ w6 ⟨v6, rfl, x6, n6_0, o6_0⟩
    refine ⟨_, rfl, ?_⟩
    have i6_0 : By w6 [] v6 r6 := OwK.slk (Sc.stab _) _ (OwK.scal o6_0 (v6 :: [])) (fun k hk => (Old.nil _) k (n6_0 k hk)) (fun _ h => h.2)
    replace i4_0 := i4_0.lift (Lift.ext x6 _)
    have e7 := e5.trans x6
    obtain ⟨r8, hr8, H⟩ := Option.bind_eq_some_iff.1 H
    refine wls rfl rfl (stp_call (vs := [v4, v6]) Try.func17 rfl rfl rfl (ar2 rfl rfl) (cipher_New_calls r4 r6 v4 v6 r8 _ [] (Old.nil _) i4_0 (i6_0.lift (Lift.sub (fun _ _ => trivial))) hr8) ?_)
    rintro _ w8 ⟨v8_0, rfl, x8, i8_0⟩
    refine ⟨_, rfl, ?_⟩
    replace i4_0 := i4_0.lift (Lift.ext x8 _)
    replace i6_0 := i6_0.lift (Lift.ext x8 _)
    have e9 := e7.trans x8
    refine wla rfl rfl (q_move (v := (.tuple #[v8_0, (i64 r8.2)])) rfl rfl) ?_
    refine wla rfl rfl (q_extract rfl rfl rfl) ?_
    refine wla rfl rfl (q_extract rfl rfl rfl) ?_
    refine wla rfl rfl (q_assign (v := v8_0) rfl rfl) ?_
    refine wla rfl rfl (q_assign (v := (i64 r8.2)) rfl rfl) ?_
    refine wl_nil ?_
    refine W_th ?_
    refine W_seq ?_
    refine W_reg (by kernel_rfl) ?_
    refine wla rfl rfl (q_move (v := p2) rfl rfl) ?_
    obtain ⟨r10, hr10, H⟩ := Option.bind_eq_some_iff.1 H
    refine wls rfl rfl (stp_call (vs := [p2, (.bool false)]) Try.func16 rfl rfl rfl (ar2 rfl rfl) (law05_key_calls a2a false p2 r10 _ (hp2.lift (Lift.ext e9 _)) hr10) ?_)
    rintro _ w10 ⟨v10, rfl, x10, n10_0, o10_0⟩
    refine ⟨_, rfl, ?_⟩
    have i10_0 : By w10 [] v10 r10 := OwK.slk (Sc.stab _) _ (OwK.scal o10_0 (v10 :: [])) (fun k hk => (Old.nil _) k (n10_0 k hk)) (fun _ h => h.2)
    replace i4_0 := i4_0.lift (Lift.ext x10 _)
    replace i6_0 := i6_0.lift (Lift.ext x10 _)
    replace i8_0 := i8_0.lift (Lift.ext x10 _)
    have e11 := e9.trans x10
    refine wla rfl rfl (q_move (v := p3) rfl rfl) ?_
    obtain ⟨r12, hr12, H⟩ := Option.bind_eq_some_iff.1 H
    refine wls rfl rfl (stp_call (vs := [p3, (.bool false)]) Try.func16 rfl rfl rfl (ar2 rfl rfl) (law05_key_calls a3b false p3 r12 _ (hp3.lift (Lift.ext e11 _)) hr12) ?_)
    rintro _ w12 ⟨v12, rfl, x12, n12_0, o12_0⟩
    refine ⟨_, rfl, ?_⟩
    have i12_0 : By w12 [] v12 r12 := OwK.slk (Sc.stab _) _ (OwK.scal o12_0 (v12 :: [])) (fun k hk => (Old.nil _) k (n12_0 k hk)) (fun _ h => h.2)
    replace i4_0 := i4_0.lift (Lift.ext x12 _)
    replace i6_0 := i6_0.lift (Lift.ext x12 _)
    replace i8_0 := i8_0.lift (Lift.ext x12 _)
    replace i10_0 := i10_0.lift (Lift.ext x12 _)
    have e13 := e11.trans x12
    refine wla rfl rfl (q_assign (v := v10) rfl rfl) ?_
    refine wla rfl rfl (q_assign (v := v12) rfl rfl) ?_
    refine wl_nil ?_
    refine W_th ?_
    refine W_seq ?_
    refine W_reg (by kernel_rfl) ?_
    refine wla rfl rfl (q_move (v := v8_0) rfl rfl) ?_
    refine wla rfl rfl (q_move (v := v10) rfl rfl) ?_
    obtain ⟨r14, hr14, H⟩ := Option.bind_eq_some_iff.1 H
    refine wls rfl rfl (stp_call (vs := [v8_0, v10]) Try.func20 rfl rfl rfl (ar2 rfl rfl) (cipher_Decrypt_calls r8.1 r10 v8_0 v10 r14 _ (i8_0.lift (Lift.sub (fun _ _ => trivial))) (i10_0.lift (Lift.sub (fun _ _ => trivial))) hr14) ?_)
    rintro _ w14 ⟨v14_0, rfl, x14, n14_0, o14_0⟩
    refine ⟨_, rfl, ?_⟩
    have i14_0 : By w14 [] v14_0 r14.1 := OwK.slk (Sc.stab _) _ (OwK.scal o14_0 (v14_0 :: [])) (fun k hk => (Old.nil _) k (n14_0 k hk)) (fun _ h => h.2)
    replace i4_0 := i4_0.lift (Lift.ext x14 _)
    replace i6_0 := i6_0.lift (Lift.ext x14 _)
    replace i8_0 := i8_0.lift (Lift.ext x14 _)
    replace i10_0 := i10_0.lift (Lift.ext x14 _)
    replace i12_0 := i12_0.lift (Lift.ext x14 _)
    have e15 := e13.trans x14
    refine wla rfl rfl (q_move (v := (.tuple #[v14_0, (i64 r14.2)])) rfl rfl) ?_
    refine wla rfl rfl (q_extract rfl rfl rfl) ?_
    refine wla rfl rfl (q_extract rfl rfl rfl) ?_
    refine wla rfl rfl (q_assign (v := v14_0) rfl rfl) ?_
    refine wla rfl rfl (q_assign (v := (i64 r14.2)) rfl rfl) ?_
    refine wl_nil ?_
    refine W_th ?_
    refine W_seq ?_
    refine W_reg (by kernel_rfl) ?_
    refine wla rfl rfl (q_move (v := v8_0) rfl rfl) ?_
    refine wla rfl rfl (q_move (v := v14_0) rfl rfl) ?_
    obtain ⟨r16, hr16, H⟩ := Option.bind_eq_some_iff.1 H
    refine wls rfl rfl (stp_call (vs := [v8_0, v14_0]) Try.func19 rfl rfl rfl (ar2 rfl rfl) (cipher_Encrypt_calls r8.1 r14.1 v8_0 v14_0 r16 _ (i8_0.lift (Lift.sub (fun _ _ => trivial))) (i14_0.lift (Lift.sub (fun _ _ => trivial))) hr16) ?_)
    rintro _ w16 ⟨v16_0, rfl, x16, n16_0, o16_0⟩
    refine ⟨_, rfl, ?_⟩
    have i16_0 : By w16 [] v16_0 r16.1 := OwK.slk (Sc.stab _) _ (OwK.scal o16_0 (v16_0 :: [])) (fun k hk => (Old.nil _) k (n16_0 k hk)) (fun _ h => h.2)
    replace i4_0 := i4_0.lift (Lift.ext x16 _)
    replace i6_0 := i6_0.lift (Lift.ext x16 _)
    replace i8_0 := i8_0.lift (Lift.ext x16 _)
    replace i10_0 := i10_0.lift (Lift.ext x16 _)
    replace i12_0 := i12_0.lift (Lift.ext x16 _)
    replace i14_0 := i14_0.lift (Lift.ext x16 _)
    have e17 := e15.trans x16
    refine wla rfl rfl (q_move (v := (.tuple #[v16_0, (i64 r16.2)])) rfl rfl) ?_
    refine wla rfl rfl (q_extract rfl rfl rfl) ?_
    refine wla rfl rfl (q_extract rfl rfl rfl) ?_
    refine wla rfl rfl (q_assign (v := v16_0) rfl rfl) ?_
    refine wla rfl rfl (q_assign (v := (i64 r16.2)) rfl rfl) ?_
    refine wl_nil ?_
    refine W_th ?_
    refine W_seq ?_
    refine W_reg (by kernel_rfl) ?_
    refine wla rfl rfl (q_move (v := v8_0) rfl rfl) ?_
    refine wla rfl rfl (q_move (v := v10) rfl rfl) ?_
    obtain ⟨r18, hr18, H⟩ := Option.bind_eq_some_iff.1 H
    refine wls rfl rfl (stp_call (vs := [v8_0, v10]) Try.func19 rfl rfl rfl (ar2 rfl rfl) (cipher_Encrypt_calls r8.1 r10 v8_0 v10 r18 _ (i8_0.lift (Lift.sub (fun _ _ => trivial))) (i10_0.lift (Lift.sub (fun _ _ => trivial))) hr18) ?_)
    rintro _ w18 ⟨v18_0, rfl, x18, n18_0, o18_0⟩
    refine ⟨_, rfl, ?_⟩
    have i18_0 : By w18 [] v18_0 r18.1 := OwK.slk (Sc.stab _) _ (OwK.scal o18_0 (v18_0 :: [])) (fun k hk => (Old.nil _) k (n18_0 k hk)) (fun _ h => h.2)
    replace i4_0 := i4_0.lift (Lift.ext x18 _)
    replace i6_0 := i6_0.lift (Lift.ext x18 _)
    replace i8_0 := i8_0.lift (Lift.ext x18 _)
    replace i10_0 := i10_0.lift (Lift.ext x18 _)
    replace i12_0 := i12_0.lift (Lift.ext x18 _)
    replace i14_0 := i14_0.lift (Lift.ext x18 _)
    replace i16_0 := i16_0.lift (Lift.ext x18 _)
    have e19 := e17.trans x18
    refine wla rfl rfl (q_move (v := (.tuple #[v18_0, (i64 r18.2)])) rfl rfl) ?_
    refine wla rfl rfl (q_extract rfl rfl rfl) ?_
    refine wla rfl rfl (q_extract rfl rfl rfl) ?_
    refine wla rfl rfl (q_assign (v := v18_0) rfl rfl) ?_
    refine wla rfl rfl (q_assign (v := (i64 r18.2)) rfl rfl) ?_
    refine wl_nil ?_
    refine W_th ?_
    refine W_seq ?_
    refine W_reg (by kernel_rfl) ?_
    refine wla rfl rfl (q_move (v := v8_0) rfl rfl) ?_
    refine wla rfl rfl (q_move (v := v12) rfl rfl) ?_
    obtain ⟨r20, hr20, H⟩ := Option.bind_eq_some_iff.1 H
    refine wls rfl rfl (stp_call (vs := [v8_0, v12]) Try.func19 rfl rfl rfl (ar2 rfl rfl) (cipher_Encrypt_calls r8.1 r12 v8_0 v12 r20 _ (i8_0.lift (Lift.sub (fun _ _ => trivial))) (i12_0.lift (Lift.sub (fun _ _ => trivial))) hr20) ?_)
    rintro _ w20 ⟨v20_0, rfl, x20, n20_0, o20_0⟩
    refine ⟨_, rfl, ?_⟩
    have i20_0 : By w20 [] v20_0 r20.1 := OwK.slk (Sc.stab _) _ (OwK.scal o20_0 (v20_0 :: [])) (fun k hk => (Old.nil _) k (n20_0 k hk)) (fun _ h => h.2)
    replace i4_0 := i4_0.lift (Lift.ext x20 _)
    replace i6_0 := i6_0.lift (Lift.ext x20 _)
    replace i8_0 := i8_0.lift (Lift.ext x20 _)
    replace i10_0 := i10_0.lift (Lift.ext x20 _)
    replace i12_0 := i12_0.lift (Lift.ext x20 _)
    replace i14_0 := i14_0.lift (Lift.ext x20 _)
    replace i16_0 := i16_0.lift (Lift.ext x20 _)
    replace i18_0 := i18_0.lift (Lift.ext x20 _)
    have e21 := e19.trans x20
    refine wla rfl rfl (q_move (v := (.tuple #[v20_0, (i64 r20.2)])) rfl rfl) ?_
    refine wla rfl rfl (q_extract rfl rfl rfl) ?_
    refine wla rfl rfl (q_extract rfl rfl rfl) ?_
    refine wla rfl rfl (q_assign (v := v20_0) rfl rfl) ?_
    refine wla rfl rfl (q_assign (v := (i64 r20.2)) rfl rfl) ?_
    refine wl_nil ?_
    refine W_th ?_
    refine W_seq ?_
    refine W_reg (by kernel_rfl) ?_
    refine wla rfl rfl (q_move (v := (i64 r8.2)) rfl rfl) ?_
    refine wla rfl rfl (q_eqI rfl rfl rfl) ?_
    refine wlb rfl rfl (q_move (v := (.bool ((decide (r8.2 = 0))))) rfl rfl) (fun hb22 => ?_) (fun hb22 => ?_)
    · replace H := (if_pos (of_decide_eq_true hb22)).symm.trans H
      refine wla rfl rfl (q_move (v := (i64 r14.2)) rfl rfl) ?_
      refine wla rfl rfl (q_eqI rfl rfl rfl) ?_
      refine wla rfl rfl (q_pick_t (v := (.bool ((decide (r14.2 = 0))))) rfl rfl rfl) ?_
      refine wlb rfl rfl (q_move (v := (.bool ((decide (r14.2 = 0))))) rfl rfl) (fun hb23 => ?_) (fun hb23 => ?_)
      · replace H := (if_pos (of_decide_eq_true hb23)).symm.trans H
        refine wla rfl rfl (q_move (v := (i64 r16.2)) rfl rfl) ?_
        refine wla rfl rfl (q_eqI rfl rfl rfl) ?_
        refine wla rfl rfl (q_pick_t (v := (.bool ((decide (r16.2 = 0))))) rfl rfl rfl) ?_
        refine wlb rfl rfl (q_move (v := (.bool ((decide (r16.2 = 0))))) rfl rfl) (fun hb24 => ?_) (fun hb24 => ?_)
        · replace H := (if_pos (of_decide_eq_true hb24)).symm.trans H
          refine wla rfl rfl (q_move (v := v16_0) rfl rfl) ?_
          refine wlq rfl rfl (q_str rfl T22 rfl rfl rfl i16_0) ?_
          refine wla rfl rfl (q_move (v := v10) rfl rfl) ?_
          refine wlq rfl rfl (q_str rfl T22 rfl rfl rfl i10_0) ?_
          refine wla rfl rfl (q_eqS rfl rfl rfl) ?_
          refine wla rfl rfl (q_pick_t (v := (.bool ((decide (r16.1 = r10))))) rfl rfl rfl) ?_
          refine wlb rfl rfl (q_move (v := (.bool ((decide (r16.1 = r10))))) rfl rfl) (fun hb25 => ?_) (fun hb25 => ?_)
          · replace H := (if_pos (of_decide_eq_true hb25)).symm.trans H
            refine wla rfl rfl (q_move (v := v18_0) rfl rfl) ?_
            refine wlq rfl rfl (q_str rfl T22 rfl rfl rfl i18_0) ?_
            refine wla rfl rfl (q_move (v := v20_0) rfl rfl) ?_
            refine wlq rfl rfl (q_str rfl T22 rfl rfl rfl i20_0) ?_
            refine wla rfl rfl (q_eqS rfl rfl rfl) ?_
            refine wla rfl rfl (q_move (v := v10) rfl rfl) ?_
            refine wlq rfl rfl (q_str rfl T22 rfl rfl rfl i10_0) ?_
            refine wla rfl rfl (q_move (v := v12) rfl rfl) ?_
            refine wlq rfl rfl (q_str rfl T22 rfl rfl rfl i12_0) ?_
            refine wla rfl rfl (q_eqS rfl rfl rfl) ?_
            refine wla rfl rfl (q_eqB rfl (by kernel_rfl) rfl rfl) ?_
            refine wla rfl rfl (q_pick_t (v := (.bool ((((decide (r18.1 = r20.1))) == ((decide (r10 = r12))))))) rfl rfl rfl) ?_
            refine wla rfl rfl (q_assign (v := (.bool ((((decide (r18.1 = r20.1))) == ((decide (r10 = r12))))))) rfl rfl) ?_
            refine wl_nil ?_
            refine W_th ?_
            refine W_ret ?_
            obtain rfl := Option.some.inj H
            refine rt1 (.bool ((((decide (r18.1 = r20.1))) == ((decide (r10 = r12)))))) rfl rfl rfl rfl ?_
            exact ⟨rfl, e21⟩
          · replace H := (if_neg (of_decide_eq_false hb25)).symm.trans H
            refine wlk rfl rfl ?_
            refine wlk rfl rfl ?_
            refine wlk rfl rfl ?_
            refine wlk rfl rfl ?_
            refine wlk rfl rfl ?_
            refine wlk rfl rfl ?_
            refine wlk rfl rfl ?_
            refine wlk rfl rfl ?_
            refine wlk rfl rfl ?_
            refine wlk rfl rfl ?_
            refine wlk rfl rfl ?_
            refine wla rfl rfl (q_pick_f (v := (.bool false)) rfl rfl rfl) ?_
            refine wla rfl rfl (q_assign (v := (.bool false)) rfl rfl) ?_
            refine wl_nil ?_
            refine W_th ?_
            refine W_ret ?_
            obtain rfl := Option.some.inj H
            refine rt1 (.bool false) rfl rfl rfl rfl ?_
            exact ⟨rfl, e21⟩
        · replace H := (if_neg (of_decide_eq_false hb24)).symm.trans H
          refine wlk rfl rfl ?_
          refine wlk rfl rfl ?_
          refine wlk rfl rfl ?_
          refine wlk rfl rfl ?_
          refine wlk rfl rfl ?_
          refine wla rfl rfl (q_pick_f (v := (.bool false)) rfl rfl rfl) ?_
          refine wla rfl rfl (q_move (v := (.bool false)) rfl rfl) ?_
          refine wlk rfl rfl ?_
          refine wlk rfl rfl ?_
          refine wlk rfl rfl ?_
          refine wlk rfl rfl ?_
          refine wlk rfl rfl ?_
          refine wlk rfl rfl ?_
          refine wlk rfl rfl ?_
          refine wlk rfl rfl ?_
          refine wlk rfl rfl ?_
          refine wlk rfl rfl ?_
          refine wlk rfl rfl ?_
          refine wla rfl rfl (q_pick_f (v := (.bool false)) rfl rfl rfl) ?_
          refine wla rfl rfl (q_assign (v := (.bool false)) rfl rfl) ?_
          refine wl_nil ?_
          refine W_th ?_
          refine W_ret ?_
          obtain rfl := Option.some.inj H
          refine rt1 (.bool false) rfl rfl rfl rfl ?_
          exact ⟨rfl, e21⟩
      · replace H := (if_neg (of_decide_eq_false hb23)).symm.trans H
        refine wlk rfl rfl ?_
        refine wlk rfl rfl ?_
        refine wla rfl rfl (q_pick_f (v := (.bool false)) rfl rfl rfl) ?_
        refine wla rfl rfl (q_move (v := (.bool false)) rfl rfl) ?_
        refine wlk rfl rfl ?_
        refine wlk rfl rfl ?_
        refine wlk rfl rfl ?_
        refine wlk rfl rfl ?_
        refine wlk rfl rfl ?_
        refine wla rfl rfl (q_pick_f (v := (.bool false)) rfl rfl rfl) ?_
        refine wla rfl rfl (q_move (v := (.bool false)) rfl rfl) ?_
        refine wlk rfl rfl ?_
        refine wlk rfl rfl ?_
        refine wlk rfl rfl ?_
        refine wlk rfl rfl ?_
        refine wlk rfl rfl ?_
        refine wlk rfl rfl ?_
        refine wlk rfl rfl ?_
        refine wlk rfl rfl ?_
        refine wlk rfl rfl ?_
        refine wlk rfl rfl ?_
        refine wlk rfl rfl ?_
        refine wla rfl rfl (q_pick_f (v := (.bool false)) rfl rfl rfl) ?_
        refine wla rfl rfl (q_assign (v := (.bool false)) rfl rfl) ?_
        refine wl_nil ?_
        refine W_th ?_
        refine W_ret ?_
        obtain rfl := Option.some.inj H
        refine rt1 (.bool false) rfl rfl rfl rfl ?_
        exact ⟨rfl, e21⟩
    · replace H := (if_neg (of_decide_eq_false hb22)).symm.trans H
      refine wlk rfl rfl ?_
      refine wlk rfl rfl ?_
      refine wla rfl rfl (q_pick_f (v := (.bool false)) rfl rfl rfl) ?_
      refine wla rfl rfl (q_move (v := (.bool false)) rfl rfl) ?_
      refine wlk rfl rfl ?_
      refine wlk rfl rfl ?_
      refine wla rfl rfl (q_pick_f (v := (.bool false)) rfl rfl rfl) ?_
      refine wla rfl rfl (q_move (v := (.bool false)) rfl rfl) ?_
      refine wlk rfl rfl ?_
      refine wlk rfl rfl ?_
      refine wlk rfl rfl ?_
      refine wlk rfl rfl ?_
      refine wlk rfl rfl ?_
      refine wla rfl rfl (q_pick_f (v := (.bool false)) rfl rfl rfl) ?_
      refine wla rfl rfl (q_move (v := (.bool false)) rfl rfl) ?_
      refine wlk rfl rfl ?_
      refine wlk rfl rfl ?_
      refine wlk rfl rfl ?_
      refine wlk rfl rfl ?_
      refine wlk rfl rfl ?_
      refine wlk rfl rfl ?_
      refine wlk rfl rfl ?_
      refine wlk rfl rfl ?_
      refine wlk rfl rfl ?_
      refine wlk rfl rfl ?_
      refine wlk rfl rfl ?_
      refine wla rfl rfl (q_pick_f (v := (.bool false)) rfl rfl rfl) ?_
      refine wla rfl rfl (q_assign (v := (.bool false)) rfl rfl) ?_
      refine wl_nil ?_
      refine W_th ?_
      refine W_ret ?_
      obtain rfl := Option.some.inj H
      refine rt1 (.bool false) rfl rfl rfl rfl ?_
      exact ⟨rfl, e21⟩

end Gk

/- Printed by gen.py: for each Go function a pure function, and that the Go code comes to it. No condition beside the equation that says what the pure function gives. -/

set_option linter.unusedVariables false
set_option linter.unusedSimpArgs false
namespace Gk
open Go Go.Proofs

/-! largesse/largesselaw05.CipherForms -/
noncomputable def law05_CipherForms (a0k : List UInt8) (a1b : List UInt8) : Option Bool :=
((law05_lives ).bind fun r1 =>
(if (!r1) = true then
((law05_lives ).bind fun r4 => some r4)
else
(if 100 < (a0k.length : Int) then
((law05_lives ).bind fun r7 => some r7)
else
(if 100 < (a1b.length : Int) then
((law05_lives ).bind fun r10 => some r10)
else
((field_New ).bind fun r12 =>
((cipher_New r12 a0k).bind fun r14 =>
(if (a0k.length : Int) = 16 then
(if (!(true == ((decide (r14.2 = 0))))) = true then some false
else
((makeL 16 (0 : UInt8)).bind fun c18 =>
((cipher_New r12 c18).bind fun r20 =>
((cipher_Encrypt r20.1 a1b).bind fun r22 =>
((cipher_Decrypt r20.1 a1b).bind fun r24 =>
(if (!(((decide ((a1b.length : Int) = 16))) == ((decide (r22.2 = 0))))) = true then some false
else
(if (!(((decide ((a1b.length : Int) = 16))) == ((decide (r24.2 = 0))))) = true then some false
else
(if (a1b.length : Int) = 16 then
((makeL 16 (0 : UInt8)).bind fun c47 =>
((cipher_Encrypt (none : Option Cip) c47).bind fun r49 =>
((makeL 16 (0 : UInt8)).bind fun c51 =>
((cipher_Decrypt (none : Option Cip) c51).bind fun r53 =>
((makeL 16 (0 : UInt8)).bind fun c55 =>
((cipher_New false c55).bind fun r57 =>
(if r49.2 = 1 then
(if r53.2 = 1 then
(if r57.2 = 1 then
((cipher_Rounds (none : Option Cip)).bind fun r62 => some (decide (r62 = 0)))
else some false)
else some false)
else some false)))))))
else
(if (wI ((r22.1.length : Int) + (r24.1.length : Int))) = 0 then
((makeL 16 (0 : UInt8)).bind fun c30 =>
((cipher_Encrypt (none : Option Cip) c30).bind fun r32 =>
((makeL 16 (0 : UInt8)).bind fun c34 =>
((cipher_Decrypt (none : Option Cip) c34).bind fun r36 =>
((makeL 16 (0 : UInt8)).bind fun c38 =>
((cipher_New false c38).bind fun r40 =>
(if r32.2 = 1 then
(if r36.2 = 1 then
(if r40.2 = 1 then
((cipher_Rounds (none : Option Cip)).bind fun r45 => some (decide (r45 = 0)))
else some false)
else some false)
else some false)))))))
else some false)))))))))
else
(if (!(((decide ((a0k.length : Int) = 32))) == ((decide (r14.2 = 0))))) = true then some false
else
(if (a0k.length : Int) = 32 then
((makeL 16 (0 : UInt8)).bind fun c115 =>
((cipher_New r12 c115).bind fun r117 =>
((cipher_Encrypt r117.1 a1b).bind fun r119 =>
((cipher_Decrypt r117.1 a1b).bind fun r121 =>
(if (!(((decide ((a1b.length : Int) = 16))) == ((decide (r119.2 = 0))))) = true then some false
else
(if (!(((decide ((a1b.length : Int) = 16))) == ((decide (r121.2 = 0))))) = true then some false
else
(if (a1b.length : Int) = 16 then
((makeL 16 (0 : UInt8)).bind fun c144 =>
((cipher_Encrypt (none : Option Cip) c144).bind fun r146 =>
((makeL 16 (0 : UInt8)).bind fun c148 =>
((cipher_Decrypt (none : Option Cip) c148).bind fun r150 =>
((makeL 16 (0 : UInt8)).bind fun c152 =>
((cipher_New false c152).bind fun r154 =>
(if r146.2 = 1 then
(if r150.2 = 1 then
(if r154.2 = 1 then
((cipher_Rounds (none : Option Cip)).bind fun r159 => some (decide (r159 = 0)))
else some false)
else some false)
else some false)))))))
else
(if (wI ((r119.1.length : Int) + (r121.1.length : Int))) = 0 then
((makeL 16 (0 : UInt8)).bind fun c127 =>
((cipher_Encrypt (none : Option Cip) c127).bind fun r129 =>
((makeL 16 (0 : UInt8)).bind fun c131 =>
((cipher_Decrypt (none : Option Cip) c131).bind fun r133 =>
((makeL 16 (0 : UInt8)).bind fun c135 =>
((cipher_New false c135).bind fun r137 =>
(if r129.2 = 1 then
(if r133.2 = 1 then
(if r137.2 = 1 then
((cipher_Rounds (none : Option Cip)).bind fun r142 => some (decide (r142 = 0)))
else some false)
else some false)
else some false)))))))
else some false))))))))
else
(if r14.2 = 3 then
(if (!r14.1.isNone) = true then some false
else
((makeL 16 (0 : UInt8)).bind fun c69 =>
((cipher_New r12 c69).bind fun r71 =>
((cipher_Encrypt r71.1 a1b).bind fun r73 =>
((cipher_Decrypt r71.1 a1b).bind fun r75 =>
(if (!(((decide ((a1b.length : Int) = 16))) == ((decide (r73.2 = 0))))) = true then some false
else
(if (!(((decide ((a1b.length : Int) = 16))) == ((decide (r75.2 = 0))))) = true then some false
else
(if (a1b.length : Int) = 16 then
((makeL 16 (0 : UInt8)).bind fun c98 =>
((cipher_Encrypt (none : Option Cip) c98).bind fun r100 =>
((makeL 16 (0 : UInt8)).bind fun c102 =>
((cipher_Decrypt (none : Option Cip) c102).bind fun r104 =>
((makeL 16 (0 : UInt8)).bind fun c106 =>
((cipher_New false c106).bind fun r108 =>
(if r100.2 = 1 then
(if r104.2 = 1 then
(if r108.2 = 1 then
((cipher_Rounds (none : Option Cip)).bind fun r113 => some (decide (r113 = 0)))
else some false)
else some false)
else some false)))))))
else
(if (wI ((r73.1.length : Int) + (r75.1.length : Int))) = 0 then
((makeL 16 (0 : UInt8)).bind fun c81 =>
((cipher_Encrypt (none : Option Cip) c81).bind fun r83 =>
((makeL 16 (0 : UInt8)).bind fun c85 =>
((cipher_Decrypt (none : Option Cip) c85).bind fun r87 =>
((makeL 16 (0 : UInt8)).bind fun c89 =>
((cipher_New false c89).bind fun r91 =>
(if r83.2 = 1 then
(if r87.2 = 1 then
(if r91.2 = 1 then
((cipher_Rounds (none : Option Cip)).bind fun r96 => some (decide (r96 = 0)))
else some false)
else some false)
else some false)))))))
else some false)))))))))
else some false))))))))))
set_option maxRecDepth 100000 in
set_option maxHeartbeats 8000000 in
theorem law05_CipherForms_calls (a0k : List UInt8) (a1b : List UInt8) (p0 : Value) (p1 : Value) (r : Bool) (w0 : World) (hp0 : By w0 [] p0 a0k) (hp1 : By w0 [] p1 a1b) (H : law05_CipherForms a0k a1b = some r) :
    Calls Try.prog 5 [p0, p1].toArray w0 (fun e w' => e = .returned (.bool r) ∧ Ext w0 w') := by
  have hE : Ext w0 w0 := Ext.refl w0
  unfold law05_CipherForms at H
  refine calls_W (n := 142) Try.func5 rfl rfl rfl ?_
  refine W_seq ?_
  refine W_reg (by kernel_rfl) ?_
  refine wla rfl rfl (q_assign (v := (.bool false)) rfl rfl) ?_
  refine wl_nil ?_
  refine W_th ?_
  refine W_seq ?_
  refine W_seq ?_
  refine W_reg (by kernel_rfl) ?_
  obtain ⟨r1, hr1, H⟩ := Option.bind_eq_some_iff.1 H
  refine wls rfl rfl (stp_call (vs := []) Try.func15 rfl rfl rfl (ar0 ) (law05_lives_calls   r1 _  hr1) ?_)
  rintro _ w1 ⟨rfl, x1⟩
  refine ⟨_, rfl, ?_⟩
  have e2 := hE.trans x1
  refine wla rfl rfl (q_not rfl rfl) ?_
  refine wlb rfl rfl (q_move (v := (.bool ((!r1)))) rfl rfl) (fun hb3 => ?_) (fun hb3 => ?_)
  · replace H := (if_pos hb3).symm.trans H
    refine wlk rfl rfl ?_
    refine wlk rfl rfl ?_
    refine wlk rfl rfl ?_
    refine wla rfl rfl (q_pick_t (v := (.bool true)) rfl rfl rfl) ?_
    refine wla rfl rfl (q_move (v := (.bool true)) rfl rfl) ?_
    refine wlk rfl rfl ?_
    refine wlk rfl rfl ?_
    refine wlk rfl rfl ?_
    refine wla rfl rfl (q_pick_t (v := (.bool true)) rfl rfl rfl) ?_
    refine wl_nil ?_
    refine W_th ?_
    refine W_cond true rfl rfl (fun _ => ?_) (fun hb => by cases hb)
    refine W_seq ?_
    refine W_reg (by kernel_rfl) ?_
    obtain ⟨r4, hr4, H⟩ := Option.bind_eq_some_iff.1 H
    refine wls rfl rfl (stp_call (vs := []) Try.func15 rfl rfl rfl (ar0 ) (law05_lives_calls   r4 _  hr4) ?_)
    rintro _ w4 ⟨rfl, x4⟩
    refine ⟨_, rfl, ?_⟩
    have e5 := e2.trans x4
    refine wla rfl rfl (q_assign (v := (.bool r4)) rfl rfl) ?_
    refine wl_nil ?_
    refine W_th ?_
    refine W_ret ?_
    refine th_r ?_
    obtain rfl := Option.some.inj H
    refine rt1 (.bool r4) rfl rfl rfl rfl ?_
    exact ⟨rfl, e5⟩
  · replace H := (if_neg (ne_true_of_eq_false hb3)).symm.trans H
    refine wla rfl rfl (q_move (v := p0) rfl rfl) ?_
    refine wla rfl rfl (q_len rfl T22.sl rfl (hp0.lift (Lift.ext e2 _))) ?_
    refine wla rfl rfl (q_gtI rfl rfl rfl) ?_
    refine wla rfl rfl (q_pick_f (v := (.bool ((decide (100 < (a0k.length : Int)))))) rfl rfl rfl) ?_
    refine wlb rfl rfl (q_move (v := (.bool ((decide (100 < (a0k.length : Int)))))) rfl rfl) (fun hb6 => ?_) (fun hb6 => ?_)
    · replace H := (if_pos (of_decide_eq_true hb6)).symm.trans H
      refine wlk rfl rfl ?_
      refine wlk rfl rfl ?_
      refine wlk rfl rfl ?_
      refine wla rfl rfl (q_pick_t (v := (.bool true)) rfl rfl rfl) ?_
      refine wl_nil ?_
      refine W_th ?_
      refine W_cond true rfl rfl (fun _ => ?_) (fun hb => by cases hb)
      refine W_seq ?_
      refine W_reg (by kernel_rfl) ?_
      obtain ⟨r7, hr7, H⟩ := Option.bind_eq_some_iff.1 H
      refine wls rfl rfl (stp_call (vs := []) Try.func15 rfl rfl rfl (ar0 ) (law05_lives_calls   r7 _  hr7) ?_)
      rintro _ w7 ⟨rfl, x7⟩
      refine ⟨_, rfl, ?_⟩
      have e8 := e2.trans x7
      refine wla rfl rfl (q_assign (v := (.bool r7)) rfl rfl) ?_
      refine wl_nil ?_
      refine W_th ?_
      refine W_ret ?_
      refine th_r ?_
      obtain rfl := Option.some.inj H
      refine rt1 (.bool r7) rfl rfl rfl rfl ?_
      exact ⟨rfl, e8⟩
    · replace H := (if_neg (of_decide_eq_false hb6)).symm.trans H
      refine wla rfl rfl (q_move (v := p1) rfl rfl) ?_
      refine wla rfl rfl (q_len rfl T22.sl rfl (hp1.lift (Lift.ext e2 _))) ?_
      refine wla rfl rfl (q_gtI rfl rfl rfl) ?_
      refine wla rfl rfl (q_pick_f (v := (.bool ((decide (100 < (a1b.length : Int)))))) rfl rfl rfl) ?_
      refine wl_nil ?_
      refine W_th ?_
      refine W_cond _ rfl rfl (fun hb9 => ?_) (fun hb9 => ?_)
      · replace H := (if_pos (of_decide_eq_true hb9)).symm.trans H
        refine W_seq ?_
        refine W_reg (by kernel_rfl) ?_
        obtain ⟨r10, hr10, H⟩ := Option.bind_eq_some_iff.1 H
        refine wls rfl rfl (stp_call (vs := []) Try.func15 rfl rfl rfl (ar0 ) (law05_lives_calls   r10 _  hr10) ?_)
        rintro _ w10 ⟨rfl, x10⟩
        refine ⟨_, rfl, ?_⟩
        have e11 := e2.trans x10
        refine wla rfl rfl (q_assign (v := (.bool r10)) rfl rfl) ?_
        refine wl_nil ?_
        refine W_th ?_
        refine W_ret ?_
        refine th_r ?_
        obtain rfl := Option.some.inj H
        refine rt1 (.bool r10) rfl rfl rfl rfl ?_
        exact ⟨rfl, e11⟩
      · replace H := (if_neg (of_decide_eq_false hb9)).symm.trans H
        refine W_skip ?_
        refine W_th ?_
        refine W_seq ?_
        refine W_reg (by kernel_rfl) ?_
        obtain ⟨r12, hr12, H⟩ := Option.bind_eq_some_iff.1 H
        refine wls rfl rfl (stp_call (vs := []) Try.func18 rfl rfl rfl (ar0 ) (field_New_calls   r12 _ [] (Old.nil _)  hr12) ?_)
        rintro _ w12 ⟨v12, rfl, x12, i12_0⟩
        refine ⟨_, rfl, ?_⟩
        have e13 := e2.trans x12
        refine wla rfl rfl (q_assign (v := v12) rfl rfl) ?_
        refine wl_nil ?_
        refine W_th ?_
        refine W_seq ?_
        refine W_reg (by kernel_rfl) ?_
        refine wla rfl rfl (q_move (v := v12) rfl rfl) ?_
        refine wla rfl rfl (q_move (v := p0) rfl rfl) ?_
        obtain ⟨r14, hr14, H⟩ := Option.bind_eq_some_iff.1 H
        refine wls rfl rfl (stp_call (vs := [v12, p0]) Try.func17 rfl rfl rfl (ar2 rfl rfl) (cipher_New_calls r12 a0k v12 p0 r14 _ [] (Old.nil _) i12_0 (hp0.lift (Lift.ext e13 _)) hr14) ?_)
        rintro _ w14 ⟨v14_0, rfl, x14, i14_0⟩
        refine ⟨_, rfl, ?_⟩
        replace i12_0 := i12_0.lift (Lift.ext x14 _)
        have e15 := e13.trans x14
        refine wla rfl rfl (q_move (v := (.tuple #[v14_0, (i64 r14.2)])) rfl rfl) ?_
        refine wla rfl rfl (q_extract rfl rfl rfl) ?_
        refine wla rfl rfl (q_extract rfl rfl rfl) ?_
        refine wla rfl rfl (q_assign (v := v14_0) rfl rfl) ?_
        refine wla rfl rfl (q_assign (v := (i64 r14.2)) rfl rfl) ?_
        refine wl_nil ?_
        refine W_th ?_
        refine W_seq ?_
        refine W_seq ?_
        refine W_reg (by kernel_rfl) ?_
        refine wla rfl rfl (q_move (v := p0) rfl rfl) ?_
        refine wla rfl rfl (q_len rfl T22.sl rfl (hp0.lift (Lift.ext e15 _))) ?_
        refine wla rfl rfl (q_eqI rfl rfl rfl) ?_
        refine wlb rfl rfl (q_move (v := (.bool ((decide ((a0k.length : Int) = 16))))) rfl rfl) (fun hb16 => ?_) (fun hb16 => ?_)
        · replace H := (if_pos (of_decide_eq_true hb16)).symm.trans H
          refine wlk rfl rfl ?_
          refine wlk rfl rfl ?_
          refine wlk rfl rfl ?_
          refine wla rfl rfl (q_pick_t (v := (.bool true)) rfl rfl rfl) ?_
          refine wla rfl rfl (q_assign (v := (.bool true)) rfl rfl) ?_
          refine wl_nil ?_
          refine W_th ?_
          refine W_seq ?_
          refine W_reg (by kernel_rfl) ?_
          refine wla rfl rfl (q_move (v := (.bool true)) rfl rfl) ?_
          refine wla rfl rfl (q_move (v := (i64 r14.2)) rfl rfl) ?_
          refine wla rfl rfl (q_eqI rfl rfl rfl) ?_
          refine wla rfl rfl (q_neB rfl (by kernel_rfl) rfl rfl) ?_
          refine wlb rfl rfl (q_move (v := (.bool ((!(true == ((decide (r14.2 = 0)))))))) rfl rfl) (fun hb17 => ?_) (fun hb17 => ?_)
          · replace H := (if_pos hb17).symm.trans H
            refine wlk rfl rfl ?_
            refine wlk rfl rfl ?_
            refine wlk rfl rfl ?_
            refine wlk rfl rfl ?_
            refine wlk rfl rfl ?_
            refine wlk rfl rfl ?_
            refine wlk rfl rfl ?_
            refine wlk rfl rfl ?_
            refine wlk rfl rfl ?_
            refine wlk rfl rfl ?_
            refine wla rfl rfl (q_pick_t (v := (.bool true)) rfl rfl rfl) ?_
            refine wl_nil ?_
            refine W_th ?_
            refine W_cond true rfl rfl (fun _ => ?_) (fun hb => by cases hb)
            refine W_seq ?_
            refine W_reg (by kernel_rfl) ?_
            refine wla rfl rfl (q_assign (v := (.bool false)) rfl rfl) ?_
            refine wl_nil ?_
            refine W_th ?_
            refine W_ret ?_
            refine th_r ?_
            obtain rfl := Option.some.inj H
            refine rt1 (.bool false) rfl rfl rfl rfl ?_
            exact ⟨rfl, e15⟩
          · replace H := (if_neg (ne_true_of_eq_false hb17)).symm.trans H
            refine wla rfl rfl (q_move (v := (.bool true)) rfl rfl) ?_
            refine wla rfl rfl (q_not rfl rfl) ?_
            refine wla rfl rfl (q_move (v := (.bool false)) rfl rfl) ?_
            refine wlk rfl rfl ?_
            refine wlk rfl rfl ?_
            refine wlk rfl rfl ?_
            refine wlk rfl rfl ?_
            refine wlk rfl rfl ?_
            refine wlk rfl rfl ?_
            refine wla rfl rfl (q_pick_f (v := (.bool false)) rfl rfl rfl) ?_
            refine wla rfl rfl (q_pick_f (v := (.bool false)) rfl rfl rfl) ?_
            refine wl_nil ?_
            refine W_th ?_
            refine W_cond false rfl rfl (fun hb => by cases hb) (fun _ => ?_)
            refine W_skip ?_
            refine W_th ?_
            refine W_seq ?_
            refine W_reg (by kernel_rfl) ?_
            refine wla rfl rfl (q_move (v := v12) rfl rfl) ?_
            obtain ⟨c18, hc18, H⟩ := Option.bind_eq_some_iff.1 H
            refine wls rfl rfl (stp_make (L := []) (R := (Sc u8)) rfl T22 rfl rfl hc18 (fun _ _ => rfl) ?_)
            intro v18 w18 o18 n18 g18 l18
            have x18 := grown_ext g18
            have i18 : By w18 [] v18 c18 := OwK.slk (Sc.stab _) _ o18 (fun k hk => (Old.nil _) k (n18 k hk)) (fun _ h => h.2)
            replace i12_0 := i12_0.lift (Lift.ext x18 _)
            replace i14_0 := i14_0.lift (Lift.ext x18 _)
            have e19 := e15.trans x18
            obtain ⟨r20, hr20, H⟩ := Option.bind_eq_some_iff.1 H
            refine wls rfl rfl (stp_call (vs := [v12, v18]) Try.func17 rfl rfl rfl (ar2 rfl rfl) (cipher_New_calls r12 c18 v12 v18 r20 _ [] (Old.nil _) i12_0 (i18.lift (Lift.sub (fun _ _ => trivial))) hr20) ?_)
            rintro _ w20 ⟨v20_0, rfl, x20, i20_0⟩
            refine ⟨_, rfl, ?_⟩
            replace i12_0 := i12_0.lift (Lift.ext x20 _)
            replace i14_0 := i14_0.lift (Lift.ext x20 _)
            replace i18 := i18.lift (Lift.ext x20 _)
            have e21 := e19.trans x20
            refine wla rfl rfl (q_move (v := (.tuple #[v20_0, (i64 r20.2)])) rfl rfl) ?_
            refine wla rfl rfl (q_extract rfl rfl rfl) ?_
            refine wla rfl rfl (q_extract rfl rfl rfl) ?_
            refine wla rfl rfl (q_assign (v := v20_0) rfl rfl) ?_
            refine wla rfl rfl (q_assign (v := (i64 r20.2)) rfl rfl) ?_
            refine wl_nil ?_
            refine W_th ?_
            refine W_seq ?_
            refine W_reg (by kernel_rfl) ?_
            refine wla rfl rfl (q_move (v := v20_0) rfl rfl) ?_
            refine wla rfl rfl (q_move (v := p1) rfl rfl) ?_
            obtain ⟨r22, hr22, H⟩ := Option.bind_eq_some_iff.1 H
            refine wls rfl rfl (stp_call (vs := [v20_0, p1]) Try.func19 rfl rfl rfl (ar2 rfl rfl) (cipher_Encrypt_calls r20.1 a1b v20_0 p1 r22 _ (i20_0.lift (Lift.sub (fun _ _ => trivial))) (hp1.lift (Lift.ext e21 _)) hr22) ?_)
            rintro _ w22 ⟨v22_0, rfl, x22, n22_0, o22_0⟩
            refine ⟨_, rfl, ?_⟩
            have i22_0 : By w22 [] v22_0 r22.1 := OwK.slk (Sc.stab _) _ (OwK.scal o22_0 (v22_0 :: [])) (fun k hk => (Old.nil _) k (n22_0 k hk)) (fun _ h => h.2)
            replace i12_0 := i12_0.lift (Lift.ext x22 _)
            replace i14_0 := i14_0.lift (Lift.ext x22 _)
            replace i18 := i18.lift (Lift.ext x22 _)
            replace i20_0 := i20_0.lift (Lift.ext x22 _)
            have e23 := e21.trans x22
            refine wla rfl rfl (q_move (v := (.tuple #[v22_0, (i64 r22.2)])) rfl rfl) ?_
            refine wla rfl rfl (q_extract rfl rfl rfl) ?_
            refine wla rfl rfl (q_extract rfl rfl rfl) ?_
            refine wla rfl rfl (q_assign (v := v22_0) rfl rfl) ?_
            refine wla rfl rfl (q_assign (v := (i64 r22.2)) rfl rfl) ?_
            refine wl_nil ?_
            refine W_th ?_
            refine W_seq ?_
            refine W_reg (by kernel_rfl) ?_
            refine wla rfl rfl (q_move (v := v20_0) rfl rfl) ?_
            refine wla rfl rfl (q_move (v := p1) rfl rfl) ?_
            obtain ⟨r24, hr24, H⟩ := Option.bind_eq_some_iff.1 H
            refine wls rfl rfl (stp_call (vs := [v20_0, p1]) Try.func20 rfl rfl rfl (ar2 rfl rfl) (cipher_Decrypt_calls r20.1 a1b v20_0 p1 r24 _ (i20_0.lift (Lift.sub (fun _ _ => trivial))) (hp1.lift (Lift.ext e23 _)) hr24) ?_)
            rintro _ w24 ⟨v24_0, rfl, x24, n24_0, o24_0⟩
            refine ⟨_, rfl, ?_⟩
            have i24_0 : By w24 [] v24_0 r24.1 := OwK.slk (Sc.stab _) _ (OwK.scal o24_0 (v24_0 :: [])) (fun k hk => (Old.nil _) k (n24_0 k hk)) (fun _ h => h.2)
            replace i12_0 := i12_0.lift (Lift.ext x24 _)
            replace i14_0 := i14_0.lift (Lift.ext x24 _)
            replace i18 := i18.lift (Lift.ext x24 _)
            replace i20_0 := i20_0.lift (Lift.ext x24 _)
            replace i22_0 := i22_0.lift (Lift.ext x24 _)
            have e25 := e23.trans x24
            refine wla rfl rfl (q_move (v := (.tuple #[v24_0, (i64 r24.2)])) rfl rfl) ?_
            refine wla rfl rfl (q_extract rfl rfl rfl) ?_
            refine wla rfl rfl (q_extract rfl rfl rfl) ?_
            refine wla rfl rfl (q_assign (v := v24_0) rfl rfl) ?_
            refine wla rfl rfl (q_assign (v := (i64 r24.2)) rfl rfl) ?_
            refine wl_nil ?_
            refine W_th ?_
            refine W_seq ?_
            refine W_seq ?_
            refine W_reg (by kernel_rfl) ?_
            refine wla rfl rfl (q_move (v := p1) rfl rfl) ?_
            refine wla rfl rfl (q_len rfl T22.sl rfl (hp1.lift (Lift.ext e25 _))) ?_
            refine wla rfl rfl (q_eqI rfl rfl rfl) ?_
            refine wla rfl rfl (q_assign (v := (.bool ((decide ((a1b.length : Int) = 16))))) rfl rfl) ?_
            refine wl_nil ?_
            refine W_th ?_
            refine W_seq ?_
            refine W_reg (by kernel_rfl) ?_
            refine wla rfl rfl (q_move (v := (.bool ((decide ((a1b.length : Int) = 16))))) rfl rfl) ?_
            refine wla rfl rfl (q_move (v := (i64 r22.2)) rfl rfl) ?_
            refine wla rfl rfl (q_eqI rfl rfl rfl) ?_
            refine wla rfl rfl (q_neB rfl (by kernel_rfl) rfl rfl) ?_
            refine wlb rfl rfl (q_move (v := (.bool ((!(((decide ((a1b.length : Int) = 16))) == ((decide (r22.2 = 0)))))))) rfl rfl) (fun hb26 => ?_) (fun hb26 => ?_)
            · replace H := (if_pos hb26).symm.trans H
              refine wlk rfl rfl ?_
              refine wlk rfl rfl ?_
              refine wlk rfl rfl ?_
              refine wlk rfl rfl ?_
              refine wla rfl rfl (q_pick_t (v := (.bool true)) rfl rfl rfl) ?_
              refine wla rfl rfl (q_move (v := (.bool true)) rfl rfl) ?_
              refine wlk rfl rfl ?_
              refine wlk rfl rfl ?_
              refine wlk rfl rfl ?_
              refine wlk rfl rfl ?_
              refine wlk rfl rfl ?_
              refine wlk rfl rfl ?_
              refine wlk rfl rfl ?_
              refine wlk rfl rfl ?_
              refine wlk rfl rfl ?_
              refine wlk rfl rfl ?_
              refine wla rfl rfl (q_pick_t (v := (.bool true)) rfl rfl rfl) ?_
              refine wl_nil ?_
              refine W_th ?_
              refine W_cond true rfl rfl (fun _ => ?_) (fun hb => by cases hb)
              refine W_seq ?_
              refine W_reg (by kernel_rfl) ?_
              refine wla rfl rfl (q_assign (v := (.bool false)) rfl rfl) ?_
              refine wl_nil ?_
              refine W_th ?_
              refine W_ret ?_
              refine th_r ?_
              obtain rfl := Option.some.inj H
              refine rt1 (.bool false) rfl rfl rfl rfl ?_
              exact ⟨rfl, e25⟩
            · replace H := (if_neg (ne_true_of_eq_false hb26)).symm.trans H
              refine wla rfl rfl (q_move (v := (.bool ((decide ((a1b.length : Int) = 16))))) rfl rfl) ?_
              refine wla rfl rfl (q_move (v := (i64 r24.2)) rfl rfl) ?_
              refine wla rfl rfl (q_eqI rfl rfl rfl) ?_
              refine wla rfl rfl (q_neB rfl (by kernel_rfl) rfl rfl) ?_
              refine wla rfl rfl (q_pick_f (v := (.bool ((!(((decide ((a1b.length : Int) = 16))) == ((decide (r24.2 = 0)))))))) rfl rfl rfl) ?_
              refine wlb rfl rfl (q_move (v := (.bool ((!(((decide ((a1b.length : Int) = 16))) == ((decide (r24.2 = 0)))))))) rfl rfl) (fun hb27 => ?_) (fun hb27 => ?_)
              · replace H := (if_pos hb27).symm.trans H
                refine wlk rfl rfl ?_
                refine wlk rfl rfl ?_
                refine wlk rfl rfl ?_
                refine wlk rfl rfl ?_
                refine wlk rfl rfl ?_
                refine wlk rfl rfl ?_
                refine wlk rfl rfl ?_
                refine wlk rfl rfl ?_
                refine wlk rfl rfl ?_
                refine wlk rfl rfl ?_
                refine wla rfl rfl (q_pick_t (v := (.bool true)) rfl rfl rfl) ?_
                refine wl_nil ?_
                refine W_th ?_
                refine W_cond true rfl rfl (fun _ => ?_) (fun hb => by cases hb)
                refine W_seq ?_
                refine W_reg (by kernel_rfl) ?_
                refine wla rfl rfl (q_assign (v := (.bool false)) rfl rfl) ?_
                refine wl_nil ?_
                refine W_th ?_
                refine W_ret ?_
                refine th_r ?_
                obtain rfl := Option.some.inj H
                refine rt1 (.bool false) rfl rfl rfl rfl ?_
                exact ⟨rfl, e25⟩
              · replace H := (if_neg (ne_true_of_eq_false hb27)).symm.trans H
                refine wla rfl rfl (q_move (v := (.bool ((decide ((a1b.length : Int) = 16))))) rfl rfl) ?_
                refine wla rfl rfl (q_not rfl rfl) ?_
                refine wlb rfl rfl (q_move (v := (.bool ((!decide ((a1b.length : Int) = 16))))) rfl rfl) (fun hb28 => ?_) (fun hb28 => ?_)
                · replace H := (if_neg (ndec_t hb28)).symm.trans H
                  refine wla rfl rfl (q_move (v := v22_0) rfl rfl) ?_
                  refine wla rfl rfl (q_len rfl T22.sl rfl i22_0) ?_
                  refine wla rfl rfl (q_move (v := v24_0) rfl rfl) ?_
                  refine wla rfl rfl (q_len rfl T22.sl rfl i24_0) ?_
                  refine wla rfl rfl (q_addI rfl rfl rfl) ?_
                  refine wla rfl rfl (q_neI rfl rfl rfl) ?_
                  refine wla rfl rfl (q_pick_t (v := (.bool ((!decide ((wI ((r22.1.length : Int) + (r24.1.length : Int))) = 0))))) rfl rfl rfl) ?_
                  refine wla rfl rfl (q_pick_f (v := (.bool ((!decide ((wI ((r22.1.length : Int) + (r24.1.length : Int))) = 0))))) rfl rfl rfl) ?_
                  refine wl_nil ?_
                  refine W_th ?_
                  refine W_cond _ rfl rfl (fun hb29 => ?_) (fun hb29 => ?_)
                  · replace H := (if_neg (ndec_t hb29)).symm.trans H
                    refine W_seq ?_
                    refine W_reg (by kernel_rfl) ?_
                    refine wla rfl rfl (q_assign (v := (.bool false)) rfl rfl) ?_
                    refine wl_nil ?_
                    refine W_th ?_
                    refine W_ret ?_
                    refine th_r ?_
                    obtain rfl := Option.some.inj H
                    refine rt1 (.bool false) rfl rfl rfl rfl ?_
                    exact ⟨rfl, e25⟩
                  · replace H := (if_pos (ndec_f hb29)).symm.trans H
                    refine W_skip ?_
                    refine W_th ?_
                    refine W_seq ?_
                    refine W_reg (by kernel_rfl) ?_
                    refine wla rfl rfl (q_assign (v := (.pointer none)) rfl rfl) ?_
                    refine wl_nil ?_
                    refine W_th ?_
                    refine W_seq ?_
                    refine W_reg (by kernel_rfl) ?_
                    refine wla rfl rfl (q_move (v := (.pointer none)) rfl rfl) ?_
                    obtain ⟨c30, hc30, H⟩ := Option.bind_eq_some_iff.1 H
                    refine wls rfl rfl (stp_make (L := []) (R := (Sc u8)) rfl T22 rfl rfl hc30 (fun _ _ => rfl) ?_)
                    intro v30 w30 o30 n30 g30 l30
                    have x30 := grown_ext g30
                    have i30 : By w30 [] v30 c30 := OwK.slk (Sc.stab _) _ o30 (fun k hk => (Old.nil _) k (n30 k hk)) (fun _ h => h.2)
                    replace i12_0 := i12_0.lift (Lift.ext x30 _)
                    replace i14_0 := i14_0.lift (Lift.ext x30 _)
                    replace i18 := i18.lift (Lift.ext x30 _)
                    replace i20_0 := i20_0.lift (Lift.ext x30 _)
                    replace i22_0 := i22_0.lift (Lift.ext x30 _)
                    replace i24_0 := i24_0.lift (Lift.ext x30 _)
                    have e31 := e25.trans x30
                    obtain ⟨r32, hr32, H⟩ := Option.bind_eq_some_iff.1 H
                    refine wls rfl rfl (stp_call (vs := [(.pointer none), v30]) Try.func19 rfl rfl rfl (ar2 rfl rfl) (cipher_Encrypt_calls (none : Option Cip) c30 (.pointer none) v30 r32 _ (Ci.nil _ _) (i30.lift (Lift.sub (fun _ _ => trivial))) hr32) ?_)
                    rintro _ w32 ⟨v32_0, rfl, x32, n32_0, o32_0⟩
                    refine ⟨_, rfl, ?_⟩
                    have i32_0 : By w32 [] v32_0 r32.1 := OwK.slk (Sc.stab _) _ (OwK.scal o32_0 (v32_0 :: [])) (fun k hk => (Old.nil _) k (n32_0 k hk)) (fun _ h => h.2)
                    replace i12_0 := i12_0.lift (Lift.ext x32 _)
                    replace i14_0 := i14_0.lift (Lift.ext x32 _)
                    replace i18 := i18.lift (Lift.ext x32 _)
                    replace i20_0 := i20_0.lift (Lift.ext x32 _)
                    replace i22_0 := i22_0.lift (Lift.ext x32 _)
                    replace i24_0 := i24_0.lift (Lift.ext x32 _)
                    replace i30 := i30.lift (Lift.ext x32 _)
                    have e33 := e31.trans x32
                    refine wla rfl rfl (q_move (v := (.tuple #[v32_0, (i64 r32.2)])) rfl rfl) ?_
                    refine wla rfl rfl (q_extract rfl rfl rfl) ?_
                    refine wla rfl rfl (q_extract rfl rfl rfl) ?_
                    refine wla rfl rfl (q_assign (v := v32_0) rfl rfl) ?_
                    refine wla rfl rfl (q_assign (v := (i64 r32.2)) rfl rfl) ?_
                    refine wl_nil ?_
                    refine W_th ?_
                    refine W_seq ?_
                    refine W_reg (by kernel_rfl) ?_
                    refine wla rfl rfl (q_move (v := (.pointer none)) rfl rfl) ?_
                    obtain ⟨c34, hc34, H⟩ := Option.bind_eq_some_iff.1 H
                    refine wls rfl rfl (stp_make (L := []) (R := (Sc u8)) rfl T22 rfl rfl hc34 (fun _ _ => rfl) ?_)
                    intro v34 w34 o34 n34 g34 l34
                    have x34 := grown_ext g34
                    have i34 : By w34 [] v34 c34 := OwK.slk (Sc.stab _) _ o34 (fun k hk => (Old.nil _) k (n34 k hk)) (fun _ h => h.2)
                    replace i12_0 := i12_0.lift (Lift.ext x34 _)
                    replace i14_0 := i14_0.lift (Lift.ext x34 _)
                    replace i18 := i18.lift (Lift.ext x34 _)
                    replace i20_0 := i20_0.lift (Lift.ext x34 _)
                    replace i22_0 := i22_0.lift (Lift.ext x34 _)
                    replace i24_0 := i24_0.lift (Lift.ext x34 _)
                    replace i30 := i30.lift (Lift.ext x34 _)
                    replace i32_0 := i32_0.lift (Lift.ext x34 _)
                    have e35 := e33.trans x34
                    obtain ⟨r36, hr36, H⟩ := Option.bind_eq_some_iff.1 H
                    refine wls rfl rfl (stp_call (vs := [(.pointer none), v34]) Try.func20 rfl rfl rfl (ar2 rfl rfl) (cipher_Decrypt_calls (none : Option Cip) c34 (.pointer none) v34 r36 _ (Ci.nil _ _) (i34.lift (Lift.sub (fun _ _ => trivial))) hr36) ?_)
                    rintro _ w36 ⟨v36_0, rfl, x36, n36_0, o36_0⟩
                    refine ⟨_, rfl, ?_⟩
                    have i36_0 : By w36 [] v36_0 r36.1 := OwK.slk (Sc.stab _) _ (OwK.scal o36_0 (v36_0 :: [])) (fun k hk => (Old.nil _) k (n36_0 k hk)) (fun _ h => h.2)
                    replace i12_0 := i12_0.lift (Lift.ext x36 _)
                    replace i14_0 := i14_0.lift (Lift.ext x36 _)
                    replace i18 := i18.lift (Lift.ext x36 _)
                    replace i20_0 := i20_0.lift (Lift.ext x36 _)
                    replace i22_0 := i22_0.lift (Lift.ext x36 _)
                    replace i24_0 := i24_0.lift (Lift.ext x36 _)
                    replace i30 := i30.lift (Lift.ext x36 _)
                    replace i32_0 := i32_0.lift (Lift.ext x36 _)
                    replace i34 := i34.lift (Lift.ext x36 _)
                    have e37 := e35.trans x36
                    refine wla rfl rfl (q_move (v := (.tuple #[v36_0, (i64 r36.2)])) rfl rfl) ?_
                    refine wla rfl rfl (q_extract rfl rfl rfl) ?_
                    refine wla rfl rfl (q_extract rfl rfl rfl) ?_
                    refine wla rfl rfl (q_assign (v := v36_0) rfl rfl) ?_
                    refine wla rfl rfl (q_assign (v := (i64 r36.2)) rfl rfl) ?_
                    refine wl_nil ?_
                    refine W_th ?_
                    refine W_seq ?_
                    refine W_reg (by kernel_rfl) ?_
                    obtain ⟨c38, hc38, H⟩ := Option.bind_eq_some_iff.1 H
                    refine wls rfl rfl (stp_make (L := []) (R := (Sc u8)) rfl T22 rfl rfl hc38 (fun _ _ => rfl) ?_)
                    intro v38 w38 o38 n38 g38 l38
                    have x38 := grown_ext g38
                    have i38 : By w38 [] v38 c38 := OwK.slk (Sc.stab _) _ o38 (fun k hk => (Old.nil _) k (n38 k hk)) (fun _ h => h.2)
                    replace i12_0 := i12_0.lift (Lift.ext x38 _)
                    replace i14_0 := i14_0.lift (Lift.ext x38 _)
                    replace i18 := i18.lift (Lift.ext x38 _)
                    replace i20_0 := i20_0.lift (Lift.ext x38 _)
                    replace i22_0 := i22_0.lift (Lift.ext x38 _)
                    replace i24_0 := i24_0.lift (Lift.ext x38 _)
                    replace i30 := i30.lift (Lift.ext x38 _)
                    replace i32_0 := i32_0.lift (Lift.ext x38 _)
                    replace i34 := i34.lift (Lift.ext x38 _)
                    replace i36_0 := i36_0.lift (Lift.ext x38 _)
                    have e39 := e37.trans x38
                    obtain ⟨r40, hr40, H⟩ := Option.bind_eq_some_iff.1 H
                    refine wls rfl rfl (stp_call (vs := [(.pointer none), v38]) Try.func17 rfl rfl rfl (ar2 rfl rfl) (cipher_New_calls false c38 (.pointer none) v38 r40 _ [] (Old.nil _) (Fd.nil _ _) (i38.lift (Lift.sub (fun _ _ => trivial))) hr40) ?_)
                    rintro _ w40 ⟨v40_0, rfl, x40, i40_0⟩
                    refine ⟨_, rfl, ?_⟩
                    replace i12_0 := i12_0.lift (Lift.ext x40 _)
                    replace i14_0 := i14_0.lift (Lift.ext x40 _)
                    replace i18 := i18.lift (Lift.ext x40 _)
                    replace i20_0 := i20_0.lift (Lift.ext x40 _)
                    replace i22_0 := i22_0.lift (Lift.ext x40 _)
                    replace i24_0 := i24_0.lift (Lift.ext x40 _)
                    replace i30 := i30.lift (Lift.ext x40 _)
                    replace i32_0 := i32_0.lift (Lift.ext x40 _)
                    replace i34 := i34.lift (Lift.ext x40 _)
                    replace i36_0 := i36_0.lift (Lift.ext x40 _)
                    replace i38 := i38.lift (Lift.ext x40 _)
                    have e41 := e39.trans x40
                    refine wla rfl rfl (q_move (v := (.tuple #[v40_0, (i64 r40.2)])) rfl rfl) ?_
                    refine wla rfl rfl (q_extract rfl rfl rfl) ?_
                    refine wla rfl rfl (q_extract rfl rfl rfl) ?_
                    refine wla rfl rfl (q_assign (v := v40_0) rfl rfl) ?_
                    refine wla rfl rfl (q_assign (v := (i64 r40.2)) rfl rfl) ?_
                    refine wl_nil ?_
                    refine W_th ?_
                    refine W_seq ?_
                    refine W_reg (by kernel_rfl) ?_
                    refine wla rfl rfl (q_move (v := (i64 r32.2)) rfl rfl) ?_
                    refine wla rfl rfl (q_eqI rfl rfl rfl) ?_
                    refine wlb rfl rfl (q_move (v := (.bool ((decide (r32.2 = 1))))) rfl rfl) (fun hb42 => ?_) (fun hb42 => ?_)
                    · replace H := (if_pos (of_decide_eq_true hb42)).symm.trans H
                      refine wla rfl rfl (q_move (v := (i64 r36.2)) rfl rfl) ?_
                      refine wla rfl rfl (q_eqI rfl rfl rfl) ?_
                      refine wla rfl rfl (q_pick_t (v := (.bool ((decide (r36.2 = 1))))) rfl rfl rfl) ?_
                      refine wlb rfl rfl (q_move (v := (.bool ((decide (r36.2 = 1))))) rfl rfl) (fun hb43 => ?_) (fun hb43 => ?_)
                      · replace H := (if_pos (of_decide_eq_true hb43)).symm.trans H
                        refine wla rfl rfl (q_move (v := (i64 r40.2)) rfl rfl) ?_
                        refine wla rfl rfl (q_eqI rfl rfl rfl) ?_
                        refine wla rfl rfl (q_pick_t (v := (.bool ((decide (r40.2 = 1))))) rfl rfl rfl) ?_
                        refine wlb rfl rfl (q_move (v := (.bool ((decide (r40.2 = 1))))) rfl rfl) (fun hb44 => ?_) (fun hb44 => ?_)
                        · replace H := (if_pos (of_decide_eq_true hb44)).symm.trans H
                          refine wla rfl rfl (q_move (v := (.pointer none)) rfl rfl) ?_
                          obtain ⟨r45, hr45, H⟩ := Option.bind_eq_some_iff.1 H
                          refine wls rfl rfl (stp_call (vs := [(.pointer none)]) Try.func22 rfl rfl rfl (ar1 rfl) (cipher_Rounds_calls (none : Option Cip) (.pointer none) r45 _ (Ci.nil _ _) hr45) ?_)
                          rintro _ w45 ⟨rfl, x45⟩
                          refine ⟨_, rfl, ?_⟩
                          replace i12_0 := i12_0.lift (Lift.ext x45 _)
                          replace i14_0 := i14_0.lift (Lift.ext x45 _)
                          replace i18 := i18.lift (Lift.ext x45 _)
                          replace i20_0 := i20_0.lift (Lift.ext x45 _)
                          replace i22_0 := i22_0.lift (Lift.ext x45 _)
                          replace i24_0 := i24_0.lift (Lift.ext x45 _)
                          replace i30 := i30.lift (Lift.ext x45 _)
                          replace i32_0 := i32_0.lift (Lift.ext x45 _)
                          replace i34 := i34.lift (Lift.ext x45 _)
                          replace i36_0 := i36_0.lift (Lift.ext x45 _)
                          replace i38 := i38.lift (Lift.ext x45 _)
                          replace i40_0 := i40_0.lift (Lift.ext x45 _)
                          have e46 := e41.trans x45
                          refine wla rfl rfl (q_eqI rfl rfl rfl) ?_
                          refine wla rfl rfl (q_pick_t (v := (.bool ((decide (r45 = 0))))) rfl rfl rfl) ?_
                          refine wla rfl rfl (q_assign (v := (.bool ((decide (r45 = 0))))) rfl rfl) ?_
                          refine wl_nil ?_
                          refine W_th ?_
                          refine W_ret ?_
                          obtain rfl := Option.some.inj H
                          refine rt1 (.bool ((decide (r45 = 0)))) rfl rfl rfl rfl ?_
                          exact ⟨rfl, e46⟩
                        · replace H := (if_neg (of_decide_eq_false hb44)).symm.trans H
                          refine wlk rfl rfl ?_
                          refine wlk rfl rfl ?_
                          refine wlk rfl rfl ?_
                          refine wla rfl rfl (q_pick_f (v := (.bool false)) rfl rfl rfl) ?_
                          refine wla rfl rfl (q_assign (v := (.bool false)) rfl rfl) ?_
                          refine wl_nil ?_
                          refine W_th ?_
                          refine W_ret ?_
                          obtain rfl := Option.some.inj H
                          refine rt1 (.bool false) rfl rfl rfl rfl ?_
                          exact ⟨rfl, e41⟩
                      · replace H := (if_neg (of_decide_eq_false hb43)).symm.trans H
                        refine wlk rfl rfl ?_
                        refine wlk rfl rfl ?_
                        refine wla rfl rfl (q_pick_f (v := (.bool false)) rfl rfl rfl) ?_
                        refine wla rfl rfl (q_move (v := (.bool false)) rfl rfl) ?_
                        refine wlk rfl rfl ?_
                        refine wlk rfl rfl ?_
                        refine wlk rfl rfl ?_
                        refine wla rfl rfl (q_pick_f (v := (.bool false)) rfl rfl rfl) ?_
                        refine wla rfl rfl (q_assign (v := (.bool false)) rfl rfl) ?_
                        refine wl_nil ?_
                        refine W_th ?_
                        refine W_ret ?_
                        obtain rfl := Option.some.inj H
                        refine rt1 (.bool false) rfl rfl rfl rfl ?_
                        exact ⟨rfl, e41⟩
                    · replace H := (if_neg (of_decide_eq_false hb42)).symm.trans H
                      refine wlk rfl rfl ?_
                      refine wlk rfl rfl ?_
                      refine wla rfl rfl (q_pick_f (v := (.bool false)) rfl rfl rfl) ?_
                      refine wla rfl rfl (q_move (v := (.bool false)) rfl rfl) ?_
                      refine wlk rfl rfl ?_
                      refine wlk rfl rfl ?_
                      refine wla rfl rfl (q_pick_f (v := (.bool false)) rfl rfl rfl) ?_
                      refine wla rfl rfl (q_move (v := (.bool false)) rfl rfl) ?_
                      refine wlk rfl rfl ?_
                      refine wlk rfl rfl ?_
                      refine wlk rfl rfl ?_
                      refine wla rfl rfl (q_pick_f (v := (.bool false)) rfl rfl rfl) ?_
                      refine wla rfl rfl (q_assign (v := (.bool false)) rfl rfl) ?_
                      refine wl_nil ?_
                      refine W_th ?_
                      refine W_ret ?_
                      obtain rfl := Option.some.inj H
                      refine rt1 (.bool false) rfl rfl rfl rfl ?_
                      exact ⟨rfl, e41⟩
                · replace H := (if_pos (ndec_f hb28)).symm.trans H
                  refine wlk rfl rfl ?_
                  refine wlk rfl rfl ?_
                  refine wlk rfl rfl ?_
                  refine wlk rfl rfl ?_
                  refine wlk rfl rfl ?_
                  refine wlk rfl rfl ?_
                  refine wla rfl rfl (q_pick_f (v := (.bool false)) rfl rfl rfl) ?_
                  refine wla rfl rfl (q_pick_f (v := (.bool false)) rfl rfl rfl) ?_
                  refine wl_nil ?_
                  refine W_th ?_
                  refine W_cond false rfl rfl (fun hb => by cases hb) (fun _ => ?_)
                  refine W_skip ?_
                  refine W_th ?_
                  refine W_seq ?_
                  refine W_reg (by kernel_rfl) ?_
                  refine wla rfl rfl (q_assign (v := (.pointer none)) rfl rfl) ?_
                  refine wl_nil ?_
                  refine W_th ?_
                  refine W_seq ?_
                  refine W_reg (by kernel_rfl) ?_
                  refine wla rfl rfl (q_move (v := (.pointer none)) rfl rfl) ?_
                  obtain ⟨c47, hc47, H⟩ := Option.bind_eq_some_iff.1 H
                  refine wls rfl rfl (stp_make (L := []) (R := (Sc u8)) rfl T22 rfl rfl hc47 (fun _ _ => rfl) ?_)
                  intro v47 w47 o47 n47 g47 l47
                  have x47 := grown_ext g47
                  have i47 : By w47 [] v47 c47 := OwK.slk (Sc.stab _) _ o47 (fun k hk => (Old.nil _) k (n47 k hk)) (fun _ h => h.2)
                  replace i12_0 := i12_0.lift (Lift.ext x47 _)
                  replace i14_0 := i14_0.lift (Lift.ext x47 _)
                  replace i18 := i18.lift (Lift.ext x47 _)
                  replace i20_0 := i20_0.lift (Lift.ext x47 _)
                  replace i22_0 := i22_0.lift (Lift.ext x47 _)
                  replace i24_0 := i24_0.lift (Lift.ext x47 _)
                  have e48 := e25.trans x47
                  obtain ⟨r49, hr49, H⟩ := Option.bind_eq_some_iff.1 H
                  refine wls rfl rfl (stp_call (vs := [(.pointer none), v47]) Try.func19 rfl rfl rfl (ar2 rfl rfl) (cipher_Encrypt_calls (none : Option Cip) c47 (.pointer none) v47 r49 _ (Ci.nil _ _) (i47.lift (Lift.sub (fun _ _ => trivial))) hr49) ?_)
                  rintro _ w49 ⟨v49_0, rfl, x49, n49_0, o49_0⟩
                  refine ⟨_, rfl, ?_⟩
                  have i49_0 : By w49 [] v49_0 r49.1 := OwK.slk (Sc.stab _) _ (OwK.scal o49_0 (v49_0 :: [])) (fun k hk => (Old.nil _) k (n49_0 k hk)) (fun _ h => h.2)
                  replace i12_0 := i12_0.lift (Lift.ext x49 _)
                  replace i14_0 := i14_0.lift (Lift.ext x49 _)
                  replace i18 := i18.lift (Lift.ext x49 _)
                  replace i20_0 := i20_0.lift (Lift.ext x49 _)
                  replace i22_0 := i22_0.lift (Lift.ext x49 _)
                  replace i24_0 := i24_0.lift (Lift.ext x49 _)
                  replace i47 := i47.lift (Lift.ext x49 _)
                  have e50 := e48.trans x49
                  refine wla rfl rfl (q_move (v := (.tuple #[v49_0, (i64 r49.2)])) rfl rfl) ?_
                  refine wla rfl rfl (q_extract rfl rfl rfl) ?_
                  refine wla rfl rfl (q_extract rfl rfl rfl) ?_
                  refine wla rfl rfl (q_assign (v := v49_0) rfl rfl) ?_
                  refine wla rfl rfl (q_assign (v := (i64 r49.2)) rfl rfl) ?_
                  refine wl_nil ?_
                  refine W_th ?_
                  refine W_seq ?_
                  refine W_reg (by kernel_rfl) ?_
                  refine wla rfl rfl (q_move (v := (.pointer none)) rfl rfl) ?_
                  obtain ⟨c51, hc51, H⟩ := Option.bind_eq_some_iff.1 H
                  refine wls rfl rfl (stp_make (L := []) (R := (Sc u8)) rfl T22 rfl rfl hc51 (fun _ _ => rfl) ?_)
                  intro v51 w51 o51 n51 g51 l51
                  have x51 := grown_ext g51
                  have i51 : By w51 [] v51 c51 := OwK.slk (Sc.stab _) _ o51 (fun k hk => (Old.nil _) k (n51 k hk)) (fun _ h => h.2)
                  replace i12_0 := i12_0.lift (Lift.ext x51 _)
                  replace i14_0 := i14_0.lift (Lift.ext x51 _)
                  replace i18 := i18.lift (Lift.ext x51 _)
                  replace i20_0 := i20_0.lift (Lift.ext x51 _)
                  replace i22_0 := i22_0.lift (Lift.ext x51 _)
                  replace i24_0 := i24_0.lift (Lift.ext x51 _)
                  replace i47 := i47.lift (Lift.ext x51 _)
                  replace i49_0 := i49_0.lift (Lift.ext x51 _)
                  have e52 := e50.trans x51
                  obtain ⟨r53, hr53, H⟩ := Option.bind_eq_some_iff.1 H
                  refine wls rfl rfl (stp_call (vs := [(.pointer none), v51]) Try.func20 rfl rfl rfl (ar2 rfl rfl) (cipher_Decrypt_calls (none : Option Cip) c51 (.pointer none) v51 r53 _ (Ci.nil _ _) (i51.lift (Lift.sub (fun _ _ => trivial))) hr53) ?_)
                  rintro _ w53 ⟨v53_0, rfl, x53, n53_0, o53_0⟩
                  refine ⟨_, rfl, ?_⟩
                  have i53_0 : By w53 [] v53_0 r53.1 := OwK.slk (Sc.stab _) _ (OwK.scal o53_0 (v53_0 :: [])) (fun k hk => (Old.nil _) k (n53_0 k hk)) (fun _ h => h.2)
                  replace i12_0 := i12_0.lift (Lift.ext x53 _)
                  replace i14_0 := i14_0.lift (Lift.ext x53 _)
                  replace i18 := i18.lift (Lift.ext x53 _)
                  replace i20_0 := i20_0.lift (Lift.ext x53 _)
                  replace i22_0 := i22_0.lift (Lift.ext x53 _)
                  replace i24_0 := i24_0.lift (Lift.ext x53 _)
                  replace i47 := i47.lift (Lift.ext x53 _)
                  replace i49_0 := i49_0.lift (Lift.ext x53 _)
                  replace i51 := i51.lift (Lift.ext x53 _)
                  have e54 := e52.trans x53
                  refine wla rfl rfl (q_move (v := (.tuple #[v53_0, (i64 r53.2)])) rfl rfl) ?_
                  refine wla rfl rfl (q_extract rfl rfl rfl) ?_
                  refine wla rfl rfl (q_extract rfl rfl rfl) ?_
                  refine wla rfl rfl (q_assign (v := v53_0) rfl rfl) ?_
                  refine wla rfl rfl (q_assign (v := (i64 r53.2)) rfl rfl) ?_
                  refine wl_nil ?_
                  refine W_th ?_
                  refine W_seq ?_
                  refine W_reg (by kernel_rfl) ?_
                  obtain ⟨c55, hc55, H⟩ := Option.bind_eq_some_iff.1 H
                  refine wls rfl rfl (stp_make (L := []) (R := (Sc u8)) rfl T22 rfl rfl hc55 (fun _ _ => rfl) ?_)
                  intro v55 w55 o55 n55 g55 l55
                  have x55 := grown_ext g55
                  have i55 : By w55 [] v55 c55 := OwK.slk (Sc.stab _) _ o55 (fun k hk => (Old.nil _) k (n55 k hk)) (fun _ h => h.2)
                  replace i12_0 := i12_0.lift (Lift.ext x55 _)
                  replace i14_0 := i14_0.lift (Lift.ext x55 _)
                  replace i18 := i18.lift (Lift.ext x55 _)
                  replace i20_0 := i20_0.lift (Lift.ext x55 _)
                  replace i22_0 := i22_0.lift (Lift.ext x55 _)
                  replace i24_0 := i24_0.lift (Lift.ext x55 _)
                  replace i47 := i47.lift (Lift.ext x55 _)
                  replace i49_0 := i49_0.lift (Lift.ext x55 _)
                  replace i51 := i51.lift (Lift.ext x55 _)
                  replace i53_0 := i53_0.lift (Lift.ext x55 _)
                  have e56 := e54.trans x55
                  obtain ⟨r57, hr57, H⟩ := Option.bind_eq_some_iff.1 H
                  refine wls rfl rfl (stp_call (vs := [(.pointer none), v55]) Try.func17 rfl rfl rfl (ar2 rfl rfl) (cipher_New_calls false c55 (.pointer none) v55 r57 _ [] (Old.nil _) (Fd.nil _ _) (i55.lift (Lift.sub (fun _ _ => trivial))) hr57) ?_)
                  rintro _ w57 ⟨v57_0, rfl, x57, i57_0⟩
                  refine ⟨_, rfl, ?_⟩
                  replace i12_0 := i12_0.lift (Lift.ext x57 _)
                  replace i14_0 := i14_0.lift (Lift.ext x57 _)
                  replace i18 := i18.lift (Lift.ext x57 _)
                  replace i20_0 := i20_0.lift (Lift.ext x57 _)
                  replace i22_0 := i22_0.lift (Lift.ext x57 _)
                  replace i24_0 := i24_0.lift (Lift.ext x57 _)
                  replace i47 := i47.lift (Lift.ext x57 _)
                  replace i49_0 := i49_0.lift (Lift.ext x57 _)
                  replace i51 := i51.lift (Lift.ext x57 _)
                  replace i53_0 := i53_0.lift (Lift.ext x57 _)
                  replace i55 := i55.lift (Lift.ext x57 _)
                  have e58 := e56.trans x57
                  refine wla rfl rfl (q_move (v := (.tuple #[v57_0, (i64 r57.2)])) rfl rfl) ?_
                  refine wla rfl rfl (q_extract rfl rfl rfl) ?_
                  refine wla rfl rfl (q_extract rfl rfl rfl) ?_
                  refine wla rfl rfl (q_assign (v := v57_0) rfl rfl) ?_
                  refine wla rfl rfl (q_assign (v := (i64 r57.2)) rfl rfl) ?_
                  refine wl_nil ?_
                  refine W_th ?_
                  refine W_seq ?_
                  refine W_reg (by kernel_rfl) ?_
                  refine wla rfl rfl (q_move (v := (i64 r49.2)) rfl rfl) ?_
                  refine wla rfl rfl (q_eqI rfl rfl rfl) ?_
                  refine wlb rfl rfl (q_move (v := (.bool ((decide (r49.2 = 1))))) rfl rfl) (fun hb59 => ?_) (fun hb59 => ?_)
                  · replace H := (if_pos (of_decide_eq_true hb59)).symm.trans H
                    refine wla rfl rfl (q_move (v := (i64 r53.2)) rfl rfl) ?_
                    refine wla rfl rfl (q_eqI rfl rfl rfl) ?_
                    refine wla rfl rfl (q_pick_t (v := (.bool ((decide (r53.2 = 1))))) rfl rfl rfl) ?_
                    refine wlb rfl rfl (q_move (v := (.bool ((decide (r53.2 = 1))))) rfl rfl) (fun hb60 => ?_) (fun hb60 => ?_)
                    · replace H := (if_pos (of_decide_eq_true hb60)).symm.trans H
                      refine wla rfl rfl (q_move (v := (i64 r57.2)) rfl rfl) ?_
                      refine wla rfl rfl (q_eqI rfl rfl rfl) ?_
                      refine wla rfl rfl (q_pick_t (v := (.bool ((decide (r57.2 = 1))))) rfl rfl rfl) ?_
                      refine wlb rfl rfl (q_move (v := (.bool ((decide (r57.2 = 1))))) rfl rfl) (fun hb61 => ?_) (fun hb61 => ?_)
                      · replace H := (if_pos (of_decide_eq_true hb61)).symm.trans H
                        refine wla rfl rfl (q_move (v := (.pointer none)) rfl rfl) ?_
                        obtain ⟨r62, hr62, H⟩ := Option.bind_eq_some_iff.1 H
                        refine wls rfl rfl (stp_call (vs := [(.pointer none)]) Try.func22 rfl rfl rfl (ar1 rfl) (cipher_Rounds_calls (none : Option Cip) (.pointer none) r62 _ (Ci.nil _ _) hr62) ?_)
                        rintro _ w62 ⟨rfl, x62⟩
                        refine ⟨_, rfl, ?_⟩
                        replace i12_0 := i12_0.lift (Lift.ext x62 _)
                        replace i14_0 := i14_0.lift (Lift.ext x62 _)
                        replace i18 := i18.lift (Lift.ext x62 _)
                        replace i20_0 := i20_0.lift (Lift.ext x62 _)
                        replace i22_0 := i22_0.lift (Lift.ext x62 _)
                        replace i24_0 := i24_0.lift (Lift.ext x62 _)
                        replace i47 := i47.lift (Lift.ext x62 _)
                        replace i49_0 := i49_0.lift (Lift.ext x62 _)
                        replace i51 := i51.lift (Lift.ext x62 _)
                        replace i53_0 := i53_0.lift (Lift.ext x62 _)
                        replace i55 := i55.lift (Lift.ext x62 _)
                        replace i57_0 := i57_0.lift (Lift.ext x62 _)
                        have e63 := e58.trans x62
                        refine wla rfl rfl (q_eqI rfl rfl rfl) ?_
                        refine wla rfl rfl (q_pick_t (v := (.bool ((decide (r62 = 0))))) rfl rfl rfl) ?_
                        refine wla rfl rfl (q_assign (v := (.bool ((decide (r62 = 0))))) rfl rfl) ?_
                        refine wl_nil ?_
                        refine W_th ?_
                        refine W_ret ?_
                        obtain rfl := Option.some.inj H
                        refine rt1 (.bool ((decide (r62 = 0)))) rfl rfl rfl rfl ?_
                        exact ⟨rfl, e63⟩
                      · replace H := (if_neg (of_decide_eq_false hb61)).symm.trans H
                        refine wlk rfl rfl ?_
                        refine wlk rfl rfl ?_
                        refine wlk rfl rfl ?_
                        refine wla rfl rfl (q_pick_f (v := (.bool false)) rfl rfl rfl) ?_
                        refine wla rfl rfl (q_assign (v := (.bool false)) rfl rfl) ?_
                        refine wl_nil ?_
                        refine W_th ?_
                        refine W_ret ?_
                        obtain rfl := Option.some.inj H
                        refine rt1 (.bool false) rfl rfl rfl rfl ?_
                        exact ⟨rfl, e58⟩
                    · replace H := (if_neg (of_decide_eq_false hb60)).symm.trans H
                      refine wlk rfl rfl ?_
                      refine wlk rfl rfl ?_
                      refine wla rfl rfl (q_pick_f (v := (.bool false)) rfl rfl rfl) ?_
                      refine wla rfl rfl (q_move (v := (.bool false)) rfl rfl) ?_
                      refine wlk rfl rfl ?_
                      refine wlk rfl rfl ?_
                      refine wlk rfl rfl ?_
                      refine wla rfl rfl (q_pick_f (v := (.bool false)) rfl rfl rfl) ?_
                      refine wla rfl rfl (q_assign (v := (.bool false)) rfl rfl) ?_
                      refine wl_nil ?_
                      refine W_th ?_
                      refine W_ret ?_
                      obtain rfl := Option.some.inj H
                      refine rt1 (.bool false) rfl rfl rfl rfl ?_
                      exact ⟨rfl, e58⟩
                  · replace H := (if_neg (of_decide_eq_false hb59)).symm.trans H
                    refine wlk rfl rfl ?_
                    refine wlk rfl rfl ?_
                    refine wla rfl rfl (q_pick_f (v := (.bool false)) rfl rfl rfl) ?_
                    refine wla rfl rfl (q_move (v := (.bool false)) rfl rfl) ?_
                    refine wlk rfl rfl ?_
                    refine wlk rfl rfl ?_
                    refine wla rfl rfl (q_pick_f (v := (.bool false)) rfl rfl rfl) ?_
                    refine wla rfl rfl (q_move (v := (.bool false)) rfl rfl) ?_
                    refine wlk rfl rfl ?_
                    refine wlk rfl rfl ?_
                    refine wlk rfl rfl ?_
                    refine wla rfl rfl (q_pick_f (v := (.bool false)) rfl rfl rfl) ?_
                    refine wla rfl rfl (q_assign (v := (.bool false)) rfl rfl) ?_
                    refine wl_nil ?_
                    refine W_th ?_
                    refine W_ret ?_
                    obtain rfl := Option.some.inj H
                    refine rt1 (.bool false) rfl rfl rfl rfl ?_
                    exact ⟨rfl, e58⟩
        · replace H := (if_neg (of_decide_eq_false hb16)).symm.trans H
          refine wla rfl rfl (q_move (v := p0) rfl rfl) ?_
          refine wla rfl rfl (q_len rfl T22.sl rfl (hp0.lift (Lift.ext e15 _))) ?_
          refine wla rfl rfl (q_eqI rfl rfl rfl) ?_
          refine wla rfl rfl (q_pick_f (v := (.bool ((decide ((a0k.length : Int) = 32))))) rfl rfl rfl) ?_
          refine wla rfl rfl (q_assign (v := (.bool ((decide ((a0k.length : Int) = 32))))) rfl rfl) ?_
          refine wl_nil ?_
          refine W_th ?_
          refine W_seq ?_
          refine W_reg (by kernel_rfl) ?_
          refine wla rfl rfl (q_move (v := (.bool ((decide ((a0k.length : Int) = 32))))) rfl rfl) ?_
          refine wla rfl rfl (q_move (v := (i64 r14.2)) rfl rfl) ?_
          refine wla rfl rfl (q_eqI rfl rfl rfl) ?_
          refine wla rfl rfl (q_neB rfl (by kernel_rfl) rfl rfl) ?_
          refine wlb rfl rfl (q_move (v := (.bool ((!(((decide ((a0k.length : Int) = 32))) == ((decide (r14.2 = 0)))))))) rfl rfl) (fun hb65 => ?_) (fun hb65 => ?_)
          · replace H := (if_pos hb65).symm.trans H
            refine wlk rfl rfl ?_
            refine wlk rfl rfl ?_
            refine wlk rfl rfl ?_
            refine wlk rfl rfl ?_
            refine wlk rfl rfl ?_
            refine wlk rfl rfl ?_
            refine wlk rfl rfl ?_
            refine wlk rfl rfl ?_
            refine wlk rfl rfl ?_
            refine wlk rfl rfl ?_
            refine wla rfl rfl (q_pick_t (v := (.bool true)) rfl rfl rfl) ?_
            refine wl_nil ?_
            refine W_th ?_
            refine W_cond true rfl rfl (fun _ => ?_) (fun hb => by cases hb)
            refine W_seq ?_
            refine W_reg (by kernel_rfl) ?_
            refine wla rfl rfl (q_assign (v := (.bool false)) rfl rfl) ?_
            refine wl_nil ?_
            refine W_th ?_
            refine W_ret ?_
            refine th_r ?_
            obtain rfl := Option.some.inj H
            refine rt1 (.bool false) rfl rfl rfl rfl ?_
            exact ⟨rfl, e15⟩
          · replace H := (if_neg (ne_true_of_eq_false hb65)).symm.trans H
            refine wla rfl rfl (q_move (v := (.bool ((decide ((a0k.length : Int) = 32))))) rfl rfl) ?_
            refine wla rfl rfl (q_not rfl rfl) ?_
            refine wlb rfl rfl (q_move (v := (.bool ((!decide ((a0k.length : Int) = 32))))) rfl rfl) (fun hb66 => ?_) (fun hb66 => ?_)
            · replace H := (if_neg (ndec_t hb66)).symm.trans H
              refine wla rfl rfl (q_move (v := (i64 r14.2)) rfl rfl) ?_
              refine wla rfl rfl (q_neI rfl rfl rfl) ?_
              refine wlb rfl rfl (q_move (v := (.bool ((!decide (r14.2 = 3))))) rfl rfl) (fun hb67 => ?_) (fun hb67 => ?_)
              · replace H := (if_neg (ndec_t hb67)).symm.trans H
                refine wlk rfl rfl ?_
                refine wlk rfl rfl ?_
                refine wla rfl rfl (q_pick_t (v := (.bool true)) rfl rfl rfl) ?_
                refine wla rfl rfl (q_pick_t (v := (.bool true)) rfl rfl rfl) ?_
                refine wla rfl rfl (q_pick_f (v := (.bool true)) rfl rfl rfl) ?_
                refine wl_nil ?_
                refine W_th ?_
                refine W_cond true rfl rfl (fun _ => ?_) (fun hb => by cases hb)
                refine W_seq ?_
                refine W_reg (by kernel_rfl) ?_
                refine wla rfl rfl (q_assign (v := (.bool false)) rfl rfl) ?_
                refine wl_nil ?_
                refine W_th ?_
                refine W_ret ?_
                refine th_r ?_
                obtain rfl := Option.some.inj H
                refine rt1 (.bool false) rfl rfl rfl rfl ?_
                exact ⟨rfl, e15⟩
              · replace H := (if_pos (ndec_f hb67)).symm.trans H
                refine wla rfl rfl (q_move (v := v14_0) rfl rfl) ?_
                refine wla rfl rfl (q_neC rfl rfl rfl rfl i14_0) ?_
                refine wla rfl rfl (q_pick_f (v := (.bool ((!r14.1.isNone)))) rfl rfl rfl) ?_
                refine wla rfl rfl (q_pick_t (v := (.bool ((!r14.1.isNone)))) rfl rfl rfl) ?_
                refine wla rfl rfl (q_pick_f (v := (.bool ((!r14.1.isNone)))) rfl rfl rfl) ?_
                refine wl_nil ?_
                refine W_th ?_
                refine W_cond _ rfl rfl (fun hb68 => ?_) (fun hb68 => ?_)
                · replace H := (if_pos hb68).symm.trans H
                  refine W_seq ?_
                  refine W_reg (by kernel_rfl) ?_
                  refine wla rfl rfl (q_assign (v := (.bool false)) rfl rfl) ?_
                  refine wl_nil ?_
                  refine W_th ?_
                  refine W_ret ?_
                  refine th_r ?_
                  obtain rfl := Option.some.inj H
                  refine rt1 (.bool false) rfl rfl rfl rfl ?_
                  exact ⟨rfl, e15⟩
                · replace H := (if_neg (ne_true_of_eq_false hb68)).symm.trans H
                  refine W_skip ?_
                  refine W_th ?_
                  refine W_seq ?_
                  refine W_reg (by kernel_rfl) ?_
                  refine wla rfl rfl (q_move (v := v12) rfl rfl) ?_
                  obtain ⟨c69, hc69, H⟩ := Option.bind_eq_some_iff.1 H
                  refine wls rfl rfl (stp_make (L := []) (R := (Sc u8)) rfl T22 rfl rfl hc69 (fun _ _ => rfl) ?_)
                  intro v69 w69 o69 n69 g69 l69
                  have x69 := grown_ext g69
                  have i69 : By w69 [] v69 c69 := OwK.slk (Sc.stab _) _ o69 (fun k hk => (Old.nil _) k (n69 k hk)) (fun _ h => h.2)
                  replace i12_0 := i12_0.lift (Lift.ext x69 _)
                  replace i14_0 := i14_0.lift (Lift.ext x69 _)
                  have e70 := e15.trans x69
                  obtain ⟨r71, hr71, H⟩ := Option.bind_eq_some_iff.1 H
                  refine wls rfl rfl (stp_call (vs := [v12, v69]) Try.func17 rfl rfl rfl (ar2 rfl rfl) (cipher_New_calls r12 c69 v12 v69 r71 _ [] (Old.nil _) i12_0 (i69.lift (Lift.sub (fun _ _ => trivial))) hr71) ?_)
                  rintro _ w71 ⟨v71_0, rfl, x71, i71_0⟩
                  refine ⟨_, rfl, ?_⟩
                  replace i12_0 := i12_0.lift (Lift.ext x71 _)
                  replace i14_0 := i14_0.lift (Lift.ext x71 _)
                  replace i69 := i69.lift (Lift.ext x71 _)
                  have e72 := e70.trans x71
                  refine wla rfl rfl (q_move (v := (.tuple #[v71_0, (i64 r71.2)])) rfl rfl) ?_
                  refine wla rfl rfl (q_extract rfl rfl rfl) ?_
                  refine wla rfl rfl (q_extract rfl rfl rfl) ?_
                  refine wla rfl rfl (q_assign (v := v71_0) rfl rfl) ?_
                  refine wla rfl rfl (q_assign (v := (i64 r71.2)) rfl rfl) ?_
                  refine wl_nil ?_
                  refine W_th ?_
                  refine W_seq ?_
                  refine W_reg (by kernel_rfl) ?_
                  refine wla rfl rfl (q_move (v := v71_0) rfl rfl) ?_
                  refine wla rfl rfl (q_move (v := p1) rfl rfl) ?_
                  obtain ⟨r73, hr73, H⟩ := Option.bind_eq_some_iff.1 H
                  refine wls rfl rfl (stp_call (vs := [v71_0, p1]) Try.func19 rfl rfl rfl (ar2 rfl rfl) (cipher_Encrypt_calls r71.1 a1b v71_0 p1 r73 _ (i71_0.lift (Lift.sub (fun _ _ => trivial))) (hp1.lift (Lift.ext e72 _)) hr73) ?_)
                  rintro _ w73 ⟨v73_0, rfl, x73, n73_0, o73_0⟩
                  refine ⟨_, rfl, ?_⟩
                  have i73_0 : By w73 [] v73_0 r73.1 := OwK.slk (Sc.stab _) _ (OwK.scal o73_0 (v73_0 :: [])) (fun k hk => (Old.nil _) k (n73_0 k hk)) (fun _ h => h.2)
                  replace i12_0 := i12_0.lift (Lift.ext x73 _)
                  replace i14_0 := i14_0.lift (Lift.ext x73 _)
                  replace i69 := i69.lift (Lift.ext x73 _)
                  replace i71_0 := i71_0.lift (Lift.ext x73 _)
                  have e74 := e72.trans x73
                  refine wla rfl rfl (q_move (v := (.tuple #[v73_0, (i64 r73.2)])) rfl rfl) ?_
                  refine wla rfl rfl (q_extract rfl rfl rfl) ?_
                  refine wla rfl rfl (q_extract rfl rfl rfl) ?_
                  refine wla rfl rfl (q_assign (v := v73_0) rfl rfl) ?_
                  refine wla rfl rfl (q_assign (v := (i64 r73.2)) rfl rfl) ?_
                  refine wl_nil ?_
                  refine W_th ?_
                  refine W_seq ?_
                  refine W_reg (by kernel_rfl) ?_
                  refine wla rfl rfl (q_move (v := v71_0) rfl rfl) ?_
                  refine wla rfl rfl (q_move (v := p1) rfl rfl) ?_
                  obtain ⟨r75, hr75, H⟩ := Option.bind_eq_some_iff.1 H
                  refine wls rfl rfl (stp_call (vs := [v71_0, p1]) Try.func20 rfl rfl rfl (ar2 rfl rfl) (cipher_Decrypt_calls r71.1 a1b v71_0 p1 r75 _ (i71_0.lift (Lift.sub (fun _ _ => trivial))) (hp1.lift (Lift.ext e74 _)) hr75) ?_)
                  rintro _ w75 ⟨v75_0, rfl, x75, n75_0, o75_0⟩
                  refine ⟨_, rfl, ?_⟩
                  have i75_0 : By w75 [] v75_0 r75.1 := OwK.slk (Sc.stab _) _ (OwK.scal o75_0 (v75_0 :: [])) (fun k hk => (Old.nil _) k (n75_0 k hk)) (fun _ h => h.2)
                  replace i12_0 := i12_0.lift (Lift.ext x75 _)
                  replace i14_0 := i14_0.lift (Lift.ext x75 _)
                  replace i69 := i69.lift (Lift.ext x75 _)
                  replace i71_0 := i71_0.lift (Lift.ext x75 _)
                  replace i73_0 := i73_0.lift (Lift.ext x75 _)
                  have e76 := e74.trans x75
                  refine wla rfl rfl (q_move (v := (.tuple #[v75_0, (i64 r75.2)])) rfl rfl) ?_
                  refine wla rfl rfl (q_extract rfl rfl rfl) ?_
                  refine wla rfl rfl (q_extract rfl rfl rfl) ?_
                  refine wla rfl rfl (q_assign (v := v75_0) rfl rfl) ?_
                  refine wla rfl rfl (q_assign (v := (i64 r75.2)) rfl rfl) ?_
                  refine wl_nil ?_
                  refine W_th ?_
                  refine W_seq ?_
                  refine W_seq ?_
                  refine W_reg (by kernel_rfl) ?_
                  refine wla rfl rfl (q_move (v := p1) rfl rfl) ?_
                  refine wla rfl rfl (q_len rfl T22.sl rfl (hp1.lift (Lift.ext e76 _))) ?_
                  refine wla rfl rfl (q_eqI rfl rfl rfl) ?_
                  refine wla rfl rfl (q_assign (v := (.bool ((decide ((a1b.length : Int) = 16))))) rfl rfl) ?_
                  refine wl_nil ?_
                  refine W_th ?_
                  refine W_seq ?_
                  refine W_reg (by kernel_rfl) ?_
                  refine wla rfl rfl (q_move (v := (.bool ((decide ((a1b.length : Int) = 16))))) rfl rfl) ?_
                  refine wla rfl rfl (q_move (v := (i64 r73.2)) rfl rfl) ?_
                  refine wla rfl rfl (q_eqI rfl rfl rfl) ?_
                  refine wla rfl rfl (q_neB rfl (by kernel_rfl) rfl rfl) ?_
                  refine wlb rfl rfl (q_move (v := (.bool ((!(((decide ((a1b.length : Int) = 16))) == ((decide (r73.2 = 0)))))))) rfl rfl) (fun hb77 => ?_) (fun hb77 => ?_)
                  · replace H := (if_pos hb77).symm.trans H
                    refine wlk rfl rfl ?_
                    refine wlk rfl rfl ?_
                    refine wlk rfl rfl ?_
                    refine wlk rfl rfl ?_
                    refine wla rfl rfl (q_pick_t (v := (.bool true)) rfl rfl rfl) ?_
                    refine wla rfl rfl (q_move (v := (.bool true)) rfl rfl) ?_
                    refine wlk rfl rfl ?_
                    refine wlk rfl rfl ?_
                    refine wlk rfl rfl ?_
                    refine wlk rfl rfl ?_
                    refine wlk rfl rfl ?_
                    refine wlk rfl rfl ?_
                    refine wlk rfl rfl ?_
                    refine wlk rfl rfl ?_
                    refine wlk rfl rfl ?_
                    refine wlk rfl rfl ?_
                    refine wla rfl rfl (q_pick_t (v := (.bool true)) rfl rfl rfl) ?_
                    refine wl_nil ?_
                    refine W_th ?_
                    refine W_cond true rfl rfl (fun _ => ?_) (fun hb => by cases hb)
                    refine W_seq ?_
                    refine W_reg (by kernel_rfl) ?_
                    refine wla rfl rfl (q_assign (v := (.bool false)) rfl rfl) ?_
                    refine wl_nil ?_
                    refine W_th ?_
                    refine W_ret ?_
                    refine th_r ?_
                    obtain rfl := Option.some.inj H
                    refine rt1 (.bool false) rfl rfl rfl rfl ?_
                    exact ⟨rfl, e76⟩
                  · replace H := (if_neg (ne_true_of_eq_false hb77)).symm.trans H
                    refine wla rfl rfl (q_move (v := (.bool ((decide ((a1b.length : Int) = 16))))) rfl rfl) ?_
                    refine wla rfl rfl (q_move (v := (i64 r75.2)) rfl rfl) ?_
                    refine wla rfl rfl (q_eqI rfl rfl rfl) ?_
                    refine wla rfl rfl (q_neB rfl (by kernel_rfl) rfl rfl) ?_
                    refine wla rfl rfl (q_pick_f (v := (.bool ((!(((decide ((a1b.length : Int) = 16))) == ((decide (r75.2 = 0)))))))) rfl rfl rfl) ?_
                    refine wlb rfl rfl (q_move (v := (.bool ((!(((decide ((a1b.length : Int) = 16))) == ((decide (r75.2 = 0)))))))) rfl rfl) (fun hb78 => ?_) (fun hb78 => ?_)
                    · replace H := (if_pos hb78).symm.trans H
                      refine wlk rfl rfl ?_
                      refine wlk rfl rfl ?_
                      refine wlk rfl rfl ?_
                      refine wlk rfl rfl ?_
                      refine wlk rfl rfl ?_
                      refine wlk rfl rfl ?_
                      refine wlk rfl rfl ?_
                      refine wlk rfl rfl ?_
                      refine wlk rfl rfl ?_
                      refine wlk rfl rfl ?_
                      refine wla rfl rfl (q_pick_t (v := (.bool true)) rfl rfl rfl) ?_
                      refine wl_nil ?_
                      refine W_th ?_
                      refine W_cond true rfl rfl (fun _ => ?_) (fun hb => by cases hb)
                      refine W_seq ?_
                      refine W_reg (by kernel_rfl) ?_
                      refine wla rfl rfl (q_assign (v := (.bool false)) rfl rfl) ?_
                      refine wl_nil ?_
                      refine W_th ?_
                      refine W_ret ?_
                      refine th_r ?_
                      obtain rfl := Option.some.inj H
                      refine rt1 (.bool false) rfl rfl rfl rfl ?_
                      exact ⟨rfl, e76⟩
                    · replace H := (if_neg (ne_true_of_eq_false hb78)).symm.trans H
                      refine wla rfl rfl (q_move (v := (.bool ((decide ((a1b.length : Int) = 16))))) rfl rfl) ?_
                      refine wla rfl rfl (q_not rfl rfl) ?_
                      refine wlb rfl rfl (q_move (v := (.bool ((!decide ((a1b.length : Int) = 16))))) rfl rfl) (fun hb79 => ?_) (fun hb79 => ?_)
                      · replace H := (if_neg (ndec_t hb79)).symm.trans H
                        refine wla rfl rfl (q_move (v := v73_0) rfl rfl) ?_
                        refine wla rfl rfl (q_len rfl T22.sl rfl i73_0) ?_
                        refine wla rfl rfl (q_move (v := v75_0) rfl rfl) ?_
                        refine wla rfl rfl (q_len rfl T22.sl rfl i75_0) ?_
                        refine wla rfl rfl (q_addI rfl rfl rfl) ?_
                        refine wla rfl rfl (q_neI rfl rfl rfl) ?_
                        refine wla rfl rfl (q_pick_t (v := (.bool ((!decide ((wI ((r73.1.length : Int) + (r75.1.length : Int))) = 0))))) rfl rfl rfl) ?_
                        refine wla rfl rfl (q_pick_f (v := (.bool ((!decide ((wI ((r73.1.length : Int) + (r75.1.length : Int))) = 0))))) rfl rfl rfl) ?_
                        refine wl_nil ?_
                        refine W_th ?_
                        refine W_cond _ rfl rfl (fun hb80 => ?_) (fun hb80 => ?_)
                        · replace H := (if_neg (ndec_t hb80)).symm.trans H
                          refine W_seq ?_
                          refine W_reg (by kernel_rfl) ?_
                          refine wla rfl rfl (q_assign (v := (.bool false)) rfl rfl) ?_
                          refine wl_nil ?_
                          refine W_th ?_
                          refine W_ret ?_
                          refine th_r ?_
                          obtain rfl := Option.some.inj H
                          refine rt1 (.bool false) rfl rfl rfl rfl ?_
                          exact ⟨rfl, e76⟩
                        · replace H := (if_pos (ndec_f hb80)).symm.trans H
                          refine W_skip ?_
                          refine W_th ?_
                          refine W_seq ?_
                          refine W_reg (by kernel_rfl) ?_
                          refine wla rfl rfl (q_assign (v := (.pointer none)) rfl rfl) ?_
                          refine wl_nil ?_
                          refine W_th ?_
                          refine W_seq ?_
                          refine W_reg (by kernel_rfl) ?_
                          refine wla rfl rfl (q_move (v := (.pointer none)) rfl rfl) ?_
                          obtain ⟨c81, hc81, H⟩ := Option.bind_eq_some_iff.1 H
                          refine wls rfl rfl (stp_make (L := []) (R := (Sc u8)) rfl T22 rfl rfl hc81 (fun _ _ => rfl) ?_)
                          intro v81 w81 o81 n81 g81 l81
                          have x81 := grown_ext g81
                          have i81 : By w81 [] v81 c81 := OwK.slk (Sc.stab _) _ o81 (fun k hk => (Old.nil _) k (n81 k hk)) (fun _ h => h.2)
                          replace i12_0 := i12_0.lift (Lift.ext x81 _)
                          replace i14_0 := i14_0.lift (Lift.ext x81 _)
                          replace i69 := i69.lift (Lift.ext x81 _)
                          replace i71_0 := i71_0.lift (Lift.ext x81 _)
                          replace i73_0 := i73_0.lift (Lift.ext x81 _)
                          replace i75_0 := i75_0.lift (Lift.ext x81 _)
                          have e82 := e76.trans x81
                          obtain ⟨r83, hr83, H⟩ := Option.bind_eq_some_iff.1 H
                          refine wls rfl rfl (stp_call (vs := [(.pointer none), v81]) Try.func19 rfl rfl rfl (ar2 rfl rfl) (cipher_Encrypt_calls (none : Option Cip) c81 (.pointer none) v81 r83 _ (Ci.nil _ _) (i81.lift (Lift.sub (fun _ _ => trivial))) hr83) ?_)
                          rintro _ w83 ⟨v83_0, rfl, x83, n83_0, o83_0⟩
                          refine ⟨_, rfl, ?_⟩
                          have i83_0 : By w83 [] v83_0 r83.1 := OwK.slk (Sc.stab _) _ (OwK.scal o83_0 (v83_0 :: [])) (fun k hk => (Old.nil _) k (n83_0 k hk)) (fun _ h => h.2)
                          replace i12_0 := i12_0.lift (Lift.ext x83 _)
                          replace i14_0 := i14_0.lift (Lift.ext x83 _)
                          replace i69 := i69.lift (Lift.ext x83 _)
                          replace i71_0 := i71_0.lift (Lift.ext x83 _)
                          replace i73_0 := i73_0.lift (Lift.ext x83 _)
                          replace i75_0 := i75_0.lift (Lift.ext x83 _)
                          replace i81 := i81.lift (Lift.ext x83 _)
                          have e84 := e82.trans x83
                          refine wla rfl rfl (q_move (v := (.tuple #[v83_0, (i64 r83.2)])) rfl rfl) ?_
                          refine wla rfl rfl (q_extract rfl rfl rfl) ?_
                          refine wla rfl rfl (q_extract rfl rfl rfl) ?_
                          refine wla rfl rfl (q_assign (v := v83_0) rfl rfl) ?_
                          refine wla rfl rfl (q_assign (v := (i64 r83.2)) rfl rfl) ?_
                          refine wl_nil ?_
                          refine W_th ?_
                          refine W_seq ?_
                          refine W_reg (by kernel_rfl) ?_
                          refine wla rfl rfl (q_move (v := (.pointer none)) rfl rfl) ?_
                          obtain ⟨c85, hc85, H⟩ := Option.bind_eq_some_iff.1 H
                          refine wls rfl rfl (stp_make (L := []) (R := (Sc u8)) rfl T22 rfl rfl hc85 (fun _ _ => rfl) ?_)
                          intro v85 w85 o85 n85 g85 l85
                          have x85 := grown_ext g85
                          have i85 : By w85 [] v85 c85 := OwK.slk (Sc.stab _) _ o85 (fun k hk => (Old.nil _) k (n85 k hk)) (fun _ h => h.2)
                          replace i12_0 := i12_0.lift (Lift.ext x85 _)
                          replace i14_0 := i14_0.lift (Lift.ext x85 _)
                          replace i69 := i69.lift (Lift.ext x85 _)
                          replace i71_0 := i71_0.lift (Lift.ext x85 _)
                          replace i73_0 := i73_0.lift (Lift.ext x85 _)
                          replace i75_0 := i75_0.lift (Lift.ext x85 _)
                          replace i81 := i81.lift (Lift.ext x85 _)
                          replace i83_0 := i83_0.lift (Lift.ext x85 _)
                          have e86 := e84.trans x85
                          obtain ⟨r87, hr87, H⟩ := Option.bind_eq_some_iff.1 H
                          refine wls rfl rfl (stp_call (vs := [(.pointer none), v85]) Try.func20 rfl rfl rfl (ar2 rfl rfl) (cipher_Decrypt_calls (none : Option Cip) c85 (.pointer none) v85 r87 _ (Ci.nil _ _) (i85.lift (Lift.sub (fun _ _ => trivial))) hr87) ?_)
                          rintro _ w87 ⟨v87_0, rfl, x87, n87_0, o87_0⟩
                          refine ⟨_, rfl, ?_⟩
                          have i87_0 : By w87 [] v87_0 r87.1 := OwK.slk (Sc.stab _) _ (OwK.scal o87_0 (v87_0 :: [])) (fun k hk => (Old.nil _) k (n87_0 k hk)) (fun _ h => h.2)
                          replace i12_0 := i12_0.lift (Lift.ext x87 _)
                          replace i14_0 := i14_0.lift (Lift.ext x87 _)
                          replace i69 := i69.lift (Lift.ext x87 _)
                          replace i71_0 := i71_0.lift (Lift.ext x87 _)
                          replace i73_0 := i73_0.lift (Lift.ext x87 _)
                          replace i75_0 := i75_0.lift (Lift.ext x87 _)
                          replace i81 := i81.lift (Lift.ext x87 _)
                          replace i83_0 := i83_0.lift (Lift.ext x87 _)
                          replace i85 := i85.lift (Lift.ext x87 _)
                          have e88 := e86.trans x87
                          refine wla rfl rfl (q_move (v := (.tuple #[v87_0, (i64 r87.2)])) rfl rfl) ?_
                          refine wla rfl rfl (q_extract rfl rfl rfl) ?_
                          refine wla rfl rfl (q_extract rfl rfl rfl) ?_
                          refine wla rfl rfl (q_assign (v := v87_0) rfl rfl) ?_
                          refine wla rfl rfl (q_assign (v := (i64 r87.2)) rfl rfl) ?_
                          refine wl_nil ?_
                          refine W_th ?_
                          refine W_seq ?_
                          refine W_reg (by kernel_rfl) ?_
                          obtain ⟨c89, hc89, H⟩ := Option.bind_eq_some_iff.1 H
                          refine wls rfl rfl (stp_make (L := []) (R := (Sc u8)) rfl T22 rfl rfl hc89 (fun _ _ => rfl) ?_)
                          intro v89 w89 o89 n89 g89 l89
                          have x89 := grown_ext g89
                          have i89 : By w89 [] v89 c89 := OwK.slk (Sc.stab _) _ o89 (fun k hk => (Old.nil _) k (n89 k hk)) (fun _ h => h.2)
                          replace i12_0 := i12_0.lift (Lift.ext x89 _)
                          replace i14_0 := i14_0.lift (Lift.ext x89 _)
                          replace i69 := i69.lift (Lift.ext x89 _)
                          replace i71_0 := i71_0.lift (Lift.ext x89 _)
                          replace i73_0 := i73_0.lift (Lift.ext x89 _)
                          replace i75_0 := i75_0.lift (Lift.ext x89 _)
                          replace i81 := i81.lift (Lift.ext x89 _)
                          replace i83_0 := i83_0.lift (Lift.ext x89 _)
                          replace i85 := i85.lift (Lift.ext x89 _)
                          replace i87_0 := i87_0.lift (Lift.ext x89 _)
                          have e90 := e88.trans x89
                          obtain ⟨r91, hr91, H⟩ := Option.bind_eq_some_iff.1 H
                          refine wls rfl rfl (stp_call (vs := [(.pointer none), v89]) Try.func17 rfl rfl rfl (ar2 rfl rfl) (cipher_New_calls false c89 (.pointer none) v89 r91 _ [] (Old.nil _) (Fd.nil _ _) (i89.lift (Lift.sub (fun _ _ => trivial))) hr91) ?_)
                          rintro _ w91 ⟨v91_0, rfl, x91, i91_0⟩
                          refine ⟨_, rfl, ?_⟩
                          replace i12_0 := i12_0.lift (Lift.ext x91 _)
                          replace i14_0 := i14_0.lift (Lift.ext x91 _)
                          replace i69 := i69.lift (Lift.ext x91 _)
                          replace i71_0 := i71_0.lift (Lift.ext x91 _)
                          replace i73_0 := i73_0.lift (Lift.ext x91 _)
                          replace i75_0 := i75_0.lift (Lift.ext x91 _)
                          replace i81 := i81.lift (Lift.ext x91 _)
                          replace i83_0 := i83_0.lift (Lift.ext x91 _)
                          replace i85 := i85.lift (Lift.ext x91 _)
                          replace i87_0 := i87_0.lift (Lift.ext x91 _)
                          replace i89 := i89.lift (Lift.ext x91 _)
                          have e92 := e90.trans x91
                          refine wla rfl rfl (q_move (v := (.tuple #[v91_0, (i64 r91.2)])) rfl rfl) ?_
                          refine wla rfl rfl (q_extract rfl rfl rfl) ?_
                          refine wla rfl rfl (q_extract rfl rfl rfl) ?_
                          refine wla rfl rfl (q_assign (v := v91_0) rfl rfl) ?_
                          refine wla rfl rfl (q_assign (v := (i64 r91.2)) rfl rfl) ?_
                          refine wl_nil ?_
                          refine W_th ?_
                          refine W_seq ?_
                          refine W_reg (by kernel_rfl) ?_
                          refine wla rfl rfl (q_move (v := (i64 r83.2)) rfl rfl) ?_
                          refine wla rfl rfl (q_eqI rfl rfl rfl) ?_
                          refine wlb rfl rfl (q_move (v := (.bool ((decide (r83.2 = 1))))) rfl rfl) (fun hb93 => ?_) (fun hb93 => ?_)
                          · replace H := (if_pos (of_decide_eq_true hb93)).symm.trans H
                            refine wla rfl rfl (q_move (v := (i64 r87.2)) rfl rfl) ?_
                            refine wla rfl rfl (q_eqI rfl rfl rfl) ?_
                            refine wla rfl rfl (q_pick_t (v := (.bool ((decide (r87.2 = 1))))) rfl rfl rfl) ?_
                            refine wlb rfl rfl (q_move (v := (.bool ((decide (r87.2 = 1))))) rfl rfl) (fun hb94 => ?_) (fun hb94 => ?_)
                            · replace H := (if_pos (of_decide_eq_true hb94)).symm.trans H
                              refine wla rfl rfl (q_move (v := (i64 r91.2)) rfl rfl) ?_
                              refine wla rfl rfl (q_eqI rfl rfl rfl) ?_
                              refine wla rfl rfl (q_pick_t (v := (.bool ((decide (r91.2 = 1))))) rfl rfl rfl) ?_
                              refine wlb rfl rfl (q_move (v := (.bool ((decide (r91.2 = 1))))) rfl rfl) (fun hb95 => ?_) (fun hb95 => ?_)
                              · replace H := (if_pos (of_decide_eq_true hb95)).symm.trans H
                                refine wla rfl rfl (q_move (v := (.pointer none)) rfl rfl) ?_
                                obtain ⟨r96, hr96, H⟩ := Option.bind_eq_some_iff.1 H
                                refine wls rfl rfl (stp_call (vs := [(.pointer none)]) Try.func22 rfl rfl rfl (ar1 rfl) (cipher_Rounds_calls (none : Option Cip) (.pointer none) r96 _ (Ci.nil _ _) hr96) ?_)
                                rintro _ w96 ⟨rfl, x96⟩
                                refine ⟨_, rfl, ?_⟩
                                replace i12_0 := i12_0.lift (Lift.ext x96 _)
                                replace i14_0 := i14_0.lift (Lift.ext x96 _)
                                replace i69 := i69.lift (Lift.ext x96 _)
                                replace i71_0 := i71_0.lift (Lift.ext x96 _)
                                replace i73_0 := i73_0.lift (Lift.ext x96 _)
                                replace i75_0 := i75_0.lift (Lift.ext x96 _)
                                replace i81 := i81.lift (Lift.ext x96 _)
                                replace i83_0 := i83_0.lift (Lift.ext x96 _)
                                replace i85 := i85.lift (Lift.ext x96 _)
                                replace i87_0 := i87_0.lift (Lift.ext x96 _)
                                replace i89 := i89.lift (Lift.ext x96 _)
                                replace i91_0 := i91_0.lift (Lift.ext x96 _)
                                have e97 := e92.trans x96
                                refine wla rfl rfl (q_eqI rfl rfl rfl) ?_
                                refine wla rfl rfl (q_pick_t (v := (.bool ((decide (r96 = 0))))) rfl rfl rfl) ?_
                                refine wla rfl rfl (q_assign (v := (.bool ((decide (r96 = 0))))) rfl rfl) ?_
                                refine wl_nil ?_
                                refine W_th ?_
                                refine W_ret ?_
                                obtain rfl := Option.some.inj H
                                refine rt1 (.bool ((decide (r96 = 0)))) rfl rfl rfl rfl ?_
                                exact ⟨rfl, e97⟩
                              · replace H := (if_neg (of_decide_eq_false hb95)).symm.trans H
                                refine wlk rfl rfl ?_
                                refine wlk rfl rfl ?_
                                refine wlk rfl rfl ?_
                                refine wla rfl rfl (q_pick_f (v := (.bool false)) rfl rfl rfl) ?_
                                refine wla rfl rfl (q_assign (v := (.bool false)) rfl rfl) ?_
                                refine wl_nil ?_
                                refine W_th ?_
                                refine W_ret ?_
                                obtain rfl := Option.some.inj H
                                refine rt1 (.bool false) rfl rfl rfl rfl ?_
                                exact ⟨rfl, e92⟩
                            · replace H := (if_neg (of_decide_eq_false hb94)).symm.trans H
                              refine wlk rfl rfl ?_
                              refine wlk rfl rfl ?_
                              refine wla rfl rfl (q_pick_f (v := (.bool false)) rfl rfl rfl) ?_
                              refine wla rfl rfl (q_move (v := (.bool false)) rfl rfl) ?_
                              refine wlk rfl rfl ?_
                              refine wlk rfl rfl ?_
                              refine wlk rfl rfl ?_
                              refine wla rfl rfl (q_pick_f (v := (.bool false)) rfl rfl rfl) ?_
                              refine wla rfl rfl (q_assign (v := (.bool false)) rfl rfl) ?_
                              refine wl_nil ?_
                              refine W_th ?_
                              refine W_ret ?_
                              obtain rfl := Option.some.inj H
                              refine rt1 (.bool false) rfl rfl rfl rfl ?_
                              exact ⟨rfl, e92⟩
                          · replace H := (if_neg (of_decide_eq_false hb93)).symm.trans H
                            refine wlk rfl rfl ?_
                            refine wlk rfl rfl ?_
                            refine wla rfl rfl (q_pick_f (v := (.bool false)) rfl rfl rfl) ?_
                            refine wla rfl rfl (q_move (v := (.bool false)) rfl rfl) ?_
                            refine wlk rfl rfl ?_
                            refine wlk rfl rfl ?_
                            refine wla rfl rfl (q_pick_f (v := (.bool false)) rfl rfl rfl) ?_
                            refine wla rfl rfl (q_move (v := (.bool false)) rfl rfl) ?_
                            refine wlk rfl rfl ?_
                            refine wlk rfl rfl ?_
                            refine wlk rfl rfl ?_
                            refine wla rfl rfl (q_pick_f (v := (.bool false)) rfl rfl rfl) ?_
                            refine wla rfl rfl (q_assign (v := (.bool false)) rfl rfl) ?_
                            refine wl_nil ?_
                            refine W_th ?_
                            refine W_ret ?_
                            obtain rfl := Option.some.inj H
                            refine rt1 (.bool false) rfl rfl rfl rfl ?_
                            exact ⟨rfl, e92⟩
                      · replace H := (if_pos (ndec_f hb79)).symm.trans H
                        refine wlk rfl rfl ?_
                        refine wlk rfl rfl ?_
                        refine wlk rfl rfl ?_
                        refine wlk rfl rfl ?_
                        refine wlk rfl rfl ?_
                        refine wlk rfl rfl ?_
                        refine wla rfl rfl (q_pick_f (v := (.bool false)) rfl rfl rfl) ?_
                        refine wla rfl rfl (q_pick_f (v := (.bool false)) rfl rfl rfl) ?_
                        refine wl_nil ?_
                        refine W_th ?_
                        refine W_cond false rfl rfl (fun hb => by cases hb) (fun _ => ?_)
                        refine W_skip ?_
                        refine W_th ?_
                        refine W_seq ?_
                        refine W_reg (by kernel_rfl) ?_
                        refine wla rfl rfl (q_assign (v := (.pointer none)) rfl rfl) ?_
                        refine wl_nil ?_
                        refine W_th ?_
                        refine W_seq ?_
                        refine W_reg (by kernel_rfl) ?_
                        refine wla rfl rfl (q_move (v := (.pointer none)) rfl rfl) ?_
                        obtain ⟨c98, hc98, H⟩ := Option.bind_eq_some_iff.1 H
                        refine wls rfl rfl (stp_make (L := []) (R := (Sc u8)) rfl T22 rfl rfl hc98 (fun _ _ => rfl) ?_)
                        intro v98 w98 o98 n98 g98 l98
                        have x98 := grown_ext g98
                        have i98 : By w98 [] v98 c98 := OwK.slk (Sc.stab _) _ o98 (fun k hk => (Old.nil _) k (n98 k hk)) (fun _ h => h.2)
                        replace i12_0 := i12_0.lift (Lift.ext x98 _)
                        replace i14_0 := i14_0.lift (Lift.ext x98 _)
                        replace i69 := i69.lift (Lift.ext x98 _)
                        replace i71_0 := i71_0.lift (Lift.ext x98 _)
                        replace i73_0 := i73_0.lift (Lift.ext x98 _)
                        replace i75_0 := i75_0.lift (Lift.ext x98 _)
                        have e99 := e76.trans x98
                        obtain ⟨r100, hr100, H⟩ := Option.bind_eq_some_iff.1 H
                        refine wls rfl rfl (stp_call (vs := [(.pointer none), v98]) Try.func19 rfl rfl rfl (ar2 rfl rfl) (cipher_Encrypt_calls (none : Option Cip) c98 (.pointer none) v98 r100 _ (Ci.nil _ _) (i98.lift (Lift.sub (fun _ _ => trivial))) hr100) ?_)
                        rintro _ w100 ⟨v100_0, rfl, x100, n100_0, o100_0⟩
                        refine ⟨_, rfl, ?_⟩
                        have i100_0 : By w100 [] v100_0 r100.1 := OwK.slk (Sc.stab _) _ (OwK.scal o100_0 (v100_0 :: [])) (fun k hk => (Old.nil _) k (n100_0 k hk)) (fun _ h => h.2)
                        replace i12_0 := i12_0.lift (Lift.ext x100 _)
                        replace i14_0 := i14_0.lift (Lift.ext x100 _)
                        replace i69 := i69.lift (Lift.ext x100 _)
                        replace i71_0 := i71_0.lift (Lift.ext x100 _)
                        replace i73_0 := i73_0.lift (Lift.ext x100 _)
                        replace i75_0 := i75_0.lift (Lift.ext x100 _)
                        replace i98 := i98.lift (Lift.ext x100 _)
                        have e101 := e99.trans x100
                        refine wla rfl rfl (q_move (v := (.tuple #[v100_0, (i64 r100.2)])) rfl rfl) ?_
                        refine wla rfl rfl (q_extract rfl rfl rfl) ?_
                        refine wla rfl rfl (q_extract rfl rfl rfl) ?_
                        refine wla rfl rfl (q_assign (v := v100_0) rfl rfl) ?_
                        refine wla rfl rfl (q_assign (v := (i64 r100.2)) rfl rfl) ?_
                        refine wl_nil ?_
                        refine W_th ?_
                        refine W_seq ?_
                        refine W_reg (by kernel_rfl) ?_
                        refine wla rfl rfl (q_move (v := (.pointer none)) rfl rfl) ?_
                        obtain ⟨c102, hc102, H⟩ := Option.bind_eq_some_iff.1 H
                        refine wls rfl rfl (stp_make (L := []) (R := (Sc u8)) rfl T22 rfl rfl hc102 (fun _ _ => rfl) ?_)
                        intro v102 w102 o102 n102 g102 l102
                        have x102 := grown_ext g102
                        have i102 : By w102 [] v102 c102 := OwK.slk (Sc.stab _) _ o102 (fun k hk => (Old.nil _) k (n102 k hk)) (fun _ h => h.2)
                        replace i12_0 := i12_0.lift (Lift.ext x102 _)
                        replace i14_0 := i14_0.lift (Lift.ext x102 _)
                        replace i69 := i69.lift (Lift.ext x102 _)
                        replace i71_0 := i71_0.lift (Lift.ext x102 _)
                        replace i73_0 := i73_0.lift (Lift.ext x102 _)
                        replace i75_0 := i75_0.lift (Lift.ext x102 _)
                        replace i98 := i98.lift (Lift.ext x102 _)
                        replace i100_0 := i100_0.lift (Lift.ext x102 _)
                        have e103 := e101.trans x102
                        obtain ⟨r104, hr104, H⟩ := Option.bind_eq_some_iff.1 H
                        refine wls rfl rfl (stp_call (vs := [(.pointer none), v102]) Try.func20 rfl rfl rfl (ar2 rfl rfl) (cipher_Decrypt_calls (none : Option Cip) c102 (.pointer none) v102 r104 _ (Ci.nil _ _) (i102.lift (Lift.sub (fun _ _ => trivial))) hr104) ?_)
                        rintro _ w104 ⟨v104_0, rfl, x104, n104_0, o104_0⟩
                        refine ⟨_, rfl, ?_⟩
                        have i104_0 : By w104 [] v104_0 r104.1 := OwK.slk (Sc.stab _) _ (OwK.scal o104_0 (v104_0 :: [])) (fun k hk => (Old.nil _) k (n104_0 k hk)) (fun _ h => h.2)
                        replace i12_0 := i12_0.lift (Lift.ext x104 _)
                        replace i14_0 := i14_0.lift (Lift.ext x104 _)
                        replace i69 := i69.lift (Lift.ext x104 _)
                        replace i71_0 := i71_0.lift (Lift.ext x104 _)
                        replace i73_0 := i73_0.lift (Lift.ext x104 _)
                        replace i75_0 := i75_0.lift (Lift.ext x104 _)
                        replace i98 := i98.lift (Lift.ext x104 _)
                        replace i100_0 := i100_0.lift (Lift.ext x104 _)
                        replace i102 := i102.lift (Lift.ext x104 _)
                        have e105 := e103.trans x104
                        refine wla rfl rfl (q_move (v := (.tuple #[v104_0, (i64 r104.2)])) rfl rfl) ?_
                        refine wla rfl rfl (q_extract rfl rfl rfl) ?_
                        refine wla rfl rfl (q_extract rfl rfl rfl) ?_
                        refine wla rfl rfl (q_assign (v := v104_0) rfl rfl) ?_
                        refine wla rfl rfl (q_assign (v := (i64 r104.2)) rfl rfl) ?_
                        refine wl_nil ?_
                        refine W_th ?_
                        refine W_seq ?_
                        refine W_reg (by kernel_rfl) ?_
                        obtain ⟨c106, hc106, H⟩ := Option.bind_eq_some_iff.1 H
                        refine wls rfl rfl (stp_make (L := []) (R := (Sc u8)) rfl T22 rfl rfl hc106 (fun _ _ => rfl) ?_)
                        intro v106 w106 o106 n106 g106 l106
                        have x106 := grown_ext g106
                        have i106 : By w106 [] v106 c106 := OwK.slk (Sc.stab _) _ o106 (fun k hk => (Old.nil _) k (n106 k hk)) (fun _ h => h.2)
                        replace i12_0 := i12_0.lift (Lift.ext x106 _)
                        replace i14_0 := i14_0.lift (Lift.ext x106 _)
                        replace i69 := i69.lift (Lift.ext x106 _)
                        replace i71_0 := i71_0.lift (Lift.ext x106 _)
                        replace i73_0 := i73_0.lift (Lift.ext x106 _)
                        replace i75_0 := i75_0.lift (Lift.ext x106 _)
                        replace i98 := i98.lift (Lift.ext x106 _)
                        replace i100_0 := i100_0.lift (Lift.ext x106 _)
                        replace i102 := i102.lift (Lift.ext x106 _)
                        replace i104_0 := i104_0.lift (Lift.ext x106 _)
                        have e107 := e105.trans x106
                        obtain ⟨r108, hr108, H⟩ := Option.bind_eq_some_iff.1 H
                        refine wls rfl rfl (stp_call (vs := [(.pointer none), v106]) Try.func17 rfl rfl rfl (ar2 rfl rfl) (cipher_New_calls false c106 (.pointer none) v106 r108 _ [] (Old.nil _) (Fd.nil _ _) (i106.lift (Lift.sub (fun _ _ => trivial))) hr108) ?_)
                        rintro _ w108 ⟨v108_0, rfl, x108, i108_0⟩
                        refine ⟨_, rfl, ?_⟩
                        replace i12_0 := i12_0.lift (Lift.ext x108 _)
                        replace i14_0 := i14_0.lift (Lift.ext x108 _)
                        replace i69 := i69.lift (Lift.ext x108 _)
                        replace i71_0 := i71_0.lift (Lift.ext x108 _)
                        replace i73_0 := i73_0.lift (Lift.ext x108 _)
                        replace i75_0 := i75_0.lift (Lift.ext x108 _)
                        replace i98 := i98.lift (Lift.ext x108 _)
                        replace i100_0 := i100_0.lift (Lift.ext x108 _)
                        replace i102 := i102.lift (Lift.ext x108 _)
                        replace i104_0 := i104_0.lift (Lift.ext x108 _)
                        replace i106 := i106.lift (Lift.ext x108 _)
                        have e109 := e107.trans x108
                        refine wla rfl rfl (q_move (v := (.tuple #[v108_0, (i64 r108.2)])) rfl rfl) ?_
                        refine wla rfl rfl (q_extract rfl rfl rfl) ?_
                        refine wla rfl rfl (q_extract rfl rfl rfl) ?_
                        refine wla rfl rfl (q_assign (v := v108_0) rfl rfl) ?_
                        refine wla rfl rfl (q_assign (v := (i64 r108.2)) rfl rfl) ?_
                        refine wl_nil ?_
                        refine W_th ?_
                        refine W_seq ?_
                        refine W_reg (by kernel_rfl) ?_
                        refine wla rfl rfl (q_move (v := (i64 r100.2)) rfl rfl) ?_
                        refine wla rfl rfl (q_eqI rfl rfl rfl) ?_
                        refine wlb rfl rfl (q_move (v := (.bool ((decide (r100.2 = 1))))) rfl rfl) (fun hb110 => ?_) (fun hb110 => ?_)
                        · replace H := (if_pos (of_decide_eq_true hb110)).symm.trans H
                          refine wla rfl rfl (q_move (v := (i64 r104.2)) rfl rfl) ?_
                          refine wla rfl rfl (q_eqI rfl rfl rfl) ?_
                          refine wla rfl rfl (q_pick_t (v := (.bool ((decide (r104.2 = 1))))) rfl rfl rfl) ?_
                          refine wlb rfl rfl (q_move (v := (.bool ((decide (r104.2 = 1))))) rfl rfl) (fun hb111 => ?_) (fun hb111 => ?_)
                          · replace H := (if_pos (of_decide_eq_true hb111)).symm.trans H
                            refine wla rfl rfl (q_move (v := (i64 r108.2)) rfl rfl) ?_
                            refine wla rfl rfl (q_eqI rfl rfl rfl) ?_
                            refine wla rfl rfl (q_pick_t (v := (.bool ((decide (r108.2 = 1))))) rfl rfl rfl) ?_
                            refine wlb rfl rfl (q_move (v := (.bool ((decide (r108.2 = 1))))) rfl rfl) (fun hb112 => ?_) (fun hb112 => ?_)
                            · replace H := (if_pos (of_decide_eq_true hb112)).symm.trans H
                              refine wla rfl rfl (q_move (v := (.pointer none)) rfl rfl) ?_
                              obtain ⟨r113, hr113, H⟩ := Option.bind_eq_some_iff.1 H
                              refine wls rfl rfl (stp_call (vs := [(.pointer none)]) Try.func22 rfl rfl rfl (ar1 rfl) (cipher_Rounds_calls (none : Option Cip) (.pointer none) r113 _ (Ci.nil _ _) hr113) ?_)
                              rintro _ w113 ⟨rfl, x113⟩
                              refine ⟨_, rfl, ?_⟩
                              replace i12_0 := i12_0.lift (Lift.ext x113 _)
                              replace i14_0 := i14_0.lift (Lift.ext x113 _)
                              replace i69 := i69.lift (Lift.ext x113 _)
                              replace i71_0 := i71_0.lift (Lift.ext x113 _)
                              replace i73_0 := i73_0.lift (Lift.ext x113 _)
                              replace i75_0 := i75_0.lift (Lift.ext x113 _)
                              replace i98 := i98.lift (Lift.ext x113 _)
                              replace i100_0 := i100_0.lift (Lift.ext x113 _)
                              replace i102 := i102.lift (Lift.ext x113 _)
                              replace i104_0 := i104_0.lift (Lift.ext x113 _)
                              replace i106 := i106.lift (Lift.ext x113 _)
                              replace i108_0 := i108_0.lift (Lift.ext x113 _)
                              have e114 := e109.trans x113
                              refine wla rfl rfl (q_eqI rfl rfl rfl) ?_
                              refine wla rfl rfl (q_pick_t (v := (.bool ((decide (r113 = 0))))) rfl rfl rfl) ?_
                              refine wla rfl rfl (q_assign (v := (.bool ((decide (r113 = 0))))) rfl rfl) ?_
                              refine wl_nil ?_
                              refine W_th ?_
                              refine W_ret ?_
                              obtain rfl := Option.some.inj H
                              refine rt1 (.bool ((decide (r113 = 0)))) rfl rfl rfl rfl ?_
                              exact ⟨rfl, e114⟩
                            · replace H := (if_neg (of_decide_eq_false hb112)).symm.trans H
                              refine wlk rfl rfl ?_
                              refine wlk rfl rfl ?_
                              refine wlk rfl rfl ?_
                              refine wla rfl rfl (q_pick_f (v := (.bool false)) rfl rfl rfl) ?_
                              refine wla rfl rfl (q_assign (v := (.bool false)) rfl rfl) ?_
                              refine wl_nil ?_
                              refine W_th ?_
                              refine W_ret ?_
                              obtain rfl := Option.some.inj H
                              refine rt1 (.bool false) rfl rfl rfl rfl ?_
                              exact ⟨rfl, e109⟩
                          · replace H := (if_neg (of_decide_eq_false hb111)).symm.trans H
                            refine wlk rfl rfl ?_
                            refine wlk rfl rfl ?_
                            refine wla rfl rfl (q_pick_f (v := (.bool false)) rfl rfl rfl) ?_
                            refine wla rfl rfl (q_move (v := (.bool false)) rfl rfl) ?_
                            refine wlk rfl rfl ?_
                            refine wlk rfl rfl ?_
                            refine wlk rfl rfl ?_
                            refine wla rfl rfl (q_pick_f (v := (.bool false)) rfl rfl rfl) ?_
                            refine wla rfl rfl (q_assign (v := (.bool false)) rfl rfl) ?_
                            refine wl_nil ?_
                            refine W_th ?_
                            refine W_ret ?_
                            obtain rfl := Option.some.inj H
                            refine rt1 (.bool false) rfl rfl rfl rfl ?_
                            exact ⟨rfl, e109⟩
                        · replace H := (if_neg (of_decide_eq_false hb110)).symm.trans H
                          refine wlk rfl rfl ?_
                          refine wlk rfl rfl ?_
                          refine wla rfl rfl (q_pick_f (v := (.bool false)) rfl rfl rfl) ?_
                          refine wla rfl rfl (q_move (v := (.bool false)) rfl rfl) ?_
                          refine wlk rfl rfl ?_
                          refine wlk rfl rfl ?_
                          refine wla rfl rfl (q_pick_f (v := (.bool false)) rfl rfl rfl) ?_
                          refine wla rfl rfl (q_move (v := (.bool false)) rfl rfl) ?_
                          refine wlk rfl rfl ?_
                          refine wlk rfl rfl ?_
                          refine wlk rfl rfl ?_
                          refine wla rfl rfl (q_pick_f (v := (.bool false)) rfl rfl rfl) ?_
                          refine wla rfl rfl (q_assign (v := (.bool false)) rfl rfl) ?_
                          refine wl_nil ?_
                          refine W_th ?_
                          refine W_ret ?_
                          obtain rfl := Option.some.inj H
                          refine rt1 (.bool false) rfl rfl rfl rfl ?_
                          exact ⟨rfl, e109⟩
            · replace H := (if_pos (ndec_f hb66)).symm.trans H
              refine wlk rfl rfl ?_
              refine wlk rfl rfl ?_
              refine wlk rfl rfl ?_
              refine wlk rfl rfl ?_
              refine wlk rfl rfl ?_
              refine wlk rfl rfl ?_
              refine wla rfl rfl (q_pick_f (v := (.bool false)) rfl rfl rfl) ?_
              refine wla rfl rfl (q_pick_f (v := (.bool false)) rfl rfl rfl) ?_
              refine wl_nil ?_
              refine W_th ?_
              refine W_cond false rfl rfl (fun hb => by cases hb) (fun _ => ?_)
              refine W_skip ?_
              refine W_th ?_
              refine W_seq ?_
              refine W_reg (by kernel_rfl) ?_
              refine wla rfl rfl (q_move (v := v12) rfl rfl) ?_
              obtain ⟨c115, hc115, H⟩ := Option.bind_eq_some_iff.1 H
              refine wls rfl rfl (stp_make (L := []) (R := (Sc u8)) rfl T22 rfl rfl hc115 (fun _ _ => rfl) ?_)
              intro v115 w115 o115 n115 g115 l115
              have x115 := grown_ext g115
              have i115 : By w115 [] v115 c115 := OwK.slk (Sc.stab _) _ o115 (fun k hk => (Old.nil _) k (n115 k hk)) (fun _ h => h.2)
              replace i12_0 := i12_0.lift (Lift.ext x115 _)
              replace i14_0 := i14_0.lift (Lift.ext x115 _)
              have e116 := e15.trans x115
              obtain ⟨r117, hr117, H⟩ := Option.bind_eq_some_iff.1 H
              refine wls rfl rfl (stp_call (vs := [v12, v115]) Try.func17 rfl rfl rfl (ar2 rfl rfl) (cipher_New_calls r12 c115 v12 v115 r117 _ [] (Old.nil _) i12_0 (i115.lift (Lift.sub (fun _ _ => trivial))) hr117) ?_)
              rintro _ w117 ⟨v117_0, rfl, x117, i117_0⟩
              refine ⟨_, rfl, ?_⟩
              replace i12_0 := i12_0.lift (Lift.ext x117 _)
              replace i14_0 := i14_0.lift (Lift.ext x117 _)
              replace i115 := i115.lift (Lift.ext x117 _)
              have e118 := e116.trans x117
              refine wla rfl rfl (q_move (v := (.tuple #[v117_0, (i64 r117.2)])) rfl rfl) ?_
              refine wla rfl rfl (q_extract rfl rfl rfl) ?_
              refine wla rfl rfl (q_extract rfl rfl rfl) ?_
              refine wla rfl rfl (q_assign (v := v117_0) rfl rfl) ?_
              refine wla rfl rfl (q_assign (v := (i64 r117.2)) rfl rfl) ?_
              refine wl_nil ?_
              refine W_th ?_
              refine W_seq ?_
              refine W_reg (by kernel_rfl) ?_
              refine wla rfl rfl (q_move (v := v117_0) rfl rfl) ?_
              refine wla rfl rfl (q_move (v := p1) rfl rfl) ?_
              obtain ⟨r119, hr119, H⟩ := Option.bind_eq_some_iff.1 H
              refine wls rfl rfl (stp_call (vs := [v117_0, p1]) Try.func19 rfl rfl rfl (ar2 rfl rfl) (cipher_Encrypt_calls r117.1 a1b v117_0 p1 r119 _ (i117_0.lift (Lift.sub (fun _ _ => trivial))) (hp1.lift (Lift.ext e118 _)) hr119) ?_)
              rintro _ w119 ⟨v119_0, rfl, x119, n119_0, o119_0⟩
              refine ⟨_, rfl, ?_⟩
              have i119_0 : By w119 [] v119_0 r119.1 := OwK.slk (Sc.stab _) _ (OwK.scal o119_0 (v119_0 :: [])) (fun k hk => (Old.nil _) k (n119_0 k hk)) (fun _ h => h.2)
              replace i12_0 := i12_0.lift (Lift.ext x119 _)
              replace i14_0 := i14_0.lift (Lift.ext x119 _)
              replace i115 := i115.lift (Lift.ext x119 _)
              replace i117_0 := i117_0.lift (Lift.ext x119 _)
              have e120 := e118.trans x119
              refine wla rfl rfl (q_move (v := (.tuple #[v119_0, (i64 r119.2)])) rfl rfl) ?_
              refine wla rfl rfl (q_extract rfl rfl rfl) ?_
              refine wla rfl rfl (q_extract rfl rfl rfl) ?_
              refine wla rfl rfl (q_assign (v := v119_0) rfl rfl) ?_
              refine wla rfl rfl (q_assign (v := (i64 r119.2)) rfl rfl) ?_
              refine wl_nil ?_
              refine W_th ?_
              refine W_seq ?_
              refine W_reg (by kernel_rfl) ?_
              refine wla rfl rfl (q_move (v := v117_0) rfl rfl) ?_
              refine wla rfl rfl (q_move (v := p1) rfl rfl) ?_
              obtain ⟨r121, hr121, H⟩ := Option.bind_eq_some_iff.1 H
              refine wls rfl rfl (stp_call (vs := [v117_0, p1]) Try.func20 rfl rfl rfl (ar2 rfl rfl) (cipher_Decrypt_calls r117.1 a1b v117_0 p1 r121 _ (i117_0.lift (Lift.sub (fun _ _ => trivial))) (hp1.lift (Lift.ext e120 _)) hr121) ?_)
              rintro _ w121 ⟨v121_0, rfl, x121, n121_0, o121_0⟩
              refine ⟨_, rfl, ?_⟩
              have i121_0 : By w121 [] v121_0 r121.1 := OwK.slk (Sc.stab _) _ (OwK.scal o121_0 (v121_0 :: [])) (fun k hk => (Old.nil _) k (n121_0 k hk)) (fun _ h => h.2)
              replace i12_0 := i12_0.lift (Lift.ext x121 _)
              replace i14_0 := i14_0.lift (Lift.ext x121 _)
              replace i115 := i115.lift (Lift.ext x121 _)
              replace i117_0 := i117_0.lift (Lift.ext x121 _)
              replace i119_0 := i119_0.lift (Lift.ext x121 _)
              have e122 := e120.trans x121
              refine wla rfl rfl (q_move (v := (.tuple #[v121_0, (i64 r121.2)])) rfl rfl) ?_
              refine wla rfl rfl (q_extract rfl rfl rfl) ?_
              refine wla rfl rfl (q_extract rfl rfl rfl) ?_
              refine wla rfl rfl (q_assign (v := v121_0) rfl rfl) ?_
              refine wla rfl rfl (q_assign (v := (i64 r121.2)) rfl rfl) ?_
              refine wl_nil ?_
              refine W_th ?_
              refine W_seq ?_
              refine W_seq ?_
              refine W_reg (by kernel_rfl) ?_
              refine wla rfl rfl (q_move (v := p1) rfl rfl) ?_
              refine wla rfl rfl (q_len rfl T22.sl rfl (hp1.lift (Lift.ext e122 _))) ?_
              refine wla rfl rfl (q_eqI rfl rfl rfl) ?_
              refine wla rfl rfl (q_assign (v := (.bool ((decide ((a1b.length : Int) = 16))))) rfl rfl) ?_
              refine wl_nil ?_
              refine W_th ?_
              refine W_seq ?_
              refine W_reg (by kernel_rfl) ?_
              refine wla rfl rfl (q_move (v := (.bool ((decide ((a1b.length : Int) = 16))))) rfl rfl) ?_
              refine wla rfl rfl (q_move (v := (i64 r119.2)) rfl rfl) ?_
              refine wla rfl rfl (q_eqI rfl rfl rfl) ?_
              refine wla rfl rfl (q_neB rfl (by kernel_rfl) rfl rfl) ?_
              refine wlb rfl rfl (q_move (v := (.bool ((!(((decide ((a1b.length : Int) = 16))) == ((decide (r119.2 = 0)))))))) rfl rfl) (fun hb123 => ?_) (fun hb123 => ?_)
              · replace H := (if_pos hb123).symm.trans H
                refine wlk rfl rfl ?_
                refine wlk rfl rfl ?_
                refine wlk rfl rfl ?_
                refine wlk rfl rfl ?_
                refine wla rfl rfl (q_pick_t (v := (.bool true)) rfl rfl rfl) ?_
                refine wla rfl rfl (q_move (v := (.bool true)) rfl rfl) ?_
                refine wlk rfl rfl ?_
                refine wlk rfl rfl ?_
                refine wlk rfl rfl ?_
                refine wlk rfl rfl ?_
                refine wlk rfl rfl ?_
                refine wlk rfl rfl ?_
                refine wlk rfl rfl ?_
                refine wlk rfl rfl ?_
                refine wlk rfl rfl ?_
                refine wlk rfl rfl ?_
                refine wla rfl rfl (q_pick_t (v := (.bool true)) rfl rfl rfl) ?_
                refine wl_nil ?_
                refine W_th ?_
                refine W_cond true rfl rfl (fun _ => ?_) (fun hb => by cases hb)
                refine W_seq ?_
                refine W_reg (by kernel_rfl) ?_
                refine wla rfl rfl (q_assign (v := (.bool false)) rfl rfl) ?_
                refine wl_nil ?_
                refine W_th ?_
                refine W_ret ?_
                refine th_r ?_
                obtain rfl := Option.some.inj H
                refine rt1 (.bool false) rfl rfl rfl rfl ?_
                exact ⟨rfl, e122⟩
              · replace H := (if_neg (ne_true_of_eq_false hb123)).symm.trans H
                refine wla rfl rfl (q_move (v := (.bool ((decide ((a1b.length : Int) = 16))))) rfl rfl) ?_
                refine wla rfl rfl (q_move (v := (i64 r121.2)) rfl rfl) ?_
                refine wla rfl rfl (q_eqI rfl rfl rfl) ?_
                refine wla rfl rfl (q_neB rfl (by kernel_rfl) rfl rfl) ?_
                refine wla rfl rfl (q_pick_f (v := (.bool ((!(((decide ((a1b.length : Int) = 16))) == ((decide (r121.2 = 0)))))))) rfl rfl rfl) ?_
                refine wlb rfl rfl (q_move (v := (.bool ((!(((decide ((a1b.length : Int) = 16))) == ((decide (r121.2 = 0)))))))) rfl rfl) (fun hb124 => ?_) (fun hb124 => ?_)
                · replace H := (if_pos hb124).symm.trans H
                  refine wlk rfl rfl ?_
                  refine wlk rfl rfl ?_
                  refine wlk rfl rfl ?_
                  refine wlk rfl rfl ?_
                  refine wlk rfl rfl ?_
                  refine wlk rfl rfl ?_
                  refine wlk rfl rfl ?_
                  refine wlk rfl rfl ?_
                  refine wlk rfl rfl ?_
                  refine wlk rfl rfl ?_
                  refine wla rfl rfl (q_pick_t (v := (.bool true)) rfl rfl rfl) ?_
                  refine wl_nil ?_
                  refine W_th ?_
                  refine W_cond true rfl rfl (fun _ => ?_) (fun hb => by cases hb)
                  refine W_seq ?_
                  refine W_reg (by kernel_rfl) ?_
                  refine wla rfl rfl (q_assign (v := (.bool false)) rfl rfl) ?_
                  refine wl_nil ?_
                  refine W_th ?_
                  refine W_ret ?_
                  refine th_r ?_
                  obtain rfl := Option.some.inj H
                  refine rt1 (.bool false) rfl rfl rfl rfl ?_
                  exact ⟨rfl, e122⟩
                · replace H := (if_neg (ne_true_of_eq_false hb124)).symm.trans H
                  refine wla rfl rfl (q_move (v := (.bool ((decide ((a1b.length : Int) = 16))))) rfl rfl) ?_
                  refine wla rfl rfl (q_not rfl rfl) ?_
                  refine wlb rfl rfl (q_move (v := (.bool ((!decide ((a1b.length : Int) = 16))))) rfl rfl) (fun hb125 => ?_) (fun hb125 => ?_)
                  · replace H := (if_neg (ndec_t hb125)).symm.trans H
                    refine wla rfl rfl (q_move (v := v119_0) rfl rfl) ?_
                    refine wla rfl rfl (q_len rfl T22.sl rfl i119_0) ?_
                    refine wla rfl rfl (q_move (v := v121_0) rfl rfl) ?_
                    refine wla rfl rfl (q_len rfl T22.sl rfl i121_0) ?_
                    refine wla rfl rfl (q_addI rfl rfl rfl) ?_
                    refine wla rfl rfl (q_neI rfl rfl rfl) ?_
                    refine wla rfl rfl (q_pick_t (v := (.bool ((!decide ((wI ((r119.1.length : Int) + (r121.1.length : Int))) = 0))))) rfl rfl rfl) ?_
                    refine wla rfl rfl (q_pick_f (v := (.bool ((!decide ((wI ((r119.1.length : Int) + (r121.1.length : Int))) = 0))))) rfl rfl rfl) ?_
                    refine wl_nil ?_
                    refine W_th ?_
                    refine W_cond _ rfl rfl (fun hb126 => ?_) (fun hb126 => ?_)
                    · replace H := (if_neg (ndec_t hb126)).symm.trans H
                      refine W_seq ?_
                      refine W_reg (by kernel_rfl) ?_
                      refine wla rfl rfl (q_assign (v := (.bool false)) rfl rfl) ?_
                      refine wl_nil ?_
                      refine W_th ?_
                      refine W_ret ?_
                      refine th_r ?_
                      obtain rfl := Option.some.inj H
                      refine rt1 (.bool false) rfl rfl rfl rfl ?_
                      exact ⟨rfl, e122⟩
                    · replace H := (if_pos (ndec_f hb126)).symm.trans H
                      refine W_skip ?_
                      refine W_th ?_
                      refine W_seq ?_
                      refine W_reg (by kernel_rfl) ?_
                      refine wla rfl rfl (q_assign (v := (.pointer none)) rfl rfl) ?_
                      refine wl_nil ?_
                      refine W_th ?_
                      refine W_seq ?_
                      refine W_reg (by kernel_rfl) ?_
                      refine wla rfl rfl (q_move (v := (.pointer none)) rfl rfl) ?_
                      obtain ⟨c127, hc127, H⟩ := Option.bind_eq_some_iff.1 H
                      refine wls rfl rfl (stp_make (L := []) (R := (Sc u8)) rfl T22 rfl rfl hc127 (fun _ _ => rfl) ?_)
                      intro v127 w127 o127 n127 g127 l127
                      have x127 := grown_ext g127
                      have i127 : By w127 [] v127 c127 := OwK.slk (Sc.stab _) _ o127 (fun k hk => (Old.nil _) k (n127 k hk)) (fun _ h => h.2)
                      replace i12_0 := i12_0.lift (Lift.ext x127 _)
                      replace i14_0 := i14_0.lift (Lift.ext x127 _)
                      replace i115 := i115.lift (Lift.ext x127 _)
                      replace i117_0 := i117_0.lift (Lift.ext x127 _)
                      replace i119_0 := i119_0.lift (Lift.ext x127 _)
                      replace i121_0 := i121_0.lift (Lift.ext x127 _)
                      have e128 := e122.trans x127
                      obtain ⟨r129, hr129, H⟩ := Option.bind_eq_some_iff.1 H
                      refine wls rfl rfl (stp_call (vs := [(.pointer none), v127]) Try.func19 rfl rfl rfl (ar2 rfl rfl) (cipher_Encrypt_calls (none : Option Cip) c127 (.pointer none) v127 r129 _ (Ci.nil _ _) (i127.lift (Lift.sub (fun _ _ => trivial))) hr129) ?_)
                      rintro _ w129 ⟨v129_0, rfl, x129, n129_0, o129_0⟩
                      refine ⟨_, rfl, ?_⟩
                      have i129_0 : By w129 [] v129_0 r129.1 := OwK.slk (Sc.stab _) _ (OwK.scal o129_0 (v129_0 :: [])) (fun k hk => (Old.nil _) k (n129_0 k hk)) (fun _ h => h.2)
                      replace i12_0 := i12_0.lift (Lift.ext x129 _)
                      replace i14_0 := i14_0.lift (Lift.ext x129 _)
                      replace i115 := i115.lift (Lift.ext x129 _)
                      replace i117_0 := i117_0.lift (Lift.ext x129 _)
                      replace i119_0 := i119_0.lift (Lift.ext x129 _)
                      replace i121_0 := i121_0.lift (Lift.ext x129 _)
                      replace i127 := i127.lift (Lift.ext x129 _)
                      have e130 := e128.trans x129
                      refine wla rfl rfl (q_move (v := (.tuple #[v129_0, (i64 r129.2)])) rfl rfl) ?_
                      refine wla rfl rfl (q_extract rfl rfl rfl) ?_
                      refine wla rfl rfl (q_extract rfl rfl rfl) ?_
                      refine wla rfl rfl (q_assign (v := v129_0) rfl rfl) ?_
                      refine wla rfl rfl (q_assign (v := (i64 r129.2)) rfl rfl) ?_
                      refine wl_nil ?_
                      refine W_th ?_
                      refine W_seq ?_
                      refine W_reg (by kernel_rfl) ?_
                      refine wla rfl rfl (q_move (v := (.pointer none)) rfl rfl) ?_
                      obtain ⟨c131, hc131, H⟩ := Option.bind_eq_some_iff.1 H
                      refine wls rfl rfl (stp_make (L := []) (R := (Sc u8)) rfl T22 rfl rfl hc131 (fun _ _ => rfl) ?_)
                      intro v131 w131 o131 n131 g131 l131
                      have x131 := grown_ext g131
                      have i131 : By w131 [] v131 c131 := OwK.slk (Sc.stab _) _ o131 (fun k hk => (Old.nil _) k (n131 k hk)) (fun _ h => h.2)
                      replace i12_0 := i12_0.lift (Lift.ext x131 _)
                      replace i14_0 := i14_0.lift (Lift.ext x131 _)
                      replace i115 := i115.lift (Lift.ext x131 _)
                      replace i117_0 := i117_0.lift (Lift.ext x131 _)
                      replace i119_0 := i119_0.lift (Lift.ext x131 _)
                      replace i121_0 := i121_0.lift (Lift.ext x131 _)
                      replace i127 := i127.lift (Lift.ext x131 _)
                      replace i129_0 := i129_0.lift (Lift.ext x131 _)
                      have e132 := e130.trans x131
                      obtain ⟨r133, hr133, H⟩ := Option.bind_eq_some_iff.1 H
                      refine wls rfl rfl (stp_call (vs := [(.pointer none), v131]) Try.func20 rfl rfl rfl (ar2 rfl rfl) (cipher_Decrypt_calls (none : Option Cip) c131 (.pointer none) v131 r133 _ (Ci.nil _ _) (i131.lift (Lift.sub (fun _ _ => trivial))) hr133) ?_)
                      rintro _ w133 ⟨v133_0, rfl, x133, n133_0, o133_0⟩
                      refine ⟨_, rfl, ?_⟩
                      have i133_0 : By w133 [] v133_0 r133.1 := OwK.slk (Sc.stab _) _ (OwK.scal o133_0 (v133_0 :: [])) (fun k hk => (Old.nil _) k (n133_0 k hk)) (fun _ h => h.2)
                      replace i12_0 := i12_0.lift (Lift.ext x133 _)
                      replace i14_0 := i14_0.lift (Lift.ext x133 _)
                      replace i115 := i115.lift (Lift.ext x133 _)
                      replace i117_0 := i117_0.lift (Lift.ext x133 _)
                      replace i119_0 := i119_0.lift (Lift.ext x133 _)
                      replace i121_0 := i121_0.lift (Lift.ext x133 _)
                      replace i127 := i127.lift (Lift.ext x133 _)
                      replace i129_0 := i129_0.lift (Lift.ext x133 _)
                      replace i131 := i131.lift (Lift.ext x133 _)
                      have e134 := e132.trans x133
                      refine wla rfl rfl (q_move (v := (.tuple #[v133_0, (i64 r133.2)])) rfl rfl) ?_
                      refine wla rfl rfl (q_extract rfl rfl rfl) ?_
                      refine wla rfl rfl (q_extract rfl rfl rfl) ?_
                      refine wla rfl rfl (q_assign (v := v133_0) rfl rfl) ?_
                      refine wla rfl rfl (q_assign (v := (i64 r133.2)) rfl rfl) ?_
                      refine wl_nil ?_
                      refine W_th ?_
                      refine W_seq ?_
                      refine W_reg (by kernel_rfl) ?_
                      obtain ⟨c135, hc135, H⟩ := Option.bind_eq_some_iff.1 H
                      refine wls rfl rfl (stp_make (L := []) (R := (Sc u8)) rfl T22 rfl rfl hc135 (fun _ _ => rfl) ?_)
                      intro v135 w135 o135 n135 g135 l135
                      have x135 := grown_ext g135
                      have i135 : By w135 [] v135 c135 := OwK.slk (Sc.stab _) _ o135 (fun k hk => (Old.nil _) k (n135 k hk)) (fun _ h => h.2)
                      replace i12_0 := i12_0.lift (Lift.ext x135 _)
                      replace i14_0 := i14_0.lift (Lift.ext x135 _)
                      replace i115 := i115.lift (Lift.ext x135 _)
                      replace i117_0 := i117_0.lift (Lift.ext x135 _)
                      replace i119_0 := i119_0.lift (Lift.ext x135 _)
                      replace i121_0 := i121_0.lift (Lift.ext x135 _)
                      replace i127 := i127.lift (Lift.ext x135 _)
                      replace i129_0 := i129_0.lift (Lift.ext x135 _)
                      replace i131 := i131.lift (Lift.ext x135 _)
                      replace i133_0 := i133_0.lift (Lift.ext x135 _)
                      have e136 := e134.trans x135
                      obtain ⟨r137, hr137, H⟩ := Option.bind_eq_some_iff.1 H
                      refine wls rfl rfl (stp_call (vs := [(.pointer none), v135]) Try.func17 rfl rfl rfl (ar2 rfl rfl) (cipher_New_calls false c135 (.pointer none) v135 r137 _ [] (Old.nil _) (Fd.nil _ _) (i135.lift (Lift.sub (fun _ _ => trivial))) hr137) ?_)
                      rintro _ w137 ⟨v137_0, rfl, x137, i137_0⟩
                      refine ⟨_, rfl, ?_⟩
                      replace i12_0 := i12_0.lift (Lift.ext x137 _)
                      replace i14_0 := i14_0.lift (Lift.ext x137 _)
                      replace i115 := i115.lift (Lift.ext x137 _)
                      replace i117_0 := i117_0.lift (Lift.ext x137 _)
                      replace i119_0 := i119_0.lift (Lift.ext x137 _)
                      replace i121_0 := i121_0.lift (Lift.ext x137 _)
                      replace i127 := i127.lift (Lift.ext x137 _)
                      replace i129_0 := i129_0.lift (Lift.ext x137 _)
                      replace i131 := i131.lift (Lift.ext x137 _)
                      replace i133_0 := i133_0.lift (Lift.ext x137 _)
                      replace i135 := i135.lift (Lift.ext x137 _)
                      have e138 := e136.trans x137
                      refine wla rfl rfl (q_move (v := (.tuple #[v137_0, (i64 r137.2)])) rfl rfl) ?_
                      refine wla rfl rfl (q_extract rfl rfl rfl) ?_
                      refine wla rfl rfl (q_extract rfl rfl rfl) ?_
                      refine wla rfl rfl (q_assign (v := v137_0) rfl rfl) ?_
                      refine wla rfl rfl (q_assign (v := (i64 r137.2)) rfl rfl) ?_
                      refine wl_nil ?_
                      refine W_th ?_
                      refine W_seq ?_
                      refine W_reg (by kernel_rfl) ?_
                      refine wla rfl rfl (q_move (v := (i64 r129.2)) rfl rfl) ?_
                      refine wla rfl rfl (q_eqI rfl rfl rfl) ?_
                      refine wlb rfl rfl (q_move (v := (.bool ((decide (r129.2 = 1))))) rfl rfl) (fun hb139 => ?_) (fun hb139 => ?_)
                      · replace H := (if_pos (of_decide_eq_true hb139)).symm.trans H
                        refine wla rfl rfl (q_move (v := (i64 r133.2)) rfl rfl) ?_
                        refine wla rfl rfl (q_eqI rfl rfl rfl) ?_
                        refine wla rfl rfl (q_pick_t (v := (.bool ((decide (r133.2 = 1))))) rfl rfl rfl) ?_
                        refine wlb rfl rfl (q_move (v := (.bool ((decide (r133.2 = 1))))) rfl rfl) (fun hb140 => ?_) (fun hb140 => ?_)
                        · replace H := (if_pos (of_decide_eq_true hb140)).symm.trans H
                          refine wla rfl rfl (q_move (v := (i64 r137.2)) rfl rfl) ?_
                          refine wla rfl rfl (q_eqI rfl rfl rfl) ?_
                          refine wla rfl rfl (q_pick_t (v := (.bool ((decide (r137.2 = 1))))) rfl rfl rfl) ?_
                          refine wlb rfl rfl (q_move (v := (.bool ((decide (r137.2 = 1))))) rfl rfl) (fun hb141 => ?_) (fun hb141 => ?_)
                          · replace H := (if_pos (of_decide_eq_true hb141)).symm.trans H
                            refine wla rfl rfl (q_move (v := (.pointer none)) rfl rfl) ?_
                            obtain ⟨r142, hr142, H⟩ := Option.bind_eq_some_iff.1 H
                            refine wls rfl rfl (stp_call (vs := [(.pointer none)]) Try.func22 rfl rfl rfl (ar1 rfl) (cipher_Rounds_calls (none : Option Cip) (.pointer none) r142 _ (Ci.nil _ _) hr142) ?_)
                            rintro _ w142 ⟨rfl, x142⟩
                            refine ⟨_, rfl, ?_⟩
                            replace i12_0 := i12_0.lift (Lift.ext x142 _)
                            replace i14_0 := i14_0.lift (Lift.ext x142 _)
                            replace i115 := i115.lift (Lift.ext x142 _)
                            replace i117_0 := i117_0.lift (Lift.ext x142 _)
                            replace i119_0 := i119_0.lift (Lift.ext x142 _)
                            replace i121_0 := i121_0.lift (Lift.ext x142 _)
                            replace i127 := i127.lift (Lift.ext x142 _)
                            replace i129_0 := i129_0.lift (Lift.ext x142 _)
                            replace i131 := i131.lift (Lift.ext x142 _)
                            replace i133_0 := i133_0.lift (Lift.ext x142 _)
                            replace i135 := i135.lift (Lift.ext x142 _)
                            replace i137_0 := i137_0.lift (Lift.ext x142 _)
                            have e143 := e138.trans x142
                            refine wla rfl rfl (q_eqI rfl rfl rfl) ?_
                            refine wla rfl rfl (q_pick_t (v := (.bool ((decide (r142 = 0))))) rfl rfl rfl) ?_
                            refine wla rfl rfl (q_assign (v := (.bool ((decide (r142 = 0))))) rfl rfl) ?_
                            refine wl_nil ?_
                            refine W_th ?_
                            refine W_ret ?_
                            obtain rfl := Option.some.inj H
                            refine rt1 (.bool ((decide (r142 = 0)))) rfl rfl rfl rfl ?_
                            exact ⟨rfl, e143⟩
                          · replace H := (if_neg (of_decide_eq_false hb141)).symm.trans H
                            refine wlk rfl rfl ?_
                            refine wlk rfl rfl ?_
                            refine wlk rfl rfl ?_
                            refine wla rfl rfl (q_pick_f (v := (.bool false)) rfl rfl rfl) ?_
                            refine wla rfl rfl (q_assign (v := (.bool false)) rfl rfl) ?_
                            refine wl_nil ?_
                            refine W_th ?_
                            refine W_ret ?_
                            obtain rfl := Option.some.inj H
                            refine rt1 (.bool false) rfl rfl rfl rfl ?_
                            exact ⟨rfl, e138⟩
                        · replace H := (if_neg (of_decide_eq_false hb140)).symm.trans H
                          refine wlk rfl rfl ?_
                          refine wlk rfl rfl ?_
                          refine wla rfl rfl (q_pick_f (v := (.bool false)) rfl rfl rfl) ?_
                          refine wla rfl rfl (q_move (v := (.bool false)) rfl rfl) ?_
                          refine wlk rfl rfl ?_
                          refine wlk rfl rfl ?_
                          refine wlk rfl rfl ?_
                          refine wla rfl rfl (q_pick_f (v := (.bool false)) rfl rfl rfl) ?_
                          refine wla rfl rfl (q_assign (v := (.bool false)) rfl rfl) ?_
                          refine wl_nil ?_
                          refine W_th ?_
                          refine W_ret ?_
                          obtain rfl := Option.some.inj H
                          refine rt1 (.bool false) rfl rfl rfl rfl ?_
                          exact ⟨rfl, e138⟩
                      · replace H := (if_neg (of_decide_eq_false hb139)).symm.trans H
                        refine wlk rfl rfl ?_
                        refine wlk rfl rfl ?_
                        refine wla rfl rfl (q_pick_f (v := (.bool false)) rfl rfl rfl) ?_
                        refine wla rfl rfl (q_move (v := (.bool false)) rfl rfl) ?_
                        refine wlk rfl rfl ?_
                        refine wlk rfl rfl ?_
                        refine wla rfl rfl (q_pick_f (v := (.bool false)) rfl rfl rfl) ?_
                        refine wla rfl rfl (q_move (v := (.bool false)) rfl rfl) ?_
                        refine wlk rfl rfl ?_
                        refine wlk rfl rfl ?_
                        refine wlk rfl rfl ?_
                        refine wla rfl rfl (q_pick_f (v := (.bool false)) rfl rfl rfl) ?_
                        refine wla rfl rfl (q_assign (v := (.bool false)) rfl rfl) ?_
                        refine wl_nil ?_
                        refine W_th ?_
                        refine W_ret ?_
                        obtain rfl := Option.some.inj H
                        refine rt1 (.bool false) rfl rfl rfl rfl ?_
                        exact ⟨rfl, e138⟩
                  · replace H := (if_pos (ndec_f hb125)).symm.trans H
                    refine wlk rfl rfl ?_
                    refine wlk rfl rfl ?_
                    refine wlk rfl rfl ?_
                    refine wlk rfl rfl ?_
                    refine wlk rfl rfl ?_
                    refine wlk rfl rfl ?_
                    refine wla rfl rfl (q_pick_f (v := (.bool false)) rfl rfl rfl) ?_
                    refine wla rfl rfl (q_pick_f (v := (.bool false)) rfl rfl rfl) ?_
                    refine wl_nil ?_
                    refine W_th ?_
                    refine W_cond false rfl rfl (fun hb => by cases hb) (fun _ => ?_)
                    refine W_skip ?_
                    refine W_th ?_
                    refine W_seq ?_
                    refine W_reg (by kernel_rfl) ?_
                    refine wla rfl rfl (q_assign (v := (.pointer none)) rfl rfl) ?_
                    refine wl_nil ?_
                    refine W_th ?_
                    refine W_seq ?_
                    refine W_reg (by kernel_rfl) ?_
                    refine wla rfl rfl (q_move (v := (.pointer none)) rfl rfl) ?_
                    obtain ⟨c144, hc144, H⟩ := Option.bind_eq_some_iff.1 H
                    refine wls rfl rfl (stp_make (L := []) (R := (Sc u8)) rfl T22 rfl rfl hc144 (fun _ _ => rfl) ?_)
                    intro v144 w144 o144 n144 g144 l144
                    have x144 := grown_ext g144
                    have i144 : By w144 [] v144 c144 := OwK.slk (Sc.stab _) _ o144 (fun k hk => (Old.nil _) k (n144 k hk)) (fun _ h => h.2)
                    replace i12_0 := i12_0.lift (Lift.ext x144 _)
                    replace i14_0 := i14_0.lift (Lift.ext x144 _)
                    replace i115 := i115.lift (Lift.ext x144 _)
                    replace i117_0 := i117_0.lift (Lift.ext x144 _)
                    replace i119_0 := i119_0.lift (Lift.ext x144 _)
                    replace i121_0 := i121_0.lift (Lift.ext x144 _)
                    have e145 := e122.trans x144
                    obtain ⟨r146, hr146, H⟩ := Option.bind_eq_some_iff.1 H
                    refine wls rfl rfl (stp_call (vs := [(.pointer none), v144]) Try.func19 rfl rfl rfl (ar2 rfl rfl) (cipher_Encrypt_calls (none : Option Cip) c144 (.pointer none) v144 r146 _ (Ci.nil _ _) (i144.lift (Lift.sub (fun _ _ => trivial))) hr146) ?_)
                    rintro _ w146 ⟨v146_0, rfl, x146, n146_0, o146_0⟩
                    refine ⟨_, rfl, ?_⟩
                    have i146_0 : By w146 [] v146_0 r146.1 := OwK.slk (Sc.stab _) _ (OwK.scal o146_0 (v146_0 :: [])) (fun k hk => (Old.nil _) k (n146_0 k hk)) (fun _ h => h.2)
                    replace i12_0 := i12_0.lift (Lift.ext x146 _)
                    replace i14_0 := i14_0.lift (Lift.ext x146 _)
                    replace i115 := i115.lift (Lift.ext x146 _)
                    replace i117_0 := i117_0.lift (Lift.ext x146 _)
                    replace i119_0 := i119_0.lift (Lift.ext x146 _)
                    replace i121_0 := i121_0.lift (Lift.ext x146 _)
                    replace i144 := i144.lift (Lift.ext x146 _)
                    have e147 := e145.trans x146
                    refine wla rfl rfl (q_move (v := (.tuple #[v146_0, (i64 r146.2)])) rfl rfl) ?_
                    refine wla rfl rfl (q_extract rfl rfl rfl) ?_
                    refine wla rfl rfl (q_extract rfl rfl rfl) ?_
                    refine wla rfl rfl (q_assign (v := v146_0) rfl rfl) ?_
                    refine wla rfl rfl (q_assign (v := (i64 r146.2)) rfl rfl) ?_
                    refine wl_nil ?_
                    refine W_th ?_
                    refine W_seq ?_
                    refine W_reg (by kernel_rfl) ?_
                    refine wla rfl rfl (q_move (v := (.pointer none)) rfl rfl) ?_
                    obtain ⟨c148, hc148, H⟩ := Option.bind_eq_some_iff.1 H
                    refine wls rfl rfl (stp_make (L := []) (R := (Sc u8)) rfl T22 rfl rfl hc148 (fun _ _ => rfl) ?_)
                    intro v148 w148 o148 n148 g148 l148
                    have x148 := grown_ext g148
                    have i148 : By w148 [] v148 c148 := OwK.slk (Sc.stab _) _ o148 (fun k hk => (Old.nil _) k (n148 k hk)) (fun _ h => h.2)
                    replace i12_0 := i12_0.lift (Lift.ext x148 _)
                    replace i14_0 := i14_0.lift (Lift.ext x148 _)
                    replace i115 := i115.lift (Lift.ext x148 _)
                    replace i117_0 := i117_0.lift (Lift.ext x148 _)
                    replace i119_0 := i119_0.lift (Lift.ext x148 _)
                    replace i121_0 := i121_0.lift (Lift.ext x148 _)
                    replace i144 := i144.lift (Lift.ext x148 _)
                    replace i146_0 := i146_0.lift (Lift.ext x148 _)
                    have e149 := e147.trans x148
                    obtain ⟨r150, hr150, H⟩ := Option.bind_eq_some_iff.1 H
                    refine wls rfl rfl (stp_call (vs := [(.pointer none), v148]) Try.func20 rfl rfl rfl (ar2 rfl rfl) (cipher_Decrypt_calls (none : Option Cip) c148 (.pointer none) v148 r150 _ (Ci.nil _ _) (i148.lift (Lift.sub (fun _ _ => trivial))) hr150) ?_)
                    rintro _ w150 ⟨v150_0, rfl, x150, n150_0, o150_0⟩
                    refine ⟨_, rfl, ?_⟩
                    have i150_0 : By w150 [] v150_0 r150.1 := OwK.slk (Sc.stab _) _ (OwK.scal o150_0 (v150_0 :: [])) (fun k hk => (Old.nil _) k (n150_0 k hk)) (fun _ h => h.2)
                    replace i12_0 := i12_0.lift (Lift.ext x150 _)
                    replace i14_0 := i14_0.lift (Lift.ext x150 _)
                    replace i115 := i115.lift (Lift.ext x150 _)
                    replace i117_0 := i117_0.lift (Lift.ext x150 _)
                    replace i119_0 := i119_0.lift (Lift.ext x150 _)
                    replace i121_0 := i121_0.lift (Lift.ext x150 _)
                    replace i144 := i144.lift (Lift.ext x150 _)
                    replace i146_0 := i146_0.lift (Lift.ext x150 _)
                    replace i148 := i148.lift (Lift.ext x150 _)
                    have e151 := e149.trans x150
                    refine wla rfl rfl (q_move (v := (.tuple #[v150_0, (i64 r150.2)])) rfl rfl) ?_
                    refine wla rfl rfl (q_extract rfl rfl rfl) ?_
                    refine wla rfl rfl (q_extract rfl rfl rfl) ?_
                    refine wla rfl rfl (q_assign (v := v150_0) rfl rfl) ?_
                    refine wla rfl rfl (q_assign (v := (i64 r150.2)) rfl rfl) ?_
                    refine wl_nil ?_
                    refine W_th ?_
                    refine W_seq ?_
                    refine W_reg (by kernel_rfl) ?_
                    obtain ⟨c152, hc152, H⟩ := Option.bind_eq_some_iff.1 H
                    refine wls rfl rfl (stp_make (L := []) (R := (Sc u8)) rfl T22 rfl rfl hc152 (fun _ _ => rfl) ?_)
                    intro v152 w152 o152 n152 g152 l152
                    have x152 := grown_ext g152
                    have i152 : By w152 [] v152 c152 := OwK.slk (Sc.stab _) _ o152 (fun k hk => (Old.nil _) k (n152 k hk)) (fun _ h => h.2)
                    replace i12_0 := i12_0.lift (Lift.ext x152 _)
                    replace i14_0 := i14_0.lift (Lift.ext x152 _)
                    replace i115 := i115.lift (Lift.ext x152 _)
                    replace i117_0 := i117_0.lift (Lift.ext x152 _)
                    replace i119_0 := i119_0.lift (Lift.ext x152 _)
                    replace i121_0 := i121_0.lift (Lift.ext x152 _)
                    replace i144 := i144.lift (Lift.ext x152 _)
                    replace i146_0 := i146_0.lift (Lift.ext x152 _)
                    replace i148 := i148.lift (Lift.ext x152 _)
                    replace i150_0 := i150_0.lift (Lift.ext x152 _)
                    have e153 := e151.trans x152
                    obtain ⟨r154, hr154, H⟩ := Option.bind_eq_some_iff.1 H
                    refine wls rfl rfl (stp_call (vs := [(.pointer none), v152]) Try.func17 rfl rfl rfl (ar2 rfl rfl) (cipher_New_calls false c152 (.pointer none) v152 r154 _ [] (Old.nil _) (Fd.nil _ _) (i152.lift (Lift.sub (fun _ _ => trivial))) hr154) ?_)
                    rintro _ w154 ⟨v154_0, rfl, x154, i154_0⟩
                    refine ⟨_, rfl, ?_⟩
                    replace i12_0 := i12_0.lift (Lift.ext x154 _)
                    replace i14_0 := i14_0.lift (Lift.ext x154 _)
                    replace i115 := i115.lift (Lift.ext x154 _)
                    replace i117_0 := i117_0.lift (Lift.ext x154 _)
                    replace i119_0 := i119_0.lift (Lift.ext x154 _)
                    replace i121_0 := i121_0.lift (Lift.ext x154 _)
                    replace i144 := i144.lift (Lift.ext x154 _)
                    replace i146_0 := i146_0.lift (Lift.ext x154 _)
                    replace i148 := i148.lift (Lift.ext x154 _)
                    replace i150_0 := i150_0.lift (Lift.ext x154 _)
                    replace i152 := i152.lift (Lift.ext x154 _)
                    have e155 := e153.trans x154
                    refine wla rfl rfl (q_move (v := (.tuple #[v154_0, (i64 r154.2)])) rfl rfl) ?_
                    refine wla rfl rfl (q_extract rfl rfl rfl) ?_
                    refine wla rfl rfl (q_extract rfl rfl rfl) ?_
                    refine wla rfl rfl (q_assign (v := v154_0) rfl rfl) ?_
                    refine wla rfl rfl (q_assign (v := (i64 r154.2)) rfl rfl) ?_
                    refine wl_nil ?_
                    refine W_th ?_
                    refine W_seq ?_
                    refine W_reg (by kernel_rfl) ?_
                    refine wla rfl rfl (q_move (v := (i64 r146.2)) rfl rfl) ?_
                    refine wla rfl rfl (q_eqI rfl rfl rfl) ?_
                    refine wlb rfl rfl (q_move (v := (.bool ((decide (r146.2 = 1))))) rfl rfl) (fun hb156 => ?_) (fun hb156 => ?_)
                    · replace H := (if_pos (of_decide_eq_true hb156)).symm.trans H
                      refine wla rfl rfl (q_move (v := (i64 r150.2)) rfl rfl) ?_
                      refine wla rfl rfl (q_eqI rfl rfl rfl) ?_
                      refine wla rfl rfl (q_pick_t (v := (.bool ((decide (r150.2 = 1))))) rfl rfl rfl) ?_
                      refine wlb rfl rfl (q_move (v := (.bool ((decide (r150.2 = 1))))) rfl rfl) (fun hb157 => ?_) (fun hb157 => ?_)
                      · replace H := (if_pos (of_decide_eq_true hb157)).symm.trans H
                        refine wla rfl rfl (q_move (v := (i64 r154.2)) rfl rfl) ?_
                        refine wla rfl rfl (q_eqI rfl rfl rfl) ?_
                        refine wla rfl rfl (q_pick_t (v := (.bool ((decide (r154.2 = 1))))) rfl rfl rfl) ?_
                        refine wlb rfl rfl (q_move (v := (.bool ((decide (r154.2 = 1))))) rfl rfl) (fun hb158 => ?_) (fun hb158 => ?_)
                        · replace H := (if_pos (of_decide_eq_true hb158)).symm.trans H
                          refine wla rfl rfl (q_move (v := (.pointer none)) rfl rfl) ?_
                          obtain ⟨r159, hr159, H⟩ := Option.bind_eq_some_iff.1 H
                          refine wls rfl rfl (stp_call (vs := [(.pointer none)]) Try.func22 rfl rfl rfl (ar1 rfl) (cipher_Rounds_calls (none : Option Cip) (.pointer none) r159 _ (Ci.nil _ _) hr159) ?_)
                          rintro _ w159 ⟨rfl, x159⟩
                          refine ⟨_, rfl, ?_⟩
                          replace i12_0 := i12_0.lift (Lift.ext x159 _)
                          replace i14_0 := i14_0.lift (Lift.ext x159 _)
                          replace i115 := i115.lift (Lift.ext x159 _)
                          replace i117_0 := i117_0.lift (Lift.ext x159 _)
                          replace i119_0 := i119_0.lift (Lift.ext x159 _)
                          replace i121_0 := i121_0.lift (Lift.ext x159 _)
                          replace i144 := i144.lift (Lift.ext x159 _)
                          replace i146_0 := i146_0.lift (Lift.ext x159 _)
                          replace i148 := i148.lift (Lift.ext x159 _)
                          replace i150_0 := i150_0.lift (Lift.ext x159 _)
                          replace i152 := i152.lift (Lift.ext x159 _)
                          replace i154_0 := i154_0.lift (Lift.ext x159 _)
                          have e160 := e155.trans x159
                          refine wla rfl rfl (q_eqI rfl rfl rfl) ?_
                          refine wla rfl rfl (q_pick_t (v := (.bool ((decide (r159 = 0))))) rfl rfl rfl) ?_
                          refine wla rfl rfl (q_assign (v := (.bool ((decide (r159 = 0))))) rfl rfl) ?_
                          refine wl_nil ?_
                          refine W_th ?_
                          refine W_ret ?_
                          obtain rfl := Option.some.inj H
                          refine rt1 (.bool ((decide (r159 = 0)))) rfl rfl rfl rfl ?_
                          exact ⟨rfl, e160⟩
                        · replace H := (if_neg (of_decide_eq_false hb158)).symm.trans H
                          refine wlk rfl rfl ?_
                          refine wlk rfl rfl ?_
                          refine wlk rfl rfl ?_
                          refine wla rfl rfl (q_pick_f (v := (.bool false)) rfl rfl rfl) ?_
                          refine wla rfl rfl (q_assign (v := (.bool false)) rfl rfl) ?_
                          refine wl_nil ?_
                          refine W_th ?_
                          refine W_ret ?_
                          obtain rfl := Option.some.inj H
                          refine rt1 (.bool false) rfl rfl rfl rfl ?_
                          exact ⟨rfl, e155⟩
                      · replace H := (if_neg (of_decide_eq_false hb157)).symm.trans H
                        refine wlk rfl rfl ?_
                        refine wlk rfl rfl ?_
                        refine wla rfl rfl (q_pick_f (v := (.bool false)) rfl rfl rfl) ?_
                        refine wla rfl rfl (q_move (v := (.bool false)) rfl rfl) ?_
                        refine wlk rfl rfl ?_
                        refine wlk rfl rfl ?_
                        refine wlk rfl rfl ?_
                        refine wla rfl rfl (q_pick_f (v := (.bool false)) rfl rfl rfl) ?_
                        refine wla rfl rfl (q_assign (v := (.bool false)) rfl rfl) ?_
                        refine wl_nil ?_
                        refine W_th ?_
                        refine W_ret ?_
                        obtain rfl := Option.some.inj H
                        refine rt1 (.bool false) rfl rfl rfl rfl ?_
                        exact ⟨rfl, e155⟩
                    · replace H := (if_neg (of_decide_eq_false hb156)).symm.trans H
                      refine wlk rfl rfl ?_
                      refine wlk rfl rfl ?_
                      refine wla rfl rfl (q_pick_f (v := (.bool false)) rfl rfl rfl) ?_
                      refine wla rfl rfl (q_move (v := (.bool false)) rfl rfl) ?_
                      refine wlk rfl rfl ?_
                      refine wlk rfl rfl ?_
                      refine wla rfl rfl (q_pick_f (v := (.bool false)) rfl rfl rfl) ?_
                      refine wla rfl rfl (q_move (v := (.bool false)) rfl rfl) ?_
                      refine wlk rfl rfl ?_
                      refine wlk rfl rfl ?_
                      refine wlk rfl rfl ?_
                      refine wla rfl rfl (q_pick_f (v := (.bool false)) rfl rfl rfl) ?_
                      refine wla rfl rfl (q_assign (v := (.bool false)) rfl rfl) ?_
                      refine wl_nil ?_
                      refine W_th ?_
                      refine W_ret ?_
                      obtain rfl := Option.some.inj H
                      refine rt1 (.bool false) rfl rfl rfl rfl ?_
                      exact ⟨rfl, e155⟩

end Gk

/- Chapter 5's statements, in plain Lean. No condition. -/



set_option linter.unusedSimpArgs false
set_option linter.unusedVariables false
namespace Gk
open Gf

/-- So many bytes, made of any. -/
def padK (n : Nat) (b : List UInt8) : List UInt8 := copyL (List.replicate n 0) 0 b
theorem padK_len (n : Nat) (b : List UInt8) : (padK n b).length = n := by
  have := copyL_len (List.replicate n (0 : UInt8)) 0 b (by omega)
  rw [List.length_replicate] at this; exact this
theorem key_eq (b : List UInt8) (long : Bool) : law05_key b long = some (padK (if long then 32 else 16) b) := by
  have hm : (1000 : Nat) ≤ most := by decide
  unfold law05_key
  cases long
  · rw [if_neg (by simp), show (16 : Int) = ((16 : Nat) : Int) by rfl, makeL_nat _ _ (by omega), Option.bind_some]; rfl
  · rw [if_pos rfl, show (32 : Int) = ((32 : Nat) : Int) by rfl, makeL_nat _ _ (by omega), Option.bind_some]; rfl
theorem keys_cons (key : List UInt8) (n : Nat) (hn : n = 4 ∨ n = 8) (h : key.length = 4 * n) : ∃ k0 ks, keysF key = k0 :: ks ∧ k0.length = 16 ∧ (∀ x ∈ ks, x.length = 16) ∧ ks.length = n + 6 := by
  have hl := keysF_len key n (by omega) h
  have h16 := keysF_16 key n (by omega) h
  cases hK : keysF key with
  | nil => rw [hK] at hl; simp at hl
  | cons k0 ks =>
    rw [hK] at hl h16
    exact ⟨k0, ks, rfl, h16 _ (List.mem_cons_self ..), fun x hx => h16 x (List.mem_cons_of_mem _ hx), by simpa using hl⟩
def exK : List UInt8 := [0, 1, 2, 3, 4, 5, 6, 7, 8, 9, 10, 11, 12, 13, 14, 15]
def exB : List UInt8 := [0, 17, 34, 51, 68, 85, 102, 119, 136, 153, 170, 187, 204, 221, 238, 255]
theorem ex_enc : (encF ((keysF exK).headD []) (keysF exK).tail exB).take 2 = [105, 196] := by decide +kernel
theorem lives5 : law05_lives = some true := by
  have hm : (1000 : Nat) ≤ most := by decide
  unfold law05_lives
  refine bind_of (x := (List.replicate 16 0, List.replicate 16 0)) (by rw [show (16 : Int) = ((16 : Nat) : Int) by rfl, makeL_nat _ _ (by omega), Option.bind_some, Option.bind_some]) ?_
  refine bind_of (x := (exK, exB)) (iterC_some.2 ⟨17, by kernel_rfl⟩) ?_
  obtain ⟨k0, ks, hK, h0, hks, hl⟩ := keys_cons exK 4 (.inl rfl) rfl
  rw [show field_New = some true by rfl, Option.bind_some]
  dsimp only
  rw [New_eq exK 4 (.inl rfl) rfl, Option.bind_some, hK]
  dsimp only
  rw [Encrypt_eq k0 ks exB h0 hks (by omega) rfl, Option.bind_some]
  dsimp only
  have hen := encF_len k0 ks exB h0 hks rfl
  have ht := ex_enc
  rw [hK] at ht
  simp only [List.headD_cons, List.tail_cons] at ht
  have e0 : co (encF k0 ks exB) 0 = 105 := by
    have := congrArg (fun l => co l 0) ht
    simp only [co_take] at this
    exact this
  have e1 : co (encF k0 ks exB) 1 = 196 := by
    have := congrArg (fun l => co l 1) ht
    simp only [co_take] at this
    exact this
  rw [if_pos rfl, if_pos rfl, if_pos (by omega)]
  rw [show (0 : Int) = ((0 : Nat) : Int) by rfl, show (1 : Int) = ((1 : Nat) : Int) by rfl, idx_co (by omega), Option.bind_some, e0, if_pos rfl, idx_co (by omega), Option.bind_some, e1]; rfl
theorem law05_CipherEncrypts_true (k : List UInt8) (long : Bool) (b : List UInt8) : law05_CipherEncrypts k long b = some true := by
  obtain ⟨n, hn, hl⟩ : ∃ n, (n = 4 ∨ n = 8) ∧ (if long then 32 else 16) = 4 * n := by
    cases long
    · exact ⟨4, .inl rfl, rfl⟩
    · exact ⟨8, .inr rfl, rfl⟩
  have hkl : (padK (if long then 32 else 16) k).length = 4 * n := by rw [padK_len, hl]
  have hbl : (padK 16 b).length = 16 := padK_len _ _
  obtain ⟨k0, ks, hK, h0, hks, hsl⟩ := keys_cons _ n hn hkl
  unfold law05_CipherEncrypts
  rw [lives5, Option.bind_some, if_neg (by simp), key_eq, Option.bind_some, key_eq, Option.bind_some, show field_New = some true by rfl, Option.bind_some, New_eq _ n hn hkl, Option.bind_some, hK]
  rw [show (if false = true then 32 else 16) = 16 by rfl]
  generalize padK (if long then 32 else 16) k = K at *
  generalize padK 16 b = B at *
  refine bind_of (x := (List.range K.length).map fun i => co K i ^^^ 255) (iterC_count (fun i => (updB K (fun j => co K j ^^^ 255) i, (i : Int))) K.length _ (by rw [updB_zero]; rfl) ?_ ?_) ?_
  · intro i hi
    have hs := updB_succ K (fun j => co K j ^^^ 255) i hi
    dsimp only
    rw [if_pos (by omega), idx_updB _ _ _ _ hi, if_neg (by omega), Option.bind_some, Int.toNat_natCast, hs, wI_succ _ (by omega)]
  · dsimp only
    rw [if_neg (by omega), updB_end]
  · dsimp only
    rw [Encrypt_eq k0 ks B h0 hks (by omega) hbl, Option.bind_some]
    dsimp only
    rw [Decrypt_eq k0 ks _ h0 hks (by omega) (encF_len k0 ks B h0 hks hbl), Option.bind_some, dec_enc k0 ks B h0 hks hbl]
    dsimp only
    rw [if_pos rfl, if_pos rfl, if_pos rfl, Option.bind_some, rEncrypt_eq K B k0 ks n hn hkl hbl hK, Option.bind_some, if_pos rfl, if_pos rfl, Rounds_eq _ (by simp) (by simp; omega), Option.bind_some]
    rw [List.length_map, List.length_range, show (4 : Int) = ((4 : Nat) : Int) by rfl, divI_nat _ _ (by omega) (by omega), Option.bind_some, show K.length / 4 = n by omega, wI_of (by omega) (by omega)]
    dsimp only
    rw [List.length_cons, Nat.add_sub_cancel, hsl]
    rw [decide_eq_true (by omega)]
theorem law05_CipherBack_true (k : List UInt8) (long : Bool) (a b : List UInt8) : law05_CipherBack k long a b = some true := by
  obtain ⟨n, hn, hl⟩ : ∃ n, (n = 4 ∨ n = 8) ∧ (if long then 32 else 16) = 4 * n := by
    cases long
    · exact ⟨4, .inl rfl, rfl⟩
    · exact ⟨8, .inr rfl, rfl⟩
  have hkl : (padK (if long then 32 else 16) k).length = 4 * n := by rw [padK_len, hl]
  have hal : (padK 16 a).length = 16 := padK_len _ _
  have hbl : (padK 16 b).length = 16 := padK_len _ _
  obtain ⟨k0, ks, hK, h0, hks, hsl⟩ := keys_cons _ n hn hkl
  unfold law05_CipherBack
  rw [lives5, Option.bind_some, if_neg (by simp), show field_New = some true by rfl, Option.bind_some, key_eq, Option.bind_some, New_eq _ n hn hkl, Option.bind_some, hK, key_eq, Option.bind_some, key_eq, Option.bind_some]
  rw [show (if false = true then 32 else 16) = 16 by rfl]
  generalize padK (if long then 32 else 16) k = K at *
  generalize padK 16 a = A at *
  generalize padK 16 b = B at *
  dsimp only
  rw [Decrypt_eq k0 ks A h0 hks (by omega) hal, Option.bind_some]
  dsimp only
  rw [Encrypt_eq k0 ks _ h0 hks (by omega) (decF_len k0 ks A h0 hal), Option.bind_some, Encrypt_eq k0 ks A h0 hks (by omega) hal, Option.bind_some, Encrypt_eq k0 ks B h0 hks (by omega) hbl, Option.bind_some, enc_dec k0 ks A h0 hks hal]
  dsimp only
  rw [if_pos rfl, if_pos rfl, if_pos rfl, if_pos rfl]
  have hiff : (encF k0 ks A = encF k0 ks B) ↔ A = B := ⟨fun e => by rw [← dec_enc k0 ks A h0 hks hal, e, dec_enc k0 ks B h0 hks hbl], fun e => by rw [e]⟩
  by_cases hAB : A = B
  · subst hAB; simp
  · rw [decide_eq_false (fun e => hAB (hiff.1 e)), decide_eq_false hAB]; rfl
theorem New_bad (k : List UInt8) (h1 : k.length ≠ 16) (h2 : k.length ≠ 32) : cipher_New true k = some (none, 3) := by
  unfold cipher_New
  rw [if_neg (by simp), if_neg (by omega), if_neg (by omega), Option.bind_some, Sum.elim_inr]
theorem New_none (k : List UInt8) : cipher_New false k = some (none, 1) := by
  unfold cipher_New
  rw [if_pos (by simp), Option.bind_some, Sum.elim_inr]
theorem Enc_none (b : List UInt8) : cipher_Encrypt none b = some ([], 1) := by
  unfold cipher_Encrypt; rw [if_pos (by simp)]
theorem Dec_none (b : List UInt8) : cipher_Decrypt none b = some ([], 1) := by
  unfold cipher_Decrypt; rw [if_pos (by simp)]
theorem Enc_bad (c : Cip) (b : List UInt8) (h : b.length ≠ 16) : cipher_Encrypt (some c) b = some ([], 3) := by
  unfold cipher_Encrypt; rw [if_neg (by simp), if_neg (by omega)]
theorem Dec_bad (c : Cip) (b : List UInt8) (h : b.length ≠ 16) : cipher_Decrypt (some c) b = some ([], 3) := by
  unfold cipher_Decrypt; rw [if_neg (by simp), if_neg (by omega)]
theorem Rounds_none : cipher_Rounds none = some 0 := by
  unfold cipher_Rounds; rw [if_pos (by simp)]
/-- What is made of a key, and what becomes of a block. -/
theorem enc_any (k b : List UInt8) (n : Nat) (hn : n = 4 ∨ n = 8) (h : k.length = 4 * n) : ∃ c x y, cipher_New true k = some (some c, 0) ∧ cipher_Encrypt (some c) b = some (x, if b.length = 16 then 0 else 3) ∧ cipher_Decrypt (some c) b = some (y, if b.length = 16 then 0 else 3) ∧ (b.length ≠ 16 → x = [] ∧ y = []) := by
  obtain ⟨k0, ks, hK, h0, hks, hsl⟩ := keys_cons k n hn h
  have hN := New_eq k n hn h
  rw [hK] at hN
  by_cases hb : b.length = 16
  · exact ⟨_, _, _, hN, by rw [if_pos hb]; exact Encrypt_eq k0 ks b h0 hks (by omega) hb, by rw [if_pos hb]; exact Decrypt_eq k0 ks b h0 hks (by omega) hb, fun e => absurd hb e⟩
  · exact ⟨_, [], [], hN, by rw [if_neg hb]; exact Enc_bad _ b hb, by rw [if_neg hb]; exact Dec_bad _ b hb, fun _ => ⟨rfl, rfl⟩⟩
theorem law05_CipherForms_true (k b : List UInt8) : law05_CipherForms k b = some true := by
  have hm : (1000 : Nat) ≤ most := by decide
  unfold law05_CipherForms
  rw [lives5, Option.bind_some, if_neg (by simp)]
  by_cases h1 : 100 < (k.length : Int)
  · rw [if_pos h1]; rfl
  rw [if_neg h1]
  by_cases h2 : 100 < (b.length : Int)
  · rw [if_pos h2]; rfl
  rw [if_neg h2]
  have hmk : makeL 16 (0 : UInt8) = some (List.replicate 16 0) := by rw [show (16 : Int) = ((16 : Nat) : Int) by rfl, makeL_nat _ _ (by omega)]
  obtain ⟨c, x, y, hN, hE, hD, hbad⟩ := enc_any (List.replicate 16 0) b 4 (.inl rfl) (by simp)
  rw [show field_New = some true by rfl, Option.bind_some]
  simp only [hmk, hN, hE, hD, Enc_none, Dec_none, New_none, Rounds_none, Option.bind_some]
  have hb3 : ∀ e : Int, (if b.length = 16 then (0 : Int) else 3) = e → (decide ((b.length : Int) = 16)) = decide (e = 0) := fun e he => by
    subst he
    by_cases h : b.length = 16
    · rw [if_pos h, decide_eq_true (by omega), decide_eq_true rfl]
    · rw [if_neg h, decide_eq_false (by omega), decide_eq_false (by decide)]
  by_cases h16 : k.length = 16
  · obtain ⟨c', x', y', hN', _⟩ := enc_any k b 4 (.inl rfl) h16
    rw [hN']
    simp only [Option.bind_some]
    rw [if_pos (by omega), if_neg (by simp), hb3 _ rfl, if_neg (by simp)]
    rw [if_neg (by simp)]
    by_cases h : b.length = 16
    · rw [if_pos (by omega)]; simp
    · obtain ⟨rfl, rfl⟩ := hbad h
      rw [if_neg (by omega), if_pos (by decide)]; simp
  · by_cases h32 : k.length = 32
    · obtain ⟨c', x', y', hN', _⟩ := enc_any k b 8 (.inr rfl) h32
      rw [hN']
      simp only [Option.bind_some]
      rw [if_neg (by omega), decide_eq_true (by omega : (k.length : Int) = 32), if_neg (by simp), if_pos (by omega), hb3 _ rfl, if_neg (by simp), if_neg (by simp)]
      by_cases h : b.length = 16
      · rw [if_pos (by omega)]; simp
      · obtain ⟨rfl, rfl⟩ := hbad h
        rw [if_neg (by omega), if_pos (by decide)]; simp
    · rw [New_bad k h16 h32]
      simp only [Option.bind_some]
      rw [if_neg (by omega), decide_eq_false (by omega : ¬ (k.length : Int) = 32), if_neg (by simp), if_neg (by omega), if_pos trivial, if_neg (by simp), hb3 _ rfl, if_neg (by simp), if_neg (by simp)]
      by_cases h : b.length = 16
      · rw [if_pos (by omega)]; simp
      · obtain ⟨rfl, rfl⟩ := hbad h
        rw [if_neg (by omega), if_pos (by decide)]; simp
end Gk

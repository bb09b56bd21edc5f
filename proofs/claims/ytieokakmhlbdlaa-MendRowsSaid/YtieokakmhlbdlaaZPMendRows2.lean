/- Parts Mb, Fb, F1, F3, Gm, F5, Ff, F8, F4, L8a, Gn, Go, Gp, Fh, LAa, Fg, Gq, Hs, Rc, GmI, GmJ, one behind the other. What is proved: said at the head of each part. No condition beside those said there. -/
import Derived.Test.YtieokakmhlbdlaaRows
import Derived.Orders
import Derived.Deep.Draws
import Derived.Laws.World
import Derived.KernelRfl
import Derived.OrdersIn
import Derived.TacticsIn
import Derived.RangeFuncCalls
import Derived.Deep.LoopGhost
import Derived.Tactics
import Derived.Sort.LoopGhostIn
import Derived.RangeFuncLeaves
import Derived.RangeFuncNested
import Derived.RangeFuncRecord
import Derived.Laws.Sem
import Derived.OwnWalk
import Derived.RangeFuncWrites
import Derived.Laws.IdiomCopy
import Derived.WalkKit
import Derived.ProofKit
import Derived.OpenShut
import Derived.ChangeOld
import Derived.Below
import Derived.Test.YtieokakmhlbdlaaProg
import Derived.MapKept
import Derived.Lib.AppendZerosOnto
import Derived.Laws.CopyRow
import Derived.Laws.Cells
import Derived.Test.YtieokakmhlbdlaaZPMendRows1
set_option maxRecDepth 100000
set_option maxHeartbeats 8000000
set_option linter.unusedVariables false
set_option linter.unusedSimpArgs false
/- The field of 256 numbers, in plain Lean: what the program's and the document's product come to. No condition. -/
namespace Gf
theorem bit_shr (b : UInt8) : (bit (Gk.shr8 b 1) 0 = bit b 1 ∧ bit (Gk.shr8 b 1) 1 = bit b 2 ∧ bit (Gk.shr8 b 1) 2 = bit b 3 ∧ bit (Gk.shr8 b 1) 3 = bit b 4) ∧
    bit (Gk.shr8 b 1) 4 = bit b 5 ∧ bit (Gk.shr8 b 1) 5 = bit b 6 ∧ bit (Gk.shr8 b 1) 6 = bit b 7 ∧ bit (Gk.shr8 b 1) 7 = false := by
  revert b; refine all8 ?_; decide +kernel
theorem bit_and (b : UInt8) : (b &&& 1 = 1) ↔ bit b 0 = true := by
  revert b; refine all8 ?_; decide +kernel
theorem mul_step (a b : UInt8) : mul a b = sel (bit b 0) a ^^^ mul (dbl a) (Gk.shr8 b 1) := by
  obtain ⟨⟨h0, h1, h2, h3⟩, h4, h5, h6, h7⟩ := bit_shr b
  unfold mul
  rw [h0, h1, h2, h3, h4, h5, h6, h7]
  simp [dblN, sel, UInt8.xor_assoc]
def cl (a b : Nat) : Nat → Nat
  | 0 => 0
  | k + 1 => if b.testBit k then cl a b k ^^^ (a <<< k) else cl a b k
def rd : Nat → Nat → Nat
  | 0, p => p
  | j + 1, p => rd j (if p.testBit (8 + j) then p ^^^ (283 <<< j) else p)
def rds (p : Nat) : Nat → Nat
  | 0 => p
  | i + 1 => if (rds p i).testBit (14 - i) then rds p i ^^^ (283 <<< (6 - i)) else rds p i
theorem rd_xor (j : Nat) : ∀ p q, rd j (p ^^^ q) = rd j p ^^^ rd j q := by
  induction j with
  | zero => intro p q; rfl
  | succ j ih =>
    intro p q
    have h : (if (p ^^^ q).testBit (8 + j) then (p ^^^ q) ^^^ (283 <<< j) else p ^^^ q) =
        (if p.testBit (8 + j) then p ^^^ (283 <<< j) else p) ^^^ (if q.testBit (8 + j) then q ^^^ (283 <<< j) else q) := by
      rw [Nat.testBit_xor]
      generalize 283 <<< j = c
      cases p.testBit (8 + j) <;> cases q.testBit (8 + j) <;> simp
      · exact Nat.xor_assoc p q c
      · rw [Nat.xor_assoc, Nat.xor_comm q c, Nat.xor_assoc]
      · rw [Nat.xor_assoc p c, ← Nat.xor_assoc c q c, Nat.xor_comm c q, Nat.xor_assoc q c c, Nat.xor_self, Nat.xor_zero]
    simp only [rd, h, ih]
theorem rd_sel (c : Bool) (x a : Nat) (k : Nat) : rd 7 (if c then x ^^^ (a <<< k) else x) = rd 7 x ^^^ (if c then rd 7 (a <<< k) else 0) := by
  cases c
  · simp
  · simp [rd_xor]
theorem rd_dbl (a : UInt8) : (List.range 8).all (fun k => rd 7 (a.toNat <<< k) == (dblN k a).toNat) = true := by
  revert a; refine all8 ?_; decide +kernel
theorem rd_dbl' (a : UInt8) (k : Nat) (h : k < 8) : rd 7 (a.toNat <<< k) = (dblN k a).toNat := by
  have := List.all_eq_true.1 (rd_dbl a) k (List.mem_range.2 h)
  simpa using this
theorem rd0 : rd 7 0 = 0 := by decide
theorem sel_nat (c : Bool) (a : UInt8) : (sel c a).toNat = if c then a.toNat else 0 := by cases c <;> simp [sel]
theorem ref_eq (a b : UInt8) : rd 7 (cl a.toNat b.toNat 8) = (mul a b).toNat := by
  simp only [cl, rd_sel, rd0, mul, UInt8.toNat_xor, sel_nat, bit]
  rw [rd_dbl' a 0 (by decide), rd_dbl' a 1 (by decide), rd_dbl' a 2 (by decide), rd_dbl' a 3 (by decide), rd_dbl' a 4 (by decide), rd_dbl' a 5 (by decide), rd_dbl' a 6 (by decide), rd_dbl' a 7 (by decide)]
  simp only [Nat.zero_xor]
theorem cl_lt (a b : Nat) (ha : a < 256) : ∀ k, k ≤ 8 → cl a b k < 32768 := by
  intro k
  induction k with
  | zero => intro _; simp [cl]
  | succ k ih =>
    intro hk
    have h1 := ih (by omega)
    have h2 : a <<< k < 32768 := by
      rw [Nat.shiftLeft_eq]
      have : 2 ^ k ≤ 2 ^ 7 := Nat.pow_le_pow_right (by decide) (by omega)
      calc a * 2 ^ k ≤ a * 2 ^ 7 := Nat.mul_le_mul_left _ this
        _ < 32768 := by omega
    simp only [cl]
    split
    · exact Nat.xor_lt_two_pow (n := 15) h1 h2
    · exact h1
end Gf
namespace Gk
open Gf
theorem double_eq (a : UInt8) : field_double a = some (dbl a) := by
  revert a
  refine all8 ?_
  unfold field_double
  decide +kernel
theorem ofInt_nat (a : UInt8) : UInt8.ofInt (a.toNat : Int) = a := by
  revert a; refine all8 ?_; decide +kernel
theorem Slow_loop (a b o : UInt8) : iterC (fun s1 : UInt8 × UInt8 × UInt8 =>
    (if s1.2.1 = (0 : UInt8) then some (.inr s1.2.2) else
    (if (s1.2.1 &&& (1 : UInt8)) = (1 : UInt8) then ((field_double s1.1).bind fun r5 => some (.inl (r5, (shr8 s1.2.1 1), (s1.2.2 ^^^ s1.1))))
    else ((field_double s1.1).bind fun r7 => some (.inl (r7, (shr8 s1.2.1 1), s1.2.2)))))) (a, b, o) = some (o ^^^ mul a b) := by
  simp only [double_eq, Option.bind_some]
  generalize hk : b.toNat = k
  induction k using Nat.strongRecOn generalizing a b o with
  | ind k ih =>
    rw [iterC_step]
    by_cases h : b = 0
    · subst h; simp [mul_zero]
    · have hlt : (shr8 b 1).toNat < k := by
        have : b.toNat ≠ 0 := fun e => h (UInt8.toNat_inj.1 (by simpa using e))
        have := b.toNat_lt
        simp [shr8]; omega
      simp only [if_neg h]
      by_cases h1 : b &&& 1 = 1
      · simp only [if_pos h1, Option.bind_some]
        rw [ih _ hlt _ _ _ rfl, mul_step a b, (bit_and b).1 h1]
        simp [sel, UInt8.xor_assoc]
      · simp only [if_neg h1, Option.bind_some]
        have h0 : bit b 0 = false := by cases hb : bit b 0 with | false => rfl | true => exact absurd ((bit_and b).2 hb) h1
        rw [ih _ hlt _ _ _ rfl, mul_step a b, h0]
        simp [sel]
theorem Slow_eq (a b : UInt8) : field_Slow a b = some (mul a b) := by
  unfold field_Slow
  rw [Slow_loop]; simp
theorem shr_bit (b : UInt8) : (List.range 8).all (fun k => decide ((shr8 b k % 2 = 1) ↔ b.toNat.testBit k = true)) = true := by
  revert b; refine all8 ?_; decide +kernel
theorem shr_bit' (b : UInt8) (k : Nat) (h : k < 8) : (shr8 b k % 2 = 1) ↔ b.toNat.testBit k = true := by
  have := List.all_eq_true.1 (shr_bit b) k (List.mem_range.2 h)
  exact of_decide_eq_true this
theorem refMul_eq (a b : UInt8) : ref02_Mul a b = some (mul a b) := by
  unfold ref02_Mul
  have ha := a.toNat_lt
  refine bind_of (iterC_count (fun k => (((cl a.toNat b.toNat k : Nat) : Int), (k : Int))) 8 ((cl a.toNat b.toNat 8 : Nat) : Int) rfl ?_ ?_) ?_
  rotate_left 2
  · have hl := cl_lt a.toNat b.toNat ha 8 (Nat.le_refl _)
    have hr := ref_eq a b
    generalize cl a.toNat b.toNat 8 = p at hl hr ⊢
    -- seven steps
    have hP : ∀ i, rds p (i + 1) = if (rds p i).testBit (14 - i) then rds p i ^^^ (283 <<< (6 - i)) else rds p i := fun i => rfl
    have hlt : ∀ i, rds p i < 32768 := by
      intro i
      induction i with
      | zero => exact hl
      | succ i ih =>
        rw [hP]; split
        · refine Nat.xor_lt_two_pow (n := 15) ih ?_
          have : 2 ^ (6 - i) ≤ 2 ^ 6 := Nat.pow_le_pow_right (by decide) (by omega)
          rw [Nat.shiftLeft_eq]; omega
        · exact ih
    have h7 : rds p 7 = rd 7 p := rfl
    refine bind_of (iterC_count (fun i => (((rds p i : Nat) : Int), 14 - (i : Int))) 7 ((rds p 7 : Nat) : Int) (by simp [rds]) ?_ ?_) ?_
    rotate_left 2
    · simp only [h7, hr]
      rw [ofInt_nat]
    · intro i hi
      have e1 : (14 - (i : Int)) = ((14 - i : Nat) : Int) := by omega
      have e2 : wI (14 - (i : Int) - 8) = ((6 - i : Nat) : Int) := by rw [wI_of (by omega) (by omega)]; omega
      have e3 : wI (14 - (i : Int) - 1) = 14 - ((i + 1 : Nat) : Int) := by rw [wI_of (by omega) (by omega)]; omega
      simp only [e2, e3]
      rw [if_pos (by omega), e1, cnt_nat]
      simp only [Option.bind_some, cnt_nat]
      rw [shrI_nat _ _ (by omega)]
      have e4 := remI_nat (rds p i >>> (14 - i)) 2 (by decide)
      have e5 : ((2 : Nat) : Int) = 2 := rfl
      rw [e5] at e4
      rw [e4, hP]
      have e6 : (rds p i).testBit (14 - i) = decide (rds p i >>> (14 - i) % 2 = 1) := by rw [Nat.testBit_eq_decide_div_mod_eq, Nat.shiftRight_eq_div_pow]
      simp only [Option.bind_some, e6]
      by_cases hc : rds p i >>> (14 - i) % 2 = 1
      · rw [if_pos (by omega), if_pos (decide_eq_true hc)]
        have h2 : 2 ^ (6 - i) ≤ 2 ^ 6 := Nat.pow_le_pow_right (by decide) (by omega)
        have e7 := shlI_nat 283 (6 - i) (by omega) (by omega)
        have e8 : ((283 : Nat) : Int) = 283 := rfl
        rw [e8] at e7
        rw [e7, xorI_nat _ _ (by have := hlt i; omega) (by rw [Nat.shiftLeft_eq]; omega)]
      · rw [if_neg (by omega), if_neg (fun e => hc (of_decide_eq_true e))]
    · rw [if_neg (by omega)]
  · intro i hi
    rw [if_pos (by omega)]
    simp only [cnt_nat, Option.bind_some, cl]
    have e3 : wI ((i : Int) + 1) = ((i + 1 : Nat) : Int) := by rw [wI_of (by omega) (by omega)]; omega
    have h2 : 2 ^ i ≤ 2 ^ 7 := Nat.pow_le_pow_right (by decide) (by omega)
    have h3 : a.toNat * 2 ^ i ≤ a.toNat * 2 ^ 7 := Nat.mul_le_mul_left _ h2
    rw [e3]
    by_cases hc : b.toNat.testBit i = true
    · rw [if_pos ((shr_bit' b i hi).2 hc), if_pos hc, shlI_nat _ _ (by omega) (by omega), xorI_nat _ _ (by have := cl_lt a.toNat b.toNat ha i (by omega); omega) (by rw [Nat.shiftLeft_eq]; omega)]
    · rw [if_neg (fun e => hc ((shr_bit' b i hi).1 e)), if_neg hc]
  · rw [if_neg (by omega)]
end Gk

/- The field is made: its tables are those of Gf. No condition. -/
namespace Gk
open Go Go.Proofs
def zF : Array Value := fieldCells (List.replicate 510 0) (List.replicate 256 0)
theorem zeroF : (Try.prog.info? 52).map (fun i => i.zero) = some (some (.agg zF)) := by kernel_rfl
theorem build0 (w : World) : (Instr.build 52 #[]).run Try.prog w = .ok (.agg zF) w := by
  have h := zeroF
  cases hi : Try.prog.info? 52 with
  | none => rw [hi] at h; cases h
  | some i =>
    rw [hi] at h
    have hz : i.zero = some (.agg zF) := by simpa using h
    have hzr : (zeroValue 52).run Try.prog w = .ok (.agg zF) w := by
      simp [zeroValue, typeInfo, hi, hz]
    simp [Instr.build, hzr, Value.cells, Instr.fill]
theorem fc_pw (pw : List UInt8) (lg : List Int) (k : Nat) (c : UInt8) (h : k < pw.length) : (fieldCells pw lg).setIfInBounds k (u8 c) = fieldCells (pw.set k c) lg := by
  simp [fieldCells, List.set_append, h, List.map_set]
theorem fc_lg (pw : List UInt8) (lg : List Int) (k : Nat) (c : Int) : (fieldCells pw lg).setIfInBounds (pw.length + k) (i64 c) = fieldCells pw (lg.set k c) := by
  simp [fieldCells, List.set_append, List.map_set]
theorem fc_size (pw : List UInt8) (lg : List Int) : (fieldCells pw lg).size = pw.length + lg.length := by simp [fieldCells]
def newB (n : Nat) : Option (Nat ⊕ Unit) := if n < 255 then some (.inl (n + 1)) else some (.inr ())
theorem newB_some : iterC newB 0 = some () := iterC_count (fun n => n) 255 () rfl (fun i hi => by simp [newB, hi]) (by simp [newB])
def field_New : Option Bool := some true
theorem field_New_calls (r : Bool) (w0 : World) (L0 : List Value) (hL0 : Old w0 L0) (H : field_New = some r) :
    Calls Try.prog 6 [].toArray w0 (fun e w' => ∃ u0 : Value, e = .returned u0 ∧ Ext w0 w' ∧ Fd w' L0 u0 r) := by
  have hE : Ext w0 w0 := Ext.refl w0; obtain rfl := osi H; refine calls_W (n := 32) Try.func6 rfl rfl rfl ?_; refine W_seq <| W_rg <| av (.pointer none) rfl rfl <| wnt <| W_seq <| W_rg <| wa rfl (v := .agg zF) (fun w => by simp [execOp, build0]) <| ?_; refine wls rfl rfl (stp_box (v := .agg zF) rfl rfl ?_); intro w1 hb hg; have e1 := hE.trans (grown_ext hg)
  generalize hgg : w0.heap.size = g at hb
  have hgn : w0.heap.size ≤ g := Nat.le_of_eq hgg; refine av (.pointer (some ⟨g, 0, none⟩)) rfl rfl <| wnt <| W_seq <| W_rg <| av (u8 1) rfl (cst8 1 rfl) <| wnt <| W_seq <| W_seq <| ?_; refine W_rg <| mv (i64 0) rfl rfl <| wnt <| ?_; refine W_mid (fun f w => f 32 = undef ∧ f 1 = .pointer (some ⟨g, 0, none⟩) ∧ Ext w0 w ∧ Blk w g 52 (fieldCells Gf.pwT Gf.lgT)) ?_ ?_
  · refine W_block ?_; refine W_loop (fun (n : Nat) f w => f 32 = undef ∧ n ≤ 255 ∧ f 6 = i64 (n : Int) ∧ f 1 = .pointer (some ⟨g, 0, none⟩) ∧ f 2 = u8 (Gf.pw n) ∧ Ext w0 w ∧ Blk w g 52 (fieldCells (Gf.tabN n).1 (Gf.tabN n).2.1)) newB_some ?_ ?_
    · exact ⟨rfl, by decide, rfl, rfl, rfl, e1, hb⟩
    rintro n r _ w ⟨hm, hn, s6, s1, s2, e, hB⟩ hr hx; have hl := Gf.tab_len n; refine W_seq <| W_rg <| wa rfl (q_ltI rfl s6 rfl) <| wnt <| W_seq <| ?_; refine W_cond _ rfl rfl (fun hb9 => ?_) (fun hb9 => ?_)
    · have hlt : n < 255 := by have := of_decide_eq_true hb9; omega
      have hr' : some (Sum.inl (n + 1)) = some r := by rw [← hr, newB, if_pos hlt]
      obtain rfl := osi hr'; refine W_skip <| W_th <| W_seq <| W_block <| W_seq <| W_rg <| mv (i64 (n : Int)) rfl s6 <| av (i64 (n : Int)) rfl rfl <| ?_; refine wnt <| W_seq <| ?_; refine W_draw [] [(0, 0), (1, 0), (2, 0), (3, 0), (4, 0), (5, 0), (6, 0), (7, 0), (8, 0), (9, 0), (11, 0), (12, 0), (10, 2), (13, 0), (14, 2)] mixed (by kernel_rfl) (by kernel_rfl) (by kernel_rfl) (by kernel_rfl) ?_; have x1 := Ext.drew w; replace e := e.trans x1; replace hB := hB.ext x1
      have ew : wI ((n : Int) + 255) = ((n + 255 : Nat) : Int) := by rw [wI_of (by omega) (by omega)]; omega
      refine sv (.pointer (some ⟨g, 0, none⟩)) rfl rfl s1 <| sv (i64 (n : Int)) rfl rfl rfl <| sv (.pointer (some ⟨g, 0, none⟩)) rfl rfl s1 <| sv (i64 (n : Int)) rfl rfl rfl <| sa rfl rfl (q_addI rfl rfl rfl) <| ?_; rw [ew]; refine sv (u8 (Gf.pw n)) rfl rfl s2 <| sv (u8 (Gf.pw n)) rfl rfl s2 <| sa rfl rfl (q_nilP rfl rfl) <| sa rfl rfl (q_fldP rfl fieldAt0 rfl) <| sa rfl rfl (q_ixP (i := n) rfl Try.underlying49 Try.sizeOf5 rfl rfl (by omega)) <| sa rfl rfl (q_nilP rfl rfl) <| sa rfl rfl (q_fldP rfl fieldAt0 rfl) <| ?_; refine wsn rfl (by kernel_rfl) rfl rfl (stp_storeB (u := u8 (Gf.pw n)) rfl Try.sizeOf5 rfl rfl hB (by rw [fc_size, hl.1, hl.2]; omega) rfl ?_)
      intro w2 hB2 g2; rw [show 0 + 0 + n = n by omega, fc_pw _ _ _ _ (by rw [hl.1]; omega)] at hB2
      replace e := e.grownB g2 hgn; refine sa rfl rfl (q_ixP (i := n + 255) rfl Try.underlying49 Try.sizeOf5 rfl rfl (by omega)) ?_; refine wsn rfl (by kernel_rfl) rfl rfl (stp_storeB (u := u8 (Gf.pw n)) rfl Try.sizeOf5 rfl rfl hB2 (by rw [fc_size, List.length_set, hl.1, hl.2]; omega) rfl ?_)
      intro w3 hB3 g3; rw [show 0 + 0 + (n + 255) = n + 255 by omega, fc_pw _ _ _ _ (by rw [List.length_set, hl.1]; omega)] at hB3
      replace e := e.grownB g3 hgn; refine ws_nil ?_; refine W_th <| W_seq <| W_rg <| mv (.pointer (some ⟨g, 0, none⟩)) rfl s1 <| mv (u8 (Gf.pw n)) rfl s2 <| mv (i64 (n : Int)) rfl rfl <| wa rfl (q_nilP rfl rfl) <| wa rfl (q_fldP rfl fieldAt1 rfl) <| ?_; refine wa rfl (q_ixP (i := (Gf.pw n).toNat) rfl Try.underlying50 Try.sizeOf3 rfl rfl (Gf.pw n).toNat_lt) ?_; refine wln rfl rfl (stp_storeB (u := i64 (n : Int)) rfl Try.sizeOf3 rfl rfl hB3 (by rw [fc_size, List.length_set, List.length_set, hl.1, hl.2]; have := (Gf.pw n).toNat_lt; omega) rfl ?_)
      intro w4 hB4 g4; rw [show 0 + 510 + (Gf.pw n).toNat = (((Gf.tabN n).1.set n (Gf.pw n)).set (n + 255) (Gf.pw n)).length + (Gf.pw n).toNat by rw [List.length_set, List.length_set, hl.1], fc_lg] at hB4; replace e := e.grownB g4 hgn; refine wnt <| W_rg <| mv (u8 (Gf.pw n)) rfl s2 <| ?_; refine wls rfl rfl (stp_call (vs := [u8 (Gf.pw n), u8 3]) Try.func21 rfl rfl rfl (ar2 rfl (cst8 3 rfl)) (field_Slow_calls (Gf.pw n) 3 _ _ (Slow_eq _ _)) ?_); rintro _ w5 ⟨rfl, x5⟩; refine ⟨_, rfl, ?_⟩; replace e := e.trans x5; replace hB4 := hB4.ext x5; refine av (u8 (Gf.mul (Gf.pw n) 3)) rfl rfl <| wl_nil <| bk_n <| W_th <| W_rg <| wa rfl (q_addI rfl s6 rfl) <| ?_
      have ew2 : wI ((n : Int) + 1) = ((n + 1 : Nat) : Int) := by rw [wI_of (by omega) (by omega)]; omega
      rw [ew2]; refine wla rfl rfl (q_move (v := i64 ((n + 1 : Nat) : Int)) rfl rfl) ?_; refine wl_nil ?_; refine ⟨_, rfl, hm, by omega, rfl, s1, rfl, e, ?_⟩; rw [← Gf.tab_pw n] at hB4; exact hB4
    have hge : n = 255 := by have := of_decide_eq_false hb9; omega
    subst hge
    have hr' : some (Sum.inr ()) = some r := by rw [← hr]; rfl
    obtain rfl := osi hr'; refine W_exit <| th_x <| th_x <| bk_x <| ?_; exact ⟨hm, s1, e, hB⟩
  rintro _ w ⟨hm, s1, e, hB⟩; refine W_th <| W_seq <| W_rg <| mv (.pointer (some ⟨g, 0, none⟩)) rfl s1 <| av (.pointer (some ⟨g, 0, none⟩)) rfl rfl <| wnt <| W_ret <| ?_; refine rt1 (.pointer (some ⟨g, 0, none⟩)) rfl rfl rfl hm ?_; exact ⟨.pointer (some ⟨g, 0, none⟩), rfl, e, .inr ⟨rfl, g, rfl, hL0 g hgn, hB⟩⟩
end Gk

/- Printed by gen.py: for each Go function a pure function, and that the Go code comes to it. No condition beside the equation that says what the pure function gives. -/
namespace Gk
open Go Go.Proofs
noncomputable def field_Mul (a0f : Bool) (a1a : UInt8) (a2b : UInt8) : Option UInt8 :=
(if (!a0f) = true then some (0 : UInt8)
else
(if a1a = (0 : UInt8) then some (0 : UInt8)
else
(if a2b = (0 : UInt8) then some (0 : UInt8)
else
((grd a0f).bind fun c6 =>
((idx Gf.lgT ((a1a.toNat : Int))).bind fun c7 =>
((idx Gf.lgT ((a2b.toNat : Int))).bind fun c8 =>
((idx Gf.pwT ((wI (c7 + c8)))).bind fun c9 => some c9)))))))
theorem field_Mul_calls (a0f : Bool) (a1a : UInt8) (a2b : UInt8) (p0 : Value) (r : UInt8) (w0 : World) (hp0 : Fd w0 [] p0 a0f) (H : field_Mul a0f a1a a2b = some r) :
    Calls Try.prog 47 [p0, (u8 a1a), (u8 a2b)].toArray w0 (fun e w' => e = .returned (u8 r) ∧ Ext w0 w') := by
  have hE : Ext w0 w0 := Ext.refl w0; unfold field_Mul at H; refine calls_W (n := 35) Try.func47 rfl rfl rfl ?_; refine W_seq <| W_rg <| av (u8 0) rfl (cst8 (0 : UInt8) rfl) <| wnt <| W_seq <| W_seq <| W_rg <| mv p0 rfl rfl <| ?_; refine wa rfl (q_eqF rfl rfl rfl rfl (hp0.lift (Lift.ext hE _))) ?_; refine wlb rfl rfl (q_move (v := (.bool ((!a0f)))) rfl rfl) (fun hb1 => ?_) (fun hb1 => ?_)
  · replace H := (if_pos hb1).symm.trans H; refine wlk rfl rfl <| wlk rfl rfl <| wa rfl (q_pick_t (v := (.bool true)) rfl rfl rfl) <| mv (.bool true) rfl rfl <| wlk rfl rfl <| wlk rfl rfl <| wa rfl (q_pick_t (v := (.bool true)) rfl rfl rfl) <| wnt <| ?_; refine W_cond true rfl rfl (fun _ => ?_) (fun hb => by cases hb); refine W_seq <| W_rg <| av (u8 0) rfl (cst8 (0 : UInt8) rfl) <| wnt <| W_ret <| th_r <| ?_; obtain rfl := osi H; refine rt1 (u8 0) rfl rfl rfl rfl ?_; exact ⟨rfl, hE⟩
  replace H := (if_neg (ne_true_of_eq_false hb1)).symm.trans H; refine mv (u8 a1a) rfl rfl <| wa rfl (q_eq8 rfl rfl (cst8 (0 : UInt8) rfl)) <| wa rfl (q_pick_f (v := (.bool ((decide (a1a = (0 : UInt8)))))) rfl rfl rfl) <| ?_; refine wlb rfl rfl (q_move (v := (.bool ((decide (a1a = (0 : UInt8)))))) rfl rfl) (fun hb2 => ?_) (fun hb2 => ?_)
  · replace H := ifp hb2 H; refine wlk rfl rfl <| wlk rfl rfl <| wa rfl (q_pick_t (v := (.bool true)) rfl rfl rfl) <| wnt <| ?_; refine W_cond true rfl rfl (fun _ => ?_) (fun hb => by cases hb); refine W_seq <| W_rg <| av (u8 0) rfl (cst8 (0 : UInt8) rfl) <| wnt <| W_ret <| th_r <| ?_; obtain rfl := osi H; refine rt1 (u8 0) rfl rfl rfl rfl ?_; exact ⟨rfl, hE⟩
  replace H := ifn hb2 H; refine mv (u8 a2b) rfl rfl <| wa rfl (q_eq8 rfl rfl (cst8 (0 : UInt8) rfl)) <| wa rfl (q_pick_f (v := (.bool ((decide (a2b = (0 : UInt8)))))) rfl rfl rfl) <| wnt <| ?_; refine W_cond _ rfl rfl (fun hb3 => ?_) (fun hb3 => ?_)
  · replace H := ifp hb3 H; refine W_seq <| W_rg <| av (u8 0) rfl (cst8 (0 : UInt8) rfl) <| wnt <| W_ret <| th_r <| ?_; obtain rfl := osi H; refine rt1 (u8 0) rfl rfl rfl rfl ?_; exact ⟨rfl, hE⟩
  replace H := ifn hb3 H; refine W_skip <| W_th <| W_seq <| ?_; refine W_draw [6, 12, 17] [(0, 0), (1, 0), (2, 0), (3, 0), (4, 0), (5, 0), (6, 1), (7, 0), (8, 0), (9, 0), (10, 0), (11, 0), (12, 1), (13, 0), (14, 0), (15, 0), (16, 0), (17, 1), (18, 0)] mixed (by kernel_rfl) (by kernel_rfl) (by kernel_rfl) (by kernel_rfl) ?_; have x4 := Ext.drew w0; have e5 := hE.trans x4; refine sv p0 rfl rfl rfl <| sv p0 rfl rfl rfl <| sv (u8 a1a) rfl rfl rfl <| ?_; obtain ⟨c6, hc6, H⟩ := bsi H; refine sa rfl rfl (q_nilF rfl rfl (hp0.lift (Lift.ext e5 _)) (grd_eq hc6)) <| sa rfl rfl (q_fld1 rfl rfl (hp0.lift (Lift.ext e5 _)) (grd_eq hc6)) <| ?_; obtain ⟨c7, hc7, H⟩ := bsi H; refine sa rfl rfl (q_fix1 rfl rfl rfl (hp0.lift (Lift.ext e5 _)) (grd_eq hc6) hc7) <| sq rfl rfl (q_fload1 rfl rfl (hp0.lift (Lift.ext e5 _)) (grd_eq hc6) hc7) <| sv p0 rfl rfl rfl <| sv (u8 a2b) rfl rfl rfl <| sa rfl rfl (q_nilF rfl rfl (hp0.lift (Lift.ext e5 _)) (grd_eq hc6)) <| sa rfl rfl (q_fld1 rfl rfl (hp0.lift (Lift.ext e5 _)) (grd_eq hc6)) <| ?_; obtain ⟨c8, hc8, H⟩ := bsi H; refine sa rfl rfl (q_fix1 rfl rfl rfl (hp0.lift (Lift.ext e5 _)) (grd_eq hc6) hc8) <| sq rfl rfl (q_fload1 rfl rfl (hp0.lift (Lift.ext e5 _)) (grd_eq hc6) hc8) <| sa rfl rfl (q_addI rfl rfl rfl) <| sa rfl rfl (q_nilF rfl rfl (hp0.lift (Lift.ext e5 _)) (grd_eq hc6)) <| sa rfl rfl (q_fld0 rfl rfl (hp0.lift (Lift.ext e5 _)) (grd_eq hc6)) <| ?_; obtain ⟨c9, hc9, H⟩ := bsi H; refine sa rfl rfl (q_fix0 rfl rfl rfl (hp0.lift (Lift.ext e5 _)) (grd_eq hc6) hc9) <| sq rfl rfl (q_fload0 rfl rfl (hp0.lift (Lift.ext e5 _)) (grd_eq hc6) hc9) <| sa rfl rfl (q_assign (v := (u8 c9)) rfl rfl) <| ?_; refine ws_nil ?_; refine W_th <| W_ret <| ?_; obtain rfl := osi H; refine rt1 (u8 c9) rfl rfl rfl rfl ?_; exact ⟨rfl, e5⟩
noncomputable def field_Inv (a0f : Bool) (a1a : UInt8) : Option (UInt8 × Int) :=
(if (!a0f) = true then some ((0 : UInt8), 1)
else
(if a1a = (0 : UInt8) then some ((0 : UInt8), 7)
else
((grd a0f).bind fun c5 =>
((idx Gf.lgT ((a1a.toNat : Int))).bind fun c6 =>
((idx Gf.pwT ((wI (255 - c6)))).bind fun c7 => some (c7, 0))))))
theorem field_Inv_calls (a0f : Bool) (a1a : UInt8) (p0 : Value) (r : UInt8 × Int) (w0 : World) (hp0 : Fd w0 [] p0 a0f) (H : field_Inv a0f a1a = some r) :
    Calls Try.prog 68 [p0, (u8 a1a)].toArray w0 (fun e w' => e = .returned (.tuple #[(u8 r.1), (i64 r.2)]) ∧ Ext w0 w') := by
  have hE : Ext w0 w0 := Ext.refl w0; unfold field_Inv at H; refine calls_W (n := 24) Try.func68 rfl rfl rfl ?_; refine W_seq <| W_rg <| av (u8 0) rfl (cst8 (0 : UInt8) rfl) <| av (i64 0) rfl rfl <| wnt <| W_seq <| W_block <| W_seq <| ?_; refine W_rg <| mv p0 rfl rfl <| wa rfl (q_eqF rfl rfl rfl rfl (hp0.lift (Lift.ext hE _))) <| av (.bool ((!a0f))) rfl rfl <| wnt <| ?_; refine W_cond _ rfl rfl (fun hb1 => ?_) (fun hb1 => ?_)
  · replace H := (if_pos hb1).symm.trans H; refine W_seq <| W_rg <| av (u8 0) rfl (cst8 (0 : UInt8) rfl) <| av (i64 1) rfl rfl <| wnt <| W_ret <| bk_r <| th_r <| ?_; obtain rfl := osi H; refine rt2 (u8 0) (i64 1) rfl rfl rfl rfl rfl rfl ?_; exact ⟨rfl, hE⟩
  replace H := (if_neg (ne_true_of_eq_false hb1)).symm.trans H; refine W_seq <| W_rg <| mv (u8 a1a) rfl rfl <| wa rfl (q_eq8 rfl rfl (cst8 (0 : UInt8) rfl)) <| av (.bool ((decide (a1a = (0 : UInt8))))) rfl rfl <| wnt <| ?_; refine W_cond _ rfl rfl (fun hb2 => ?_) (fun hb2 => ?_)
  · replace H := ifp hb2 H; refine W_seq <| W_rg <| av (u8 0) rfl (cst8 (0 : UInt8) rfl) <| av (i64 7) rfl rfl <| wnt <| W_ret <| bk_r <| th_r <| ?_; obtain rfl := osi H; refine rt2 (u8 0) (i64 7) rfl rfl rfl rfl rfl rfl ?_; exact ⟨rfl, hE⟩
  replace H := ifn hb2 H; refine W_skip <| bk_n <| W_th <| W_seq <| ?_; refine W_draw [6, 11] [(0, 0), (1, 0), (2, 0), (3, 0), (4, 0), (5, 0), (6, 1), (7, 0), (8, 0), (9, 0), (10, 0), (11, 1), (12, 0), (13, 0)] mixed (by kernel_rfl) (by kernel_rfl) (by kernel_rfl) (by kernel_rfl) ?_; have x3 := Ext.drew w0; have e4 := hE.trans x3; refine sv p0 rfl rfl rfl <| sv p0 rfl rfl rfl <| sv (u8 a1a) rfl rfl rfl <| ?_; obtain ⟨c5, hc5, H⟩ := bsi H; refine sa rfl rfl (q_nilF rfl rfl (hp0.lift (Lift.ext e4 _)) (grd_eq hc5)) <| sa rfl rfl (q_fld1 rfl rfl (hp0.lift (Lift.ext e4 _)) (grd_eq hc5)) <| ?_; obtain ⟨c6, hc6, H⟩ := bsi H; refine sa rfl rfl (q_fix1 rfl rfl rfl (hp0.lift (Lift.ext e4 _)) (grd_eq hc5) hc6) <| sq rfl rfl (q_fload1 rfl rfl (hp0.lift (Lift.ext e4 _)) (grd_eq hc5) hc6) <| sa rfl rfl (q_subI rfl rfl rfl) <| sa rfl rfl (q_nilF rfl rfl (hp0.lift (Lift.ext e4 _)) (grd_eq hc5)) <| sa rfl rfl (q_fld0 rfl rfl (hp0.lift (Lift.ext e4 _)) (grd_eq hc5)) <| ?_; obtain ⟨c7, hc7, H⟩ := bsi H; refine sa rfl rfl (q_fix0 rfl rfl rfl (hp0.lift (Lift.ext e4 _)) (grd_eq hc5) hc7) <| sq rfl rfl (q_fload0 rfl rfl (hp0.lift (Lift.ext e4 _)) (grd_eq hc5) hc7) <| sa rfl rfl (q_assign (v := (u8 c7)) rfl rfl) <| sa rfl rfl (q_assign (v := (i64 0)) rfl rfl) <| ?_; refine ws_nil ?_; refine W_th <| W_ret <| ?_; obtain rfl := osi H; refine rt2 (u8 c7) (i64 0) rfl rfl rfl rfl rfl rfl ?_; exact ⟨rfl, e4⟩
noncomputable def field_Div (a0f : Bool) (a1a : UInt8) (a2b : UInt8) : Option (UInt8 × Int) :=
((field_Inv a0f a2b).bind fun r1 =>
(if r1.2 = 0 then
((field_Mul a0f a1a r1.1).bind fun r4 => some (r4, 0))
else some ((0 : UInt8), r1.2)))
theorem field_Div_calls (a0f : Bool) (a1a : UInt8) (a2b : UInt8) (p0 : Value) (r : UInt8 × Int) (w0 : World) (hp0 : Fd w0 [] p0 a0f) (H : field_Div a0f a1a a2b = some r) :
    Calls Try.prog 52 [p0, (u8 a1a), (u8 a2b)].toArray w0 (fun e w' => e = .returned (.tuple #[(u8 r.1), (i64 r.2)]) ∧ Ext w0 w') := by
  have hE : Ext w0 w0 := Ext.refl w0; unfold field_Div at H; refine calls_W (n := 23) Try.func52 rfl rfl rfl ?_; refine W_seq <| W_rg <| av (u8 0) rfl (cst8 (0 : UInt8) rfl) <| av (i64 0) rfl rfl <| wnt <| W_seq <| W_rg <| mv p0 rfl rfl <| ?_; refine mv (u8 a2b) rfl rfl ?_; obtain ⟨r1, hr1, H⟩ := bsi H; refine wls rfl rfl (stp_call (vs := [p0, (u8 a2b)]) Try.func68 rfl rfl rfl (ar2 rfl rfl) (field_Inv_calls a0f a2b p0 r1 _ (hp0.lift (Lift.ext hE _)) hr1) ?_); rintro _ w1 ⟨rfl, x1⟩; refine ⟨_, rfl, ?_⟩; have e2 := hE.trans x1; refine mv (.tuple #[(u8 r1.1), (i64 r1.2)]) rfl rfl <| wa rfl (q_extract rfl rfl rfl) <| wa rfl (q_extract rfl rfl rfl) <| av (u8 r1.1) rfl rfl <| av (i64 r1.2) rfl rfl <| wnt <| W_seq <| W_seq <| ?_; refine W_rg <| mv (i64 r1.2) rfl rfl <| wa rfl (q_neI rfl rfl rfl) <| wnt <| ?_; refine W_cond _ rfl rfl (fun hb3 => ?_) (fun hb3 => ?_)
  · replace H := (if_neg (ndec_t hb3)).symm.trans H; refine W_seq <| W_rg <| mv (i64 r1.2) rfl rfl <| av (u8 0) rfl (cst8 (0 : UInt8) rfl) <| av (i64 r1.2) rfl rfl <| wnt <| W_ret <| th_r <| ?_; obtain rfl := osi H; refine rt2 (u8 0) (i64 r1.2) rfl rfl rfl rfl rfl rfl ?_; exact ⟨rfl, e2⟩
  replace H := (if_pos (ndec_f hb3)).symm.trans H; refine W_skip <| W_th <| W_seq <| W_rg <| mv p0 rfl rfl <| mv (u8 a1a) rfl rfl <| mv (u8 r1.1) rfl rfl <| ?_; obtain ⟨r4, hr4, H⟩ := bsi H; refine wls rfl rfl (stp_call (vs := [p0, (u8 a1a), (u8 r1.1)]) Try.func47 rfl rfl rfl (ar3 rfl rfl rfl) (field_Mul_calls a0f a1a r1.1 p0 r4 _ (hp0.lift (Lift.ext e2 _)) hr4) ?_); rintro _ w4 ⟨rfl, x4⟩; refine ⟨_, rfl, ?_⟩; have e5 := e2.trans x4; refine av (u8 r4) rfl rfl <| av (i64 0) rfl rfl <| wnt <| W_ret <| ?_; obtain rfl := osi H; refine rt2 (u8 r4) (i64 0) rfl rfl rfl rfl rfl rfl ?_; exact ⟨rfl, e5⟩
noncomputable def field_Sum (a0f : Bool) (a1a : List UInt8) (a2c : UInt8) (a3b : List UInt8) : Option (List UInt8) :=
(if (!a0f) = true then some ([] : List UInt8)
else
((makeL ((a1a.length : Int)) (0 : UInt8)).bind fun c2 =>
((iterC (fun s7 : List UInt8 × Int =>
(if s7.2 < (if (a3b.length : Int) < (a1a.length : Int) then (a3b.length : Int) else (a1a.length : Int)) then
((idx s7.1 s7.2).bind fun c12 =>
((idx a3b s7.2).bind fun c13 =>
((field_Mul a0f a2c c13).bind fun r14 => some (.inl ((s7.1.set (s7.2 : Int).toNat ((c12 ^^^ r14))), (wI (s7.2 + 1)))))))
else some (.inr s7.1))) ((copyL c2 0 a1a), 0)).bind fun x7 => some x7)))
theorem field_Sum_calls (a0f : Bool) (a1a : List UInt8) (a2c : UInt8) (a3b : List UInt8) (p0 : Value) (p1 : Value) (p3 : Value) (r : List UInt8) (w0 : World) (hp0 : Fd w0 [] p0 a0f) (hp1 : By w0 [] p1 a1a) (hp3 : By w0 [] p3 a3b) (H : field_Sum a0f a1a a2c a3b = some r) :
    Calls Try.prog 34 [p0, p1, (u8 a2c), p3].toArray w0 (fun e w' => ∃ u0 : Value, e = .returned u0 ∧ Ext w0 w' ∧ Nw w0 u0 ∧ OwK (Sc u8) w' [] 5 u0 r) := by
  have hE : Ext w0 w0 := Ext.refl w0; unfold field_Sum at H; refine calls_W (n := 42) Try.func34 rfl rfl rfl ?_; refine W_seq <| W_rg <| av (.slice none 0 0) rfl rfl <| wnt <| W_seq <| W_seq <| W_rg <| mv p0 rfl rfl <| ?_; refine wa rfl (q_eqF rfl rfl rfl rfl (hp0.lift (Lift.ext hE _))) <| wnt <| ?_; refine W_cond _ rfl rfl (fun hb1 => ?_) (fun hb1 => ?_)
  · replace H := (if_pos hb1).symm.trans H; refine W_seq <| W_rg <| av (.slice none 0 0) rfl rfl <| wnt <| W_ret <| th_r <| ?_; obtain rfl := osi H; refine rt1 (.slice none 0 0) rfl rfl rfl rfl ?_; exact ⟨(.slice none 0 0), rfl, hE, Nw.nil _, (OwK.nil _ _ _ _)⟩
  replace H := (if_neg (ne_true_of_eq_false hb1)).symm.trans H; refine W_skip <| W_th <| W_seq <| W_rg <| mv p1 rfl rfl <| wa rfl (q_len rfl T22.sl rfl (hp1.lift (Lift.ext hE _))) <| ?_; obtain ⟨c2, hc2, H⟩ := bsi H; refine wls rfl rfl (stp_make (L := []) (R := (Sc u8)) rfl T22 rfl rfl hc2 (fun _ _ => rfl) ?_); intro v2 w2 o2 n2 g2 l2; have x2 := grown_ext g2; have n4 := Nw.ext hE n2; have e3 := hE.trans x2; refine av v2 rfl rfl <| wnt <| W_seq <| W_rg <| mv v2 rfl rfl <| mv p1 rfl rfl <| ?_; refine wls rfl rfl (stp_copy (R := (Sc u8)) (off := 0) (dv := v2) (u := p1) (Sc.stab _) [] [] rfl T22 rfl rfl o2 (copy_whole o2) (by decide) (Int.natCast_nonneg _) (hp1.lift (Lift.ext e3 _)) (fun _ _ h => h) oc_u8 ?_); intro w5 o5 g5 l5; have e6 := e3.grown g5 n4; refine wnt <| W_seq <| W_seq <| W_rg <| mv p1 rfl rfl <| wa rfl (q_len rfl T22.sl rfl (hp1.lift (Lift.ext e6 _))) <| mv p3 rfl rfl <| wa rfl (q_len rfl T22.sl rfl (hp3.lift (Lift.ext e6 _))) <| ?_; refine wa rfl (q_minI rfl rfl rfl) <| mv (i64 0) rfl rfl <| wnt <| ?_; obtain ⟨x7, G7, H⟩ := bsi H; refine W_mid (fun f w => f 9 = v2 ∧ f 42 = undef ∧ Ext w0 w ∧ OwK (Sc u8) w [v2] 5 v2 x7 ∧ Nw w0 v2) ?_ ?_
  · refine W_block ?_; refine W_loop (fun s7 f w => f 0 = p0 ∧ f 2 = (u8 a2c) ∧ f 3 = p3 ∧ f 9 = v2 ∧ f 23 = (i64 ((if (a3b.length : Int) < (a1a.length : Int) then (a3b.length : Int) else (a1a.length : Int)))) ∧ f 24 = (i64 s7.2) ∧ f 42 = undef ∧ Ext w0 w ∧ OwK (Sc u8) w [v2] 5 v2 s7.1 ∧ Nw w0 v2) G7 ?_ ?_
    · exact ⟨rfl, rfl, rfl, rfl, rfl, rfl, rfl, e6, o5, n4⟩
    rintro s7 _ _ w8 ⟨s0_8, s2_8, s3_8, s9_8, s23_8, s24_8, s42_8, hE8, o0_8, n0_8⟩ H7 hr7; refine W_seq <| W_rg <| wa rfl (q_ltI rfl s24_8 s23_8) <| wnt <| W_seq <| ?_; refine W_cond _ rfl rfl (fun hb9 => ?_) (fun hb9 => ?_)
    · replace H7 := ifp hb9 H7; refine W_skip <| W_th <| W_seq <| W_block <| W_seq <| W_rg <| mv (i64 s7.2) rfl s24_8 <| av (i64 s7.2) rfl rfl <| ?_; refine wnt ?_; refine W_draw [3, 9] [(0, 0), (1, 0), (2, 0), (3, 1), (4, 0), (5, 0), (6, 0), (7, 0), (8, 0), (9, 1), (10, 2), (11, 0), (12, 0), (13, 2)] mixed (by kernel_rfl) (by kernel_rfl) (by kernel_rfl) (by kernel_rfl) ?_; have x10 := Ext.drew w8; replace o0_8 := o0_8.extL (Sc.stab _) x10 (Lift.ext x10 _); have e11 := hE8.trans x10; refine sv v2 rfl rfl s9_8 <| sv (i64 s7.2) rfl rfl rfl <| ?_; obtain ⟨c12, hc12, H7⟩ := bsi H7; refine sa rfl rfl (q_adr rfl T22 rfl rfl (o0_8.rd (Sc.stab _)) hc12) <| sq rfl rfl (q_loadS rfl T22 rfl (o0_8.rd (Sc.stab _)) hc12) <| sv p0 rfl rfl s0_8 <| sv (u8 a2c) rfl rfl s2_8 <| sv p3 rfl rfl s3_8 <| sv (i64 s7.2) rfl rfl rfl <| ?_; obtain ⟨c13, hc13, H7⟩ := bsi H7; refine sa rfl rfl (q_adr rfl T22 rfl rfl (hp3.lift (Lift.ext e11 _)) hc13) <| sq rfl rfl (q_loadS rfl T22 rfl (hp3.lift (Lift.ext e11 _)) hc13) <| ?_; obtain ⟨r14, hr14, H7⟩ := bsi H7; refine wss rfl rfl rfl (stp_call (vs := [p0, (u8 a2c), (u8 c13)]) Try.func47 rfl rfl rfl (ar3 rfl rfl rfl) (field_Mul_calls a0f a2c c13 p0 r14 _ (hp0.lift (Lift.ext e11 _)) hr14) ?_); rintro _ w14 ⟨rfl, x14⟩; refine ⟨_, rfl, x14, ?_⟩; replace o0_8 := o0_8.extL (Sc.stab _) x14 (Lift.ext x14 _); have e15 := e11.trans x14; refine sa rfl rfl (q_xor8 rfl rfl rfl) <| sa rfl rfl (q_adr rfl T22 rfl rfl (o0_8.rd (Sc.stab _)) hc12) <| ?_; refine wsn rfl (by kernel_rfl) rfl rfl (stp_store (R := (Sc u8)) (u := (u8 ((c12 ^^^ r14)))) (Sc.stab _) [] [] rfl T22 rfl rfl o0_8 (put_of ((c12 ^^^ r14)) hc12) rfl rfl ?_); intro w16 o16 g16 l16; have e17 := e15.grown g16 n0_8; refine ws_nil ?_; refine bk_n <| W_th <| W_rg <| wa rfl (q_addI rfl s24_8 rfl) <| mv (i64 ((wI (s7.2 + 1)))) rfl rfl <| wl_nil <| ?_; obtain rfl := osi H7; exact ⟨_, rfl, s0_8, s2_8, s3_8, s9_8, s23_8, rfl, s42_8, e17, o16, n0_8⟩
    replace H7 := ifn hb9 H7; refine W_exit <| th_x <| ?_; obtain rfl := osi H7; obtain rfl := hr7 _ rfl; refine th_x <| bk_x <| ?_; exact ⟨s9_8, s42_8, hE8, o0_8, n0_8⟩
  rintro _ w19 ⟨s9_19, s42_19, hE19, o0_19, n0_19⟩; refine W_th <| W_seq <| W_rg <| mv v2 rfl s9_19 <| av v2 rfl rfl <| wnt <| W_ret <| ?_; obtain rfl := osi H; refine rt1 v2 rfl rfl rfl s42_19 ?_; exact ⟨v2, rfl, hE19, n0_19, (o0_19.weak (Sc.stab _) (fun _ _ => trivial))⟩
end Gk

/- Printed by gen.py: for each Go function a pure function, and that the Go code comes to it. No condition beside the equation that says what the pure function gives. -/
namespace Gk
open Go Go.Proofs
noncomputable def poly_Trim (a0p : List UInt8) : Option (List UInt8) :=
((poly_Degree a0p).bind fun r1 =>
((subL a0p 0 ((wI (r1 + 1)))).bind fun c3 =>
((slices_Clone_sbytebyte c3).bind fun r4 => some r4)))
theorem poly_Trim_calls (a0p : List UInt8) (p0 : Value) (r : List UInt8) (w0 : World) (hp0 : By w0 [] p0 a0p) (H : poly_Trim a0p = some r) :
    Calls Try.prog 78 [p0].toArray w0 (fun e w' => ∃ u0 : Value, e = .returned u0 ∧ Ext w0 w' ∧ Nw w0 u0 ∧ OwK (Sc u8) w' [] 5 u0 r) := by
  have hE : Ext w0 w0 := Ext.refl w0; unfold poly_Trim at H; refine calls_W (n := 9) Try.func78 rfl rfl rfl ?_; refine W_seq <| W_rg <| av (.slice none 0 0) rfl rfl <| wnt <| W_seq <| W_rg <| mv p0 rfl rfl <| mv p0 rfl rfl <| ?_; obtain ⟨r1, hr1, H⟩ := bsi H; refine wls rfl rfl (stp_call (vs := [p0]) Try.func63 rfl rfl rfl (ar1 rfl) (poly_Degree_calls a0p p0 r1 _ (hp0.lift (Lift.ext hE _)) hr1) ?_); rintro _ w1 ⟨rfl, x1⟩; refine ⟨_, rfl, ?_⟩; have e2 := hE.trans x1; refine wa rfl (q_addI rfl rfl rfl) ?_; obtain ⟨c3, hc3, H⟩ := bsi H; refine wa rfl (q_slice (a := 0) (b := (wI (r1 + 1))) rfl T22 rfl (hp0.lift (Lift.ext e2 _)) rfl rfl hc3) ?_; obtain ⟨r4, hr4, H⟩ := bsi H; refine wls rfl rfl (stp_call (vs := [(subV p0 (0 : Int).toNat ((wI (r1 + 1)) : Int).toNat)]) Try.func25 rfl rfl rfl (ar1 rfl) (slices_Clone_sbytebyte_calls c3 (subV p0 (0 : Int).toNat ((wI (r1 + 1)) : Int).toNat) r4 _ (SlK.cut (L := []) (hp0.lift (Lift.ext e2 _)) hc3) hr4) ?_); rintro _ w4 ⟨v4, rfl, x4, n4_0, o4_0⟩; refine ⟨_, rfl, ?_⟩; have o4 : OwK (Sc u8) w4 (v4 :: []) 5 v4 r4 := OwK.scal o4_0 _; have n6 := Nw.ext e2 n4_0; have e5 := e2.trans x4; refine av v4 rfl rfl <| wnt <| W_ret <| ?_; obtain rfl := osi H; refine rt1 v4 rfl rfl rfl rfl ?_; exact ⟨v4, rfl, e5, n6, (o4.weak (Sc.stab _) (fun _ _ => trivial))⟩
noncomputable def poly_Add (a0p : List UInt8) (a1q : List UInt8) : Option (List UInt8) :=
((makeL ((if (a0p.length : Int) < (a1q.length : Int) then (a1q.length : Int) else (a0p.length : Int))) (0 : UInt8)).bind fun c1 =>
((iterC (fun s6 : List UInt8 × Int =>
(if s6.2 < (a1q.length : Int) then
((idx a1q s6.2).bind fun c9 =>
((idx s6.1 s6.2).bind fun c10 => some (.inl ((s6.1.set (s6.2 : Int).toNat ((c10 ^^^ c9))), (wI (s6.2 + 1))))))
else some (.inr s6.1))) ((copyL c1 0 a0p), 0)).bind fun x6 =>
((poly_Trim x6).bind fun r15 => some r15)))
theorem poly_Add_calls (a0p : List UInt8) (a1q : List UInt8) (p0 : Value) (p1 : Value) (r : List UInt8) (w0 : World) (hp0 : By w0 [] p0 a0p) (hp1 : By w0 [] p1 a1q) (H : poly_Add a0p a1q = some r) :
    Calls Try.prog 66 [p0, p1].toArray w0 (fun e w' => ∃ u0 : Value, e = .returned u0 ∧ Ext w0 w' ∧ Nw w0 u0 ∧ OwK (Sc u8) w' [] 5 u0 r) := by
  have hE : Ext w0 w0 := Ext.refl w0; unfold poly_Add at H; refine calls_W (n := 34) Try.func66 rfl rfl rfl ?_; refine W_seq <| W_rg <| av (.slice none 0 0) rfl rfl <| wnt <| W_seq <| W_rg <| mv p0 rfl rfl <| wa rfl (q_len rfl T22.sl rfl (hp0.lift (Lift.ext hE _))) <| ?_; refine mv p1 rfl rfl <| wa rfl (q_len rfl T22.sl rfl (hp1.lift (Lift.ext hE _))) <| wa rfl (q_maxI rfl rfl rfl) <| ?_; obtain ⟨c1, hc1, H⟩ := bsi H; refine wls rfl rfl (stp_make (L := []) (R := (Sc u8)) rfl T22 rfl rfl hc1 (fun _ _ => rfl) ?_); intro v1 w1 o1 n1 g1 l1; have x1 := grown_ext g1; have n3 := Nw.ext hE n1; have e2 := hE.trans x1; refine av v1 rfl rfl <| wnt <| W_seq <| W_rg <| mv v1 rfl rfl <| mv p0 rfl rfl <| ?_; refine wls rfl rfl (stp_copy (R := (Sc u8)) (off := 0) (dv := v1) (u := p0) (Sc.stab _) [] [] rfl T22 rfl rfl o1 (copy_whole o1) (by decide) (Int.natCast_nonneg _) (hp0.lift (Lift.ext e2 _)) (fun _ _ h => h) oc_u8 ?_); intro w4 o4 g4 l4; have e5 := e2.grown g4 n3; refine wnt <| W_seq <| W_seq <| W_rg <| mv p1 rfl rfl <| wa rfl (q_len rfl T22.sl rfl (hp1.lift (Lift.ext e5 _))) <| mv (i64 0) rfl rfl <| wnt <| ?_; obtain ⟨x6, G6, H⟩ := bsi H; refine W_mid (fun f w => f 5 = v1 ∧ f 34 = undef ∧ Ext w0 w ∧ OwK (Sc u8) w [v1] 5 v1 x6 ∧ Nw w0 v1) ?_ ?_
  · refine W_block ?_; refine W_loop (fun s6 f w => f 5 = v1 ∧ f 17 = p1 ∧ f 18 = (i64 ((a1q.length : Int))) ∧ f 19 = (i64 s6.2) ∧ f 34 = undef ∧ Ext w0 w ∧ OwK (Sc u8) w [v1] 5 v1 s6.1 ∧ Nw w0 v1) G6 ?_ ?_
    · exact ⟨rfl, rfl, rfl, rfl, rfl, e5, o4, n3⟩
    rintro s6 _ _ w7 ⟨s5_7, s17_7, s18_7, s19_7, s34_7, hE7, o0_7, n0_7⟩ H6 hr6; refine W_seq <| W_rg <| wa rfl (q_ltI rfl s19_7 s18_7) <| wnt <| W_seq <| ?_; refine W_cond _ rfl rfl (fun hb8 => ?_) (fun hb8 => ?_)
    · replace H6 := ifp hb8 H6; refine W_skip <| W_th <| W_seq <| W_block <| W_seq <| W_rg <| mv (i64 s6.2) rfl s19_7 <| ?_; obtain ⟨c9, hc9, H6⟩ := bsi H6; refine wa rfl (q_adr rfl T22 s17_7 s19_7 (hp1.lift (Lift.ext hE7 _)) hc9) <| wq rfl (q_loadS rfl T22 rfl (hp1.lift (Lift.ext hE7 _)) hc9) <| av (i64 s6.2) rfl rfl <| av (u8 c9) rfl rfl <| wnt <| W_rg <| mv v1 rfl s5_7 <| mv (i64 s6.2) rfl rfl <| ?_; obtain ⟨c10, hc10, H6⟩ := bsi H6; refine wa rfl (q_adr rfl T22 rfl rfl (o0_7.rd (Sc.stab _)) hc10) <| wq rfl (q_loadS rfl T22 rfl (o0_7.rd (Sc.stab _)) hc10) <| mv (u8 c9) rfl rfl <| wa rfl (q_xor8 rfl rfl rfl) <| wa rfl (q_adr rfl T22 rfl rfl (o0_7.rd (Sc.stab _)) hc10) <| ?_; refine wln rfl rfl (stp_store (R := (Sc u8)) (u := (u8 ((c10 ^^^ c9)))) (Sc.stab _) [] [] rfl T22 rfl rfl o0_7 (put_of ((c10 ^^^ c9)) hc10) rfl rfl ?_); intro w11 o11 g11 l11; have e12 := hE7.grown g11 n0_7; refine wl_nil <| bk_n <| W_th <| W_rg <| wa rfl (q_addI rfl s19_7 rfl) <| mv (i64 ((wI (s6.2 + 1)))) rfl rfl <| wl_nil <| ?_; obtain rfl := osi H6; exact ⟨_, rfl, s5_7, s17_7, s18_7, rfl, s34_7, e12, o11, n0_7⟩
    replace H6 := ifn hb8 H6; refine W_exit <| th_x <| ?_; obtain rfl := osi H6; obtain rfl := hr6 _ rfl; refine th_x <| bk_x <| ?_; exact ⟨s5_7, s34_7, hE7, o0_7, n0_7⟩
  rintro _ w14 ⟨s5_14, s34_14, hE14, o0_14, n0_14⟩; refine W_th <| W_seq <| W_rg <| mv v1 rfl s5_14 <| ?_; obtain ⟨r15, hr15, H⟩ := bsi H; refine wls rfl rfl (stp_call (vs := [v1]) Try.func78 rfl rfl rfl (ar1 rfl) (poly_Trim_calls x6 v1 r15 _ (o0_14.rd (Sc.stab _)) hr15) ?_); rintro _ w15 ⟨v15, rfl, x15, n15_0, o15_0⟩; refine ⟨_, rfl, ?_⟩; have o15 : OwK (Sc u8) w15 (v15 :: [v1]) 5 v15 r15 := OwK.scal o15_0 _; have q16 : Nq v1 v15 := o0_14.nq n15_0; replace o0_14 := o0_14.extL (Sc.stab _) x15 (Lift.call _ x15 n15_0); have n18 := Nw.ext hE14 n15_0; have e17 := hE14.trans x15; refine av v15 rfl rfl <| wnt <| W_ret <| ?_; obtain rfl := osi H; refine rt1 v15 rfl rfl rfl s34_14 ?_; exact ⟨v15, rfl, e17, n18, (o15.weak (Sc.stab _) (fun _ _ => trivial))⟩
noncomputable def poly_Mul (a0f : Bool) (a1p : List UInt8) (a2q : List UInt8) : Option (List UInt8 × Int) :=
((poly_Trim a1p).bind fun r1 =>
((poly_Trim a2q).bind fun r3 =>
(if (!a0f) = true then some (([] : List UInt8), 1)
else
(if (r1.length : Int) = 0 then some (([] : List UInt8), 0)
else
(if (r3.length : Int) = 0 then some (([] : List UInt8), 0)
else
(if 256 < (wI ((wI ((r1.length : Int) + (r3.length : Int))) - 1)) then some (([] : List UInt8), 4)
else
((makeL ((wI ((wI ((r1.length : Int) + (r3.length : Int))) - 1))) (0 : UInt8)).bind fun c9 =>
((iterC (fun s12 : List UInt8 × Int =>
(if s12.2 < (r1.length : Int) then
((idx r1 s12.2).bind fun c15 =>
((subL s12.1 s12.2 ((s12.1.length : Int))).bind fun c18 =>
((subL s12.1 s12.2 ((wI (s12.2 + (r3.length : Int))))).bind fun c19 =>
((field_Sum a0f c19 c15 r3).bind fun r20 => some (.inl ((copyL s12.1 s12.2 r20), (wI (s12.2 + 1))))))))
else some (.inr s12.1))) (c9, 0)).bind fun x12 => some (x12, 0)))))))))
theorem poly_Mul_calls (a0f : Bool) (a1p : List UInt8) (a2q : List UInt8) (p0 : Value) (p1 : Value) (p2 : Value) (r : List UInt8 × Int) (w0 : World) (hp0 : Fd w0 [] p0 a0f) (hp1 : By w0 [] p1 a1p) (hp2 : By w0 [] p2 a2q) (H : poly_Mul a0f a1p a2q = some r) :
    Calls Try.prog 65 [p0, p1, p2].toArray w0 (fun e w' => ∃ u0 : Value, e = .returned (.tuple #[u0, (i64 r.2)]) ∧ Ext w0 w' ∧ Nw w0 u0 ∧ OwK (Sc u8) w' [] 5 u0 r.1) := by
  have hE : Ext w0 w0 := Ext.refl w0; unfold poly_Mul at H; refine calls_W (n := 66) Try.func65 rfl rfl rfl ?_; refine W_seq <| W_rg <| av (.slice none 0 0) rfl rfl <| av (i64 0) rfl rfl <| wnt <| W_seq <| W_rg <| mv p1 rfl rfl <| ?_; obtain ⟨r1, hr1, H⟩ := bsi H; refine wls rfl rfl (stp_call (vs := [p1]) Try.func78 rfl rfl rfl (ar1 rfl) (poly_Trim_calls a1p p1 r1 _ (hp1.lift (Lift.ext hE _)) hr1) ?_); rintro _ w1 ⟨v1, rfl, x1, n1_0, o1_0⟩; refine ⟨_, rfl, ?_⟩; have i1_0 : By w1 [] v1 r1 := OwK.slk (Sc.stab _) _ (OwK.scal o1_0 (v1 :: [])) (fun k hk => (Old.nil _) k (n1_0 k hk)) (fun _ h => h.2); have e2 := hE.trans x1; refine mv p2 rfl rfl ?_; obtain ⟨r3, hr3, H⟩ := bsi H; refine wls rfl rfl (stp_call (vs := [p2]) Try.func78 rfl rfl rfl (ar1 rfl) (poly_Trim_calls a2q p2 r3 _ (hp2.lift (Lift.ext e2 _)) hr3) ?_); rintro _ w3 ⟨v3, rfl, x3, n3_0, o3_0⟩; refine ⟨_, rfl, ?_⟩; have i3_0 : By w3 [] v3 r3 := OwK.slk (Sc.stab _) _ (OwK.scal o3_0 (v3 :: [])) (fun k hk => (Old.nil _) k (n3_0 k hk)) (fun _ h => h.2); replace i1_0 := i1_0.lift (Lift.ext x3 _); have e4 := e2.trans x3; refine av v1 rfl rfl <| av v3 rfl rfl <| wnt <| W_seq <| W_block <| W_seq <| W_rg <| mv p0 rfl rfl <| ?_; refine wa rfl (q_eqF rfl rfl rfl rfl (hp0.lift (Lift.ext e4 _))) <| av (.bool ((!a0f))) rfl rfl <| wnt <| ?_; refine W_cond _ rfl rfl (fun hb5 => ?_) (fun hb5 => ?_)
  · replace H := (if_pos hb5).symm.trans H; refine W_seq <| W_rg <| av (.slice none 0 0) rfl rfl <| av (i64 1) rfl rfl <| wnt <| W_ret <| bk_r <| th_r <| ?_; obtain rfl := osi H; refine rt2 (.slice none 0 0) (i64 1) rfl rfl rfl rfl rfl rfl ?_; exact ⟨(.slice none 0 0), rfl, e4, Nw.nil _, (OwK.nil _ _ _ _)⟩
  replace H := (if_neg (ne_true_of_eq_false hb5)).symm.trans H; refine W_seq <| W_rg <| mv v1 rfl rfl <| wa rfl (q_len rfl T22.sl rfl i1_0) <| wa rfl (q_eqI rfl rfl rfl) <| ?_; refine wlb rfl rfl (q_move (v := (.bool ((decide ((r1.length : Int) = 0))))) rfl rfl) (fun hb6 => ?_) (fun hb6 => ?_)
  · replace H := ifp hb6 H; refine wlk rfl rfl <| wlk rfl rfl <| wlk rfl rfl <| wa rfl (q_pick_t (v := (.bool true)) rfl rfl rfl) <| av (.bool true) rfl rfl <| wnt <| ?_; refine W_cond true rfl rfl (fun _ => ?_) (fun hb => by cases hb); refine W_seq <| W_rg <| av (.slice none 0 0) rfl rfl <| av (i64 0) rfl rfl <| wnt <| W_ret <| bk_r <| th_r <| ?_; obtain rfl := osi H; refine rt2 (.slice none 0 0) (i64 0) rfl rfl rfl rfl rfl rfl ?_; exact ⟨(.slice none 0 0), rfl, e4, Nw.nil _, (OwK.nil _ _ _ _)⟩
  replace H := ifn hb6 H; refine mv v3 rfl rfl <| wa rfl (q_len rfl T22.sl rfl i3_0) <| wa rfl (q_eqI rfl rfl rfl) <| wa rfl (q_pick_f (v := (.bool ((decide ((r3.length : Int) = 0))))) rfl rfl rfl) <| av (.bool ((decide ((r3.length : Int) = 0)))) rfl rfl <| wnt <| ?_; refine W_cond _ rfl rfl (fun hb7 => ?_) (fun hb7 => ?_)
  · replace H := ifp hb7 H; refine W_seq <| W_rg <| av (.slice none 0 0) rfl rfl <| av (i64 0) rfl rfl <| wnt <| W_ret <| bk_r <| th_r <| ?_; obtain rfl := osi H; refine rt2 (.slice none 0 0) (i64 0) rfl rfl rfl rfl rfl rfl ?_; exact ⟨(.slice none 0 0), rfl, e4, Nw.nil _, (OwK.nil _ _ _ _)⟩
  replace H := ifn hb7 H; refine W_seq <| W_rg <| mv v1 rfl rfl <| wa rfl (q_len rfl T22.sl rfl i1_0) <| mv v3 rfl rfl <| wa rfl (q_len rfl T22.sl rfl i3_0) <| wa rfl (q_addI rfl rfl rfl) <| wa rfl (q_subI rfl rfl rfl) <| ?_; refine wa rfl (q_gtI rfl rfl rfl) <| av (.bool ((decide (256 < (wI ((wI ((r1.length : Int) + (r3.length : Int))) - 1)))))) rfl rfl <| wnt <| ?_; refine W_cond _ rfl rfl (fun hb8 => ?_) (fun hb8 => ?_)
  · replace H := ifp hb8 H; refine W_seq <| W_rg <| av (.slice none 0 0) rfl rfl <| av (i64 4) rfl rfl <| wnt <| W_ret <| bk_r <| th_r <| ?_; obtain rfl := osi H; refine rt2 (.slice none 0 0) (i64 4) rfl rfl rfl rfl rfl rfl ?_; exact ⟨(.slice none 0 0), rfl, e4, Nw.nil _, (OwK.nil _ _ _ _)⟩
  replace H := ifn hb8 H; refine W_skip <| bk_n <| W_th <| W_seq <| W_rg <| mv v1 rfl rfl <| wa rfl (q_len rfl T22.sl rfl i1_0) <| mv v3 rfl rfl <| ?_; refine wa rfl (q_len rfl T22.sl rfl i3_0) <| wa rfl (q_addI rfl rfl rfl) <| wa rfl (q_subI rfl rfl rfl) <| ?_; obtain ⟨c9, hc9, H⟩ := bsi H; refine wls rfl rfl (stp_make (L := []) (R := (Sc u8)) rfl T22 rfl rfl hc9 (fun _ _ => rfl) ?_); intro v9 w9 o9 n9 g9 l9; have x9 := grown_ext g9; replace i1_0 := i1_0.lift (Lift.call _ x9 n9); replace i3_0 := i3_0.lift (Lift.call _ x9 n9); have n11 := Nw.ext e4 n9; have e10 := e4.trans x9; refine av v9 rfl rfl <| wnt <| W_seq <| W_seq <| W_rg <| mv v1 rfl rfl <| wa rfl (q_len rfl T22.sl rfl i1_0) <| mv (i64 0) rfl rfl <| ?_; refine wnt ?_; obtain ⟨x12, G12, H⟩ := bsi H; refine W_mid (fun f w => f 8 = v9 ∧ f 66 = undef ∧ Ext w0 w ∧ OwK (Sc u8) w [v9] 5 v9 x12 ∧ Nw w0 v9) ?_ ?_
  · refine W_block ?_; refine W_loop (fun s12 f w => f 0 = p0 ∧ f 2 = v3 ∧ f 8 = v9 ∧ f 42 = v1 ∧ f 43 = (i64 ((r1.length : Int))) ∧ f 44 = (i64 s12.2) ∧ f 66 = undef ∧ Ext w0 w ∧ OwK (Sc u8) w [v9] 5 v9 s12.1 ∧ Nw w0 v9 ∧ By w [v9] v3 r3 ∧ By w [v9] v1 r1) G12 ?_ ?_
    · exact ⟨rfl, rfl, rfl, rfl, rfl, rfl, rfl, e10, o9, n11, i3_0, i1_0⟩
    rintro s12 _ _ w13 ⟨s0_13, s2_13, s8_13, s42_13, s43_13, s44_13, s66_13, hE13, o0_13, n0_13, i0_13, i1_13⟩ H12 hr12; refine W_seq <| W_rg <| wa rfl (q_ltI rfl s44_13 s43_13) <| wnt <| W_seq <| ?_; refine W_cond _ rfl rfl (fun hb14 => ?_) (fun hb14 => ?_)
    · replace H12 := ifp hb14 H12; refine W_skip <| W_th <| W_seq <| W_block <| W_seq <| W_rg <| mv (i64 s12.2) rfl s44_13 <| ?_; obtain ⟨c15, hc15, H12⟩ := bsi H12; refine wa rfl (q_adr rfl T22 s42_13 s44_13 i1_13 hc15) <| wq rfl (q_loadS rfl T22 rfl i1_13 hc15) <| av (i64 s12.2) rfl rfl <| av (u8 c15) rfl rfl <| wnt <| ?_; refine W_draw [] [(0, 0), (1, 0), (2, 0), (3, 0), (4, 0), (5, 0), (6, 0), (7, 0), (8, 0), (9, 0), (10, 0), (11, 0), (12, 0), (13, 2), (14, 2)] mixed (by kernel_rfl) (by kernel_rfl) (by kernel_rfl) (by kernel_rfl) ?_; have x16 := Ext.drew w13; replace i0_13 := i0_13.lift (Lift.ext x16 _); replace i1_13 := i1_13.lift (Lift.ext x16 _); replace o0_13 := o0_13.extL (Sc.stab _) x16 (Lift.ext x16 _); have e17 := hE13.trans x16; refine sv v9 rfl rfl s8_13 <| sv (i64 s12.2) rfl rfl rfl <| ?_; obtain ⟨c18, hc18, H12⟩ := bsi H12; refine sa rfl rfl (q_slice (a := s12.2) (b := (s12.1.length : Int)) rfl T22 rfl (o0_13.rd (Sc.stab _)) rfl rfl hc18) <| sv p0 rfl rfl s0_13 <| sv v9 rfl rfl s8_13 <| sv (i64 s12.2) rfl rfl rfl <| sv (i64 s12.2) rfl rfl rfl <| sv v3 rfl rfl s2_13 <| sa rfl rfl (q_len rfl T22.sl rfl i0_13) <| sa rfl rfl (q_addI rfl rfl rfl) <| ?_; obtain ⟨c19, hc19, H12⟩ := bsi H12; refine sa rfl rfl (q_slice (a := s12.2) (b := (wI (s12.2 + (r3.length : Int)))) rfl T22 rfl (o0_13.rd (Sc.stab _)) rfl rfl hc19) <| sv (u8 c15) rfl rfl rfl <| sv v3 rfl rfl s2_13 <| ?_; obtain ⟨r20, hr20, H12⟩ := bsi H12; refine wsc rfl (by kernel_rfl) rfl rfl (stp_call (vs := [p0, (subV v9 (s12.2 : Int).toNat ((wI (s12.2 + (r3.length : Int))) : Int).toNat), (u8 c15), v3]) Try.func34 rfl rfl rfl (ar4 rfl rfl rfl rfl) (field_Sum_calls a0f c19 c15 r3 p0 (subV v9 (s12.2 : Int).toNat ((wI (s12.2 + (r3.length : Int))) : Int).toNat) v3 r20 _ (hp0.lift (Lift.ext e17 _)) (SlK.cut (L := []) (o0_13.rd (Sc.stab _)) hc19) (i0_13.lift (Lift.sub (L' := []) (fun _ _ => trivial))) hr20) ?_); rintro _ w20 ⟨v20, rfl, x20, n20_0, o20_0⟩; refine ⟨_, rfl, ?_⟩; have i20_0 : By w20 [v9] v20 r20 := OwK.slk (Sc.stab _) _ (OwK.scal o20_0 (v20 :: [v9])) (fun k hk => (Old.cons (Old.nil _) o0_13.lt) k (n20_0 k hk)) (fun _ h => h.2); replace i0_13 := i0_13.lift (Lift.ext x20 _); replace i1_13 := i1_13.lift (Lift.ext x20 _); replace o0_13 := o0_13.extL (Sc.stab _) x20 (Lift.ext x20 _); have e21 := e17.trans x20; refine wsc rfl (by kernel_rfl) rfl rfl (stp_copy (R := (Sc u8)) (off := s12.2) (dv := (subV v9 (s12.2 : Int).toNat ((s12.1.length : Int) : Int).toNat)) (u := v20) (Sc.stab _) [] [] rfl T22 rfl rfl o0_13 rfl (subL_some.1 hc18).1.1 (subL_lo hc18) i20_0 (fun _ _ h => h) oc_u8 ?_)
      intro w22 o22 g22 l22; replace i0_13 := i0_13.lift l22; replace i1_13 := i1_13.lift l22; replace i20_0 := i20_0.lift l22; have e23 := e21.grown g22 n0_13; refine ws_nil ?_; refine bk_n <| W_th <| W_rg <| wa rfl (q_addI rfl s44_13 rfl) <| mv (i64 ((wI (s12.2 + 1)))) rfl rfl <| wl_nil <| ?_; obtain rfl := osi H12; exact ⟨_, rfl, s0_13, s2_13, s8_13, s42_13, s43_13, rfl, s66_13, e23, o22, n0_13, i0_13, i1_13⟩
    replace H12 := ifn hb14 H12; refine W_exit <| th_x <| ?_; obtain rfl := osi H12; obtain rfl := hr12 _ rfl; refine th_x <| bk_x <| ?_; exact ⟨s8_13, s66_13, hE13, o0_13, n0_13⟩
  rintro _ w25 ⟨s8_25, s66_25, hE25, o0_25, n0_25⟩; refine W_th <| W_seq <| W_rg <| mv v9 rfl s8_25 <| av v9 rfl rfl <| av (i64 0) rfl rfl <| wnt <| W_ret <| ?_; obtain rfl := osi H; refine rt2 v9 (i64 0) rfl rfl rfl rfl rfl s66_25 ?_; exact ⟨v9, rfl, hE25, n0_25, (o0_25.weak (Sc.stab _) (fun _ _ => trivial))⟩
noncomputable def poly_Vanish (a0f : Bool) (a1xs : List UInt8) : Option (List UInt8 × Int) :=
(if (!a0f) = true then some (([] : List UInt8), 1)
else
(if 255 < (a1xs.length : Int) then some (([] : List UInt8), 4)
else
((iterC (fun s6 : List UInt8 × Int =>
(if s6.2 < (a1xs.length : Int) then
((idx a1xs s6.2).bind fun c9 =>
((poly_Mul a0f s6.1 ([c9, (1 : UInt8)] : List UInt8)).bind fun r12 => some (.inl (r12.1, (wI (s6.2 + 1))))))
else some (.inr s6.1))) (([(1 : UInt8)] : List UInt8), 0)).bind fun x6 => some (x6, 0))))
theorem poly_Vanish_calls (a0f : Bool) (a1xs : List UInt8) (p0 : Value) (p1 : Value) (r : List UInt8 × Int) (w0 : World) (hp0 : Fd w0 [] p0 a0f) (hp1 : By w0 [] p1 a1xs) (H : poly_Vanish a0f a1xs = some r) :
    Calls Try.prog 61 [p0, p1].toArray w0 (fun e w' => ∃ u0 : Value, e = .returned (.tuple #[u0, (i64 r.2)]) ∧ Ext w0 w' ∧ Nw w0 u0 ∧ OwK (Sc u8) w' [] 5 u0 r.1) := by
  have hE : Ext w0 w0 := Ext.refl w0; unfold poly_Vanish at H; refine calls_W (n := 33) Try.func61 rfl rfl rfl ?_; refine W_seq <| W_rg <| av (.slice none 0 0) rfl rfl <| av (i64 0) rfl rfl <| wnt <| W_seq <| W_block <| W_seq <| ?_; refine W_rg <| mv p0 rfl rfl <| wa rfl (q_eqF rfl rfl rfl rfl (hp0.lift (Lift.ext hE _))) <| av (.bool ((!a0f))) rfl rfl <| wnt <| ?_; refine W_cond _ rfl rfl (fun hb1 => ?_) (fun hb1 => ?_)
  · replace H := (if_pos hb1).symm.trans H; refine W_seq <| W_rg <| av (.slice none 0 0) rfl rfl <| av (i64 1) rfl rfl <| wnt <| W_ret <| bk_r <| th_r <| ?_; obtain rfl := osi H; refine rt2 (.slice none 0 0) (i64 1) rfl rfl rfl rfl rfl rfl ?_; exact ⟨(.slice none 0 0), rfl, hE, Nw.nil _, (OwK.nil _ _ _ _)⟩
  replace H := (if_neg (ne_true_of_eq_false hb1)).symm.trans H; refine W_seq <| W_rg <| mv p1 rfl rfl <| wa rfl (q_len rfl T22.sl rfl (hp1.lift (Lift.ext hE _))) <| wa rfl (q_gtI rfl rfl rfl) <| av (.bool ((decide (255 < (a1xs.length : Int))))) rfl rfl <| wnt <| ?_; refine W_cond _ rfl rfl (fun hb2 => ?_) (fun hb2 => ?_)
  · replace H := ifp hb2 H; refine W_seq <| W_rg <| av (.slice none 0 0) rfl rfl <| av (i64 4) rfl rfl <| wnt <| W_ret <| bk_r <| th_r <| ?_; obtain rfl := osi H; refine rt2 (.slice none 0 0) (i64 4) rfl rfl rfl rfl rfl rfl ?_; exact ⟨(.slice none 0 0), rfl, hE, Nw.nil _, (OwK.nil _ _ _ _)⟩
  replace H := ifn hb2 H; refine W_skip <| bk_n <| W_th <| W_seq <| W_rg <| ?_; refine wls rfl rfl (stp_lit (L := []) (R := (Sc u8)) [(u8 1)] ([(1 : UInt8)] : List UInt8) rfl T22 rfl (by exact ⟨rfl, (cst8 (1 : UInt8) rfl), trivial⟩) rfl (litC u8 (oneC_u8) (us := [(u8 1)]) (l := ([(1 : UInt8)] : List UInt8)) rfl) rfl (litS u8 (us := [(u8 1)]) (l := ([(1 : UInt8)] : List UInt8)) rfl) ?_); intro v3 w3 o3 n3 g3 l3; have x3 := grown_ext g3; have n5 := Nw.ext hE n3; have e4 := hE.trans x3; refine av v3 rfl rfl <| wnt <| W_seq <| W_seq <| W_rg <| mv p1 rfl rfl <| wa rfl (q_len rfl T22.sl rfl (hp1.lift (Lift.ext e4 _))) <| mv (i64 0) rfl rfl <| ?_; refine wnt ?_; obtain ⟨x6, G6, H⟩ := bsi H; refine W_mid (fun f w => ∃ v6_18 : Value, f 6 = v6_18 ∧ f 33 = undef ∧ Ext w0 w ∧ OwK (Sc u8) w [v6_18] 5 v6_18 x6 ∧ Nw w0 v6_18) ?_ ?_
  · refine W_block ?_; refine W_loop (fun s6 f w => ∃ v6_16 : Value, f 0 = p0 ∧ f 6 = v6_16 ∧ f 17 = p1 ∧ f 18 = (i64 ((a1xs.length : Int))) ∧ f 19 = (i64 s6.2) ∧ f 33 = undef ∧ Ext w0 w ∧ OwK (Sc u8) w [v6_16] 5 v6_16 s6.1 ∧ Nw w0 v6_16) G6 ?_ ?_
    · exact ⟨v3, rfl, rfl, rfl, rfl, rfl, rfl, e4, o3, n5⟩
    rintro s6 _ _ w7 ⟨v6_7, s0_7, s6_7, s17_7, s18_7, s19_7, s33_7, hE7, o0_7, n0_7⟩ H6 hr6; refine W_seq <| W_rg <| wa rfl (q_ltI rfl s19_7 s18_7) <| wnt <| W_seq <| ?_; refine W_cond _ rfl rfl (fun hb8 => ?_) (fun hb8 => ?_)
    · replace H6 := ifp hb8 H6; refine W_skip <| W_th <| W_seq <| W_block <| W_seq <| W_rg <| ?_; obtain ⟨c9, hc9, H6⟩ := bsi H6; refine wa rfl (q_adr rfl T22 s17_7 s19_7 (hp1.lift (Lift.ext hE7 _)) hc9) <| wq rfl (q_loadS rfl T22 rfl (hp1.lift (Lift.ext hE7 _)) hc9) <| av (u8 c9) rfl rfl <| wnt <| W_rg <| mv p0 rfl s0_7 <| mv v6_7 rfl s6_7 <| mv (u8 c9) rfl rfl <| ?_; refine wls rfl rfl (stp_lit (L := [v6_7]) (R := (Sc u8)) [(u8 c9), (u8 1)] ([c9, (1 : UInt8)] : List UInt8) rfl T22 rfl (by exact ⟨rfl, rfl, rfl, (cst8 (1 : UInt8) rfl), trivial⟩) rfl (litC u8 (oneC_u8) (us := [(u8 c9), (u8 1)]) (l := ([c9, (1 : UInt8)] : List UInt8)) rfl) rfl (litS u8 (us := [(u8 c9), (u8 1)]) (l := ([c9, (1 : UInt8)] : List UInt8)) rfl) ?_); intro v10 w10 o10 n10 g10 l10; have x10 := grown_ext g10; have i10 : By w10 [v6_7] v10 (([c9, (1 : UInt8)] : List UInt8)) := OwK.slk (Sc.stab _) _ o10 (fun k hk => (Old.cons (Old.nil _) o0_7.lt) k (n10 k hk)) (fun _ h => h.2); replace o0_7 := o0_7.extL (Sc.stab _) x10 (Lift.ext x10 _); have e11 := hE7.trans x10; obtain ⟨r12, hr12, H6⟩ := bsi H6; refine wls rfl rfl (stp_call (vs := [p0, v6_7, v10]) Try.func65 rfl rfl rfl (ar3 rfl rfl rfl) (poly_Mul_calls a0f s6.1 ([c9, (1 : UInt8)] : List UInt8) p0 v6_7 v10 r12 _ (hp0.lift (Lift.ext e11 _)) (o0_7.rd (Sc.stab _)) (i10.lift (Lift.sub (L' := []) (fun _ _ => trivial))) hr12) ?_); rintro _ w12 ⟨v12_0, rfl, x12, n12_0, o12_0⟩; refine ⟨_, rfl, ?_⟩; have o12 : OwK (Sc u8) w12 (v12_0 :: [v6_7]) 5 v12_0 r12.1 := OwK.scal o12_0 _; have q13 : Nq v6_7 v12_0 := o0_7.nq n12_0; replace i10 := i10.lift (Lift.call _ x12 n12_0); replace o0_7 := o0_7.extL (Sc.stab _) x12 (Lift.call _ x12 n12_0); have n15 := Nw.ext e11 n12_0; have e14 := e11.trans x12; refine mv (.tuple #[v12_0, (i64 r12.2)]) rfl rfl <| wa rfl (q_extract rfl rfl rfl) <| wa rfl (q_extract rfl rfl rfl) <| av v12_0 rfl rfl <| wl_nil <| bk_n <| W_th <| W_rg <| ?_; refine wa rfl (q_addI rfl s19_7 rfl) <| mv (i64 ((wI (s6.2 + 1)))) rfl rfl <| wl_nil <| ?_; obtain rfl := osi H6; exact ⟨_, rfl, v12_0, s0_7, rfl, s17_7, s18_7, rfl, s33_7, e14, (o12.weak (Sc.stab _) (fun _ h => ⟨h.1, trivial⟩)), n15⟩
    replace H6 := ifn hb8 H6; refine W_exit <| th_x <| ?_; obtain rfl := osi H6; obtain rfl := hr6 _ rfl; refine th_x <| bk_x <| ?_; exact ⟨v6_7, s6_7, s33_7, hE7, o0_7, n0_7⟩
  rintro _ w17 ⟨v6_17, s6_17, s33_17, hE17, o0_17, n0_17⟩; refine W_th <| W_seq <| W_rg <| mv v6_17 rfl s6_17 <| av v6_17 rfl rfl <| av (i64 0) rfl rfl <| wnt <| W_ret <| ?_; obtain rfl := osi H; refine rt2 v6_17 (i64 0) rfl rfl rfl rfl rfl s33_17 ?_; exact ⟨v6_17, rfl, hE17, n0_17, (o0_17.weak (Sc.stab _) (fun _ _ => trivial))⟩
noncomputable def poly_Eval (a0f : Bool) (a1p : List UInt8) (a2x : UInt8) : Option UInt8 :=
((lim a1p.length).bind fun lim19 =>
((rangeL (fun (s19 : UInt8) (y19 : (Int × UInt8)) =>
((field_Mul a0f s19 a2x).bind fun r22 =>
((field_Add r22 y19.2).bind fun r25 => some r25))) (revI a1p) (0 : UInt8)).bind fun x19 =>
(if (!a0f) = true then some (0 : UInt8)
else some x19)))
theorem poly_Eval_calls (a0f : Bool) (a1p : List UInt8) (a2x : UInt8) (p0 : Value) (p1 : Value) (r : UInt8) (w0 : World) (hp0 : Fd w0 [] p0 a0f) (hp1 : By w0 [] p1 a1p) (H : poly_Eval a0f a1p a2x = some r) :
    Calls Try.prog 28 [p0, p1, (u8 a2x)].toArray w0 (fun e w' => e = .returned (u8 r) ∧ Ext w0 w') := by
  have hE : Ext w0 w0 := Ext.refl w0; unfold poly_Eval at H; refine calls_W (n := 23) Try.func28 rfl rfl rfl ?_; refine W_seq <| W_rg <| ?_; refine wls rfl rfl (stp_boxL (v := p0) (cs := #[p0]) [] rfl rfl (cells_fd (hp0.lift (Lift.ext hE _))) ?_); intro g1 w1 o1 n1 g1r l1; have x1 := grown_ext g1r; have n3 := Nw.ext hE n1; have e2 := hE.trans x1; refine wls rfl rfl (stp_boxL (v := (u8 a2x)) (cs := #[(u8 a2x)]) [(bp g1)] rfl rfl rfl ?_); intro g4 w4 o4 n4 g4r l4; have x4 := grown_ext g4r; have q5 : Nq (bp g1) (bp g4) := o1.nq n4; replace o1 := o1.ext x4; have n7 := Nw.ext e2 n4; have e6 := e2.trans x4; refine av (u8 0) rfl (cst8 (0 : UInt8) rfl) <| wnt <| W_seq <| W_rg <| ?_; refine wls rfl rfl (stp_allocL (z := (u8 0)) (cs := #[(u8 0)]) [(bp g4), (bp g1)] rfl Try.zeroValue5 rfl ?_); intro g8 w8 o8 n8 g8r l8; have x8 := grown_ext g8r; have q9 : Nq (bp g4) (bp g8) := o4.nq n8; have q10 : Nq (bp g1) (bp g8) := o1.nq n8; replace o4 := o4.ext x8; replace o1 := o1.ext x8; have n12 := Nw.ext e6 n8; have e11 := e6.trans x8; refine wnt <| W_seq <| W_seq <| W_rg <| mv p1 rfl rfl <| ?_; refine wls rfl rfl (stp_call (vs := [p1]) Try.func45 rfl rfl rfl (ar1 rfl) (Backward_callsG _ (cells_sl _ _ (hp1.lift (Lift.ext e11 _))) _) ?_); rintro _ w13 ⟨g13, rfl, n13, o13, x13⟩; refine ⟨_, rfl, ?_⟩; have q14 : Nq (bp g8) (bp g13) := o8.nq n13; have q15 : Nq (bp g4) (bp g13) := o4.nq n13; have q16 : Nq (bp g1) (bp g13) := o1.nq n13; replace o8 := o8.ext x13; replace o4 := o4.ext x13; replace o1 := o1.ext x13; have n18 := Nw.ext e11 n13; have e17 := e11.trans x13; refine wnt <| W_block <| ?_; obtain ⟨lim19, hl19, H⟩ := bsi H; obtain ⟨x19, G19, H⟩ := bsi H; refine W_rangeS (π := fun x : BwEl (· = a1p) => x.1) (xs := (revI a1p)) (ea := fun x => i64 x.1.1) (eb := fun x => u8 x.1.2) (Rd := RdB (· = a1p) g13 p1) (gf := 67) (lb := #[(bp g13)]) G19 rfl rfl rfl (enters Try.func67 rfl rfl) ((revI_len _).symm) (backward_gen (· = a1p) _ (fun l h => congrArg List.length h) p1 g13 _ ⟨o13, _, rfl, (hp1.lift (Lift.ext e17 _))⟩ (lim_lt hl19)) (fun ys h => bw_exact h) bw_mem (fun _ _ t h => h.tn t) rfl rfl (fun s19 w => Ext w0 w ∧ Blk w g1 26 #[p0] ∧ Nw w0 (bp g1) ∧ Blk w g4 5 #[(u8 a2x)] ∧ Nw w0 (bp g4) ∧ Blk w g8 5 #[(u8 s19)] ∧ Nw w0 (bp g8) ∧ Blk w g13 22 #[p1] ∧ Nw w0 (bp g13) ∧ Nq (bp g1) (bp g4) ∧ Nq (bp g1) (bp g8) ∧ Nq (bp g1) (bp g13) ∧ Nq (bp g4) (bp g8) ∧ Nq (bp g4) (bp g13) ∧ Nq (bp g8) (bp g13)) ?_ ⟨e17, o1, n3, o4, n7, o8, n12, o13, n18, q5, q10, q16, q9, q15, q14⟩ (fun x f => upd (f) 9 (u8 x.1.2)) ?_ ?_ ?_
  · rintro s19 W W' t ⟨hE20, o0_20, n0_20, o1_20, n1_20, o2_20, n2_20, o3_20, n3_20, q0_1_20, q0_2_20, q0_3_20, q1_2_20, q1_3_20, q2_3_20⟩; exact ⟨(hE20.tn t e17.size), (o0_20.tn t), n0_20, (o1_20.tn t), n1_20, (o2_20.tn t), n2_20, (o3_20.tn t), n3_20, q0_1_20, q0_2_20, q0_3_20, q1_2_20, q1_3_20, q2_3_20⟩
  · intro l x W1 K hK; refine W_rg <| av (u8 x.1.2) rfl rfl <| wl_nil <| ?_; exact hK
  · rintro l ⟨y19, hy19⟩ s19 sp19 w21 ⟨hE21, o0_21, n0_21, o1_21, n1_21, o2_21, n2_21, o3_21, n3_21, q0_1_21, q0_2_21, q0_3_21, q1_2_21, q1_3_21, q2_3_21⟩ H19; have kf19 := KeepsFrom.refl w13.heap.size w21; refine W_block <| W_rg <| wq rfl (q_loadB (u := p0) rfl Try.isAgg26 rfl o0_21 rfl) <| wq rfl (q_loadB (u := (u8 s19)) rfl Try.isAgg5 rfl o2_21 rfl) <| wq rfl (q_loadB (u := (u8 a2x)) rfl Try.isAgg5 rfl o1_21 rfl) <| ?_; obtain ⟨r22, hr22, H19⟩ := bsi H19; refine wls rfl rfl (stp_call (vs := [p0, (u8 s19), (u8 a2x)]) Try.func47 rfl rfl rfl (ar3 rfl rfl rfl) (field_Mul_calls a0f s19 a2x p0 r22 _ (hp0.lift (Lift.ext hE21 _)) hr22) ?_); rintro _ w22 ⟨rfl, x22⟩; refine ⟨_, rfl, ?_⟩; replace o0_21 := o0_21.ext x22; replace o1_21 := o1_21.ext x22; replace o2_21 := o2_21.ext x22; replace o3_21 := o3_21.ext x22; have k23 := kf19.ext x22; have e24 := hE21.trans x22; refine mv (u8 y19.2) rfl rfl ?_; obtain ⟨r25, hr25, H19⟩ := bsi H19; refine wls rfl rfl (stp_call (vs := [(u8 r22), (u8 y19.2)]) Try.func46 rfl rfl rfl (ar2 rfl rfl) (field_Add_calls r22 y19.2  r25 _  hr25) ?_); rintro _ w25 ⟨rfl, x25⟩; refine ⟨_, rfl, ?_⟩; replace o0_21 := o0_21.ext x25; replace o1_21 := o1_21.ext x25; replace o2_21 := o2_21.ext x25; replace o3_21 := o3_21.ext x25; have k26 := k23.ext x25; have e27 := e24.trans x25; refine wln rfl rfl (stp_storeL (u := (u8 r25)) [(bp g1), (bp g4)] [(bp g13)] rfl Try.sizeOf5 rfl rfl o2_21 rfl ?_); intro w28 o28 g28 l28; have k29 := k26.own g28 o2_21.cl; replace o0_21 := o0_21.other g28 q0_2_21; replace o1_21 := o1_21.other g28 q1_2_21; replace o3_21 := o3_21.other g28 q2_3_21.symm; have e30 := e27.grown g28 n2_21; refine wl_nil <| bk_n <| ?_; obtain rfl := osi H19; exact ⟨k29, ⟨o3_21, _, rfl, (hp1.lift (Lift.ext e30 _))⟩, e30, o0_21, n0_21, o1_21, n1_21, o28, n2_21, o3_21, n3_21, q0_1_21, q0_2_21, q0_3_21, q1_2_21, q1_3_21, q2_3_21⟩
  intro D19 w31 hD19 ⟨hE31, o0_31, n0_31, o1_31, n1_31, o2_31, n2_31, o3_31, n3_31, q0_1_31, q0_2_31, q0_3_31, q1_2_31, q1_3_31, q2_3_31⟩ hK19; have hd19 := Nat.le_trans e17.size hD19; have kd19 := KeepsFrom.refl 0 w31; refine bk_n <| W_th <| W_seq <| W_seq <| W_rg <| wq rfl (q_loadB (u := p0) rfl Try.isAgg26 rfl o0_31 rfl) <| wa rfl (q_eqF rfl rfl rfl rfl (hp0.lift (Lift.ext hE31 _))) <| wnt <| ?_; refine W_cond _ rfl rfl (fun hb32 => ?_) (fun hb32 => ?_)
  · replace H := (if_pos hb32).symm.trans H; refine W_seq <| W_rg <| av (u8 0) rfl (cst8 (0 : UInt8) rfl) <| wnt <| W_ret <| th_r <| ?_; obtain rfl := osi H; have hk33 := kd19.same D19 _ (Nat.zero_le _) hK19 rfl; have t33 := Tn.put hk33 hd19 (.deferred none); refine rtm1 (u8 0) rfl rfl rfl rfl hk33 ?_; exact ⟨rfl, (hE31.tn t33 (Nat.le_refl _))⟩
  replace H := (if_neg (ne_true_of_eq_false hb32)).symm.trans H; refine W_skip <| W_th <| W_seq <| W_rg <| wq rfl (q_loadB (u := (u8 x19)) rfl Try.isAgg5 rfl o2_31 rfl) <| av (u8 x19) rfl rfl <| wnt <| W_ret <| ?_; obtain rfl := osi H; have hk34 := kd19.same D19 _ (Nat.zero_le _) hK19 rfl; have t34 := Tn.put hk34 hd19 (.deferred none); refine rtm1 (u8 x19) rfl rfl rfl rfl hk34 ?_; exact ⟨rfl, (hE31.tn t34 (Nat.le_refl _))⟩
end Gk

/- Maps from bytes to bools: made, written, read, counted. No condition. -/
namespace Gk
open Go Go.RowKit
def mput (m : List (UInt8 × Bool)) (k : UInt8) (v : Bool) : List (UInt8 × Bool) := if k ∈ m.map (·.1) then m.map (fun p => if p.1 = k then (p.1, v) else p) else m ++ [(k, v)]
abbrev mp (g : Nat) : Value := .map (some g)
def Mp (w : World) (g : Nat) (m : List (UInt8 × Bool)) : Prop :=
  ∃ es clock, w.heap[g]? = some (.map es clock) ∧ es.toList.map (fun e => (e.key, e.val)) = m.map (fun p => (u8 p.1, Value.bool p.2)) ∧ (m.map (·.1)).Nodup
theorem Mp.lt {w : World} {g : Nat} {m : List (UInt8 × Bool)} (h : Mp w g m) : g < w.heap.size := by
  obtain ⟨es, c, h, _⟩ := h; exact lt_of_get h
theorem Mp.ext {w w' : World} {g : Nat} {m : List (UInt8 × Bool)} (h : Mp w g m) (x : Ext w w') : Mp w' g m := by
  have hl := h.lt
  obtain ⟨es, c, h1, h2⟩ := h
  exact ⟨es, c, (x.blk g hl).trans h1, h2⟩
theorem Nw.mp (w : World) : Nw w (mp w.heap.size) := fun k e => by
  have e' : w.heap.size = k := Option.some.inj (hs_map e)
  omega
theorem Mp.keys {w : World} {g : Nat} {m : List (UInt8 × Bool)} {es : Array MapEntry} (h : es.toList.map (fun e => (e.key, e.val)) = m.map (fun p => (u8 p.1, Value.bool p.2))) : ∀ x ∈ es.toList, ∃ p ∈ m, x.key = u8 p.1 ∧ x.val = .bool p.2 := by
  intro x hx
  have h1 : (x.key, x.val) ∈ es.toList.map (fun e => (e.key, e.val)) := List.mem_map.2 ⟨x, hx, rfl⟩
  rw [h] at h1
  obtain ⟨p, hp, e⟩ := List.mem_map.1 h1
  simp only [Prod.mk.injEq] at e
  exact ⟨p, hp, e.1.symm, e.2.symm⟩
theorem u8_inj {a b : UInt8} (h : u8 a = u8 b) : a = b := by
  simp only [u8, Value.int.injEq, true_and] at h
  exact UInt8.toNat_inj.1 (by omega)
theorem isKey_u8 (a : UInt8) : MapKept.IsKey (.int .u8) (u8 a) := rfl
theorem Mp.find {m : List (UInt8 × Bool)} {es : Array MapEntry} (h : es.toList.map (fun e => (e.key, e.val)) = m.map (fun p => (u8 p.1, Value.bool p.2))) (k : UInt8) :
    (Instr.findNow (.int .u8) (u8 k) es.toList 0 = some none ∧ k ∉ m.map (·.1)) ∨ ∃ j e p, Instr.findNow (.int .u8) (u8 k) es.toList 0 = some (some (j, .bool p.2)) ∧ es[j]? = some e ∧ e.key = u8 k ∧ m[j]? = some p ∧ p.1 = k := by
  have hks : ∀ x ∈ es.toList, MapKept.IsKey (.int .u8) x.key := fun x hx => by
    obtain ⟨p, _, e, _⟩ := Mp.keys (w := default) (g := 0) h x hx
    rw [e]; rfl
  rcases MapKept.findNow_spec (isKey_u8 k) es.toList 0 hks with ⟨h1, h2⟩ | ⟨j, e, h1, h2, h3⟩
  · refine .inl ⟨h1, fun hk => ?_⟩
    obtain ⟨p, hp, rfl⟩ := List.mem_map.1 hk
    have h4 : (u8 p.1, Value.bool p.2) ∈ es.toList.map (fun e => (e.key, e.val)) := by rw [h]; exact List.mem_map.2 ⟨p, hp, rfl⟩
    obtain ⟨x, hx, e⟩ := List.mem_map.1 h4
    simp only [Prod.mk.injEq] at e
    exact h2 x hx e.1
  · have h4 := congrArg (·[j]?) h
    simp only [List.getElem?_map, h2, Option.map_some] at h4
    cases hm : m[j]? with
    | none => rw [hm] at h4; cases h4
    | some p =>
      rw [hm] at h4
      simp only [Option.map_some, Option.some.injEq, Prod.mk.injEq] at h4
      refine .inr ⟨j, e, p, ?_, by simpa using h2, h3, hm, ?_⟩
      · rw [h1, h4.2, Nat.zero_add]
      · exact u8_inj (h4.1.symm.trans h3)
theorem nd_inj {m : List (UInt8 × Bool)} (hn : (m.map (·.1)).Nodup) {i j : Nat} {p q : UInt8 × Bool} (hi : m[i]? = some p) (hj : m[j]? = some q) (e : p.1 = q.1) : i = j := by
  obtain ⟨hil, hip⟩ := List.getElem?_eq_some_iff.1 hi
  obtain ⟨hjl, hjq⟩ := List.getElem?_eq_some_iff.1 hj
  have h := List.pairwise_iff_getElem.1 hn
  rcases Nat.lt_trichotomy i j with h1 | h1 | h1
  · exact (h i j (by simpa using hil) (by simpa using hjl) h1 (by simp [hip, hjq, e])).elim
  · exact h1
  · exact (h j i (by simpa using hjl) (by simpa using hil) h1 (by simp [hip, hjq, e])).elim
theorem mput_at {m : List (UInt8 × Bool)} (hn : (m.map (·.1)).Nodup) {j : Nat} {p : UInt8 × Bool} (hj : m[j]? = some p) (v : Bool) : m.map (fun q => if q.1 = p.1 then (q.1, v) else q) = m.set j (p.1, v) := by
  apply List.ext_getElem?
  intro i
  obtain ⟨hjl, hjp⟩ := List.getElem?_eq_some_iff.1 hj
  rw [List.getElem?_map, List.getElem?_set]
  by_cases hij : j = i
  · subst hij
    rw [hj, if_pos rfl, if_pos hjl]; simp
  · rw [if_neg hij]
    cases hi : m[i]? with
    | none => rfl
    | some q =>
      obtain ⟨hil, hiq⟩ := List.getElem?_eq_some_iff.1 hi
      have : q.1 ≠ p.1 := fun e => hij (nd_inj hn hj hi e.symm)
      simp [this]
theorem mput_nodup {m : List (UInt8 × Bool)} (hn : (m.map (·.1)).Nodup) (k : UInt8) (v : Bool) : ((mput m k v).map (·.1)).Nodup := by
  unfold mput
  split
  · rw [List.map_map]
    have : ((fun x : UInt8 × Bool => x.1) ∘ fun p => if p.1 = k then (p.1, v) else p) = (fun x => x.1) := by
      funext p; simp only [Function.comp]; split <;> rfl
    rw [this]; exact hn
  · rename_i hk
    rw [List.map_append, List.nodup_append]
    refine ⟨hn, by simp, ?_⟩
    intro a ha b hb e
    simp only [List.map_cons, List.map_nil, List.mem_singleton] at hb
    subst hb; subst e; exact hk ha
section
variable {P : Program} {f : Nat → Value} {w : World} {o : Oper} {x y z : Operand} {t kt et : TypeId} {g : Nat} {m : List (UInt8 × Bool)} {k : UInt8} {b : Bool}
theorem stp_makeMap (L : List Value) (ho : o.op = .makeMap t none) {K : Value → World → Prop}
    (hk : ∀ g w', Mp w' g [] → Nw w (mp g) → w.grownBy w' none → Lift w w' L (mp g :: L) → K (mp g) w') : Stp P o f w K := by
  have hg := World.grownBy_alloc w (.map #[] 0) none
  refine stp_of_run (w' := w.alloc (.map #[] 0)) (v := mp w.heap.size) ?_ (hk _ _ ⟨#[], 0, alloc_new w _, by simp, by simp⟩ (Nw.mp w) hg (Lift.new L hg (Nw.mp w)))
  simp [execOp, ho, Instr.makeMap, newObj, Sem.run]
theorem stp_mapUpdate (L1 L2 : List Value) (ho : o.op = .mapUpdate t x y z ∨ o.op = .insert t x y z) (ht : P.underlying t = some (.map kt et)) (hkt : P.underlying kt = some (.int .u8)) (hx : ev f x = mp g) (hy : ev f y = u8 k) (hz : ev f z = .bool b) (h : Mp w g m)
    {K : Value → World → Prop} (hk : ∀ w', Mp w' g (mput m k b) → Gr w w' (mp g) → Lift w w' (L1 ++ mp g :: L2) (L1 ++ mp g :: L2) → K undef w') : Stp P o f w K := by
  obtain ⟨es, c, hb, he, hn⟩ := h
  have key : ∀ es' c', es'.toList.map (fun e => (e.key, e.val)) = (mput m k b).map (fun p => (u8 p.1, Value.bool p.2)) → (Instr.mapUpdate t (mp g) (u8 k) (.bool b)).run P w = .ok () (w.putObj g (.map es' c')) → Stp P o f w K := by
    intro es' c' he' hr
    have hg := grownBy_putObj' w g (.map es' c')
    refine stp_of_skip (w' := w.putObj g (.map es' c')) ?_ (hk _ ⟨es', c', World.putObj_heap_same (lt_of_get hb), he', mput_nodup hn k b⟩ (Gr.of hg) (Lift.own L1 L2 (Gr.of hg) (Nx.refl _ _)))
    rcases ho with ho | ho
    · simp only [execOp, ho, hx, hy, hz, Sem.run_bind, hr, Result.andThen_ok]
      rfl
    · simp only [execOp, ho, hx, hy, hz, Sem.run_bind, hr, Result.andThen_ok]
      rfl
  rcases Mp.find he k with ⟨h1, h2⟩ | ⟨j, e, p, h1, h2, h3, h4, h5⟩
  · refine key (es.push { key := u8 k, val := .bool b, born := c }) (c + 1) ?_ ?_
    · unfold mput
      rw [if_neg h2]
      simp only [Array.toList_push, List.map_append, he, List.map_cons, List.map_nil]
    · simp [Instr.mapUpdate, run_underlying ht, MapKept.run_getObj_map hb, MapKept.run_checkKey hkt (isKey_u8 k), MapKept.run_findKey hkt h1, MapKept.run_setObj_map _ hb, Result.andThen, World.putObj]
  · subst h5
    refine key (es.modify j fun e => { e with key := u8 p.1, val := .bool b }) c ?_ ?_
    · unfold mput
      rw [if_pos (List.mem_map.2 ⟨p, List.mem_of_getElem? h4, rfl⟩), mput_at hn h4]
      apply List.ext_getElem?
      intro i
      have hi := congrArg (·[i]?) he
      simp only [List.getElem?_map, Array.getElem?_toList] at hi
      simp only [List.getElem?_map, Array.getElem?_toList, Array.getElem?_modify, List.getElem?_set]
      by_cases hij : j = i
      · subst hij
        obtain ⟨hl, _⟩ := List.getElem?_eq_some_iff.1 h4
        simp [h2, hl]
      · simp only [if_neg hij]; exact hi
    · simp [Instr.mapUpdate, run_underlying ht, MapKept.run_getObj_map hb, MapKept.run_checkKey hkt (isKey_u8 p.1), MapKept.run_findKey hkt h1, h2, h3, MapKept.run_keyThatStays (isKey_u8 p.1), MapKept.run_setObj_map _ hb, Result.andThen, World.putObj]
theorem q_lenMap (ho : o.op = .call ⟨.builtin .len, #[x], #[t]⟩) (ht : P.underlying t = some (.map kt et)) (hx : ev f x = mp g) (h : Mp w g m) : Qt P o f w (i64 (m.length : Int)) := by
  intro w' hE
  obtain ⟨es, c, hb, he, _⟩ := h.ext hE
  have hl : es.size = m.length := by have := congrArg List.length he; simpa using this
  rw [exec_builtin _ ho]
  simp [builtin, Builtin.len_, run_underlying ht, hx, MapKept.run_getObj_map hb, Result.andThen, goInt, hl, i64]
end
end Gk

/- Printed by gen.py: for each Go function a pure function, and that the Go code comes to it. No condition beside the equation that says what the pure function gives. -/
namespace Gk
open Go Go.Proofs
noncomputable def poly_DivMod (a0f : Bool) (a1p : List UInt8) (a2q : List UInt8) : Option (List UInt8 × List UInt8 × Int) :=
((poly_Trim a2q).bind fun r8 =>
(if (!a0f) = true then some (([] : List UInt8), ([] : List UInt8), 1)
else
(if (r8.length : Int) = 0 then some (([] : List UInt8), ([] : List UInt8), 7)
else
((((idx r8 ((wI ((r8.length : Int) - 1)))).bind fun c17 =>
((field_Inv a0f c17).bind fun r18 => some r18.1))).bind fun x14 =>
((slices_Clone_sbytebyte a1p).bind fun r28 =>
((makeL ((if 0 < (wI ((wI ((a1p.length : Int) - (r8.length : Int))) + 1)) then (wI ((wI ((a1p.length : Int) - (r8.length : Int))) + 1)) else 0)) (0 : UInt8)).bind fun c43 =>
((lim c43.length).bind fun lim73 =>
((rangeL (fun (s73 : List UInt8 × List UInt8) (y73 : Int) =>
((idx s73.1 ((wI ((wI (y73 + (r8.length : Int))) - 1)))).bind fun c79 =>
((field_Mul a0f c79 x14).bind fun r80 =>
((idx s73.2 y73).bind fun c83 =>
((subL s73.1 y73 ((s73.1.length : Int))).bind fun c90 =>
((subL s73.1 y73 ((wI (y73 + (r8.length : Int))))).bind fun c91 =>
((field_Sum a0f c91 r80 r8).bind fun r92 => some ((copyL s73.1 y73 r92), (s73.2.set (y73 : Int).toNat r80))))))))) (revN c43.length) (r28, c43)).bind fun x73 =>
((poly_Trim x73.2).bind fun r102 =>
((poly_Trim x73.1).bind fun r114 => some (r102, r114, 0)))))))))))
theorem poly_DivMod_calls (a0f : Bool) (a1p : List UInt8) (a2q : List UInt8) (p0 : Value) (p1 : Value) (p2 : Value) (r : List UInt8 × List UInt8 × Int) (w0 : World) (hp0 : Fd w0 [] p0 a0f) (hp1 : By w0 [] p1 a1p) (hp2 : By w0 [] p2 a2q) (H : poly_DivMod a0f a1p a2q = some r) :
    Calls Try.prog 64 [p0, p1, p2].toArray w0 (fun e w' => ∃ u0 u1 : Value, e = .returned (.tuple #[u0, u1, (i64 r.2.2)]) ∧ Ext w0 w' ∧ Nw w0 u0 ∧ OwK (Sc u8) w' [] 5 u0 r.1 ∧ Nw w0 u1 ∧ OwK (Sc u8) w' [] 5 u1 r.2.1) := by
  have hE : Ext w0 w0 := Ext.refl w0; unfold poly_DivMod at H; refine calls_W (n := 81) Try.func64 rfl rfl rfl ?_; refine W_seq <| W_rg <| ?_; refine wls rfl rfl (stp_boxL (v := p0) (cs := #[p0]) [] rfl rfl (cells_fd (hp0.lift (Lift.ext hE _))) ?_); intro g1 w1 o1 n1 g1r l1; have x1 := grown_ext g1r; have n3 := Nw.ext hE n1; have e2 := hE.trans x1; refine wls rfl rfl (stp_boxL (v := p2) (cs := #[p2]) [(bp g1)] rfl rfl (cells_sl _ _ (hp2.lift (Lift.ext e2 _))) ?_); intro g4 w4 o4 n4 g4r l4; have x4 := grown_ext g4r; have q5 : Nq (bp g1) (bp g4) := o1.nq n4; replace o1 := o1.ext x4; have n7 := Nw.ext e2 n4; have e6 := e2.trans x4; refine av (.slice none 0 0) rfl rfl <| av (.slice none 0 0) rfl rfl <| av (i64 0) rfl rfl <| wnt <| W_seq <| W_rg <| wq rfl (q_loadB (u := p2) rfl Try.isAgg22 rfl o4 rfl) <| ?_; obtain ⟨r8, hr8, H⟩ := bsi H; refine wls rfl rfl (stp_call (vs := [p2]) Try.func78 rfl rfl rfl (ar1 rfl) (poly_Trim_calls a2q p2 r8 _ (hp2.lift (Lift.ext e6 _)) hr8) ?_); rintro _ w8 ⟨v8, rfl, x8, n8_0, o8_0⟩; refine ⟨_, rfl, ?_⟩; have i8_0 : By w8 [(bp g4), (bp g1)] v8 r8 := OwK.slk (Sc.stab _) _ (OwK.scal o8_0 (v8 :: [(bp g4), (bp g1)])) (fun k hk => (Old.cons (Old.cons (Old.nil _) o1.ltB) o4.ltB) k (n8_0 k hk)) (fun _ h => h.2); replace o4 := o4.ext x8; replace o1 := o1.ext x8; have e9 := e6.trans x8; refine wln rfl rfl (stp_storeL (u := v8) [] [(bp g1)] rfl Try.sizeOf22 rfl rfl o4 (oc_sl _ _ _ _ i8_0) ?_); intro w10 o10 g10 l10; replace i8_0 := i8_0.lift l10; replace o1 := o1.other g10 q5; have e11 := e9.grown g10 n7; refine wnt <| W_seq <| W_seq <| W_rg <| wq rfl (q_loadB (u := p0) rfl Try.isAgg26 rfl o1 rfl) <| wa rfl (q_eqF rfl rfl rfl rfl (hp0.lift (Lift.ext e11 _))) <| wnt <| ?_; refine W_cond _ rfl rfl (fun hb12 => ?_) (fun hb12 => ?_)
  · replace H := (if_pos hb12).symm.trans H; refine W_seq <| W_rg <| av (.slice none 0 0) rfl rfl <| av (.slice none 0 0) rfl rfl <| av (i64 1) rfl rfl <| wnt <| W_ret <| th_r <| ?_; obtain rfl := osi H; refine rt3 (.slice none 0 0) (.slice none 0 0) (i64 1) rfl rfl rfl rfl rfl rfl rfl rfl ?_; exact ⟨(.slice none 0 0), (.slice none 0 0), rfl, e11, Nw.nil _, (OwK.nil _ _ _ _), Nw.nil _, (OwK.nil _ _ _ _)⟩
  replace H := (if_neg (ne_true_of_eq_false hb12)).symm.trans H; refine W_skip <| W_th <| W_seq <| W_seq <| W_rg <| wq rfl (q_loadB (u := v8) rfl Try.isAgg22 rfl o10 rfl) <| wa rfl (q_len rfl T22.sl rfl i8_0) <| wa rfl (q_eqI rfl rfl rfl) <| ?_; refine wnt ?_; refine W_cond _ rfl rfl (fun hb13 => ?_) (fun hb13 => ?_)
  · replace H := ifp hb13 H; refine W_seq <| W_rg <| av (.slice none 0 0) rfl rfl <| av (.slice none 0 0) rfl rfl <| av (i64 7) rfl rfl <| wnt <| W_ret <| th_r <| ?_; obtain rfl := osi H; refine rt3 (.slice none 0 0) (.slice none 0 0) (i64 7) rfl rfl rfl rfl rfl rfl rfl rfl ?_; exact ⟨(.slice none 0 0), (.slice none 0 0), rfl, e11, Nw.nil _, (OwK.nil _ _ _ _), Nw.nil _, (OwK.nil _ _ _ _)⟩
  replace H := ifn hb13 H; refine W_skip <| W_th <| W_seq <| ?_; obtain ⟨x14, H14, H⟩ := bsi H; refine W_mid (fun f w => ∃ g9_129 : Nat, f 1 = p1 ∧ f 3 = (bp g1) ∧ f 5 = (bp g4) ∧ f 9 = (bp g9_129) ∧ f 81 = undef ∧ Ext w0 w ∧ Blk w g1 26 #[p0] ∧ Nw w0 (bp g1) ∧ Blk w g4 22 #[v8] ∧ Nw w0 (bp g4) ∧ Blk w g9_129 5 #[(u8 x14)] ∧ Nw w0 (bp g9_129) ∧ Nq (bp g1) (bp g4) ∧ Nq (bp g1) (bp g9_129) ∧ Nq (bp g4) (bp g9_129) ∧ By w [(bp g1), (bp g4), (bp g9_129)] v8 r8) ?_ ?_
  · refine W_draw2 [0, 1, 2, 6] [(0, 1), (1, 1), (2, 1), (3, 0), (4, 0), (5, 0), (6, 1)] 7 11 [(8, 0), (9, 0), (10, 0), (11, 2), (12, 2), (13, 0)] [(7, 2), (8, 0), (9, 0), (10, 0), (12, 2), (13, 0)] mixed (by kernel_rfl) (by kernel_rfl) (by kernel_rfl) (by kernel_rfl) ?_; have x15 := Ext.drew w10; replace i8_0 := i8_0.lift (Lift.ext x15 _); replace o10 := o10.ext x15; replace o1 := o1.ext x15; have e16 := e11.trans x15; refine sq rfl rfl (q_loadB (u := p0) rfl Try.isAgg26 rfl o1 rfl) <| sq rfl rfl (q_loadB (u := v8) rfl Try.isAgg22 rfl o10 rfl) <| sq rfl rfl (q_loadB (u := v8) rfl Try.isAgg22 rfl o10 rfl) <| sa rfl rfl (q_len rfl T22.sl rfl i8_0) <| sa rfl rfl (q_subI rfl rfl rfl) <| ?_; obtain ⟨c17, hc17, H14⟩ := bsi H14; refine sa rfl rfl (q_adr rfl T22 rfl rfl i8_0 hc17) <| sq rfl rfl (q_loadS rfl T22 rfl i8_0 hc17) <| ?_; refine ws_nil ⟨?_, ?_⟩
    · obtain ⟨r18, hr18, H14⟩ := bsi H14; refine wsc rfl (by kernel_rfl) rfl rfl (stp_call (vs := [p0, (u8 c17)]) Try.func68 rfl rfl rfl (ar2 rfl rfl) (field_Inv_calls a0f c17 p0 r18 _ (hp0.lift (Lift.ext e16 _)) hr18) ?_); rintro _ w18 ⟨rfl, x18⟩; refine ⟨_, rfl, ?_⟩; replace i8_0 := i8_0.lift (Lift.ext x18 _); replace o10 := o10.ext x18; replace o1 := o1.ext x18; have e19 := e16.trans x18; refine sv (.tuple #[(u8 r18.1), (i64 r18.2)]) rfl rfl rfl <| sa rfl rfl (q_extract rfl rfl rfl) <| sa rfl rfl (q_extract rfl rfl rfl) <| ?_; refine wss rfl rfl rfl (stp_allocL (z := (u8 0)) (cs := #[(u8 0)]) [(bp g4), (bp g1)] rfl Try.zeroValue5 rfl ?_); intro g20 w20 o20 n20 g20r l20; refine ⟨grown_ext g20r, ?_⟩; have x20 := grown_ext g20r; have q21 : Nq (bp g4) (bp g20) := o10.nq n20; have q22 : Nq (bp g1) (bp g20) := o1.nq n20; replace i8_0 := i8_0.lift (Lift.call _ x20 n20); replace o10 := o10.ext x20; replace o1 := o1.ext x20; have n24 := Nw.ext e19 n20; have e23 := e19.trans x20; refine wsn rfl (by kernel_rfl) rfl rfl (stp_storeL (u := (u8 r18.1)) [] [(bp g4), (bp g1)] rfl Try.sizeOf5 rfl rfl o20 rfl ?_); intro w25 o25 g25 l25; replace i8_0 := i8_0.lift l25; replace o10 := o10.other g25 q21; replace o1 := o1.other g25 q22; have e26 := e23.grown g25 n24; refine sa rfl rfl (q_assign (v := (i64 r18.2)) rfl rfl) ?_; refine ws_nil ?_; obtain rfl := osi H14; exact ⟨g20, rfl, rfl, rfl, rfl, rfl, e26, o1, n3, o10, n7, o25, n24, q5, q22, q21, (i8_0.lift (Lift.sub (fun _ h => ⟨h.2.2.1, h.2.1, h.1, trivial⟩)))⟩
    refine wss rfl rfl rfl (stp_allocL (z := (u8 0)) (cs := #[(u8 0)]) [(bp g4), (bp g1)] rfl Try.zeroValue5 rfl ?_); intro g18 w18 o18 n18 g18r l18; refine ⟨grown_ext g18r, ?_⟩; have x18 := grown_ext g18r; have q19 : Nq (bp g4) (bp g18) := o10.nq n18; have q20 : Nq (bp g1) (bp g18) := o1.nq n18; replace i8_0 := i8_0.lift (Lift.call _ x18 n18); replace o10 := o10.ext x18; replace o1 := o1.ext x18; have n22 := Nw.ext e16 n18; have e21 := e16.trans x18; obtain ⟨r23, hr23, H14⟩ := bsi H14; refine wsc rfl (by kernel_rfl) rfl rfl (stp_call (vs := [p0, (u8 c17)]) Try.func68 rfl rfl rfl (ar2 rfl rfl) (field_Inv_calls a0f c17 p0 r23 _ (hp0.lift (Lift.ext e21 _)) hr23) ?_); rintro _ w23 ⟨rfl, x23⟩; refine ⟨_, rfl, ?_⟩; replace i8_0 := i8_0.lift (Lift.ext x23 _); replace o18 := o18.ext x23; replace o10 := o10.ext x23; replace o1 := o1.ext x23; have e24 := e21.trans x23; refine sv (.tuple #[(u8 r23.1), (i64 r23.2)]) rfl rfl rfl <| sa rfl rfl (q_extract rfl rfl rfl) <| sa rfl rfl (q_extract rfl rfl rfl) <| ?_; refine wsn rfl (by kernel_rfl) rfl rfl (stp_storeL (u := (u8 r23.1)) [] [(bp g4), (bp g1)] rfl Try.sizeOf5 rfl rfl o18 rfl ?_); intro w25 o25 g25 l25; replace i8_0 := i8_0.lift l25; replace o10 := o10.other g25 q19; replace o1 := o1.other g25 q20; have e26 := e24.grown g25 n22; refine sa rfl rfl (q_assign (v := (i64 r23.2)) rfl rfl) ?_; refine ws_nil ?_; obtain rfl := osi H14; exact ⟨g18, rfl, rfl, rfl, rfl, rfl, e26, o1, n3, o10, n7, o25, n22, q5, q20, q19, (i8_0.lift (Lift.sub (fun _ h => ⟨h.2.2.1, h.2.1, h.1, trivial⟩)))⟩
  rintro _ w27 ⟨g9_27, s1_27, s3_27, s5_27, s9_27, s81_27, hE27, o0_27, n0_27, o1_27, n1_27, o2_27, n2_27, q0_1_27, q0_2_27, q1_2_27, i0_27⟩; refine W_th <| W_seq <| W_rg <| mv p1 rfl s1_27 <| ?_; obtain ⟨r28, hr28, H⟩ := bsi H; refine wls rfl rfl (stp_call (vs := [p1]) Try.func25 rfl rfl rfl (ar1 rfl) (slices_Clone_sbytebyte_calls a1p p1 r28 _ (hp1.lift (Lift.ext hE27 _)) hr28) ?_); rintro _ w28 ⟨v28, rfl, x28, n28_0, o28_0⟩; refine ⟨_, rfl, ?_⟩; have o28 : OwK (Sc u8) w28 (v28 :: [(bp g1), (bp g4), (bp g9_27)]) 5 v28 r28 := OwK.scal o28_0 _; have q29 : Nq (bp g1) v28 := o0_27.nq n28_0; have q30 : Nq (bp g4) v28 := o1_27.nq n28_0; have q31 : Nq (bp g9_27) v28 := o2_27.nq n28_0; replace i0_27 := i0_27.lift (Lift.call _ x28 n28_0); replace o0_27 := o0_27.ext x28; replace o1_27 := o1_27.ext x28; replace o2_27 := o2_27.ext x28; have n33 := Nw.ext hE27 n28_0; have e32 := hE27.trans x28; refine wls rfl rfl (stp_allocL (z := (.slice none 0 0)) (cs := #[(.slice none 0 0)]) [v28, (bp g1), (bp g4), (bp g9_27)] rfl Try.zeroValue22 rfl ?_); intro g34 w34 o34 n34 g34r l34; have x34 := grown_ext g34r; have q35 : Nq v28 (bp g34) := o28.nq n34; have q36 : Nq (bp g1) (bp g34) := o0_27.nq n34; have q37 : Nq (bp g4) (bp g34) := o1_27.nq n34; have q38 : Nq (bp g9_27) (bp g34) := o2_27.nq n34; replace i0_27 := i0_27.lift (Lift.call _ x34 n34); replace o28 := o28.extL (Sc.stab _) x34 (Lift.call _ x34 n34); replace o0_27 := o0_27.ext x34; replace o1_27 := o1_27.ext x34; replace o2_27 := o2_27.ext x34; have n40 := Nw.ext e32 n34; have e39 := e32.trans x34; refine wln rfl rfl (stp_storeL (u := v28) [] [v28, (bp g1), (bp g4), (bp g9_27)] rfl Try.sizeOf22 rfl rfl o34 (oc_own o28) ?_); intro w41 o41 g41 l41; replace i0_27 := i0_27.lift l41; replace o28 := o28.other (Sc.stab _) g41 q35 l41; replace o0_27 := o0_27.other g41 q36; replace o1_27 := o1_27.other g41 q37; replace o2_27 := o2_27.other g41 q38; have e42 := e39.grown g41 n40; refine wnt <| W_seq <| W_rg <| mv p1 rfl s1_27 <| wa rfl (q_len rfl T22.sl rfl (hp1.lift (Lift.ext e42 _))) <| wq rfl (q_loadB (u := v8) rfl Try.isAgg22 (by exact s5_27) o1_27 rfl) <| wa rfl (q_len rfl T22.sl rfl i0_27) <| wa rfl (q_subI rfl rfl rfl) <| ?_; refine wa rfl (q_addI rfl rfl rfl) <| wa rfl (q_maxI rfl rfl rfl) <| ?_; obtain ⟨c43, hc43, H⟩ := bsi H; refine wls rfl rfl (stp_make (L := [(bp g34), v28, (bp g1), (bp g4), (bp g9_27)]) (R := (Sc u8)) rfl T22 rfl rfl hc43 (fun _ _ => rfl) ?_); intro v43 w43 o43 n43 g43 l43; have x43 := grown_ext g43; have q44 : Nq (bp g34) v43 := o41.nq n43; have q45 : Nq v28 v43 := o28.nq n43; have q46 : Nq (bp g1) v43 := o0_27.nq n43; have q47 : Nq (bp g4) v43 := o1_27.nq n43; have q48 : Nq (bp g9_27) v43 := o2_27.nq n43; replace i0_27 := i0_27.lift (Lift.call _ x43 n43)
  replace o41 := o41.ext x43; replace o28 := o28.extL (Sc.stab _) x43 (Lift.call _ x43 n43); replace o0_27 := o0_27.ext x43; replace o1_27 := o1_27.ext x43; replace o2_27 := o2_27.ext x43; have n50 := Nw.ext e42 n43; have e49 := e42.trans x43; refine wls rfl rfl (stp_allocL (z := (.slice none 0 0)) (cs := #[(.slice none 0 0)]) [v43, (bp g34), v28, (bp g1), (bp g4), (bp g9_27)] rfl Try.zeroValue22 rfl ?_); intro g51 w51 o51 n51 g51r l51; have x51 := grown_ext g51r; have q52 : Nq v43 (bp g51) := o43.nq n51; have q53 : Nq (bp g34) (bp g51) := o41.nq n51; have q54 : Nq v28 (bp g51) := o28.nq n51; have q55 : Nq (bp g1) (bp g51) := o0_27.nq n51; have q56 : Nq (bp g4) (bp g51) := o1_27.nq n51; have q57 : Nq (bp g9_27) (bp g51) := o2_27.nq n51; replace i0_27 := i0_27.lift (Lift.call _ x51 n51); replace o43 := o43.extL (Sc.stab _) x51 (Lift.call _ x51 n51); replace o41 := o41.ext x51; replace o28 := o28.extL (Sc.stab _) x51 (Lift.call _ x51 n51); replace o0_27 := o0_27.ext x51; replace o1_27 := o1_27.ext x51; replace o2_27 := o2_27.ext x51; have n59 := Nw.ext e49 n51; have e58 := e49.trans x51; refine wln rfl rfl (stp_storeL (u := v43) [] [v43, (bp g34), v28, (bp g1), (bp g4), (bp g9_27)] rfl Try.sizeOf22 rfl rfl o51 (oc_own o43) ?_); intro w60 o60 g60 l60; replace i0_27 := i0_27.lift l60; replace o43 := o43.other (Sc.stab _) g60 q52 l60; replace o41 := o41.other g60 q53; replace o28 := o28.other (Sc.stab _) g60 q54 l60; replace o0_27 := o0_27.other g60 q55; replace o1_27 := o1_27.other g60 q56; replace o2_27 := o2_27.other g60 q57; have e61 := e58.grown g60 n59; refine wnt <| W_seq <| W_seq <| W_rg <| wq rfl (q_loadB (u := v43) rfl Try.isAgg22 rfl o60 rfl) <| ?_; refine wls rfl rfl (stp_call (vs := [v43]) Try.func45 rfl rfl rfl (ar1 rfl) (Backward_callsG _ (cells_own o43) _) ?_); rintro _ w62 ⟨g62, rfl, n62, o62, x62⟩; refine ⟨_, rfl, ?_⟩; have q63 : Nq (bp g51) (bp g62) := o60.nq n62; have q65 : Nq v43 (bp g62) := o43.nq n62; have q66 : Nq (bp g34) (bp g62) := o41.nq n62; have q67 : Nq v28 (bp g62) := o28.nq n62; have q68 : Nq (bp g1) (bp g62) := o0_27.nq n62; have q69 : Nq (bp g4) (bp g62) := o1_27.nq n62; have q70 : Nq (bp g9_27) (bp g62) := o2_27.nq n62; replace i0_27 := i0_27.lift (Lift.call _ x62 n62); replace o60 := o60.ext x62; replace o43 := o43.extL (Sc.stab _) x62 (Lift.call _ x62 n62); replace o41 := o41.ext x62; replace o28 := o28.extL (Sc.stab _) x62 (Lift.call _ x62 n62); replace o0_27 := o0_27.ext x62; replace o1_27 := o1_27.ext x62; replace o2_27 := o2_27.ext x62; have n72 := Nw.ext e61 n62; have e71 := e61.trans x62; refine wnt <| W_block <| ?_; obtain ⟨lim73, hl73, H⟩ := bsi H; obtain ⟨x73, G73, H⟩ := bsi H; refine W_rangeS (π := fun x : BwEl (fun l => l.length = c43.length) => x.1.1) (xs := (revN c43.length)) (ea := fun x => i64 x.1.1) (eb := fun x => u8 x.1.2) (Rd := RdB (fun l => l.length = c43.length) g62 v43) (gf := 67) (lb := #[(bp g62)]) G73 s81_27 rfl rfl (enters Try.func67 rfl rfl) ((revN_len _).symm) (backward_gen (fun l => l.length = c43.length) _ (fun _ h => h) v43 g62 _ ⟨o62, _, rfl, (o43.rd (Sc.stab _))⟩ (lim_lt hl73)) (fun ys h => h) bw_memN (fun _ _ t h => h.tn t) rfl rfl (fun s73 w => Ext w0 w ∧ OwK (Sc u8) w [v28, v43, (bp g1), (bp g4), (bp g9_27), (bp g34), (bp g51), (bp g62)] 5 v28 s73.1 ∧ Nw w0 v28 ∧ OwK (Sc u8) w [v28, v43, (bp g1), (bp g4), (bp g9_27), (bp g34), (bp g51), (bp g62)] 5 v43 s73.2 ∧ Nw w0 v43 ∧ Blk w g1 26 #[p0] ∧ Nw w0 (bp g1) ∧ Blk w g4 22 #[v8] ∧ Nw w0 (bp g4) ∧ Blk w g9_27 5 #[(u8 x14)] ∧ Nw w0 (bp g9_27) ∧ Blk w g34 22 #[v28] ∧ Nw w0 (bp g34) ∧ Blk w g51 22 #[v43] ∧ Nw w0 (bp g51) ∧ Blk w g62 22 #[v43] ∧ Nw w0 (bp g62) ∧ Nq v28 v43 ∧ Nq v28 (bp g1) ∧ Nq v28 (bp g4) ∧ Nq v28 (bp g9_27) ∧ Nq v28 (bp g34) ∧ Nq v28 (bp g51) ∧ Nq v28 (bp g62) ∧ Nq v43 (bp g1) ∧ Nq v43 (bp g4) ∧ Nq v43 (bp g9_27) ∧ Nq v43 (bp g34) ∧ Nq v43 (bp g51) ∧ Nq v43 (bp g62) ∧ Nq (bp g1) (bp g4) ∧ Nq (bp g1) (bp g9_27) ∧ Nq (bp g1) (bp g34) ∧ Nq (bp g1) (bp g51) ∧ Nq (bp g1) (bp g62) ∧ Nq (bp g4) (bp g9_27) ∧ Nq (bp g4) (bp g34) ∧ Nq (bp g4) (bp g51) ∧ Nq (bp g4) (bp g62) ∧ Nq (bp g9_27) (bp g34) ∧ Nq (bp g9_27) (bp g51) ∧ Nq (bp g9_27) (bp g62) ∧ Nq (bp g34) (bp g51) ∧ Nq (bp g34) (bp g62) ∧ Nq (bp g51) (bp g62) ∧ By w [v28, v43, (bp g1), (bp g4), (bp g9_27), (bp g34), (bp g51), (bp g62)] v8 r8 ∧ (s73.2).length = c43.length) ?_ ⟨e71, (o28.weak (Sc.stab _) (fun _ h => ⟨h.2.2.2.2.1, h.2.2.1, h.2.2.2.2.2.1, h.2.2.2.2.2.2.1, h.2.2.2.2.2.2.2.1, h.2.2.2.1, h.2.1, h.1, trivial⟩)), n33, (o43.weak (Sc.stab _) (fun _ h => ⟨h.2.2.2.2.1, h.2.2.1, h.2.2.2.2.2.1, h.2.2.2.2.2.2.1, h.2.2.2.2.2.2.2.1, h.2.2.2.1, h.2.1, h.1, trivial⟩)), n50, o0_27, n0_27, o1_27, n1_27, o2_27, n2_27, o41, n40, o60, n59, o62, n72, q45, q29.symm, q30.symm, q31.symm, q35, q54, q67, q46.symm, q47.symm, q48.symm, q44.symm, q52, q65, q0_1_27, q0_2_27, q36, q55, q68, q1_2_27, q37, q56, q69, q38, q57, q70, q53, q66, q63, (i0_27.lift (Lift.sub (fun _ h => ⟨h.2.2.2.2.1, h.2.2.1, h.2.2.2.2.2.1, h.2.2.2.2.2.2.1, h.2.2.2.2.2.2.2.1, h.2.2.2.1, h.2.1, h.1, trivial⟩))), rfl⟩ (fun x f => upd (f) 13 (i64 x.1.1)) ?_ ?_ ?_
  · rintro s73 W W' t ⟨hE74, o0_74, n0_74, o1_74, n1_74, o2_74, n2_74, o3_74, n3_74, o4_74, n4_74, o5_74, n5_74, o6_74, n6_74, o7_74, n7_74, q0_1_74, q0_2_74, q0_3_74, q0_4_74, q0_5_74, q0_6_74, q0_7_74, q1_2_74, q1_3_74, q1_4_74, q1_5_74, q1_6_74, q1_7_74, q2_3_74, q2_4_74, q2_5_74, q2_6_74, q2_7_74, q3_4_74, q3_5_74, q3_6_74, q3_7_74, q4_5_74, q4_6_74, q4_7_74, q5_6_74, q5_7_74, q6_7_74, i0_74, xt0_74⟩; exact ⟨(hE74.tn t e71.size), (o0_74.tn (Sc.stab _) t), n0_74, (o1_74.tn (Sc.stab _) t), n1_74, (o2_74.tn t), n2_74, (o3_74.tn t), n3_74, (o4_74.tn t), n4_74, (o5_74.tn t), n5_74, (o6_74.tn t), n6_74, (o7_74.tn t), n7_74, q0_1_74, q0_2_74, q0_3_74, q0_4_74, q0_5_74, q0_6_74, q0_7_74, q1_2_74, q1_3_74, q1_4_74, q1_5_74, q1_6_74, q1_7_74, q2_3_74, q2_4_74, q2_5_74, q2_6_74, q2_7_74, q3_4_74, q3_5_74, q3_6_74, q3_7_74, q4_5_74, q4_6_74, q4_7_74, q5_6_74, q5_7_74, q6_7_74, (i0_74.lift (t.lift _)), xt0_74⟩
  · intro l x W1 K hK; refine W_rg <| av (i64 x.1.1) rfl rfl <| wl_nil <| ?_; exact hK
  · rintro l ⟨⟨y73, z73⟩, hy73⟩ s73 sp73 w75 ⟨hE75, o0_75, n0_75, o1_75, n1_75, o2_75, n2_75, o3_75, n3_75, o4_75, n4_75, o5_75, n5_75, o6_75, n6_75, o7_75, n7_75, q0_1_75, q0_2_75, q0_3_75, q0_4_75, q0_5_75, q0_6_75, q0_7_75, q1_2_75, q1_3_75, q1_4_75, q1_5_75, q1_6_75, q1_7_75, q2_3_75, q2_4_75, q2_5_75, q2_6_75, q2_7_75, q3_4_75, q3_5_75, q3_6_75, q3_7_75, q4_5_75, q4_6_75, q4_7_75, q5_6_75, q5_7_75, q6_7_75, i0_75, xt0_75⟩ H73; have kf73 := KeepsFrom.refl w62.heap.size w75; refine W_block <| W_seq <| ?_; refine W_draw [0, 1, 3, 8, 9] [(0, 1), (1, 1), (2, 0), (3, 1), (4, 0), (5, 0), (6, 0), (7, 0), (8, 1), (9, 1), (10, 2), (11, 0)] mixed (by kernel_rfl) (by kernel_rfl) (by kernel_rfl) (by kernel_rfl) ?_; have x76 := Ext.drew w75; replace i0_75 := i0_75.lift (Lift.ext x76 _); replace o0_75 := o0_75.extL (Sc.stab _) x76 (Lift.ext x76 _); replace o1_75 := o1_75.extL (Sc.stab _) x76 (Lift.ext x76 _); replace o2_75 := o2_75.ext x76; replace o3_75 := o3_75.ext x76; replace o4_75 := o4_75.ext x76; replace o5_75 := o5_75.ext x76; replace o6_75 := o6_75.ext x76; replace o7_75 := o7_75.ext x76; have k77 := kf73.ext x76; have e78 := hE75.trans x76; refine sq rfl rfl (q_loadB (u := p0) rfl Try.isAgg26 (by exact s3_27) o2_75 rfl) <| sq rfl rfl (q_loadB (u := v28) rfl Try.isAgg22 rfl o5_75 rfl) <| sv (i64 y73) rfl rfl rfl <| sq rfl rfl (q_loadB (u := v8) rfl Try.isAgg22 (by exact s5_27) o3_75 rfl) <| sa rfl rfl (q_len rfl T22.sl rfl i0_75) <| sa rfl rfl (q_addI rfl rfl rfl) <| sa rfl rfl (q_subI rfl rfl rfl) <| ?_; obtain ⟨c79, hc79, H73⟩ := bsi H73; refine sa rfl rfl (q_adr rfl T22 rfl rfl (o0_75.rd (Sc.stab _)) hc79) <| sq rfl rfl (q_loadS rfl T22 rfl (o0_75.rd (Sc.stab _)) hc79) <| sq rfl rfl (q_loadB (u := (u8 x14)) rfl Try.isAgg5 (by exact s9_27) o4_75 rfl) <| ?_; obtain ⟨r80, hr80, H73⟩ := bsi H73; refine wsc rfl (by kernel_rfl) rfl rfl (stp_call (vs := [p0, (u8 c79), (u8 x14)]) Try.func47 rfl rfl rfl (ar3 rfl rfl rfl) (field_Mul_calls a0f c79 x14 p0 r80 _ (hp0.lift (Lift.ext e78 _)) hr80) ?_); rintro _ w80 ⟨rfl, x80⟩; refine ⟨_, rfl, ?_⟩; replace i0_75 := i0_75.lift (Lift.ext x80 _); replace o0_75 := o0_75.extL (Sc.stab _) x80 (Lift.ext x80 _); replace o1_75 := o1_75.extL (Sc.stab _) x80 (Lift.ext x80 _); replace o2_75 := o2_75.ext x80; replace o3_75 := o3_75.ext x80; replace o4_75 := o4_75.ext x80; replace o5_75 := o5_75.ext x80; replace o6_75 := o6_75.ext x80; replace o7_75 := o7_75.ext x80; have k81 := k77.ext x80; have e82 := e78.trans x80; refine sa rfl rfl (q_assign (v := (u8 r80)) rfl rfl) ?_; refine ws_nil ?_; refine W_th <| W_seq <| W_rg <| wq rfl (q_loadB (u := v43) rfl Try.isAgg22 rfl o6_75 rfl) <| mv (i64 y73) rfl rfl <| mv (u8 r80) rfl rfl <| ?_; obtain ⟨c83, hc83, H73⟩ := bsi H73
    refine wa rfl (q_adr rfl T22 rfl rfl (o1_75.rd (Sc.stab _)) hc83) ?_; refine wln rfl rfl (stp_store (R := (Sc u8)) (u := (u8 r80)) (Sc.stab _) [v28] [(bp g1), (bp g4), (bp g9_27), (bp g34), (bp g51), (bp g62)] rfl T22 rfl rfl o1_75 (put_of r80 hc83) rfl rfl ?_); intro w84 o84 g84 l84; have k85 := k81.own g84 o1_75.cl; replace i0_75 := i0_75.lift l84; replace o0_75 := o0_75.other (Sc.stab _) g84 q0_1_75 l84; replace o2_75 := o2_75.other g84 q1_2_75.symm; replace o3_75 := o3_75.other g84 q1_3_75.symm; replace o4_75 := o4_75.other g84 q1_4_75.symm; replace o5_75 := o5_75.other g84 q1_5_75.symm; replace o6_75 := o6_75.other g84 q1_6_75.symm; replace o7_75 := o7_75.other g84 q1_7_75.symm; have e86 := e82.grown g84 n1_75; refine wnt ?_; refine W_draw [0, 3, 4, 7, 12] [(0, 1), (1, 0), (2, 0), (3, 1), (4, 1), (5, 0), (6, 0), (7, 1), (8, 0), (9, 0), (10, 0), (11, 0), (12, 1), (13, 2), (14, 2)] mixed (by kernel_rfl) (by kernel_rfl) (by kernel_rfl) (by kernel_rfl) ?_; have x87 := Ext.drew w84; replace i0_75 := i0_75.lift (Lift.ext x87 _); replace o0_75 := o0_75.extL (Sc.stab _) x87 (Lift.ext x87 _); replace o84 := o84.extL (Sc.stab _) x87 (Lift.ext x87 _); replace o2_75 := o2_75.ext x87; replace o3_75 := o3_75.ext x87; replace o4_75 := o4_75.ext x87; replace o5_75 := o5_75.ext x87; replace o6_75 := o6_75.ext x87; replace o7_75 := o7_75.ext x87; have k88 := k85.ext x87; have e89 := e86.trans x87; refine sq rfl rfl (q_loadB (u := v28) rfl Try.isAgg22 rfl o5_75 rfl) <| sv (i64 y73) rfl rfl rfl <| ?_; obtain ⟨c90, hc90, H73⟩ := bsi H73; refine sa rfl rfl (q_slice (a := y73) (b := (s73.1.length : Int)) rfl T22 rfl (o0_75.rd (Sc.stab _)) rfl rfl hc90) <| sq rfl rfl (q_loadB (u := p0) rfl Try.isAgg26 (by exact s3_27) o2_75 rfl) <| sq rfl rfl (q_loadB (u := v28) rfl Try.isAgg22 rfl o5_75 rfl) <| sv (i64 y73) rfl rfl rfl <| sv (i64 y73) rfl rfl rfl <| sq rfl rfl (q_loadB (u := v8) rfl Try.isAgg22 (by exact s5_27) o3_75 rfl) <| sa rfl rfl (q_len rfl T22.sl rfl i0_75) <| sa rfl rfl (q_addI rfl rfl rfl) <| ?_; obtain ⟨c91, hc91, H73⟩ := bsi H73; refine sa rfl rfl (q_slice (a := y73) (b := (wI (y73 + (r8.length : Int)))) rfl T22 rfl (o0_75.rd (Sc.stab _)) rfl rfl hc91) <| sv (u8 r80) rfl rfl rfl <| sq rfl rfl (q_loadB (u := v8) rfl Try.isAgg22 (by exact s5_27) o3_75 rfl) <| ?_; obtain ⟨r92, hr92, H73⟩ := bsi H73; refine wss rfl rfl rfl (stp_call (vs := [p0, (subV v28 (y73 : Int).toNat ((wI (y73 + (r8.length : Int))) : Int).toNat), (u8 r80), v8]) Try.func34 rfl rfl rfl (ar4 rfl rfl rfl rfl) (field_Sum_calls a0f c91 r80 r8 p0 (subV v28 (y73 : Int).toNat ((wI (y73 + (r8.length : Int))) : Int).toNat) v8 r92 _ (hp0.lift (Lift.ext e89 _)) (SlK.cut (L := []) (o0_75.rd (Sc.stab _)) hc91) (i0_75.lift (Lift.sub (L' := []) (fun _ _ => trivial))) hr92) ?_)
    rintro _ w92 ⟨v92, rfl, x92, n92_0, o92_0⟩; refine ⟨_, rfl, x92, ?_⟩; have i92_0 : By w92 [v28, v43, (bp g1), (bp g4), (bp g9_27), (bp g34), (bp g51), (bp g62)] v92 r92 := OwK.slk (Sc.stab _) _ (OwK.scal o92_0 (v92 :: [v28, v43, (bp g1), (bp g4), (bp g9_27), (bp g34), (bp g51), (bp g62)])) (fun k hk => (Old.cons (Old.cons (Old.cons (Old.cons (Old.cons (Old.cons (Old.cons (Old.cons (Old.nil _) o7_75.ltB) o6_75.ltB) o5_75.ltB) o4_75.ltB) o3_75.ltB) o2_75.ltB) o84.lt) o0_75.lt) k (n92_0 k hk)) (fun _ h => h.2); replace i0_75 := i0_75.lift (Lift.ext x92 _); replace o0_75 := o0_75.extL (Sc.stab _) x92 (Lift.ext x92 _); replace o84 := o84.extL (Sc.stab _) x92 (Lift.ext x92 _); replace o2_75 := o2_75.ext x92; replace o3_75 := o3_75.ext x92; replace o4_75 := o4_75.ext x92; replace o5_75 := o5_75.ext x92; replace o6_75 := o6_75.ext x92; replace o7_75 := o7_75.ext x92; have k93 := k88.ext x92; have e94 := e89.trans x92; refine wsc rfl (by kernel_rfl) rfl rfl (stp_copy (R := (Sc u8)) (off := y73) (dv := (subV v28 (y73 : Int).toNat ((s73.1.length : Int) : Int).toNat)) (u := v92) (Sc.stab _) [] [v43, (bp g1), (bp g4), (bp g9_27), (bp g34), (bp g51), (bp g62)] rfl T22 rfl rfl o0_75 rfl (subL_some.1 hc90).1.1 (subL_lo hc90) i92_0 (fun _ _ h => h) oc_u8 ?_); intro w95 o95 g95 l95; have k96 := k93.own g95 o0_75.cl; replace i0_75 := i0_75.lift l95; replace i92_0 := i92_0.lift l95; replace o84 := o84.other (Sc.stab _) g95 q0_1_75.symm l95; replace o2_75 := o2_75.other g95 q0_2_75.symm; replace o3_75 := o3_75.other g95 q0_3_75.symm; replace o4_75 := o4_75.other g95 q0_4_75.symm; replace o5_75 := o5_75.other g95 q0_5_75.symm; replace o6_75 := o6_75.other g95 q0_6_75.symm; replace o7_75 := o7_75.other g95 q0_7_75.symm; have e97 := e94.grown g95 n0_75; refine ws_nil ?_; refine bk_n ?_; obtain rfl := osi H73; exact ⟨k96, ⟨o7_75, _, (by simpa using xt0_75), (o84.rd (Sc.stab _))⟩, e97, o95, n0_75, o84, n1_75, o2_75, n2_75, o3_75, n3_75, o4_75, n4_75, o5_75, n5_75, o6_75, n6_75, o7_75, n7_75, q0_1_75, q0_2_75, q0_3_75, q0_4_75, q0_5_75, q0_6_75, q0_7_75, q1_2_75, q1_3_75, q1_4_75, q1_5_75, q1_6_75, q1_7_75, q2_3_75, q2_4_75, q2_5_75, q2_6_75, q2_7_75, q3_4_75, q3_5_75, q3_6_75, q3_7_75, q4_5_75, q4_6_75, q4_7_75, q5_6_75, q5_7_75, q6_7_75, i0_75, (by simpa using xt0_75)⟩
  intro D73 w98 hD73 ⟨hE98, o0_98, n0_98, o1_98, n1_98, o2_98, n2_98, o3_98, n3_98, o4_98, n4_98, o5_98, n5_98, o6_98, n6_98, o7_98, n7_98, q0_1_98, q0_2_98, q0_3_98, q0_4_98, q0_5_98, q0_6_98, q0_7_98, q1_2_98, q1_3_98, q1_4_98, q1_5_98, q1_6_98, q1_7_98, q2_3_98, q2_4_98, q2_5_98, q2_6_98, q2_7_98, q3_4_98, q3_5_98, q3_6_98, q3_7_98, q4_5_98, q4_6_98, q4_7_98, q5_6_98, q5_7_98, q6_7_98, i0_98, xt0_98⟩ hK73; have hd73 := Nat.le_trans e71.size hD73; have kd73 := KeepsFrom.refl 0 w98; refine bk_n <| W_th <| W_seq <| ?_; refine W_draw [0, 2] [(0, 1), (2, 1), (1, 2), (3, 2), (4, 0), (5, 0), (6, 0)] mixed (by kernel_rfl) (by kernel_rfl) (by kernel_rfl) (by kernel_rfl) ?_; have x99 := Ext.drew w98; replace i0_98 := i0_98.lift (Lift.ext x99 _); replace o0_98 := o0_98.extL (Sc.stab _) x99 (Lift.ext x99 _); replace o1_98 := o1_98.extL (Sc.stab _) x99 (Lift.ext x99 _); replace o2_98 := o2_98.ext x99; replace o3_98 := o3_98.ext x99; replace o4_98 := o4_98.ext x99; replace o5_98 := o5_98.ext x99; replace o6_98 := o6_98.ext x99; replace o7_98 := o7_98.ext x99; have k100 := kd73.ext x99; have e101 := hE98.trans x99; refine sq rfl rfl (q_loadB (u := v43) rfl Try.isAgg22 rfl o6_98 rfl) <| sq rfl rfl (q_loadB (u := v28) rfl Try.isAgg22 rfl o5_98 rfl) <| ?_; obtain ⟨r102, hr102, H⟩ := bsi H; refine wss rfl rfl rfl (stp_call (vs := [v43]) Try.func78 rfl rfl rfl (ar1 rfl) (poly_Trim_calls x73.2 v43 r102 _ (o1_98.rd (Sc.stab _)) hr102) ?_); rintro _ w102 ⟨v102, rfl, x102, n102_0, o102_0⟩; refine ⟨_, rfl, x102, ?_⟩; have o102 : OwK (Sc u8) w102 (v102 :: [v28, v43, (bp g1), (bp g4), (bp g9_27), (bp g34), (bp g51), (bp g62)]) 5 v102 r102 := OwK.scal o102_0 _; have q103 : Nq v28 v102 := o0_98.nq n102_0; have q104 : Nq v43 v102 := o1_98.nq n102_0; have q105 : Nq (bp g1) v102 := o2_98.nq n102_0; have q106 : Nq (bp g4) v102 := o3_98.nq n102_0; have q107 : Nq (bp g9_27) v102 := o4_98.nq n102_0; have q108 : Nq (bp g34) v102 := o5_98.nq n102_0; have q109 : Nq (bp g51) v102 := o6_98.nq n102_0; have q110 : Nq (bp g62) v102 := o7_98.nq n102_0; replace i0_98 := i0_98.lift (Lift.call _ x102 n102_0); replace o0_98 := o0_98.extL (Sc.stab _) x102 (Lift.call _ x102 n102_0); replace o1_98 := o1_98.extL (Sc.stab _) x102 (Lift.call _ x102 n102_0); replace o2_98 := o2_98.ext x102; replace o3_98 := o3_98.ext x102; replace o4_98 := o4_98.ext x102; replace o5_98 := o5_98.ext x102; replace o6_98 := o6_98.ext x102; replace o7_98 := o7_98.ext x102; have k111 := k100.ext x102; have n113 := Nw.ext e101 n102_0; have e112 := e101.trans x102; obtain ⟨r114, hr114, H⟩ := bsi H; refine wsc rfl (by kernel_rfl) rfl rfl (stp_call (vs := [v28]) Try.func78 rfl rfl rfl (ar1 rfl) (poly_Trim_calls x73.1 v28 r114 _ (o0_98.rd (Sc.stab _)) hr114) ?_); rintro _ w114 ⟨v114, rfl, x114, n114_0, o114_0⟩; refine ⟨_, rfl, ?_⟩; have o114 : OwK (Sc u8) w114 (v114 :: [v102, v28, v43, (bp g1), (bp g4), (bp g9_27), (bp g34), (bp g51), (bp g62)]) 5 v114 r114 := OwK.scal o114_0 _
  have q115 : Nq v102 v114 := o102.nq n114_0; have q116 : Nq v28 v114 := o0_98.nq n114_0; have q117 : Nq v43 v114 := o1_98.nq n114_0; have q118 : Nq (bp g1) v114 := o2_98.nq n114_0; have q119 : Nq (bp g4) v114 := o3_98.nq n114_0; have q120 : Nq (bp g9_27) v114 := o4_98.nq n114_0; have q121 : Nq (bp g34) v114 := o5_98.nq n114_0; have q122 : Nq (bp g51) v114 := o6_98.nq n114_0; have q123 : Nq (bp g62) v114 := o7_98.nq n114_0; replace i0_98 := i0_98.lift (Lift.call _ x114 n114_0); replace o102 := o102.extL (Sc.stab _) x114 (Lift.call _ x114 n114_0); replace o0_98 := o0_98.extL (Sc.stab _) x114 (Lift.call _ x114 n114_0); replace o1_98 := o1_98.extL (Sc.stab _) x114 (Lift.call _ x114 n114_0); replace o2_98 := o2_98.ext x114; replace o3_98 := o3_98.ext x114; replace o4_98 := o4_98.ext x114; replace o5_98 := o5_98.ext x114; replace o6_98 := o6_98.ext x114; replace o7_98 := o7_98.ext x114; have k124 := k111.ext x114; have n126 := Nw.ext e112 n114_0; have e125 := e112.trans x114; refine sa rfl rfl (q_assign (v := v102) rfl rfl) <| sa rfl rfl (q_assign (v := v114) rfl rfl) <| sa rfl rfl (q_assign (v := (i64 0)) rfl rfl) <| ?_; refine ws_nil ?_; refine W_th <| W_ret <| ?_; obtain rfl := osi H; have hk127 := k124.same D73 _ (Nat.zero_le _) hK73 rfl; have t127 := Tn.put hk127 hd73 (.deferred none); refine rtm3 v102 v114 (i64 0) rfl rfl rfl rfl rfl rfl rfl rfl hk127 ?_; exact ⟨v102, v114, rfl, (e125.tn t127 (Nat.le_refl _)), n113, ((o102.tn (Sc.stab _) t127).weak (Sc.stab _) (fun _ _ => trivial)), n126, ((o114.tn (Sc.stab _) t127).weak (Sc.stab _) (fun _ _ => trivial))⟩
noncomputable def poly_check (a0f : Bool) (a1xs : List UInt8) : Option Int :=
((iterC (fun s4 : (List (UInt8 × Bool)) × Int =>
(if s4.2 < (a1xs.length : Int) then
((idx a1xs s4.2).bind fun c7 => some (.inl ((mput s4.1 c7 true), (wI (s4.2 + 1)))))
else some (.inr s4.1))) (([] : List (UInt8 × Bool)), 0)).bind fun x4 =>
(if (!a0f) = true then some 1
else
(if (a1xs.length : Int) = 0 then some 5
else
(if 255 < (a1xs.length : Int) then some 4
else
(if (x4.length : Int) = (a1xs.length : Int) then some 0
else some 6)))))
theorem poly_check_calls (a0f : Bool) (a1xs : List UInt8) (p0 : Value) (p1 : Value) (r : Int) (w0 : World) (hp0 : Fd w0 [] p0 a0f) (hp1 : By w0 [] p1 a1xs) (H : poly_check a0f a1xs = some r) :
    Calls Try.prog 51 [p0, p1].toArray w0 (fun e w' => e = .returned (i64 r) ∧ Ext w0 w') := by
  have hE : Ext w0 w0 := Ext.refl w0; unfold poly_check at H; refine calls_W (n := 35) Try.func51 rfl rfl rfl ?_; refine W_seq <| W_rg <| av (i64 0) rfl rfl <| wnt <| W_seq <| W_rg <| ?_; refine wls rfl rfl (stp_makeMap [] rfl ?_); intro g1 w1 o1 n1 g1r l1; have x1 := grown_ext g1r; have n3 := Nw.ext hE n1; have e2 := hE.trans x1; refine av (mp g1) rfl rfl <| wnt <| W_seq <| W_seq <| W_rg <| mv p1 rfl rfl <| wa rfl (q_len rfl T22.sl rfl (hp1.lift (Lift.ext e2 _))) <| mv (i64 0) rfl rfl <| ?_; refine wnt ?_; obtain ⟨x4, G4, H⟩ := bsi H; refine W_mid (fun f w => f 0 = p0 ∧ f 1 = p1 ∧ f 5 = (mp g1) ∧ f 35 = undef ∧ Ext w0 w ∧ Mp w g1 x4 ∧ Nw w0 (mp g1)) ?_ ?_
  · refine W_block ?_; refine W_loop (fun s4 f w => f 0 = p0 ∧ f 1 = p1 ∧ f 5 = (mp g1) ∧ f 9 = p1 ∧ f 10 = (i64 ((a1xs.length : Int))) ∧ f 11 = (i64 s4.2) ∧ f 35 = undef ∧ Ext w0 w ∧ Mp w g1 s4.1 ∧ Nw w0 (mp g1)) G4 ?_ ?_
    · exact ⟨rfl, rfl, rfl, rfl, rfl, rfl, rfl, e2, o1, n3⟩
    rintro s4 _ _ w5 ⟨s0_5, s1_5, s5_5, s9_5, s10_5, s11_5, s35_5, hE5, o0_5, n0_5⟩ H4 hr4; refine W_seq <| W_rg <| wa rfl (q_ltI rfl s11_5 s10_5) <| wnt <| W_seq <| ?_; refine W_cond _ rfl rfl (fun hb6 => ?_) (fun hb6 => ?_)
    · replace H4 := ifp hb6 H4; refine W_skip <| W_th <| W_seq <| W_block <| W_seq <| W_rg <| ?_; obtain ⟨c7, hc7, H4⟩ := bsi H4; refine wa rfl (q_adr rfl T22 s9_5 s11_5 (hp1.lift (Lift.ext hE5 _)) hc7) <| wq rfl (q_loadS rfl T22 rfl (hp1.lift (Lift.ext hE5 _)) hc7) <| av (u8 c7) rfl rfl <| wnt <| W_rg <| mv (mp g1) rfl s5_5 <| mv (u8 c7) rfl rfl <| ?_; refine wln rfl rfl (stp_mapUpdate [] [] (.inl rfl) Try.underlying105 Try.underlying5 rfl rfl rfl o0_5 ?_); intro w8 o8 g8 l8; have e9 := hE5.grown g8 n0_5; refine wl_nil <| bk_n <| W_th <| W_rg <| wa rfl (q_addI rfl s11_5 rfl) <| mv (i64 ((wI (s4.2 + 1)))) rfl rfl <| wl_nil <| ?_; obtain rfl := osi H4; exact ⟨_, rfl, s0_5, s1_5, s5_5, s9_5, s10_5, rfl, s35_5, e9, o8, n0_5⟩
    replace H4 := ifn hb6 H4; refine W_exit <| th_x <| ?_; obtain rfl := osi H4; obtain rfl := hr4 _ rfl; refine th_x <| bk_x <| ?_; exact ⟨s0_5, s1_5, s5_5, s35_5, hE5, o0_5, n0_5⟩
  rintro _ w11 ⟨s0_11, s1_11, s5_11, s35_11, hE11, o0_11, n0_11⟩; refine W_th <| W_seq <| W_block <| W_seq <| W_rg <| mv p0 rfl s0_11 <| wa rfl (q_eqF rfl rfl rfl rfl (hp0.lift (Lift.ext hE11 _))) <| av (.bool ((!a0f))) rfl rfl <| ?_; refine wnt ?_; refine W_cond _ rfl rfl (fun hb12 => ?_) (fun hb12 => ?_)
  · replace H := (if_pos hb12).symm.trans H; refine W_seq <| W_rg <| av (i64 1) rfl rfl <| wnt <| W_ret <| bk_r <| th_r <| ?_; obtain rfl := osi H; refine rt1 (i64 1) rfl rfl rfl s35_11 ?_; exact ⟨rfl, hE11⟩
  replace H := (if_neg (ne_true_of_eq_false hb12)).symm.trans H; refine W_seq <| W_rg <| mv p1 rfl s1_11 <| wa rfl (q_len rfl T22.sl rfl (hp1.lift (Lift.ext hE11 _))) <| wa rfl (q_eqI rfl rfl rfl) <| av (.bool ((decide ((a1xs.length : Int) = 0)))) rfl rfl <| wnt <| ?_; refine W_cond _ rfl rfl (fun hb13 => ?_) (fun hb13 => ?_)
  · replace H := ifp hb13 H; refine W_seq <| W_rg <| av (i64 5) rfl rfl <| wnt <| W_ret <| bk_r <| th_r <| ?_; obtain rfl := osi H; refine rt1 (i64 5) rfl rfl rfl s35_11 ?_; exact ⟨rfl, hE11⟩
  replace H := ifn hb13 H; refine W_seq <| W_rg <| mv p1 rfl s1_11 <| wa rfl (q_len rfl T22.sl rfl (hp1.lift (Lift.ext hE11 _))) <| wa rfl (q_gtI rfl rfl rfl) <| av (.bool ((decide (255 < (a1xs.length : Int))))) rfl rfl <| wnt <| ?_; refine W_cond _ rfl rfl (fun hb14 => ?_) (fun hb14 => ?_)
  · replace H := ifp hb14 H; refine W_seq <| W_rg <| av (i64 4) rfl rfl <| wnt <| W_ret <| bk_r <| th_r <| ?_; obtain rfl := osi H; refine rt1 (i64 4) rfl rfl rfl s35_11 ?_; exact ⟨rfl, hE11⟩
  replace H := ifn hb14 H; refine W_seq <| W_rg <| mv (mp g1) rfl s5_11 <| wq rfl (q_lenMap rfl Try.underlying105 rfl o0_11) <| mv p1 rfl s1_11 <| wa rfl (q_len rfl T22.sl rfl (hp1.lift (Lift.ext hE11 _))) <| wa rfl (q_neI rfl rfl rfl) <| av (.bool ((!decide ((x4.length : Int) = (a1xs.length : Int))))) rfl rfl <| ?_; refine wnt ?_; refine W_cond _ rfl rfl (fun hb15 => ?_) (fun hb15 => ?_)
  · replace H := (if_neg (ndec_t hb15)).symm.trans H; refine W_seq <| W_rg <| av (i64 6) rfl rfl <| wnt <| W_ret <| bk_r <| th_r <| ?_; obtain rfl := osi H; refine rt1 (i64 6) rfl rfl rfl s35_11 ?_; exact ⟨rfl, hE11⟩
  replace H := (if_pos (ndec_f hb15)).symm.trans H; refine W_skip <| bk_n <| W_th <| W_seq <| W_rg <| av (i64 0) rfl rfl <| wnt <| W_ret <| ?_; obtain rfl := osi H; refine rt1 (i64 0) rfl rfl rfl s35_11 ?_; exact ⟨rfl, hE11⟩
noncomputable def poly_Weights (a0f : Bool) (a1xs : List UInt8) (a2x : UInt8) : Option (List UInt8 × Int) :=
((poly_check a0f a1xs).bind fun r1 =>
(if r1 = 0 then
((makeL ((a1xs.length : Int)) (0 : UInt8)).bind fun c4 =>
((iterC (fun s7 : List UInt8 × Int =>
(if s7.2 < (a1xs.length : Int) then
((idx a1xs s7.2).bind fun c10 =>
((iterC (fun s11 : UInt8 × UInt8 × Int =>
(if s11.2.2 < (a1xs.length : Int) then
((idx a1xs s11.2.2).bind fun c14 =>
(if s11.2.2 = s7.2 then some (.inl (s11.1, s11.2.1, (wI (s11.2.2 + 1))))
else
((field_Add a2x c14).bind fun r16 =>
((field_Mul a0f s11.1 r16).bind fun r18 =>
((field_Add c10 c14).bind fun r20 =>
((field_Mul a0f s11.2.1 r20).bind fun r22 => some (.inl (r18, r22, (wI (s11.2.2 + 1))))))))))
else some (.inr (s11.1, s11.2.1)))) ((1 : UInt8), (1 : UInt8), 0)).bind fun x11 =>
((field_Div a0f x11.1 x11.2).bind fun r26 =>
((idx s7.1 s7.2).bind fun c28 => some (.inl ((s7.1.set (s7.2 : Int).toNat r26.1), (wI (s7.2 + 1))))))))
else some (.inr s7.1))) (c4, 0)).bind fun x7 => some (x7, 0)))
else some (([] : List UInt8), r1)))
theorem poly_Weights_calls (a0f : Bool) (a1xs : List UInt8) (a2x : UInt8) (p0 : Value) (p1 : Value) (r : List UInt8 × Int) (w0 : World) (hp0 : Fd w0 [] p0 a0f) (hp1 : By w0 [] p1 a1xs) (H : poly_Weights a0f a1xs a2x = some r) :
    Calls Try.prog 33 [p0, p1, (u8 a2x)].toArray w0 (fun e w' => ∃ u0 : Value, e = .returned (.tuple #[u0, (i64 r.2)]) ∧ Ext w0 w' ∧ Nw w0 u0 ∧ OwK (Sc u8) w' [] 5 u0 r.1) := by
  have hE : Ext w0 w0 := Ext.refl w0; unfold poly_Weights at H; refine calls_W (n := 67) Try.func33 rfl rfl rfl ?_; refine W_seq <| W_rg <| av (.slice none 0 0) rfl rfl <| av (i64 0) rfl rfl <| wnt <| W_seq <| W_seq <| W_rg <| ?_; refine mv p0 rfl rfl <| mv p1 rfl rfl <| ?_; obtain ⟨r1, hr1, H⟩ := bsi H; refine wls rfl rfl (stp_call (vs := [p0, p1]) Try.func51 rfl rfl rfl (ar2 rfl rfl) (poly_check_calls a0f a1xs p0 p1 r1 _ (hp0.lift (Lift.ext hE _)) (hp1.lift (Lift.ext hE _)) hr1) ?_); rintro _ w1 ⟨rfl, x1⟩; refine ⟨_, rfl, ?_⟩; have e2 := hE.trans x1; refine av (i64 r1) rfl rfl <| wnt <| W_seq <| W_rg <| mv (i64 r1) rfl rfl <| wa rfl (q_neI rfl rfl rfl) <| wnt <| ?_; refine W_cond _ rfl rfl (fun hb3 => ?_) (fun hb3 => ?_)
  · replace H := (if_neg (ndec_t hb3)).symm.trans H; refine W_seq <| W_rg <| mv (i64 r1) rfl rfl <| av (.slice none 0 0) rfl rfl <| av (i64 r1) rfl rfl <| wnt <| W_ret <| th_r <| ?_; obtain rfl := osi H; refine rt2 (.slice none 0 0) (i64 r1) rfl rfl rfl rfl rfl rfl ?_; exact ⟨(.slice none 0 0), rfl, e2, Nw.nil _, (OwK.nil _ _ _ _)⟩
  replace H := (if_pos (ndec_f hb3)).symm.trans H; refine W_skip <| W_th <| W_seq <| W_rg <| mv p1 rfl rfl <| wa rfl (q_len rfl T22.sl rfl (hp1.lift (Lift.ext e2 _))) <| ?_; obtain ⟨c4, hc4, H⟩ := bsi H; refine wls rfl rfl (stp_make (L := []) (R := (Sc u8)) rfl T22 rfl rfl hc4 (fun _ _ => rfl) ?_); intro v4 w4 o4 n4 g4 l4; have x4 := grown_ext g4; have n6 := Nw.ext e2 n4; have e5 := e2.trans x4; refine av v4 rfl rfl <| wnt <| W_seq <| W_seq <| W_rg <| mv p1 rfl rfl <| wa rfl (q_len rfl T22.sl rfl (hp1.lift (Lift.ext e5 _))) <| mv (i64 0) rfl rfl <| ?_; refine wnt ?_; obtain ⟨x7, G7, H⟩ := bsi H; refine W_mid (fun f w => f 9 = v4 ∧ f 67 = undef ∧ Ext w0 w ∧ OwK (Sc u8) w [v4] 5 v4 x7 ∧ Nw w0 v4) ?_ ?_
  · refine W_block ?_; refine W_loop (fun s7 f w => f 0 = p0 ∧ f 1 = p1 ∧ f 2 = (u8 a2x) ∧ f 9 = v4 ∧ f 25 = p1 ∧ f 26 = (i64 ((a1xs.length : Int))) ∧ f 27 = (i64 s7.2) ∧ f 67 = undef ∧ Ext w0 w ∧ OwK (Sc u8) w [v4] 5 v4 s7.1 ∧ Nw w0 v4) G7 ?_ ?_
    · exact ⟨rfl, rfl, rfl, rfl, rfl, rfl, rfl, rfl, e5, o4, n6⟩
    rintro s7 _ _ w8 ⟨s0_8, s1_8, s2_8, s9_8, s25_8, s26_8, s27_8, s67_8, hE8, o0_8, n0_8⟩ H7 hr7; refine W_seq <| W_rg <| wa rfl (q_ltI rfl s27_8 s26_8) <| wnt <| W_seq <| ?_; refine W_cond _ rfl rfl (fun hb9 => ?_) (fun hb9 => ?_)
    · replace H7 := ifp hb9 H7; refine W_skip <| W_th <| W_seq <| W_block <| W_seq <| W_rg <| mv (i64 s7.2) rfl s27_8 <| ?_; obtain ⟨c10, hc10, H7⟩ := bsi H7; refine wa rfl (q_adr rfl T22 s25_8 s27_8 (hp1.lift (Lift.ext hE8 _)) hc10) <| wq rfl (q_loadS rfl T22 rfl (hp1.lift (Lift.ext hE8 _)) hc10) <| av (i64 s7.2) rfl rfl <| av (u8 c10) rfl rfl <| wnt <| W_seq <| W_rg <| av (u8 1) rfl (cst8 (1 : UInt8) rfl) <| ?_; refine av (u8 1) rfl (cst8 (1 : UInt8) rfl) <| wnt <| W_seq <| W_seq <| W_rg <| mv p1 rfl s1_8 <| wa rfl (q_len rfl T22.sl rfl (hp1.lift (Lift.ext hE8 _))) <| mv (i64 0) rfl rfl <| ?_; refine wnt ?_; obtain ⟨x11, G11, H7⟩ := bsi H7; refine W_mid (fun f w => f 0 = p0 ∧ f 1 = p1 ∧ f 2 = (u8 a2x) ∧ f 9 = v4 ∧ f 10 = (i64 s7.2) ∧ f 12 = (u8 x11.1) ∧ f 13 = (u8 x11.2) ∧ f 25 = p1 ∧ f 26 = (i64 ((a1xs.length : Int))) ∧ f 27 = (i64 s7.2) ∧ f 67 = undef ∧ Ext w0 w ∧ OwK (Sc u8) w [v4] 5 v4 s7.1 ∧ Nw w0 v4) ?_ ?_
      · refine W_block ?_; refine W_loop (fun s11 f w => f 0 = p0 ∧ f 1 = p1 ∧ f 2 = (u8 a2x) ∧ f 9 = v4 ∧ f 10 = (i64 s7.2) ∧ f 11 = (u8 c10) ∧ f 12 = (u8 s11.1) ∧ f 13 = (u8 s11.2.1) ∧ f 25 = p1 ∧ f 26 = (i64 ((a1xs.length : Int))) ∧ f 27 = (i64 s7.2) ∧ f 32 = p1 ∧ f 33 = (i64 ((a1xs.length : Int))) ∧ f 34 = (i64 s11.2.2) ∧ f 67 = undef ∧ Ext w0 w ∧ OwK (Sc u8) w [v4] 5 v4 s7.1 ∧ Nw w0 v4) G11 ?_ ?_
        · exact ⟨s0_8, s1_8, s2_8, s9_8, rfl, rfl, rfl, rfl, s25_8, s26_8, s27_8, rfl, rfl, rfl, s67_8, hE8, o0_8, n0_8⟩
        rintro s11 _ _ w12 ⟨s0_12, s1_12, s2_12, s9_12, s10_12, s11_12, s12_12, s13_12, s25_12, s26_12, s27_12, s32_12, s33_12, s34_12, s67_12, hE12, o0_12, n0_12⟩ H11 hr11; refine W_seq <| W_rg <| wa rfl (q_ltI rfl s34_12 s33_12) <| wnt <| W_seq <| ?_; refine W_cond _ rfl rfl (fun hb13 => ?_) (fun hb13 => ?_)
        · replace H11 := ifp hb13 H11; refine W_skip <| W_th <| W_seq <| W_block <| W_seq <| W_rg <| mv (i64 s11.2.2) rfl s34_12 <| ?_; obtain ⟨c14, hc14, H11⟩ := bsi H11; refine wa rfl (q_adr rfl T22 s32_12 s34_12 (hp1.lift (Lift.ext hE12 _)) hc14) <| wq rfl (q_loadS rfl T22 rfl (hp1.lift (Lift.ext hE12 _)) hc14) <| av (i64 s11.2.2) rfl rfl <| av (u8 c14) rfl rfl <| wnt <| W_seq <| W_rg <| mv (i64 s11.2.2) rfl rfl <| ?_; refine mv (i64 s7.2) rfl s10_12 <| wa rfl (q_neI rfl rfl rfl) <| wnt <| ?_; refine W_cond _ rfl rfl (fun hb15 => ?_) (fun hb15 => ?_)
          · replace H11 := (if_neg (ndec_t hb15)).symm.trans H11; refine W_rg <| mv p0 rfl s0_12 <| mv (u8 s11.1) rfl s12_12 <| mv (u8 a2x) rfl s2_12 <| mv (u8 c14) rfl rfl <| ?_; obtain ⟨r16, hr16, H11⟩ := bsi H11; refine wls rfl rfl (stp_call (vs := [(u8 a2x), (u8 c14)]) Try.func46 rfl rfl rfl (ar2 rfl rfl) (field_Add_calls a2x c14  r16 _  hr16) ?_); rintro _ w16 ⟨rfl, x16⟩; refine ⟨_, rfl, ?_⟩; replace o0_12 := o0_12.extL (Sc.stab _) x16 (Lift.ext x16 _); have e17 := hE12.trans x16; obtain ⟨r18, hr18, H11⟩ := bsi H11; refine wls rfl rfl (stp_call (vs := [p0, (u8 s11.1), (u8 r16)]) Try.func47 rfl rfl rfl (ar3 rfl rfl rfl) (field_Mul_calls a0f s11.1 r16 p0 r18 _ (hp0.lift (Lift.ext e17 _)) hr18) ?_); rintro _ w18 ⟨rfl, x18⟩; refine ⟨_, rfl, ?_⟩; replace o0_12 := o0_12.extL (Sc.stab _) x18 (Lift.ext x18 _); have e19 := e17.trans x18; refine mv p0 rfl s0_12 <| mv (u8 s11.2.1) rfl s13_12 <| mv (u8 c10) rfl s11_12 <| mv (u8 c14) rfl rfl <| ?_; obtain ⟨r20, hr20, H11⟩ := bsi H11; refine wls rfl rfl (stp_call (vs := [(u8 c10), (u8 c14)]) Try.func46 rfl rfl rfl (ar2 rfl rfl) (field_Add_calls c10 c14  r20 _  hr20) ?_); rintro _ w20 ⟨rfl, x20⟩; refine ⟨_, rfl, ?_⟩; replace o0_12 := o0_12.extL (Sc.stab _) x20 (Lift.ext x20 _); have e21 := e19.trans x20; obtain ⟨r22, hr22, H11⟩ := bsi H11; refine wls rfl rfl (stp_call (vs := [p0, (u8 s11.2.1), (u8 r20)]) Try.func47 rfl rfl rfl (ar3 rfl rfl rfl) (field_Mul_calls a0f s11.2.1 r20 p0 r22 _ (hp0.lift (Lift.ext e21 _)) hr22) ?_); rintro _ w22 ⟨rfl, x22⟩; refine ⟨_, rfl, ?_⟩; replace o0_12 := o0_12.extL (Sc.stab _) x22 (Lift.ext x22 _); have e23 := e21.trans x22; refine av (u8 r18) rfl rfl <| av (u8 r22) rfl rfl <| wl_nil <| bk_n <| W_th <| W_rg <| wa rfl (q_addI rfl s34_12 rfl) <| mv (i64 ((wI (s11.2.2 + 1)))) rfl rfl <| ?_; refine wl_nil ?_; obtain rfl := osi H11; exact ⟨_, rfl, s0_12, s1_12, s2_12, s9_12, s10_12, s11_12, rfl, rfl, s25_12, s26_12, s27_12, s32_12, s33_12, rfl, s67_12, e23, o0_12, n0_12⟩
          replace H11 := (if_pos (ndec_f hb15)).symm.trans H11; refine W_skip <| bk_n <| W_th <| W_rg <| wa rfl (q_addI rfl s34_12 rfl) <| mv (i64 ((wI (s11.2.2 + 1)))) rfl rfl <| wl_nil <| ?_; obtain rfl := osi H11; exact ⟨_, rfl, s0_12, s1_12, s2_12, s9_12, s10_12, s11_12, s12_12, s13_12, s25_12, s26_12, s27_12, s32_12, s33_12, rfl, s67_12, hE12, o0_12, n0_12⟩
        replace H11 := ifn hb13 H11; refine W_exit <| th_x <| ?_; obtain rfl := osi H11; obtain rfl := hr11 _ rfl; refine th_x <| bk_x <| ?_; exact ⟨s0_12, s1_12, s2_12, s9_12, s10_12, s12_12, s13_12, s25_12, s26_12, s27_12, s67_12, hE12, o0_12, n0_12⟩
      rintro _ w25 ⟨s0_25, s1_25, s2_25, s9_25, s10_25, s12_25, s13_25, s25_25, s26_25, s27_25, s67_25, hE25, o0_25, n0_25⟩; refine W_th <| W_rg <| mv v4 rfl s9_25 <| mv (i64 s7.2) rfl s10_25 <| mv p0 rfl s0_25 <| mv (u8 x11.1) rfl s12_25 <| mv (u8 x11.2) rfl s13_25 <| ?_; obtain ⟨r26, hr26, H7⟩ := bsi H7; refine wls rfl rfl (stp_call (vs := [p0, (u8 x11.1), (u8 x11.2)]) Try.func52 rfl rfl rfl (ar3 rfl rfl rfl) (field_Div_calls a0f x11.1 x11.2 p0 r26 _ (hp0.lift (Lift.ext hE25 _)) hr26) ?_); rintro _ w26 ⟨rfl, x26⟩; refine ⟨_, rfl, ?_⟩; replace o0_25 := o0_25.extL (Sc.stab _) x26 (Lift.ext x26 _); have e27 := hE25.trans x26; refine mv (.tuple #[(u8 r26.1), (i64 r26.2)]) rfl rfl <| wa rfl (q_extract rfl rfl rfl) <| wa rfl (q_extract rfl rfl rfl) <| ?_; obtain ⟨c28, hc28, H7⟩ := bsi H7; refine wa rfl (q_adr rfl T22 rfl rfl (o0_25.rd (Sc.stab _)) hc28) ?_; refine wln rfl rfl (stp_store (R := (Sc u8)) (u := (u8 r26.1)) (Sc.stab _) [] [] rfl T22 rfl rfl o0_25 (put_of r26.1 hc28) rfl rfl ?_); intro w29 o29 g29 l29; have e30 := e27.grown g29 n0_25; refine wl_nil <| bk_n <| W_th <| W_rg <| wa rfl (q_addI rfl s27_25 rfl) <| mv (i64 ((wI (s7.2 + 1)))) rfl rfl <| wl_nil <| ?_; obtain rfl := osi H7; exact ⟨_, rfl, s0_25, s1_25, s2_25, s9_25, s25_25, s26_25, rfl, s67_25, e30, o29, n0_25⟩
    replace H7 := ifn hb9 H7; refine W_exit <| th_x <| ?_; obtain rfl := osi H7; obtain rfl := hr7 _ rfl; refine th_x <| bk_x <| ?_; exact ⟨s9_8, s67_8, hE8, o0_8, n0_8⟩
  rintro _ w33 ⟨s9_33, s67_33, hE33, o0_33, n0_33⟩; refine W_th <| W_seq <| W_rg <| mv v4 rfl s9_33 <| av v4 rfl rfl <| av (i64 0) rfl rfl <| wnt <| W_ret <| ?_; obtain rfl := osi H; refine rt2 v4 (i64 0) rfl rfl rfl rfl rfl s67_33 ?_; exact ⟨v4, rfl, hE33, n0_33, (o0_33.weak (Sc.stab _) (fun _ _ => trivial))⟩
noncomputable def poly_Through (a0f : Bool) (a1xs : List UInt8) (a2ys : List UInt8) : Option (List UInt8 × Int) :=
(if (a1xs.length : Int) = (a2ys.length : Int) then
((poly_check a0f a1xs).bind fun r9 =>
(if r9 = 0 then
((slices_Clone_sbytebyte a2ys).bind fun r12 =>
((iterC (fun s17 : List UInt8 × Int =>
(if s17.2 < (s17.1.length : Int) then
((iterC (fun s20 : List UInt8 × Int =>
(if s17.2 ≤ s20.2 then
((idx s20.1 s20.2).bind fun c25 =>
((idx s20.1 ((wI (s20.2 - 1)))).bind fun c26 =>
((idx a1xs s20.2).bind fun c27 =>
((idx a1xs ((wI (s20.2 - s17.2)))).bind fun c28 =>
((field_Add c25 c26).bind fun r29 =>
((field_Add c27 c28).bind fun r31 =>
((field_Div a0f r29 r31).bind fun r33 => some (.inl ((s20.1.set (s20.2 : Int).toNat r33.1), (wI (s20.2 - 1)))))))))))
else some (.inr s20.1))) (s17.1, (wI ((s17.1.length : Int) - 1)))).bind fun x20 => some (.inl (x20, (wI (s17.2 + 1)))))
else some (.inr s17.1))) (r12, 1)).bind fun x17 =>
((lim x17.length).bind fun lim55 =>
((rangeL (fun (s55 : List UInt8) (y55 : (Int × UInt8)) =>
((idx a1xs y55.1).bind fun c61 =>
((poly_Mul a0f s55 ([c61, (1 : UInt8)] : List UInt8)).bind fun r66 =>
((poly_Add r66.1 ([y55.2] : List UInt8)).bind fun r82 => some r82)))) (revI x17) ([] : List UInt8)).bind fun x55 => some (x55, 0)))))
else some (([] : List UInt8), r9)))
else some (([] : List UInt8), 1))
theorem poly_Through_calls (a0f : Bool) (a1xs : List UInt8) (a2ys : List UInt8) (p0 : Value) (p1 : Value) (p2 : Value) (r : List UInt8 × Int) (w0 : World) (hp0 : Fd w0 [] p0 a0f) (hp1 : By w0 [] p1 a1xs) (hp2 : By w0 [] p2 a2ys) (H : poly_Through a0f a1xs a2ys = some r) :
    Calls Try.prog 62 [p0, p1, p2].toArray w0 (fun e w' => ∃ u0 : Value, e = .returned (.tuple #[u0, (i64 r.2)]) ∧ Ext w0 w' ∧ Nw w0 u0 ∧ OwK (Sc u8) w' [] 5 u0 r.1) := by
  have hE : Ext w0 w0 := Ext.refl w0; unfold poly_Through at H; refine calls_W (n := 91) Try.func62 rfl rfl rfl ?_; refine W_seq <| W_rg <| ?_; refine wls rfl rfl (stp_boxL (v := p0) (cs := #[p0]) [] rfl rfl (cells_fd (hp0.lift (Lift.ext hE _))) ?_); intro g1 w1 o1 n1 g1r l1; have x1 := grown_ext g1r; have n3 := Nw.ext hE n1; have e2 := hE.trans x1; refine wls rfl rfl (stp_boxL (v := p1) (cs := #[p1]) [(bp g1)] rfl rfl (cells_sl _ _ (hp1.lift (Lift.ext e2 _))) ?_); intro g4 w4 o4 n4 g4r l4; have x4 := grown_ext g4r; have q5 : Nq (bp g1) (bp g4) := o1.nq n4; replace o1 := o1.ext x4; have n7 := Nw.ext e2 n4; have e6 := e2.trans x4; refine av (.slice none 0 0) rfl rfl <| av (i64 0) rfl rfl <| wnt <| W_seq <| W_seq <| W_rg <| wq rfl (q_loadB (u := p1) rfl Try.isAgg22 rfl o4 rfl) <| wa rfl (q_len rfl T22.sl rfl (hp1.lift (Lift.ext e6 _))) <| ?_; refine mv p2 rfl rfl <| wa rfl (q_len rfl T22.sl rfl (hp2.lift (Lift.ext e6 _))) <| wa rfl (q_neI rfl rfl rfl) <| wnt <| ?_; refine W_cond _ rfl rfl (fun hb8 => ?_) (fun hb8 => ?_)
  · replace H := (if_neg (ndec_t hb8)).symm.trans H; refine W_seq <| W_rg <| av (.slice none 0 0) rfl rfl <| av (i64 1) rfl rfl <| wnt <| W_ret <| th_r <| ?_; obtain rfl := osi H; refine rt2 (.slice none 0 0) (i64 1) rfl rfl rfl rfl rfl rfl ?_; exact ⟨(.slice none 0 0), rfl, e6, Nw.nil _, (OwK.nil _ _ _ _)⟩
  replace H := (if_pos (ndec_f hb8)).symm.trans H; refine W_skip <| W_th <| W_seq <| W_seq <| W_rg <| wq rfl (q_loadB (u := p0) rfl Try.isAgg26 rfl o1 rfl) <| wq rfl (q_loadB (u := p1) rfl Try.isAgg22 rfl o4 rfl) <| ?_; obtain ⟨r9, hr9, H⟩ := bsi H; refine wls rfl rfl (stp_call (vs := [p0, p1]) Try.func51 rfl rfl rfl (ar2 rfl rfl) (poly_check_calls a0f a1xs p0 p1 r9 _ (hp0.lift (Lift.ext e6 _)) (hp1.lift (Lift.ext e6 _)) hr9) ?_); rintro _ w9 ⟨rfl, x9⟩; refine ⟨_, rfl, ?_⟩; replace o4 := o4.ext x9; replace o1 := o1.ext x9; have e10 := e6.trans x9; refine av (i64 r9) rfl rfl <| wnt <| W_seq <| W_rg <| mv (i64 r9) rfl rfl <| wa rfl (q_neI rfl rfl rfl) <| wnt <| ?_; refine W_cond _ rfl rfl (fun hb11 => ?_) (fun hb11 => ?_)
  · replace H := (if_neg (ndec_t hb11)).symm.trans H; refine W_seq <| W_rg <| mv (i64 r9) rfl rfl <| av (.slice none 0 0) rfl rfl <| av (i64 r9) rfl rfl <| wnt <| W_ret <| th_r <| ?_; obtain rfl := osi H; refine rt2 (.slice none 0 0) (i64 r9) rfl rfl rfl rfl rfl rfl ?_; exact ⟨(.slice none 0 0), rfl, e10, Nw.nil _, (OwK.nil _ _ _ _)⟩
  replace H := (if_pos (ndec_f hb11)).symm.trans H; refine W_skip <| W_th <| W_seq <| W_rg <| mv p2 rfl rfl <| ?_; obtain ⟨r12, hr12, H⟩ := bsi H; refine wls rfl rfl (stp_call (vs := [p2]) Try.func25 rfl rfl rfl (ar1 rfl) (slices_Clone_sbytebyte_calls a2ys p2 r12 _ (hp2.lift (Lift.ext e10 _)) hr12) ?_); rintro _ w12 ⟨v12, rfl, x12, n12_0, o12_0⟩; refine ⟨_, rfl, ?_⟩; have o12 : OwK (Sc u8) w12 (v12 :: [(bp g4), (bp g1)]) 5 v12 r12 := OwK.scal o12_0 _; have q13 : Nq (bp g4) v12 := o4.nq n12_0; have q14 : Nq (bp g1) v12 := o1.nq n12_0; replace o4 := o4.ext x12; replace o1 := o1.ext x12; have n16 := Nw.ext e10 n12_0; have e15 := e10.trans x12; refine av v12 rfl rfl <| wnt <| W_seq <| W_seq <| W_rg <| av (i64 1) rfl rfl <| wnt <| ?_; obtain ⟨x17, G17, H⟩ := bsi H; refine W_mid (fun f w => f 3 = (bp g1) ∧ f 4 = (bp g4) ∧ f 9 = v12 ∧ f 91 = undef ∧ Ext w0 w ∧ OwK (Sc u8) w [v12, (bp g1), (bp g4)] 5 v12 x17 ∧ Nw w0 v12 ∧ Blk w g1 26 #[p0] ∧ Nw w0 (bp g1) ∧ Blk w g4 22 #[p1] ∧ Nw w0 (bp g4) ∧ Nq v12 (bp g1) ∧ Nq v12 (bp g4) ∧ Nq (bp g1) (bp g4)) ?_ ?_
  · refine W_block ?_; refine W_loop (fun s17 f w => f 3 = (bp g1) ∧ f 4 = (bp g4) ∧ f 9 = v12 ∧ f 10 = (i64 s17.2) ∧ f 91 = undef ∧ Ext w0 w ∧ OwK (Sc u8) w [v12, (bp g1), (bp g4)] 5 v12 s17.1 ∧ Nw w0 v12 ∧ Blk w g1 26 #[p0] ∧ Nw w0 (bp g1) ∧ Blk w g4 22 #[p1] ∧ Nw w0 (bp g4) ∧ Nq v12 (bp g1) ∧ Nq v12 (bp g4) ∧ Nq (bp g1) (bp g4)) G17 ?_ ?_
    · exact ⟨rfl, rfl, rfl, rfl, rfl, e15, (o12.weak (Sc.stab _) (fun _ h => ⟨h.1, h.2.2.1, h.2.1, trivial⟩)), n16, o1, n3, o4, n7, q14.symm, q13.symm, q5⟩
    rintro s17 _ _ w18 ⟨s3_18, s4_18, s9_18, s10_18, s91_18, hE18, o0_18, n0_18, o1_18, n1_18, o2_18, n2_18, q0_1_18, q0_2_18, q1_2_18⟩ H17 hr17; refine W_seq <| W_seq <| W_rg <| mv (i64 s17.2) rfl s10_18 <| mv v12 rfl s9_18 <| wa rfl (q_len rfl T22.sl rfl (o0_18.rd (Sc.stab _))) <| wa rfl (q_ltI rfl rfl rfl) <| wnt <| ?_; refine W_cond _ rfl rfl (fun hb19 => ?_) (fun hb19 => ?_)
    · replace H17 := ifp hb19 H17; refine W_skip <| W_th <| W_seq <| W_block <| W_seq <| W_rg <| mv v12 rfl s9_18 <| wa rfl (q_len rfl T22.sl rfl (o0_18.rd (Sc.stab _))) <| ?_; refine wa rfl (q_subI rfl rfl rfl) <| av (i64 ((wI ((s17.1.length : Int) - 1)))) rfl rfl <| wnt <| ?_; obtain ⟨x20, G20, H17⟩ := bsi H17; refine W_mid (fun f w => f 3 = (bp g1) ∧ f 4 = (bp g4) ∧ f 9 = v12 ∧ f 10 = (i64 s17.2) ∧ f 91 = undef ∧ Ext w0 w ∧ OwK (Sc u8) w [v12, (bp g1), (bp g4)] 5 v12 x20 ∧ Nw w0 v12 ∧ Blk w g1 26 #[p0] ∧ Nw w0 (bp g1) ∧ Blk w g4 22 #[p1] ∧ Nw w0 (bp g4) ∧ Nq v12 (bp g1) ∧ Nq v12 (bp g4) ∧ Nq (bp g1) (bp g4)) ?_ ?_
      · refine W_block ?_; refine W_loop (fun s20 f w => f 3 = (bp g1) ∧ f 4 = (bp g4) ∧ f 9 = v12 ∧ f 10 = (i64 s17.2) ∧ f 11 = (i64 s20.2) ∧ f 91 = undef ∧ Ext w0 w ∧ OwK (Sc u8) w [v12, (bp g1), (bp g4)] 5 v12 s20.1 ∧ Nw w0 v12 ∧ Blk w g1 26 #[p0] ∧ Nw w0 (bp g1) ∧ Blk w g4 22 #[p1] ∧ Nw w0 (bp g4) ∧ Nq v12 (bp g1) ∧ Nq v12 (bp g4) ∧ Nq (bp g1) (bp g4)) G20 ?_ ?_
        · exact ⟨s3_18, s4_18, s9_18, s10_18, rfl, s91_18, hE18, o0_18, n0_18, o1_18, n1_18, o2_18, n2_18, q0_1_18, q0_2_18, q1_2_18⟩
        rintro s20 _ _ w21 ⟨s3_21, s4_21, s9_21, s10_21, s11_21, s91_21, hE21, o0_21, n0_21, o1_21, n1_21, o2_21, n2_21, q0_1_21, q0_2_21, q1_2_21⟩ H20 hr20; refine W_seq <| W_seq <| W_rg <| mv (i64 s20.2) rfl s11_21 <| mv (i64 s17.2) rfl s10_21 <| wa rfl (q_geI rfl rfl rfl) <| wnt <| ?_; refine W_cond _ rfl rfl (fun hb22 => ?_) (fun hb22 => ?_)
        · replace H20 := ifp hb22 H20; refine W_skip <| W_th <| W_seq <| W_block <| ?_; refine W_draw [2, 6, 11, 13, 16, 17, 22] [(0, 0), (1, 0), (2, 1), (3, 0), (4, 0), (5, 0), (6, 1), (7, 0), (8, 0), (9, 0), (10, 0), (11, 1), (13, 1), (14, 0), (15, 0), (16, 1), (17, 1), (18, 0), (19, 0), (20, 0), (21, 0), (22, 1), (12, 2), (23, 2), (24, 2), (25, 0), (26, 0), (27, 0), (28, 0), (29, 2)] mixed (by kernel_rfl) (by kernel_rfl) (by kernel_rfl) (by kernel_rfl) ?_; have x23 := Ext.drew w21; replace o0_21 := o0_21.extL (Sc.stab _) x23 (Lift.ext x23 _); replace o1_21 := o1_21.ext x23; replace o2_21 := o2_21.ext x23; have e24 := hE21.trans x23; refine sv v12 rfl rfl s9_21 <| sv (i64 s20.2) rfl rfl s11_21 <| sq rfl rfl (q_loadB (u := p0) rfl Try.isAgg26 (by exact s3_21) o1_21 rfl) <| sv v12 rfl rfl s9_21 <| sv (i64 s20.2) rfl rfl s11_21 <| ?_; obtain ⟨c25, hc25, H20⟩ := bsi H20; refine sa rfl rfl (q_adr rfl T22 rfl rfl (o0_21.rd (Sc.stab _)) hc25) <| sq rfl rfl (q_loadS rfl T22 rfl (o0_21.rd (Sc.stab _)) hc25) <| sv v12 rfl rfl s9_21 <| sv (i64 s20.2) rfl rfl s11_21 <| sa rfl rfl (q_subI rfl rfl rfl) <| ?_; obtain ⟨c26, hc26, H20⟩ := bsi H20; refine sa rfl rfl (q_adr rfl T22 rfl rfl (o0_21.rd (Sc.stab _)) hc26) <| sq rfl rfl (q_loadS rfl T22 rfl (o0_21.rd (Sc.stab _)) hc26) <| sq rfl rfl (q_loadB (u := p1) rfl Try.isAgg22 (by exact s4_21) o2_21 rfl) <| sv (i64 s20.2) rfl rfl s11_21 <| ?_; obtain ⟨c27, hc27, H20⟩ := bsi H20; refine sa rfl rfl (q_adr rfl T22 rfl rfl (hp1.lift (Lift.ext e24 _)) hc27) <| sq rfl rfl (q_loadS rfl T22 rfl (hp1.lift (Lift.ext e24 _)) hc27) <| sq rfl rfl (q_loadB (u := p1) rfl Try.isAgg22 (by exact s4_21) o2_21 rfl) <| sv (i64 s20.2) rfl rfl s11_21 <| sv (i64 s17.2) rfl rfl s10_21 <| sa rfl rfl (q_subI rfl rfl rfl) <| ?_; obtain ⟨c28, hc28, H20⟩ := bsi H20; refine sa rfl rfl (q_adr rfl T22 rfl rfl (hp1.lift (Lift.ext e24 _)) hc28) <| sq rfl rfl (q_loadS rfl T22 rfl (hp1.lift (Lift.ext e24 _)) hc28) <| ?_; obtain ⟨r29, hr29, H20⟩ := bsi H20; refine wss rfl rfl rfl (stp_call (vs := [(u8 c25), (u8 c26)]) Try.func46 rfl rfl rfl (ar2 rfl rfl) (field_Add_calls c25 c26  r29 _  hr29) ?_); rintro _ w29 ⟨rfl, x29⟩; refine ⟨_, rfl, x29, ?_⟩; replace o0_21 := o0_21.extL (Sc.stab _) x29 (Lift.ext x29 _); replace o1_21 := o1_21.ext x29; replace o2_21 := o2_21.ext x29; have e30 := e24.trans x29; obtain ⟨r31, hr31, H20⟩ := bsi H20; refine wss rfl rfl rfl (stp_call (vs := [(u8 c27), (u8 c28)]) Try.func46 rfl rfl rfl (ar2 rfl rfl) (field_Add_calls c27 c28  r31 _  hr31) ?_)
          rintro _ w31 ⟨rfl, x31⟩; refine ⟨_, rfl, x31, ?_⟩; replace o0_21 := o0_21.extL (Sc.stab _) x31 (Lift.ext x31 _); replace o1_21 := o1_21.ext x31; replace o2_21 := o2_21.ext x31; have e32 := e30.trans x31; obtain ⟨r33, hr33, H20⟩ := bsi H20; refine wsc rfl (by kernel_rfl) rfl rfl (stp_call (vs := [p0, (u8 r29), (u8 r31)]) Try.func52 rfl rfl rfl (ar3 rfl rfl rfl) (field_Div_calls a0f r29 r31 p0 r33 _ (hp0.lift (Lift.ext e32 _)) hr33) ?_); rintro _ w33 ⟨rfl, x33⟩; refine ⟨_, rfl, ?_⟩; replace o0_21 := o0_21.extL (Sc.stab _) x33 (Lift.ext x33 _); replace o1_21 := o1_21.ext x33; replace o2_21 := o2_21.ext x33; have e34 := e32.trans x33; refine sv (.tuple #[(u8 r33.1), (i64 r33.2)]) rfl rfl rfl <| sa rfl rfl (q_extract rfl rfl rfl) <| sa rfl rfl (q_extract rfl rfl rfl) <| sa rfl rfl (q_adr rfl T22 rfl rfl (o0_21.rd (Sc.stab _)) hc25) <| ?_; refine wsn rfl (by kernel_rfl) rfl rfl (stp_store (R := (Sc u8)) (u := (u8 r33.1)) (Sc.stab _) [] [(bp g1), (bp g4)] rfl T22 rfl rfl o0_21 (put_of r33.1 hc25) rfl rfl ?_); intro w35 o35 g35 l35; replace o1_21 := o1_21.other g35 q0_1_21.symm; replace o2_21 := o2_21.other g35 q0_2_21.symm; have e36 := e34.grown g35 n0_21; refine ws_nil ?_; refine bk_n <| W_th <| W_rg <| mv (i64 s20.2) rfl s11_21 <| wa rfl (q_subI rfl rfl rfl) <| av (i64 ((wI (s20.2 - 1)))) rfl rfl <| wl_nil <| ?_; obtain rfl := osi H20; exact ⟨_, rfl, s3_21, s4_21, s9_21, s10_21, rfl, s91_21, e36, o35, n0_21, o1_21, n1_21, o2_21, n2_21, q0_1_21, q0_2_21, q1_2_21⟩
        replace H20 := ifn hb22 H20; refine W_exit <| th_x <| ?_; obtain rfl := osi H20; obtain rfl := hr20 _ rfl; refine th_x <| bk_x <| ?_; exact ⟨s3_21, s4_21, s9_21, s10_21, s91_21, hE21, o0_21, n0_21, o1_21, n1_21, o2_21, n2_21, q0_1_21, q0_2_21, q1_2_21⟩
      rintro _ w38 ⟨s3_38, s4_38, s9_38, s10_38, s91_38, hE38, o0_38, n0_38, o1_38, n1_38, o2_38, n2_38, q0_1_38, q0_2_38, q1_2_38⟩; refine bk_n <| W_th <| W_rg <| mv (i64 s17.2) rfl s10_38 <| wa rfl (q_addI rfl rfl rfl) <| av (i64 ((wI (s17.2 + 1)))) rfl rfl <| wl_nil <| ?_; obtain rfl := osi H17; exact ⟨_, rfl, s3_38, s4_38, s9_38, rfl, s91_38, hE38, o0_38, n0_38, o1_38, n1_38, o2_38, n2_38, q0_1_38, q0_2_38, q1_2_38⟩
    replace H17 := ifn hb19 H17; refine W_exit <| th_x <| ?_; obtain rfl := osi H17; obtain rfl := hr17 _ rfl; refine th_x <| bk_x <| ?_; exact ⟨s3_18, s4_18, s9_18, s91_18, hE18, o0_18, n0_18, o1_18, n1_18, o2_18, n2_18, q0_1_18, q0_2_18, q1_2_18⟩
  rintro _ w41 ⟨s3_41, s4_41, s9_41, s91_41, hE41, o0_41, n0_41, o1_41, n1_41, o2_41, n2_41, q0_1_41, q0_2_41, q1_2_41⟩; refine W_th <| W_seq <| W_rg <| ?_; refine wls rfl rfl (stp_allocL (z := (.slice none 0 0)) (cs := #[(.slice none 0 0)]) [v12, (bp g1), (bp g4)] rfl Try.zeroValue22 rfl ?_); intro g42 w42 o42 n42 g42r l42; have x42 := grown_ext g42r; have q43 : Nq v12 (bp g42) := o0_41.nq n42; have q44 : Nq (bp g1) (bp g42) := o1_41.nq n42; have q45 : Nq (bp g4) (bp g42) := o2_41.nq n42; replace o0_41 := o0_41.extL (Sc.stab _) x42 (Lift.call _ x42 n42); replace o1_41 := o1_41.ext x42; replace o2_41 := o2_41.ext x42; have n47 := Nw.ext hE41 n42; have e46 := hE41.trans x42; refine wnt <| W_seq <| W_seq <| W_rg <| mv v12 rfl s9_41 <| ?_; refine wls rfl rfl (stp_call (vs := [v12]) Try.func45 rfl rfl rfl (ar1 rfl) (Backward_callsG _ (cells_own o0_41) _) ?_); rintro _ w48 ⟨g48, rfl, n48, o48, x48⟩; refine ⟨_, rfl, ?_⟩; have q49 : Nq (bp g42) (bp g48) := o42.nq n48; have q50 : Nq v12 (bp g48) := o0_41.nq n48; have q51 : Nq (bp g1) (bp g48) := o1_41.nq n48; have q52 : Nq (bp g4) (bp g48) := o2_41.nq n48; replace o42 := o42.ext x48; replace o0_41 := o0_41.extL (Sc.stab _) x48 (Lift.call _ x48 n48); replace o1_41 := o1_41.ext x48; replace o2_41 := o2_41.ext x48; have n54 := Nw.ext e46 n48; have e53 := e46.trans x48; refine wnt <| W_block <| ?_; obtain ⟨lim55, hl55, H⟩ := bsi H; obtain ⟨x55, G55, H⟩ := bsi H; refine W_rangeS (π := fun x : BwEl (· = x17) => x.1) (xs := (revI x17)) (ea := fun x => i64 x.1.1) (eb := fun x => u8 x.1.2) (Rd := RdB (· = x17) g48 v12) (gf := 67) (lb := #[(bp g48)]) G55 s91_41 rfl rfl (enters Try.func67 rfl rfl) ((revI_len _).symm) (backward_gen (· = x17) _ (fun l h => congrArg List.length h) v12 g48 _ ⟨o48, _, rfl, (o0_41.rd (Sc.stab _))⟩ (lim_lt hl55)) (fun ys h => bw_exact h) bw_mem (fun _ _ t h => h.tn t) rfl rfl (fun s55 w => ∃ vbbpg42_98 : Value, Ext w0 w ∧ OwK (Sc u8) w [vbbpg42_98, v12, (bp g1), (bp g4), (bp g42), (bp g48)] 5 vbbpg42_98 s55 ∧ Nw w0 vbbpg42_98 ∧ OwK (Sc u8) w [vbbpg42_98, v12, (bp g1), (bp g4), (bp g42), (bp g48)] 5 v12 x17 ∧ Nw w0 v12 ∧ Blk w g1 26 #[p0] ∧ Nw w0 (bp g1) ∧ Blk w g4 22 #[p1] ∧ Nw w0 (bp g4) ∧ Blk w g42 22 #[vbbpg42_98] ∧ Nw w0 (bp g42) ∧ Blk w g48 22 #[v12] ∧ Nw w0 (bp g48) ∧ Nq vbbpg42_98 v12 ∧ Nq vbbpg42_98 (bp g1) ∧ Nq vbbpg42_98 (bp g4) ∧ Nq vbbpg42_98 (bp g42) ∧ Nq vbbpg42_98 (bp g48) ∧ Nq v12 (bp g1) ∧ Nq v12 (bp g4) ∧ Nq v12 (bp g42) ∧ Nq v12 (bp g48) ∧ Nq (bp g1) (bp g4) ∧ Nq (bp g1) (bp g42) ∧ Nq (bp g1) (bp g48) ∧ Nq (bp g4) (bp g42) ∧ Nq (bp g4) (bp g48) ∧ Nq (bp g42) (bp g48)) ?_ ⟨(.slice none 0 0), e53, (OwK.nil _ _ _ _), (Nw.nil _), (o0_41.weak (Sc.stab _) (fun _ h => ⟨nh_nil, h.2.2.1, h.2.2.2.1, h.2.2.2.2.1, h.2.1, h.1, trivial⟩)), n0_41, o1_41, n1_41, o2_41, n2_41, o42, n47, o48, n54, (Nq.nil _), (Nq.nil _), (Nq.nil _), (Nq.nil _), (Nq.nil _), q0_1_41, q0_2_41, q43, q50, q1_2_41, q44, q51, q45, q52, q49⟩ (fun x f => upd (upd (f) 13 (i64 x.1.1)) 14 (u8 x.1.2)) ?_ ?_ ?_
  · rintro s55 W W' t ⟨vbbpg42_56, hE56, o0_56, n0_56, o1_56, n1_56, o2_56, n2_56, o3_56, n3_56, o4_56, n4_56, o5_56, n5_56, q0_1_56, q0_2_56, q0_3_56, q0_4_56, q0_5_56, q1_2_56, q1_3_56, q1_4_56, q1_5_56, q2_3_56, q2_4_56, q2_5_56, q3_4_56, q3_5_56, q4_5_56⟩; exact ⟨vbbpg42_56, (hE56.tn t e53.size), (o0_56.tn (Sc.stab _) t), n0_56, (o1_56.tn (Sc.stab _) t), n1_56, (o2_56.tn t), n2_56, (o3_56.tn t), n3_56, (o4_56.tn t), n4_56, (o5_56.tn t), n5_56, q0_1_56, q0_2_56, q0_3_56, q0_4_56, q0_5_56, q1_2_56, q1_3_56, q1_4_56, q1_5_56, q2_3_56, q2_4_56, q2_5_56, q3_4_56, q3_5_56, q4_5_56⟩
  · intro l x W1 K hK; refine W_seq <| W_rg <| av (i64 x.1.1) rfl rfl <| wnt <| W_rg <| av (u8 x.1.2) rfl rfl <| wl_nil <| ?_; exact hK
  · rintro l ⟨y55, hy55⟩ s55 sp55 w57 ⟨vbbpg42_57, hE57, o0_57, n0_57, o1_57, n1_57, o2_57, n2_57, o3_57, n3_57, o4_57, n4_57, o5_57, n5_57, q0_1_57, q0_2_57, q0_3_57, q0_4_57, q0_5_57, q1_2_57, q1_3_57, q1_4_57, q1_5_57, q2_3_57, q2_4_57, q2_5_57, q3_4_57, q3_5_57, q4_5_57⟩ H55; have kf55 := KeepsFrom.refl w48.heap.size w57; refine W_block <| W_seq <| ?_; refine W_draw [0, 1, 2, 5] [(0, 1), (1, 1), (2, 1), (3, 0), (4, 0), (5, 1), (6, 2), (7, 2), (8, 0), (9, 0), (10, 0), (11, 2)] mixed (by kernel_rfl) (by kernel_rfl) (by kernel_rfl) (by kernel_rfl) ?_; have x58 := Ext.drew w57; replace o0_57 := o0_57.extL (Sc.stab _) x58 (Lift.ext x58 _); replace o1_57 := o1_57.extL (Sc.stab _) x58 (Lift.ext x58 _); replace o2_57 := o2_57.ext x58; replace o3_57 := o3_57.ext x58; replace o4_57 := o4_57.ext x58; replace o5_57 := o5_57.ext x58; have k59 := kf55.ext x58; have e60 := hE57.trans x58; refine sq rfl rfl (q_loadB (u := p0) rfl Try.isAgg26 (by exact s3_41) o2_57 rfl) <| sq rfl rfl (q_loadB (u := vbbpg42_57) rfl Try.isAgg22 rfl o4_57 rfl) <| sq rfl rfl (q_loadB (u := p1) rfl Try.isAgg22 (by exact s4_41) o3_57 rfl) <| sv (i64 y55.1) rfl rfl rfl <| ?_; obtain ⟨c61, hc61, H55⟩ := bsi H55; refine sa rfl rfl (q_adr rfl T22 rfl rfl (hp1.lift (Lift.ext e60 _)) hc61) <| sq rfl rfl (q_loadS rfl T22 rfl (hp1.lift (Lift.ext e60 _)) hc61) <| ?_; refine wss rfl rfl rfl (stp_lit (L := [vbbpg42_57, v12, (bp g1), (bp g4), (bp g42), (bp g48)]) (R := (Sc u8)) [(u8 c61), (u8 1)] ([c61, (1 : UInt8)] : List UInt8) rfl T22 rfl (by exact ⟨rfl, rfl, rfl, (cst8 (1 : UInt8) rfl), trivial⟩) rfl (litC u8 (oneC_u8) (us := [(u8 c61), (u8 1)]) (l := ([c61, (1 : UInt8)] : List UInt8)) rfl) rfl (litS u8 (us := [(u8 c61), (u8 1)]) (l := ([c61, (1 : UInt8)] : List UInt8)) rfl) ?_); intro v62 w62 o62 n62 g62 l62; refine ⟨grown_ext g62, ?_⟩; have x62 := grown_ext g62; have i62 : By w62 [vbbpg42_57, v12, (bp g1), (bp g4), (bp g42), (bp g48)] v62 (([c61, (1 : UInt8)] : List UInt8)) := OwK.slk (Sc.stab _) _ o62 (fun k hk => (Old.cons (Old.cons (Old.cons (Old.cons (Old.cons (Old.cons (Old.nil _) o5_57.ltB) o4_57.ltB) o3_57.ltB) o2_57.ltB) o1_57.lt) o0_57.lt) k (n62 k hk)) (fun _ h => h.2); replace o0_57 := o0_57.extL (Sc.stab _) x62 (Lift.ext x62 _); replace o1_57 := o1_57.extL (Sc.stab _) x62 (Lift.ext x62 _); replace o2_57 := o2_57.ext x62; replace o3_57 := o3_57.ext x62; replace o4_57 := o4_57.ext x62; replace o5_57 := o5_57.ext x62; have k63 := k59.ext x62; have e65 := e60.trans x62; obtain ⟨r66, hr66, H55⟩ := bsi H55; refine wsc rfl (by kernel_rfl) rfl rfl (stp_call (vs := [p0, vbbpg42_57, v62]) Try.func65 rfl rfl rfl (ar3 rfl rfl rfl) (poly_Mul_calls a0f s55 ([c61, (1 : UInt8)] : List UInt8) p0 vbbpg42_57 v62 r66 _ (hp0.lift (Lift.ext e65 _)) (o0_57.rd (Sc.stab _)) (i62.lift (Lift.sub (L' := []) (fun _ _ => trivial))) hr66) ?_); rintro _ w66 ⟨v66_0, rfl, x66, n66_0, o66_0⟩
    refine ⟨_, rfl, ?_⟩; have o66 : OwK (Sc u8) w66 (v66_0 :: [vbbpg42_57, v12, (bp g1), (bp g4), (bp g42), (bp g48)]) 5 v66_0 r66.1 := OwK.scal o66_0 _; have q67 : Nq vbbpg42_57 v66_0 := o0_57.nq n66_0; have q68 : Nq v12 v66_0 := o1_57.nq n66_0; have q69 : Nq (bp g1) v66_0 := o2_57.nq n66_0; have q70 : Nq (bp g4) v66_0 := o3_57.nq n66_0; have q71 : Nq (bp g42) v66_0 := o4_57.nq n66_0; have q72 : Nq (bp g48) v66_0 := o5_57.nq n66_0; replace i62 := i62.lift (Lift.call _ x66 n66_0); replace o0_57 := o0_57.extL (Sc.stab _) x66 (Lift.call _ x66 n66_0); replace o1_57 := o1_57.extL (Sc.stab _) x66 (Lift.call _ x66 n66_0); replace o2_57 := o2_57.ext x66; replace o3_57 := o3_57.ext x66; replace o4_57 := o4_57.ext x66; replace o5_57 := o5_57.ext x66; have k73 := k63.ext x66; have n75 := Nw.ext e65 n66_0; have e74 := e65.trans x66; refine sv (.tuple #[v66_0, (i64 r66.2)]) rfl rfl rfl <| sa rfl rfl (q_extract rfl rfl rfl) <| sa rfl rfl (q_extract rfl rfl rfl) <| ?_; refine wsn rfl (by kernel_rfl) rfl rfl (stp_storeL (u := v66_0) [v66_0, vbbpg42_57, v12, (bp g1), (bp g4)] [(bp g48)] rfl Try.sizeOf22 rfl rfl o4_57 (oc_own o66) ?_); intro w76 o76 g76 l76; have k77 := k73.own g76 o4_57.cl; replace i62 := i62.lift l76; replace o66 := o66.other (Sc.stab _) g76 q71.symm l76; replace o0_57 := o0_57.other (Sc.stab _) g76 q0_4_57 l76; replace o1_57 := o1_57.other (Sc.stab _) g76 q1_4_57 l76; replace o2_57 := o2_57.other g76 q2_4_57; replace o3_57 := o3_57.other g76 q3_4_57; replace o5_57 := o5_57.other g76 q4_5_57.symm; have e78 := e74.grown g76 n4_57; refine ws_nil ?_; refine W_th <| W_rg <| wq rfl (q_loadB (u := v66_0) rfl Try.isAgg22 rfl o76 rfl) <| mv (u8 y55.2) rfl rfl <| ?_; refine wls rfl rfl (stp_lit (L := [v66_0, vbbpg42_57, v12, (bp g1), (bp g4), (bp g42), (bp g48)]) (R := (Sc u8)) [(u8 y55.2)] ([y55.2] : List UInt8) rfl T22 rfl (by exact ⟨rfl, rfl, trivial⟩) rfl (litC u8 (oneC_u8) (us := [(u8 y55.2)]) (l := ([y55.2] : List UInt8)) rfl) rfl (litS u8 (us := [(u8 y55.2)]) (l := ([y55.2] : List UInt8)) rfl) ?_); intro v79 w79 o79 n79 g79 l79; have x79 := grown_ext g79; have i79 : By w79 [v66_0, vbbpg42_57, v12, (bp g1), (bp g4), (bp g42), (bp g48)] v79 (([y55.2] : List UInt8)) := OwK.slk (Sc.stab _) _ o79 (fun k hk => (Old.cons (Old.cons (Old.cons (Old.cons (Old.cons (Old.cons (Old.cons (Old.nil _) o5_57.ltB) o76.ltB) o3_57.ltB) o2_57.ltB) o1_57.lt) o0_57.lt) o66.lt) k (n79 k hk)) (fun _ h => h.2); replace i62 := i62.lift (Lift.ext x79 _); replace o66 := o66.extL (Sc.stab _) x79 (Lift.ext x79 _); replace o0_57 := o0_57.extL (Sc.stab _) x79 (Lift.ext x79 _); replace o1_57 := o1_57.extL (Sc.stab _) x79 (Lift.ext x79 _); replace o2_57 := o2_57.ext x79; replace o3_57 := o3_57.ext x79; replace o76 := o76.ext x79; replace o5_57 := o5_57.ext x79; have k80 := k77.ext x79; have e81 := e78.trans x79; obtain ⟨r82, hr82, H55⟩ := bsi H55
    refine wls rfl rfl (stp_call (vs := [v66_0, v79]) Try.func66 rfl rfl rfl (ar2 rfl rfl) (poly_Add_calls r66.1 ([y55.2] : List UInt8) v66_0 v79 r82 _ (o66.rd (Sc.stab _)) (i79.lift (Lift.sub (L' := []) (fun _ _ => trivial))) hr82) ?_); rintro _ w82 ⟨v82, rfl, x82, n82_0, o82_0⟩; refine ⟨_, rfl, ?_⟩; have o82 : OwK (Sc u8) w82 (v82 :: [v66_0, vbbpg42_57, v12, (bp g1), (bp g4), (bp g42), (bp g48)]) 5 v82 r82 := OwK.scal o82_0 _; have q83 : Nq v66_0 v82 := o66.nq n82_0; have q84 : Nq vbbpg42_57 v82 := o0_57.nq n82_0; have q85 : Nq v12 v82 := o1_57.nq n82_0; have q86 : Nq (bp g1) v82 := o2_57.nq n82_0; have q87 : Nq (bp g4) v82 := o3_57.nq n82_0; have q88 : Nq (bp g42) v82 := o76.nq n82_0; have q89 : Nq (bp g48) v82 := o5_57.nq n82_0; replace i62 := i62.lift (Lift.call _ x82 n82_0); replace i79 := i79.lift (Lift.call _ x82 n82_0); replace o66 := o66.extL (Sc.stab _) x82 (Lift.call _ x82 n82_0); replace o0_57 := o0_57.extL (Sc.stab _) x82 (Lift.call _ x82 n82_0); replace o1_57 := o1_57.extL (Sc.stab _) x82 (Lift.call _ x82 n82_0); replace o2_57 := o2_57.ext x82; replace o3_57 := o3_57.ext x82; replace o76 := o76.ext x82; replace o5_57 := o5_57.ext x82; have k90 := k80.ext x82; have n92 := Nw.ext e81 n82_0; have e91 := e81.trans x82; refine wln rfl rfl (stp_storeL (u := v82) [v82, v66_0, vbbpg42_57, v12, (bp g1), (bp g4)] [(bp g48)] rfl Try.sizeOf22 rfl rfl o76 (oc_own o82) ?_); intro w93 o93 g93 l93; have k94 := k90.own g93 o76.cl; replace i62 := i62.lift l93; replace i79 := i79.lift l93; replace o82 := o82.other (Sc.stab _) g93 q88.symm l93; replace o66 := o66.other (Sc.stab _) g93 q71.symm l93; replace o0_57 := o0_57.other (Sc.stab _) g93 q0_4_57 l93; replace o1_57 := o1_57.other (Sc.stab _) g93 q1_4_57 l93; replace o2_57 := o2_57.other g93 q2_4_57; replace o3_57 := o3_57.other g93 q3_4_57; replace o5_57 := o5_57.other g93 q4_5_57.symm; have e95 := e91.grown g93 n4_57; refine wl_nil <| bk_n <| ?_; obtain rfl := osi H55; exact ⟨k94, ⟨o5_57, _, rfl, (o1_57.rd (Sc.stab _))⟩, v82, e95, (o82.weak (Sc.stab _) (fun _ h => ⟨h.1, h.2.2.2.1, h.2.2.2.2.1, h.2.2.2.2.2.1, h.2.2.2.2.2.2.1, h.2.2.2.2.2.2.2.1, trivial⟩)), n92, (o1_57.weak (Sc.stab _) (fun _ h => ⟨h.1, h.2.2.2.1, h.2.2.2.2.1, h.2.2.2.2.2.1, h.2.2.2.2.2.2.1, h.2.2.2.2.2.2.2.1, trivial⟩)), n1_57, o2_57, n2_57, o3_57, n3_57, o93, n4_57, o5_57, n5_57, q85.symm, q86.symm, q87.symm, q88.symm, q89.symm, q1_2_57, q1_3_57, q1_4_57, q1_5_57, q2_3_57, q2_4_57, q2_5_57, q3_4_57, q3_5_57, q4_5_57⟩
  intro D55 w96 hD55 ⟨vbbpg42_96, hE96, o0_96, n0_96, o1_96, n1_96, o2_96, n2_96, o3_96, n3_96, o4_96, n4_96, o5_96, n5_96, q0_1_96, q0_2_96, q0_3_96, q0_4_96, q0_5_96, q1_2_96, q1_3_96, q1_4_96, q1_5_96, q2_3_96, q2_4_96, q2_5_96, q3_4_96, q3_5_96, q4_5_96⟩ hK55; have hd55 := Nat.le_trans e53.size hD55; have kd55 := KeepsFrom.refl 0 w96; refine bk_n <| W_th <| W_seq <| W_rg <| wq rfl (q_loadB (u := vbbpg42_96) rfl Try.isAgg22 rfl o4_96 rfl) <| av vbbpg42_96 rfl rfl <| av (i64 0) rfl rfl <| wnt <| ?_; refine W_ret ?_; obtain rfl := osi H; have hk97 := kd55.same D55 _ (Nat.zero_le _) hK55 rfl; have t97 := Tn.put hk97 hd55 (.deferred none); refine rtm2 vbbpg42_96 (i64 0) rfl rfl rfl rfl rfl rfl hk97 ?_; exact ⟨vbbpg42_96, rfl, (hE96.tn t97 (Nat.le_refl _)), n0_96, ((o0_96.tn (Sc.stab _) t97).weak (Sc.stab _) (fun _ _ => trivial))⟩
end Gk

/- slices.IndexFunc and slices.ContainsFunc, with a function that has captured what it looks at. No condition but the length. -/
namespace Gk
open Go Go.Proofs
def findAt {α : Type} (t : α → Option Bool) : Int → List α → Option Int
  | _, [] => some (-1)
  | i, x :: xs => (t x).bind fun b => if b = true then some i else findAt t (i + 1) xs
def anyO {α : Type} (t : α → Option Bool) : List α → Option Bool
  | [] => some false
  | x :: xs => (t x).bind fun b => if b = true then some true else anyO t xs
theorem anyO_find {α : Type} (t : α → Option Bool) : ∀ (l : List α) {i : Int} (hi : 0 ≤ i) {r : Bool}, anyO t l = some r → ∃ j, findAt t i l = some j ∧ decide (0 ≤ j) = r
  | [], i, _, r, h => ⟨-1, rfl, by simpa [anyO] using h⟩
  | x :: xs, i, hi, r, h => by
    unfold anyO at h
    obtain ⟨b, hb, h⟩ := Option.bind_eq_some_iff.1 h
    cases b with
    | true => exact ⟨i, by unfold findAt; rw [hb]; rfl, by simpa [hi] using h⟩
    | false =>
      obtain ⟨j, h1, h2⟩ := anyO_find t xs (i := i + 1) (by omega) (by simpa using h)
      exact ⟨j, by unfold findAt; rw [hb]; simpa using h1, h2⟩
section
variable {P : Program} {o : Oper} {f : Nat → Value} {w : World}
theorem stp_callF {g : FuncId} {fn : Func} {y : Operand} {xs : Array Operand} {ats : Array TypeId} {vs lb : List Value} {R' : Ending → World → Prop} (hf : P.funcs[g]? = some fn) (hn : (fn.name == "runtime.NumGoroutine") = false) (hb : fn.body.isNone = false)
    (ho : o.op = .call ⟨.value y, xs, ats⟩) (hy : ev f y = .func (.func g) #[] lb.toArray) (hx : xs.toList.map (ev f) = vs) (hc : Calls P g (vs ++ lb).toArray w R') {K : Value → World → Prop} (hk : ∀ e w', R' e w' → ∃ v, e = .returned v ∧ K v w') : Stp P o f w K := by
  have hxs : xs.map (ev f) = vs.toArray := by subst hx; apply Array.ext'; simp
  unfold Stp
  have : (execOp (ev f) o).run P w = .ok (.enter g (vs ++ lb).toArray) w := by
    have h1 := enters (P := P) hf hn hb (vs ++ lb).toArray w
    unfold execOp
    rw [ho]
    dsimp only
    simp only [resolve, hy, Deferred.ofValue, hxs, Sem.run_bind, Sem.run_pure, Result.andThen_ok, invoke]
    simpa using h1
  rw [this]
  exact hc.mono hk
end
/-- slices.IndexFunc over [][]byte. -/
theorem IndexFunc_rows_calls (v : Value) (l : List (List UInt8)) (gf : Nat) (fn : Func) (hf : Try.prog.funcs[gf]? = some fn) (hn : (fn.name == "runtime.NumGoroutine") = false) (hb : fn.body.isNone = false) (lb : List Value) (t : List UInt8 → Option Bool) (r : Int) (w0 : World) (hl : Rw w0 [] v l) (hlen : l.length < 9223372036854775808) (H : findAt t 0 l = some r)
    (hcl : ∀ x ∈ l, ∀ (b : Bool) (w' : World), Ext w0 w' → t x = some b → ∀ u, By w' [] u x → Calls Try.prog gf ([u] ++ lb).toArray w' (fun e w'' => e = .returned (.bool b) ∧ Ext w' w'')) :
    Calls Try.prog 42 [v, .func (.func gf) #[] lb.toArray].toArray w0 (fun e w' => e = .returned (i64 r) ∧ Ext w0 w') := by
  have hE : Ext w0 w0 := Ext.refl w0; refine calls_W (n := 19) Try.func42 rfl rfl rfl ?_; refine W_seq <| W_rg <| av (i64 0) rfl rfl <| wnt <| W_seq <| ?_; refine W_mid (fun f w => f 19 = undef ∧ r = -1 ∧ Ext w0 w) ?_ ?_
  · refine W_seq <| W_rg <| mv v rfl rfl <| wa rfl (q_len rfl T23.sl rfl hl) <| mv (i64 0) rfl rfl <| wnt <| W_block <| ?_; refine W_loopG (fun k f w => f 19 = undef ∧ f 0 = v ∧ f 1 = .func (.func gf) #[] lb.toArray ∧ f 6 = v ∧ f 7 = i64 (l.length : Int) ∧ f 8 = i64 ((l.length - k : Nat) : Int) ∧ k ≤ l.length ∧ findAt t ((l.length - k : Nat) : Int) (l.drop (l.length - k)) = some r ∧ Ext w0 w) l.length ?_ ?_
    · exact ⟨rfl, rfl, rfl, rfl, rfl, by rw [Nat.sub_self]; rfl, Nat.le_refl _, by rw [Nat.sub_self]; exact H, hE⟩
    rintro k f w ⟨hm, s0, s1, s6, s7, s8, hk, hfa, e1⟩; refine W_seq <| W_rg <| wa rfl (q_ltI rfl s8 s7) <| wnt <| W_seq <| ?_; refine W_cond _ rfl rfl (fun hbb => ?_) (fun hbb => ?_)
    · have hk1 : l.length - k < l.length := by have := of_decide_eq_true hbb; omega
      have hget : l[l.length - k]? = some l[l.length - k] := by simp [hk1]
      have hidx : idx l ((l.length - k : Nat) : Int) = some l[l.length - k] := by simp [idx, hk1]
      have hdrop : l.drop (l.length - k) = l[l.length - k] :: l.drop (l.length - k + 1) := List.drop_eq_getElem_cons hk1; rw [hdrop] at hfa; unfold findAt at hfa; obtain ⟨b, hb1, hfa⟩ := bsi hfa; refine W_skip <| W_th <| W_seq <| W_block <| W_seq <| W_rg <| mv (i64 ((l.length - k : Nat) : Int)) rfl s8 <| av (i64 ((l.length - k : Nat) : Int)) rfl rfl <| ?_; refine wnt <| W_seq <| W_rg <| mv (.func (.func gf) #[] lb.toArray) rfl s1 <| mv v rfl s0 <| mv (i64 ((l.length - k : Nat) : Int)) rfl rfl <| wa rfl (q_adr rfl T23 rfl rfl hl hidx) <| ?_; refine wlq_load rfl rfl rfl T23 rfl hl hidx e1 (fun u hu => ?_); refine wls rfl rfl (stp_callF (vs := [u]) hf hn hb rfl rfl (ar1 rfl) (hcl _ (List.getElem_mem hk1) b _ e1 hb1 u (hu.lift (Lift.ext e1 _))) ?_); rintro _ w2 ⟨rfl, x2⟩; refine ⟨_, rfl, ?_⟩; have e2 := e1.trans x2; refine wnt ?_; refine W_cond b rfl rfl (fun hbt => ?_) (fun hbf => ?_)
      · rw [hbt, if_pos rfl] at hfa; obtain rfl := osi hfa; refine W_seq ?_; refine W_reg (by kernel_rfl) ?_; refine wla rfl rfl (q_move (v := i64 ((l.length - k : Nat) : Int)) rfl rfl) ?_; refine wla rfl rfl (q_assign (v := i64 ((l.length - k : Nat) : Int)) rfl rfl) ?_; refine wl_nil ?_; refine W_th ?_; refine W_ret ?_; refine bk_r ?_; refine th_r ?_; refine th_r ?_; refine bk_r ?_; refine th_r ?_; refine rt1 _ rfl rfl rfl hm ?_; exact ⟨rfl, e2⟩
      rw [hbf, if_neg (by decide)] at hfa; refine W_skip ?_; refine bk_n ?_; refine W_th ?_; refine W_reg (by kernel_rfl) ?_; refine wla rfl rfl (q_addI rfl s8 rfl) ?_
      have en : wI (((l.length - k : Nat) : Int) + 1) = ((l.length - (k - 1) : Nat) : Int) := by rw [wI_of (by omega) (by omega)]; omega
      rw [en]; refine wla rfl rfl (q_move (v := i64 ((l.length - (k - 1) : Nat) : Int)) rfl rfl) ?_; refine wl_nil ?_; refine ⟨k - 1, by omega, hm, s0, s1, s6, s7, rfl, by omega, ?_, e2⟩; rw [show l.length - (k - 1) = l.length - k + 1 by omega]; rw [show ((l.length - k : Nat) : Int) + 1 = ((l.length - k + 1 : Nat) : Int) by omega] at hfa; exact hfa
    have hk0 : k = 0 := by have := of_decide_eq_false hbb; omega
    subst hk0
    rw [Nat.sub_zero, List.drop_length] at hfa; have hr : (-1 : Int) = r := osi hfa; refine W_exit ?_; refine th_x ?_; refine th_x ?_; refine bk_x ?_; exact ⟨hm, hr.symm, e1⟩
  rintro f w ⟨hm, hr, e1⟩
  subst hr
  refine W_th <| W_seq <| W_rg <| av (i64 (-1)) rfl rfl <| wnt <| W_ret <| ?_; refine rt1 (i64 (-1)) rfl rfl rfl hm ?_; exact ⟨rfl, e1⟩
/-- slices.ContainsFunc over [][]byte. -/
theorem ContainsFunc_rows_calls (v : Value) (l : List (List UInt8)) (gf : Nat) (fn : Func) (hf : Try.prog.funcs[gf]? = some fn) (hn : (fn.name == "runtime.NumGoroutine") = false) (hb : fn.body.isNone = false) (lb : List Value) (t : List UInt8 → Option Bool) (r : Bool) (w0 : World) (hl : Rw w0 [] v l) (hlen : l.length < 9223372036854775808) (H : anyO t l = some r)
    (hcl : ∀ x ∈ l, ∀ (b : Bool) (w' : World), Ext w0 w' → t x = some b → ∀ u, By w' [] u x → Calls Try.prog gf ([u] ++ lb).toArray w' (fun e w'' => e = .returned (.bool b) ∧ Ext w' w'')) :
    Calls Try.prog 23 [v, .func (.func gf) #[] lb.toArray].toArray w0 (fun e w' => e = .returned (.bool r) ∧ Ext w0 w') := by
  obtain ⟨j, h1, h2⟩ := anyO_find (i := 0) t l (by decide) H; refine calls_W (n := 9) Try.func23 rfl rfl rfl ?_; refine W_seq <| W_rg <| av (.bool false) rfl rfl <| wnt <| W_seq <| W_rg <| mv v rfl rfl <| mv (.func (.func gf) #[] lb.toArray) rfl rfl <| ?_; refine wls rfl rfl (stp_call (vs := [v, .func (.func gf) #[] lb.toArray]) Try.func42 rfl rfl rfl (ar2 rfl rfl) (IndexFunc_rows_calls v l gf fn hf hn hb lb t j _ hl hlen h1 hcl) ?_); rintro _ w2 ⟨rfl, x2⟩; refine ⟨_, rfl, ?_⟩; refine wa rfl (q_geI rfl rfl rfl) <| av (.bool (decide (0 ≤ j))) rfl rfl <| wnt <| W_ret <| ?_; refine rt1 _ rfl rfl rfl rfl ?_; rw [h2]; exact ⟨rfl, x2⟩
end Gk

/- Printed by gen.py: for each Go function a pure function, and that the Go code comes to it. No condition beside the equation that says what the pure function gives. -/
namespace Gk
open Go Go.Proofs
end Gk

/- Printed by gen.py: for each Go function a pure function, and that the Go code comes to it. No condition beside the equation that says what the pure function gives. -/
namespace Gk
open Go Go.Proofs
noncomputable def ref03_Trim (a0p : List UInt8) : Option (List UInt8) :=
((appL (([] : List UInt8)) a0p).bind fun c4 =>
((iterC (fun s7 : List UInt8 =>
(if 0 < (s7.length : Int) then
((idx s7 ((wI ((s7.length : Int) - 1)))).bind fun c10 =>
(if c10 = (0 : UInt8) then
((subL s7 0 ((wI ((s7.length : Int) - 1)))).bind fun c12 => some (.inl c12))
else some (.inr s7)))
else some (.inr s7))) c4).bind fun x7 => some x7))
theorem ref03_Trim_calls (a0p : List UInt8) (p0 : Value) (r : List UInt8) (w0 : World) (hp0 : By w0 [] p0 a0p) (H : ref03_Trim a0p = some r) :
    Calls Try.prog 50 [p0].toArray w0 (fun e w' => ∃ u0 : Value, e = .returned u0 ∧ Ext w0 w' ∧ Nw w0 u0 ∧ OwK (Sc u8) w' [] 5 u0 r) := by
  have hE : Ext w0 w0 := Ext.refl w0; unfold ref03_Trim at H; refine calls_W (n := 25) Try.func50 rfl rfl rfl ?_; refine W_seq <| W_rg <| av (.slice none 0 0) rfl rfl <| wnt <| W_seq <| W_rg <| ?_; refine wls rfl rfl (stp_lit (L := []) (R := (Sc u8)) [] ([] : List UInt8) rfl T22 rfl (by exact trivial) rfl (litC u8 (oneC_u8) (us := []) (l := ([] : List UInt8)) rfl) rfl (litS u8 (us := []) (l := ([] : List UInt8)) rfl) ?_); intro v1 w1 o1 n1 g1 l1; have x1 := grown_ext g1; have n3 := Nw.ext hE n1; have e2 := hE.trans x1; refine mv p0 rfl rfl ?_; obtain ⟨c4, hc4, H⟩ := bsi H; refine wls rfl rfl (stp_append (R := (Sc u8)) (v := v1) (u := p0) (Sc.stab _) [] [] rfl T22 rfl rfl o1 (hp0.lift (Lift.ext e2 _)) (fun _ _ h => h) hc4 oc_u8 ?_); intro v4 w4 o4 g4 nx4 l4; have e5 := e2.grown g4 n3; have n6 := Nw.nxt e2 n3 nx4; refine av v4 rfl rfl <| wnt <| W_seq <| ?_; obtain ⟨x7, G7, H⟩ := bsi H; refine W_mid (fun f w => ∃ v3_17 : Value, f 3 = v3_17 ∧ f 25 = undef ∧ Ext w0 w ∧ OwK (Sc u8) w [v3_17] 5 v3_17 x7 ∧ Nw w0 v3_17) ?_ ?_
  · refine W_block ?_; refine W_loop (fun s7 f w => ∃ v3_15 : Value, f 3 = v3_15 ∧ f 25 = undef ∧ Ext w0 w ∧ OwK (Sc u8) w [v3_15] 5 v3_15 s7 ∧ Nw w0 v3_15) G7 ?_ ?_
    · exact ⟨v4, rfl, rfl, e5, o4, n6⟩
    rintro s7 _ _ w8 ⟨v3_8, s3_8, s25_8, hE8, o0_8, n0_8⟩ H7 hr7; refine W_seq <| W_seq <| W_rg <| mv v3_8 rfl s3_8 <| wa rfl (q_len rfl T22.sl rfl (o0_8.rd (Sc.stab _))) <| wa rfl (q_gtI rfl rfl rfl) <| ?_; refine wlb rfl rfl (q_move (v := (.bool ((decide (0 < (s7.length : Int)))))) rfl rfl) (fun hb9 => ?_) (fun hb9 => ?_)
    · replace H7 := ifp hb9 H7; refine mv v3_8 rfl s3_8 <| mv v3_8 rfl s3_8 <| wa rfl (q_len rfl T22.sl rfl (o0_8.rd (Sc.stab _))) <| wa rfl (q_subI rfl rfl rfl) <| ?_; obtain ⟨c10, hc10, H7⟩ := bsi H7; refine wa rfl (q_adr rfl T22 rfl rfl (o0_8.rd (Sc.stab _)) hc10) <| wq rfl (q_loadS rfl T22 rfl (o0_8.rd (Sc.stab _)) hc10) <| wa rfl (q_eq8 rfl rfl (cst8 (0 : UInt8) rfl)) <| wa rfl (q_pick_t (v := (.bool ((decide (c10 = (0 : UInt8)))))) rfl rfl rfl) <| wnt <| ?_; refine W_cond _ rfl rfl (fun hb11 => ?_) (fun hb11 => ?_)
      · replace H7 := ifp hb11 H7; refine W_skip <| W_th <| W_block <| W_rg <| mv v3_8 rfl s3_8 <| mv v3_8 rfl s3_8 <| wa rfl (q_len rfl T22.sl rfl (o0_8.rd (Sc.stab _))) <| wa rfl (q_subI rfl rfl rfl) <| ?_; obtain ⟨c12, hc12, H7⟩ := bsi H7; refine wa rfl (q_slice (a := 0) (b := (wI ((s7.length : Int) - 1))) rfl T22 rfl (o0_8.rd (Sc.stab _)) rfl rfl hc12) ?_; obtain ⟨o12, nx12, l12⟩ := own_cut (lo := 0) (hi := (wI ((s7.length : Int) - 1))) (Sc.stab _) [] [] o0_8 rfl hc12; have e13 := hE8.grown (Gr.refl _ _) n0_8; have n14 := Nw.nxt hE8 n0_8 nx12; refine av (subV v3_8 (0 : Int).toNat ((wI ((s7.length : Int) - 1)) : Int).toNat) rfl rfl <| wl_nil <| bk_n <| ?_; obtain rfl := osi H7; exact ⟨_, rfl, (subV v3_8 (0 : Int).toNat ((wI ((s7.length : Int) - 1)) : Int).toNat), rfl, s25_8, e13, o12, n14⟩
      replace H7 := ifn hb11 H7; refine W_exit <| th_x <| ?_; obtain rfl := osi H7; obtain rfl := hr7 _ rfl; refine th_x <| bk_x <| ?_; exact ⟨v3_8, s3_8, s25_8, hE8, o0_8, n0_8⟩
    replace H7 := ifn hb9 H7; refine wlk rfl rfl <| wlk rfl rfl <| wlk rfl rfl <| wlk rfl rfl <| wlk rfl rfl <| wlk rfl rfl <| wlk rfl rfl <| wa rfl (q_pick_f (v := (.bool false)) rfl rfl rfl) <| ?_; refine wnt ?_; refine W_cond false rfl rfl (fun hb => by cases hb) (fun _ => ?_); refine W_exit <| th_x <| ?_; obtain rfl := osi H7; obtain rfl := hr7 _ rfl; refine th_x <| bk_x <| ?_; exact ⟨v3_8, s3_8, s25_8, hE8, o0_8, n0_8⟩
  rintro _ w16 ⟨v3_16, s3_16, s25_16, hE16, o0_16, n0_16⟩; refine W_th <| W_seq <| W_rg <| mv v3_16 rfl s3_16 <| av v3_16 rfl rfl <| wnt <| W_ret <| ?_; obtain rfl := osi H; refine rt1 v3_16 rfl rfl rfl s25_16 ?_; exact ⟨v3_16, rfl, hE16, n0_16, (o0_16.weak (Sc.stab _) (fun _ _ => trivial))⟩
noncomputable def ref03_Eval (a0p : List UInt8) (a1x : UInt8) : Option UInt8 :=
((iterC (fun s1 : UInt8 × UInt8 × Int =>
(if s1.2.2 < (a0p.length : Int) then
((idx a0p s1.2.2).bind fun c4 =>
((ref02_Mul c4 s1.2.1).bind fun r5 =>
((ref02_Mul s1.2.1 a1x).bind fun r7 => some (.inl ((s1.1 ^^^ r5), r7, (wI (s1.2.2 + 1)))))))
else some (.inr s1.1))) ((0 : UInt8), (1 : UInt8), 0)).bind fun x1 => some x1)
theorem ref03_Eval_calls (a0p : List UInt8) (a1x : UInt8) (p0 : Value) (r : UInt8) (w0 : World) (hp0 : By w0 [] p0 a0p) (H : ref03_Eval a0p a1x = some r) :
    Calls Try.prog 10 [p0, (u8 a1x)].toArray w0 (fun e w' => e = .returned (u8 r) ∧ Ext w0 w') := by
  have hE : Ext w0 w0 := Ext.refl w0; unfold ref03_Eval at H; refine calls_W (n := 25) Try.func10 rfl rfl rfl ?_; refine W_seq <| W_rg <| av (u8 0) rfl (cst8 (0 : UInt8) rfl) <| wnt <| W_seq <| W_rg <| av (u8 0) rfl (cst8 (0 : UInt8) rfl) <| av (u8 1) rfl (cst8 (1 : UInt8) rfl) <| ?_; refine wnt <| W_seq <| W_seq <| W_rg <| mv p0 rfl rfl <| wa rfl (q_len rfl T22.sl rfl (hp0.lift (Lift.ext hE _))) <| mv (i64 0) rfl rfl <| wnt <| ?_; obtain ⟨x1, G1, H⟩ := bsi H; refine W_mid (fun f w => f 5 = (u8 x1) ∧ f 25 = undef ∧ Ext w0 w) ?_ ?_
  · refine W_block ?_; refine W_loop (fun s1 f w => f 1 = (u8 a1x) ∧ f 5 = (u8 s1.1) ∧ f 6 = (u8 s1.2.1) ∧ f 9 = p0 ∧ f 10 = (i64 ((a0p.length : Int))) ∧ f 11 = (i64 s1.2.2) ∧ f 25 = undef ∧ Ext w0 w) G1 ?_ ?_
    · exact ⟨rfl, rfl, rfl, rfl, rfl, rfl, rfl, hE⟩
    rintro s1 _ _ w2 ⟨s1_2, s5_2, s6_2, s9_2, s10_2, s11_2, s25_2, hE2⟩ H1 hr1; refine W_seq <| W_rg <| wa rfl (q_ltI rfl s11_2 s10_2) <| wnt <| W_seq <| ?_; refine W_cond _ rfl rfl (fun hb3 => ?_) (fun hb3 => ?_)
    · replace H1 := ifp hb3 H1; refine W_skip <| W_th <| W_seq <| W_block <| W_seq <| W_rg <| ?_; obtain ⟨c4, hc4, H1⟩ := bsi H1; refine wa rfl (q_adr rfl T22 s9_2 s11_2 (hp0.lift (Lift.ext hE2 _)) hc4) <| wq rfl (q_loadS rfl T22 rfl (hp0.lift (Lift.ext hE2 _)) hc4) <| av (u8 c4) rfl rfl <| wnt <| W_seq <| W_rg <| mv (u8 s1.1) rfl s5_2 <| mv (u8 c4) rfl rfl <| ?_; refine mv (u8 s1.2.1) rfl s6_2 ?_; obtain ⟨r5, hr5, H1⟩ := bsi H1; refine wls rfl rfl (stp_call (vs := [(u8 c4), (u8 s1.2.1)]) Try.func32 rfl rfl rfl (ar2 rfl rfl) (ref02_Mul_calls c4 s1.2.1  r5 _  hr5) ?_); rintro _ w5 ⟨rfl, x5⟩; refine ⟨_, rfl, ?_⟩; have e6 := hE2.trans x5; refine wa rfl (q_xor8 rfl rfl rfl) <| av (u8 ((s1.1 ^^^ r5))) rfl rfl <| wnt <| W_rg <| mv (u8 s1.2.1) rfl s6_2 <| mv (u8 a1x) rfl s1_2 <| ?_; obtain ⟨r7, hr7, H1⟩ := bsi H1; refine wls rfl rfl (stp_call (vs := [(u8 s1.2.1), (u8 a1x)]) Try.func32 rfl rfl rfl (ar2 rfl rfl) (ref02_Mul_calls s1.2.1 a1x  r7 _  hr7) ?_); rintro _ w7 ⟨rfl, x7⟩; refine ⟨_, rfl, ?_⟩; have e8 := e6.trans x7; refine av (u8 r7) rfl rfl <| wl_nil <| bk_n <| W_th <| W_rg <| wa rfl (q_addI rfl s11_2 rfl) <| mv (i64 ((wI (s1.2.2 + 1)))) rfl rfl <| wl_nil <| ?_; obtain rfl := osi H1; exact ⟨_, rfl, s1_2, rfl, rfl, s9_2, s10_2, rfl, s25_2, e8⟩
    replace H1 := ifn hb3 H1; refine W_exit <| th_x <| ?_; obtain rfl := osi H1; obtain rfl := hr1 _ rfl; refine th_x <| bk_x <| ?_; exact ⟨s5_2, s25_2, hE2⟩
  rintro _ w10 ⟨s5_10, s25_10, hE10⟩; refine W_th <| W_seq <| W_rg <| mv (u8 x1) rfl s5_10 <| av (u8 x1) rfl rfl <| wnt <| W_ret <| ?_; obtain rfl := osi H; refine rt1 (u8 x1) rfl rfl rfl s25_10 ?_; exact ⟨rfl, hE10⟩
noncomputable def ref03_Mul (a0p : List UInt8) (a1q : List UInt8) : Option (List UInt8) :=
((makeL ((wI ((a0p.length : Int) + (a1q.length : Int)))) (0 : UInt8)).bind fun c1 =>
((iterC (fun s4 : List UInt8 × Int =>
(if s4.2 < (a0p.length : Int) then
((idx a0p s4.2).bind fun c7 =>
((iterC (fun s8 : List UInt8 × Int =>
(if s8.2 < (a1q.length : Int) then
((idx a1q s8.2).bind fun c11 =>
((idx s8.1 ((wI (s4.2 + s8.2)))).bind fun c14 =>
((ref02_Mul c7 c11).bind fun r15 => some (.inl ((s8.1.set ((wI (s4.2 + s8.2)) : Int).toNat ((c14 ^^^ r15))), (wI (s8.2 + 1)))))))
else some (.inr s8.1))) (s4.1, 0)).bind fun x8 => some (.inl (x8, (wI (s4.2 + 1))))))
else some (.inr s4.1))) (c1, 0)).bind fun x4 =>
((ref03_Trim x4).bind fun r24 => some r24)))
theorem ref03_Mul_calls (a0p : List UInt8) (a1q : List UInt8) (p0 : Value) (p1 : Value) (r : List UInt8) (w0 : World) (hp0 : By w0 [] p0 a0p) (hp1 : By w0 [] p1 a1q) (H : ref03_Mul a0p a1q = some r) :
    Calls Try.prog 49 [p0, p1].toArray w0 (fun e w' => ∃ u0 : Value, e = .returned u0 ∧ Ext w0 w' ∧ Nw w0 u0 ∧ OwK (Sc u8) w' [] 5 u0 r) := by
  have hE : Ext w0 w0 := Ext.refl w0; unfold ref03_Mul at H; refine calls_W (n := 49) Try.func49 rfl rfl rfl ?_; refine W_seq <| W_rg <| av (.slice none 0 0) rfl rfl <| wnt <| W_seq <| W_rg <| mv p0 rfl rfl <| wa rfl (q_len rfl T22.sl rfl (hp0.lift (Lift.ext hE _))) <| ?_; refine mv p1 rfl rfl <| wa rfl (q_len rfl T22.sl rfl (hp1.lift (Lift.ext hE _))) <| wa rfl (q_addI rfl rfl rfl) <| ?_; obtain ⟨c1, hc1, H⟩ := bsi H; refine wls rfl rfl (stp_make (L := []) (R := (Sc u8)) rfl T22 rfl rfl hc1 (fun _ _ => rfl) ?_); intro v1 w1 o1 n1 g1 l1; have x1 := grown_ext g1; have n3 := Nw.ext hE n1; have e2 := hE.trans x1; refine av v1 rfl rfl <| wnt <| W_seq <| W_seq <| W_rg <| mv p0 rfl rfl <| wa rfl (q_len rfl T22.sl rfl (hp0.lift (Lift.ext e2 _))) <| mv (i64 0) rfl rfl <| ?_; refine wnt ?_; obtain ⟨x4, G4, H⟩ := bsi H; refine W_mid (fun f w => f 5 = v1 ∧ f 49 = undef ∧ Ext w0 w ∧ OwK (Sc u8) w [v1] 5 v1 x4 ∧ Nw w0 v1) ?_ ?_
  · refine W_block ?_; refine W_loop (fun s4 f w => f 1 = p1 ∧ f 5 = v1 ∧ f 16 = p0 ∧ f 17 = (i64 ((a0p.length : Int))) ∧ f 18 = (i64 s4.2) ∧ f 49 = undef ∧ Ext w0 w ∧ OwK (Sc u8) w [v1] 5 v1 s4.1 ∧ Nw w0 v1) G4 ?_ ?_
    · exact ⟨rfl, rfl, rfl, rfl, rfl, rfl, e2, o1, n3⟩
    rintro s4 _ _ w5 ⟨s1_5, s5_5, s16_5, s17_5, s18_5, s49_5, hE5, o0_5, n0_5⟩ H4 hr4; refine W_seq <| W_rg <| wa rfl (q_ltI rfl s18_5 s17_5) <| wnt <| W_seq <| ?_; refine W_cond _ rfl rfl (fun hb6 => ?_) (fun hb6 => ?_)
    · replace H4 := ifp hb6 H4; refine W_skip <| W_th <| W_seq <| W_block <| W_seq <| W_rg <| mv (i64 s4.2) rfl s18_5 <| ?_; obtain ⟨c7, hc7, H4⟩ := bsi H4; refine wa rfl (q_adr rfl T22 s16_5 s18_5 (hp0.lift (Lift.ext hE5 _)) hc7) <| wq rfl (q_loadS rfl T22 rfl (hp0.lift (Lift.ext hE5 _)) hc7) <| av (i64 s4.2) rfl rfl <| av (u8 c7) rfl rfl <| wnt <| W_seq <| W_rg <| mv p1 rfl s1_5 <| ?_; refine wa rfl (q_len rfl T22.sl rfl (hp1.lift (Lift.ext hE5 _))) <| mv (i64 0) rfl rfl <| wnt <| ?_; obtain ⟨x8, G8, H4⟩ := bsi H4; refine W_mid (fun f w => f 1 = p1 ∧ f 5 = v1 ∧ f 16 = p0 ∧ f 17 = (i64 ((a0p.length : Int))) ∧ f 18 = (i64 s4.2) ∧ f 49 = undef ∧ Ext w0 w ∧ OwK (Sc u8) w [v1] 5 v1 x8 ∧ Nw w0 v1) ?_ ?_
      · refine W_block ?_; refine W_loop (fun s8 f w => f 1 = p1 ∧ f 5 = v1 ∧ f 6 = (i64 s4.2) ∧ f 7 = (u8 c7) ∧ f 16 = p0 ∧ f 17 = (i64 ((a0p.length : Int))) ∧ f 18 = (i64 s4.2) ∧ f 23 = p1 ∧ f 24 = (i64 ((a1q.length : Int))) ∧ f 25 = (i64 s8.2) ∧ f 49 = undef ∧ Ext w0 w ∧ OwK (Sc u8) w [v1] 5 v1 s8.1 ∧ Nw w0 v1) G8 ?_ ?_
        · exact ⟨s1_5, s5_5, rfl, rfl, s16_5, s17_5, s18_5, rfl, rfl, rfl, s49_5, hE5, o0_5, n0_5⟩
        rintro s8 _ _ w9 ⟨s1_9, s5_9, s6_9, s7_9, s16_9, s17_9, s18_9, s23_9, s24_9, s25_9, s49_9, hE9, o0_9, n0_9⟩ H8 hr8; refine W_seq <| W_rg <| wa rfl (q_ltI rfl s25_9 s24_9) <| wnt <| W_seq <| ?_; refine W_cond _ rfl rfl (fun hb10 => ?_) (fun hb10 => ?_)
        · replace H8 := ifp hb10 H8; refine W_skip <| W_th <| W_seq <| W_block <| W_seq <| W_rg <| mv (i64 s8.2) rfl s25_9 <| ?_; obtain ⟨c11, hc11, H8⟩ := bsi H8; refine wa rfl (q_adr rfl T22 s23_9 s25_9 (hp1.lift (Lift.ext hE9 _)) hc11) <| wq rfl (q_loadS rfl T22 rfl (hp1.lift (Lift.ext hE9 _)) hc11) <| av (i64 s8.2) rfl rfl <| av (u8 c11) rfl rfl <| wnt <| ?_; refine W_draw [9] [(0, 0), (1, 0), (2, 0), (3, 0), (4, 0), (5, 0), (6, 0), (7, 0), (8, 0), (9, 1), (10, 0), (11, 0), (12, 2), (13, 0), (14, 0), (15, 2)] mixed (by kernel_rfl) (by kernel_rfl) (by kernel_rfl) (by kernel_rfl) ?_; have x12 := Ext.drew w9; replace o0_9 := o0_9.extL (Sc.stab _) x12 (Lift.ext x12 _); have e13 := hE9.trans x12; refine sv v1 rfl rfl s5_9 <| sv (i64 s4.2) rfl rfl s6_9 <| sv (i64 s8.2) rfl rfl rfl <| sa rfl rfl (q_addI rfl rfl rfl) <| sv v1 rfl rfl s5_9 <| sv (i64 s4.2) rfl rfl s6_9 <| sv (i64 s8.2) rfl rfl rfl <| sa rfl rfl (q_addI rfl rfl rfl) <| ?_; obtain ⟨c14, hc14, H8⟩ := bsi H8; refine sa rfl rfl (q_adr rfl T22 rfl rfl (o0_9.rd (Sc.stab _)) hc14) <| sq rfl rfl (q_loadS rfl T22 rfl (o0_9.rd (Sc.stab _)) hc14) <| sv (u8 c7) rfl rfl s7_9 <| sv (u8 c11) rfl rfl rfl <| ?_; obtain ⟨r15, hr15, H8⟩ := bsi H8; refine wss rfl rfl rfl (stp_call (vs := [(u8 c7), (u8 c11)]) Try.func32 rfl rfl rfl (ar2 rfl rfl) (ref02_Mul_calls c7 c11  r15 _  hr15) ?_); rintro _ w15 ⟨rfl, x15⟩; refine ⟨_, rfl, x15, ?_⟩; replace o0_9 := o0_9.extL (Sc.stab _) x15 (Lift.ext x15 _); have e16 := e13.trans x15; refine sa rfl rfl (q_xor8 rfl rfl rfl) <| sa rfl rfl (q_adr rfl T22 rfl rfl (o0_9.rd (Sc.stab _)) hc14) <| ?_; refine wsn rfl (by kernel_rfl) rfl rfl (stp_store (R := (Sc u8)) (u := (u8 ((c14 ^^^ r15)))) (Sc.stab _) [] [] rfl T22 rfl rfl o0_9 (put_of ((c14 ^^^ r15)) hc14) rfl rfl ?_); intro w17 o17 g17 l17; have e18 := e16.grown g17 n0_9; refine ws_nil ?_; refine bk_n <| W_th <| W_rg <| wa rfl (q_addI rfl s25_9 rfl) <| mv (i64 ((wI (s8.2 + 1)))) rfl rfl <| wl_nil <| ?_; obtain rfl := osi H8; exact ⟨_, rfl, s1_9, s5_9, s6_9, s7_9, s16_9, s17_9, s18_9, s23_9, s24_9, rfl, s49_9, e18, o17, n0_9⟩
        replace H8 := ifn hb10 H8; refine W_exit <| th_x <| ?_; obtain rfl := osi H8; obtain rfl := hr8 _ rfl; refine th_x <| bk_x <| ?_; exact ⟨s1_9, s5_9, s16_9, s17_9, s18_9, s49_9, hE9, o0_9, n0_9⟩
      rintro _ w20 ⟨s1_20, s5_20, s16_20, s17_20, s18_20, s49_20, hE20, o0_20, n0_20⟩; refine bk_n <| W_th <| W_rg <| wa rfl (q_addI rfl s18_20 rfl) <| mv (i64 ((wI (s4.2 + 1)))) rfl rfl <| wl_nil <| ?_; obtain rfl := osi H4; exact ⟨_, rfl, s1_20, s5_20, s16_20, s17_20, rfl, s49_20, hE20, o0_20, n0_20⟩
    replace H4 := ifn hb6 H4; refine W_exit <| th_x <| ?_; obtain rfl := osi H4; obtain rfl := hr4 _ rfl; refine th_x <| bk_x <| ?_; exact ⟨s5_5, s49_5, hE5, o0_5, n0_5⟩
  rintro _ w23 ⟨s5_23, s49_23, hE23, o0_23, n0_23⟩; refine W_th <| W_seq <| W_rg <| mv v1 rfl s5_23 <| ?_; obtain ⟨r24, hr24, H⟩ := bsi H; refine wls rfl rfl (stp_call (vs := [v1]) Try.func50 rfl rfl rfl (ar1 rfl) (ref03_Trim_calls x4 v1 r24 _ (o0_23.rd (Sc.stab _)) hr24) ?_); rintro _ w24 ⟨v24, rfl, x24, n24_0, o24_0⟩; refine ⟨_, rfl, ?_⟩; have o24 : OwK (Sc u8) w24 (v24 :: [v1]) 5 v24 r24 := OwK.scal o24_0 _; have q25 : Nq v1 v24 := o0_23.nq n24_0; replace o0_23 := o0_23.extL (Sc.stab _) x24 (Lift.call _ x24 n24_0); have n27 := Nw.ext hE23 n24_0; have e26 := hE23.trans x24; refine av v24 rfl rfl <| wnt <| W_ret <| ?_; obtain rfl := osi H; refine rt1 v24 rfl rfl rfl s49_23 ?_; exact ⟨v24, rfl, e26, n27, (o24.weak (Sc.stab _) (fun _ _ => trivial))⟩
noncomputable def ref03_Through (a0xs : List UInt8) (a1ys : List UInt8) : Option (List UInt8) :=
((makeL ((a0xs.length : Int)) (0 : UInt8)).bind fun c1 =>
((iterC (fun s4 : List UInt8 × Int =>
(if s4.2 < (a0xs.length : Int) then
((idx a1ys s4.2).bind fun c7 =>
((iterC (fun s10 : List UInt8 × Int =>
(if s10.2 < (a0xs.length : Int) then
(if s10.2 = s4.2 then some (.inl (s10.1, (wI (s10.2 + 1))))
else
((idx a0xs s4.2).bind fun c16 =>
((idx a0xs s10.2).bind fun c17 =>
((ref02_Inv (c16 ^^^ c17)).bind fun r18 =>
((idx a0xs s10.2).bind fun c20 =>
((ref02_Mul r18 c20).bind fun r21 =>
((ref03_Mul s10.1 ([r21, r18] : List UInt8)).bind fun r25 => some (.inl (r25, (wI (s10.2 + 1)))))))))))
else some (.inr s10.1))) (([c7] : List UInt8), 0)).bind fun x10 =>
((iterC (fun s29 : List UInt8 × Int =>
(if s29.2 < (x10.length : Int) then
((idx s29.1 s29.2).bind fun c34 =>
((idx x10 s29.2).bind fun c35 => some (.inl ((s29.1.set (s29.2 : Int).toNat ((c34 ^^^ c35))), (wI (s29.2 + 1))))))
else some (.inr s29.1))) (s4.1, 0)).bind fun x29 => some (.inl (x29, (wI (s4.2 + 1)))))))
else some (.inr s4.1))) (c1, 0)).bind fun x4 =>
((ref03_Trim x4).bind fun r44 => some r44)))
theorem ref03_Through_calls (a0xs : List UInt8) (a1ys : List UInt8) (p0 : Value) (p1 : Value) (r : List UInt8) (w0 : World) (hp0 : By w0 [] p0 a0xs) (hp1 : By w0 [] p1 a1ys) (H : ref03_Through a0xs a1ys = some r) :
    Calls Try.prog 31 [p0, p1].toArray w0 (fun e w' => ∃ u0 : Value, e = .returned u0 ∧ Ext w0 w' ∧ Nw w0 u0 ∧ OwK (Sc u8) w' [] 5 u0 r) := by
  have hE : Ext w0 w0 := Ext.refl w0; unfold ref03_Through at H; refine calls_W (n := 74) Try.func31 rfl rfl rfl ?_; refine W_seq <| W_rg <| av (.slice none 0 0) rfl rfl <| wnt <| W_seq <| W_rg <| mv p0 rfl rfl <| wa rfl (q_len rfl T22.sl rfl (hp0.lift (Lift.ext hE _))) <| ?_; obtain ⟨c1, hc1, H⟩ := bsi H; refine wls rfl rfl (stp_make (L := []) (R := (Sc u8)) rfl T22 rfl rfl hc1 (fun _ _ => rfl) ?_); intro v1 w1 o1 n1 g1 l1; have x1 := grown_ext g1; have n3 := Nw.ext hE n1; have e2 := hE.trans x1; refine av v1 rfl rfl <| wnt <| W_seq <| W_seq <| W_rg <| mv p0 rfl rfl <| wa rfl (q_len rfl T22.sl rfl (hp0.lift (Lift.ext e2 _))) <| mv (i64 0) rfl rfl <| ?_; refine wnt ?_; obtain ⟨x4, G4, H⟩ := bsi H; refine W_mid (fun f w => f 5 = v1 ∧ f 74 = undef ∧ Ext w0 w ∧ OwK (Sc u8) w [v1] 5 v1 x4 ∧ Nw w0 v1) ?_ ?_
  · refine W_block ?_; refine W_loop (fun s4 f w => f 0 = p0 ∧ f 1 = p1 ∧ f 5 = v1 ∧ f 15 = (i64 ((a0xs.length : Int))) ∧ f 16 = (i64 s4.2) ∧ f 74 = undef ∧ Ext w0 w ∧ OwK (Sc u8) w [v1] 5 v1 s4.1 ∧ Nw w0 v1) G4 ?_ ?_
    · exact ⟨rfl, rfl, rfl, rfl, rfl, rfl, e2, o1, n3⟩
    rintro s4 _ _ w5 ⟨s0_5, s1_5, s5_5, s15_5, s16_5, s74_5, hE5, o0_5, n0_5⟩ H4 hr4; refine W_seq <| W_rg <| wa rfl (q_ltI rfl s16_5 s15_5) <| wnt <| W_seq <| ?_; refine W_cond _ rfl rfl (fun hb6 => ?_) (fun hb6 => ?_)
    · replace H4 := ifp hb6 H4; refine W_skip <| W_th <| W_seq <| W_block <| W_seq <| W_rg <| mv (i64 s4.2) rfl s16_5 <| av (i64 s4.2) rfl rfl <| ?_; refine wnt <| W_seq <| W_rg <| mv p1 rfl s1_5 <| mv (i64 s4.2) rfl rfl <| ?_; obtain ⟨c7, hc7, H4⟩ := bsi H4; refine wa rfl (q_adr rfl T22 rfl rfl (hp1.lift (Lift.ext hE5 _)) hc7) <| wq rfl (q_loadS rfl T22 rfl (hp1.lift (Lift.ext hE5 _)) hc7) <| ?_; refine wls rfl rfl (stp_lit (L := [v1]) (R := (Sc u8)) [(u8 c7)] ([c7] : List UInt8) rfl T22 rfl (by exact ⟨rfl, rfl, trivial⟩) rfl (litC u8 (oneC_u8) (us := [(u8 c7)]) (l := ([c7] : List UInt8)) rfl) rfl (litS u8 (us := [(u8 c7)]) (l := ([c7] : List UInt8)) rfl) ?_); intro v8 w8 o8 n8 g8 l8; have x8 := grown_ext g8; have i8 : By w8 [v1] v8 (([c7] : List UInt8)) := OwK.slk (Sc.stab _) _ o8 (fun k hk => (Old.cons (Old.nil _) o0_5.lt) k (n8 k hk)) (fun _ h => h.2); replace o0_5 := o0_5.extL (Sc.stab _) x8 (Lift.ext x8 _); have e9 := hE5.trans x8; refine av v8 rfl rfl <| wnt <| W_seq <| W_seq <| W_rg <| mv p0 rfl s0_5 <| wa rfl (q_len rfl T22.sl rfl (hp0.lift (Lift.ext e9 _))) <| mv (i64 0) rfl rfl <| ?_; refine wnt ?_; obtain ⟨x10, G10, H4⟩ := bsi H4; refine W_mid (fun f w => ∃ v7_41 : Value, f 0 = p0 ∧ f 1 = p1 ∧ f 5 = v1 ∧ f 7 = v7_41 ∧ f 15 = (i64 ((a0xs.length : Int))) ∧ f 16 = (i64 s4.2) ∧ f 74 = undef ∧ Ext w0 w ∧ OwK (Sc u8) w [v1] 5 v1 s4.1 ∧ Nw w0 v1 ∧ By w [v1] v7_41 x10) ?_ ?_
      · refine W_block ?_; refine W_loop (fun s10 f w => ∃ v7_27 : Value, f 0 = p0 ∧ f 1 = p1 ∧ f 5 = v1 ∧ f 6 = (i64 s4.2) ∧ f 7 = v7_27 ∧ f 15 = (i64 ((a0xs.length : Int))) ∧ f 16 = (i64 s4.2) ∧ f 25 = (i64 ((a0xs.length : Int))) ∧ f 26 = (i64 s10.2) ∧ f 74 = undef ∧ Ext w0 w ∧ OwK (Sc u8) w [v1] 5 v1 s4.1 ∧ Nw w0 v1 ∧ By w [v1] v7_27 s10.1) G10 ?_ ?_
        · exact ⟨v8, s0_5, s1_5, s5_5, rfl, rfl, s15_5, s16_5, rfl, rfl, s74_5, e9, o0_5, n0_5, i8⟩
        rintro s10 _ _ w11 ⟨v7_11, s0_11, s1_11, s5_11, s6_11, s7_11, s15_11, s16_11, s25_11, s26_11, s74_11, hE11, o0_11, n0_11, i0_11⟩ H10 hr10; refine W_seq <| W_rg <| wa rfl (q_ltI rfl s26_11 s25_11) <| wnt <| W_seq <| ?_; refine W_cond _ rfl rfl (fun hb12 => ?_) (fun hb12 => ?_)
        · replace H10 := ifp hb12 H10; refine W_skip <| W_th <| W_seq <| W_block <| W_seq <| W_rg <| mv (i64 s10.2) rfl s26_11 <| av (i64 s10.2) rfl rfl <| ?_; refine wnt <| W_seq <| W_rg <| mv (i64 s10.2) rfl rfl <| mv (i64 s4.2) rfl s6_11 <| wa rfl (q_neI rfl rfl rfl) <| wnt <| ?_; refine W_cond _ rfl rfl (fun hb13 => ?_) (fun hb13 => ?_)
          · replace H10 := (if_neg (ndec_t hb13)).symm.trans H10; refine W_seq ?_; refine W_draw [3, 7] [(0, 0), (1, 0), (2, 0), (3, 1), (4, 0), (5, 0), (6, 0), (7, 1), (8, 0), (9, 2), (10, 0)] mixed (by kernel_rfl) (by kernel_rfl) (by kernel_rfl) (by kernel_rfl) ?_; have x14 := Ext.drew w11; replace i0_11 := i0_11.lift (Lift.ext x14 _); replace o0_11 := o0_11.extL (Sc.stab _) x14 (Lift.ext x14 _); have e15 := hE11.trans x14; refine sv p0 rfl rfl s0_11 <| sv (i64 s4.2) rfl rfl s6_11 <| ?_; obtain ⟨c16, hc16, H10⟩ := bsi H10; refine sa rfl rfl (q_adr rfl T22 rfl rfl (hp0.lift (Lift.ext e15 _)) hc16) <| sq rfl rfl (q_loadS rfl T22 rfl (hp0.lift (Lift.ext e15 _)) hc16) <| sv p0 rfl rfl s0_11 <| sv (i64 s10.2) rfl rfl rfl <| ?_; obtain ⟨c17, hc17, H10⟩ := bsi H10; refine sa rfl rfl (q_adr rfl T22 rfl rfl (hp0.lift (Lift.ext e15 _)) hc17) <| sq rfl rfl (q_loadS rfl T22 rfl (hp0.lift (Lift.ext e15 _)) hc17) <| sa rfl rfl (q_xor8 rfl rfl rfl) <| ?_; obtain ⟨r18, hr18, H10⟩ := bsi H10; refine wsc rfl (by kernel_rfl) rfl rfl (stp_call (vs := [(u8 ((c16 ^^^ c17)))]) Try.func48 rfl rfl rfl (ar1 rfl) (ref02_Inv_calls (c16 ^^^ c17)  r18 _  hr18) ?_); rintro _ w18 ⟨rfl, x18⟩; refine ⟨_, rfl, ?_⟩; replace i0_11 := i0_11.lift (Lift.ext x18 _); replace o0_11 := o0_11.extL (Sc.stab _) x18 (Lift.ext x18 _); have e19 := e15.trans x18; refine sa rfl rfl (q_assign (v := (u8 r18)) rfl rfl) ?_; refine ws_nil ?_; refine W_th <| W_rg <| mv v7_11 rfl s7_11 <| mv (u8 r18) rfl rfl <| mv p0 rfl s0_11 <| mv (i64 s10.2) rfl rfl <| ?_; obtain ⟨c20, hc20, H10⟩ := bsi H10; refine wa rfl (q_adr rfl T22 rfl rfl (hp0.lift (Lift.ext e19 _)) hc20) <| wq rfl (q_loadS rfl T22 rfl (hp0.lift (Lift.ext e19 _)) hc20) <| ?_; obtain ⟨r21, hr21, H10⟩ := bsi H10; refine wls rfl rfl (stp_call (vs := [(u8 r18), (u8 c20)]) Try.func32 rfl rfl rfl (ar2 rfl rfl) (ref02_Mul_calls r18 c20  r21 _  hr21) ?_); rintro _ w21 ⟨rfl, x21⟩; refine ⟨_, rfl, ?_⟩; replace i0_11 := i0_11.lift (Lift.ext x21 _); replace o0_11 := o0_11.extL (Sc.stab _) x21 (Lift.ext x21 _); have e22 := e19.trans x21; refine mv (u8 r18) rfl rfl ?_; refine wls rfl rfl (stp_lit (L := [v1]) (R := (Sc u8)) [(u8 r21), (u8 r18)] ([r21, r18] : List UInt8) rfl T22 rfl (by exact ⟨rfl, rfl, rfl, rfl, trivial⟩) rfl (litC u8 (oneC_u8) (us := [(u8 r21), (u8 r18)]) (l := ([r21, r18] : List UInt8)) rfl) rfl (litS u8 (us := [(u8 r21), (u8 r18)]) (l := ([r21, r18] : List UInt8)) rfl) ?_); intro v23 w23 o23 n23 g23 l23; have x23 := grown_ext g23; have i23 : By w23 [v1] v23 (([r21, r18] : List UInt8)) := OwK.slk (Sc.stab _) _ o23 (fun k hk => (Old.cons (Old.nil _) o0_11.lt) k (n23 k hk)) (fun _ h => h.2)
            replace i0_11 := i0_11.lift (Lift.ext x23 _); replace o0_11 := o0_11.extL (Sc.stab _) x23 (Lift.ext x23 _); have e24 := e22.trans x23; obtain ⟨r25, hr25, H10⟩ := bsi H10; refine wls rfl rfl (stp_call (vs := [v7_11, v23]) Try.func49 rfl rfl rfl (ar2 rfl rfl) (ref03_Mul_calls s10.1 ([r21, r18] : List UInt8) v7_11 v23 r25 _ (i0_11.lift (Lift.sub (L' := []) (fun _ _ => trivial))) (i23.lift (Lift.sub (L' := []) (fun _ _ => trivial))) hr25) ?_); rintro _ w25 ⟨v25, rfl, x25, n25_0, o25_0⟩; refine ⟨_, rfl, ?_⟩; have i25_0 : By w25 [v1] v25 r25 := OwK.slk (Sc.stab _) _ (OwK.scal o25_0 (v25 :: [v1])) (fun k hk => (Old.cons (Old.nil _) o0_11.lt) k (n25_0 k hk)) (fun _ h => h.2); replace i0_11 := i0_11.lift (Lift.ext x25 _); replace i23 := i23.lift (Lift.ext x25 _); replace o0_11 := o0_11.extL (Sc.stab _) x25 (Lift.ext x25 _); have e26 := e24.trans x25; refine av v25 rfl rfl <| wl_nil <| bk_n <| W_th <| W_rg <| wa rfl (q_addI rfl s26_11 rfl) <| mv (i64 ((wI (s10.2 + 1)))) rfl rfl <| wl_nil <| ?_; obtain rfl := osi H10; exact ⟨_, rfl, v25, s0_11, s1_11, s5_11, s6_11, rfl, s15_11, s16_11, s25_11, rfl, s74_11, e26, o0_11, n0_11, i25_0⟩
          replace H10 := (if_pos (ndec_f hb13)).symm.trans H10; refine W_skip <| bk_n <| W_th <| W_rg <| wa rfl (q_addI rfl s26_11 rfl) <| mv (i64 ((wI (s10.2 + 1)))) rfl rfl <| wl_nil <| ?_; obtain rfl := osi H10; exact ⟨_, rfl, v7_11, s0_11, s1_11, s5_11, s6_11, s7_11, s15_11, s16_11, s25_11, rfl, s74_11, hE11, o0_11, n0_11, i0_11⟩
        replace H10 := ifn hb12 H10; refine W_exit <| th_x <| ?_; obtain rfl := osi H10; obtain rfl := hr10 _ rfl; refine th_x <| bk_x <| ?_; exact ⟨v7_11, s0_11, s1_11, s5_11, s7_11, s15_11, s16_11, s74_11, hE11, o0_11, n0_11, i0_11⟩
      rintro _ w28 ⟨v7_28, s0_28, s1_28, s5_28, s7_28, s15_28, s16_28, s74_28, hE28, o0_28, n0_28, i0_28⟩; refine W_th <| W_seq <| W_rg <| mv v7_28 rfl s7_28 <| wa rfl (q_len rfl T22.sl rfl i0_28) <| mv (i64 0) rfl rfl <| wnt <| ?_; obtain ⟨x29, G29, H4⟩ := bsi H4; refine W_mid (fun f w => f 0 = p0 ∧ f 1 = p1 ∧ f 5 = v1 ∧ f 15 = (i64 ((a0xs.length : Int))) ∧ f 16 = (i64 s4.2) ∧ f 74 = undef ∧ Ext w0 w ∧ OwK (Sc u8) w [v1] 5 v1 x29 ∧ Nw w0 v1) ?_ ?_
      · refine W_block ?_; refine W_loop (fun s29 f w => f 0 = p0 ∧ f 1 = p1 ∧ f 5 = v1 ∧ f 7 = v7_28 ∧ f 15 = (i64 ((a0xs.length : Int))) ∧ f 16 = (i64 s4.2) ∧ f 54 = (i64 ((x10.length : Int))) ∧ f 55 = (i64 s29.2) ∧ f 74 = undef ∧ Ext w0 w ∧ OwK (Sc u8) w [v1] 5 v1 s29.1 ∧ Nw w0 v1 ∧ By w [v1] v7_28 x10) G29 ?_ ?_
        · exact ⟨s0_28, s1_28, s5_28, s7_28, s15_28, s16_28, rfl, rfl, s74_28, hE28, o0_28, n0_28, i0_28⟩
        rintro s29 _ _ w30 ⟨s0_30, s1_30, s5_30, s7_30, s15_30, s16_30, s54_30, s55_30, s74_30, hE30, o0_30, n0_30, i0_30⟩ H29 hr29; refine W_seq <| W_rg <| wa rfl (q_ltI rfl s55_30 s54_30) <| wnt <| W_seq <| ?_; refine W_cond _ rfl rfl (fun hb31 => ?_) (fun hb31 => ?_)
        · replace H29 := ifp hb31 H29; refine W_skip <| W_th <| W_seq <| W_block <| W_seq <| W_rg <| mv (i64 s29.2) rfl s55_30 <| av (i64 s29.2) rfl rfl <| ?_; refine wnt ?_; refine W_draw [5, 9] [(0, 0), (1, 0), (2, 0), (3, 0), (4, 0), (5, 1), (6, 0), (7, 0), (8, 0), (9, 1), (10, 0), (11, 0), (12, 2)] mixed (by kernel_rfl) (by kernel_rfl) (by kernel_rfl) (by kernel_rfl) ?_; have x32 := Ext.drew w30; replace i0_30 := i0_30.lift (Lift.ext x32 _); replace o0_30 := o0_30.extL (Sc.stab _) x32 (Lift.ext x32 _); have e33 := hE30.trans x32; refine sv v1 rfl rfl s5_30 <| sv (i64 s29.2) rfl rfl rfl <| sv v1 rfl rfl s5_30 <| sv (i64 s29.2) rfl rfl rfl <| ?_; obtain ⟨c34, hc34, H29⟩ := bsi H29; refine sa rfl rfl (q_adr rfl T22 rfl rfl (o0_30.rd (Sc.stab _)) hc34) <| sq rfl rfl (q_loadS rfl T22 rfl (o0_30.rd (Sc.stab _)) hc34) <| sv v7_28 rfl rfl s7_30 <| sv (i64 s29.2) rfl rfl rfl <| ?_; obtain ⟨c35, hc35, H29⟩ := bsi H29; refine sa rfl rfl (q_adr rfl T22 rfl rfl i0_30 hc35) <| sq rfl rfl (q_loadS rfl T22 rfl i0_30 hc35) <| sa rfl rfl (q_xor8 rfl rfl rfl) <| sa rfl rfl (q_adr rfl T22 rfl rfl (o0_30.rd (Sc.stab _)) hc34) <| ?_; refine wsn rfl (by kernel_rfl) rfl rfl (stp_store (R := (Sc u8)) (u := (u8 ((c34 ^^^ c35)))) (Sc.stab _) [] [] rfl T22 rfl rfl o0_30 (put_of ((c34 ^^^ c35)) hc34) rfl rfl ?_); intro w36 o36 g36 l36; replace i0_30 := i0_30.lift l36; have e37 := e33.grown g36 n0_30; refine ws_nil ?_; refine bk_n <| W_th <| W_rg <| wa rfl (q_addI rfl s55_30 rfl) <| mv (i64 ((wI (s29.2 + 1)))) rfl rfl <| wl_nil <| ?_; obtain rfl := osi H29; exact ⟨_, rfl, s0_30, s1_30, s5_30, s7_30, s15_30, s16_30, s54_30, rfl, s74_30, e37, o36, n0_30, i0_30⟩
        replace H29 := ifn hb31 H29; refine W_exit <| th_x <| ?_; obtain rfl := osi H29; obtain rfl := hr29 _ rfl; refine th_x <| bk_x <| ?_; exact ⟨s0_30, s1_30, s5_30, s15_30, s16_30, s74_30, hE30, o0_30, n0_30⟩
      rintro _ w39 ⟨s0_39, s1_39, s5_39, s15_39, s16_39, s74_39, hE39, o0_39, n0_39⟩; refine bk_n <| W_th <| W_rg <| wa rfl (q_addI rfl s16_39 rfl) <| mv (i64 ((wI (s4.2 + 1)))) rfl rfl <| wl_nil <| ?_; obtain rfl := osi H4; exact ⟨_, rfl, s0_39, s1_39, s5_39, s15_39, rfl, s74_39, hE39, o0_39, n0_39⟩
    replace H4 := ifn hb6 H4; refine W_exit <| th_x <| ?_; obtain rfl := osi H4; obtain rfl := hr4 _ rfl; refine th_x <| bk_x <| ?_; exact ⟨s5_5, s74_5, hE5, o0_5, n0_5⟩
  rintro _ w43 ⟨s5_43, s74_43, hE43, o0_43, n0_43⟩; refine W_th <| W_seq <| W_rg <| mv v1 rfl s5_43 <| ?_; obtain ⟨r44, hr44, H⟩ := bsi H; refine wls rfl rfl (stp_call (vs := [v1]) Try.func50 rfl rfl rfl (ar1 rfl) (ref03_Trim_calls x4 v1 r44 _ (o0_43.rd (Sc.stab _)) hr44) ?_); rintro _ w44 ⟨v44, rfl, x44, n44_0, o44_0⟩; refine ⟨_, rfl, ?_⟩; have o44 : OwK (Sc u8) w44 (v44 :: [v1]) 5 v44 r44 := OwK.scal o44_0 _; have q45 : Nq v1 v44 := o0_43.nq n44_0; replace o0_43 := o0_43.extL (Sc.stab _) x44 (Lift.call _ x44 n44_0); have n47 := Nw.ext hE43 n44_0; have e46 := hE43.trans x44; refine av v44 rfl rfl <| wnt <| W_ret <| ?_; obtain rfl := osi H; refine rt1 v44 rfl rfl rfl s74_43 ?_; exact ⟨v44, rfl, e46, n47, (o44.weak (Sc.stab _) (fun _ _ => trivial))⟩
end Gk

/- Printed by gen.py: for each Go function a pure function, and that the Go code comes to it. No condition beside the equation that says what the pure function gives. -/
namespace Gk
open Go Go.Proofs
end Gk

/- Rows that are owned with all that lies in them; matrices behind pointers. No condition. -/
namespace Gk
open Go Go.RowKit
def Apt (a b : Value) : Prop := ∀ k, oB a = some k → oB b ≠ some k
def OwD (w : World) (e1 e2 : TypeId) (G u : Value) (ls : List (List UInt8)) : Prop :=
  ∃ us : List Value, G = .tuple (u :: us).toArray ∧ Ow w e1 u us ∧ us.length = ls.length ∧ (∀ (i : Nat) (h : i < us.length) (h' : i < ls.length), OwK (Sc u8) w [] e2 us[i] ls[i]) ∧ (u :: us).Pairwise Apt
theorem hs_grp {u : Value} {us : List Value} {k : Nat} : Hs (.tuple (u :: us).toArray) k ↔ oB u = some k ∨ ∃ x ∈ us, oB x = some k := by
  constructor
  · intro h
    obtain ⟨x, hx, e⟩ := hs_tup h
    simp only [List.mem_cons] at hx
    rcases hx with rfl | hx
    · exact .inl e
    · exact .inr ⟨x, hx, e⟩
  · rintro (h | ⟨x, hx, h⟩)
    · exact .inr ⟨_, rfl, u, by simp, h⟩
    · exact .inr ⟨_, rfl, x, by simp [hx], h⟩
theorem OwK.ltO {α : Type} {R : World → List Value → Value → α → Prop} {w : World} {L : List Value} {e : TypeId} {v : Value} {l : List α} (h : OwK R w L e v l) {k : Nat} (hk : oB v = some k) : k < w.heap.size := h.lt k (.inl hk)
theorem OwD.lt {w : World} {e1 e2 : TypeId} {G u : Value} {ls : List (List UInt8)} (h : OwD w e1 e2 G u ls) : ∀ k, Hs G k → k < w.heap.size := by
  obtain ⟨us, rfl, h1, hl, h2, _⟩ := h
  intro k hk
  rcases hs_grp.1 hk with hk | ⟨x, hx, hk⟩
  · exact h1.lt k (.inl hk)
  · obtain ⟨i, hi, rfl⟩ := List.getElem_of_mem hx
    exact (h2 i hi (by omega)).ltO hk
theorem OwD.ltB {w : World} {e1 e2 : TypeId} {G u : Value} {ls : List (List UInt8)} (h : OwD w e1 e2 G u ls) : ∀ k, Hs G k → k < w.heap.size := h.lt
theorem OwD.ext {w w' : World} {e1 e2 : TypeId} {G u : Value} {ls : List (List UInt8)} (h : OwD w e1 e2 G u ls) (x : Ext w w') : OwD w' e1 e2 G u ls := by
  obtain ⟨us, hG, h1, hl, h2, h3⟩ := h
  exact ⟨us, hG, h1.ext x, hl, fun i a b => (h2 i a b).ext (Sc.stab _) x, h3⟩
theorem OwK.keptR {w w' : World} {row : Option Nat} {e : TypeId} {v : Value} {l : List UInt8} (h : OwK (Sc u8) w [] e v l) (hg : w.grownBy w' row) (hne : ∀ k, oB v = some k → row ≠ some k) : OwK (Sc u8) w' [] e v l := by
  obtain ⟨us, h1, h2, h3⟩ := h
  exact ⟨us, h1.kept hg hne, h2, h3⟩
theorem OwD.other {w w' : World} {e1 e2 : TypeId} {G u v : Value} {ls : List (List UInt8)} (h : OwD w e1 e2 G u ls) (hg : Gr w w' v) (hq : Nq G v) : OwD w' e1 e2 G u ls := by
  obtain ⟨us, rfl, h1, hl, h2, h3⟩ := h
  obtain ⟨row, hg, hr⟩ := hg
  refine ⟨us, rfl, h1.kept hg (fun k hk e => hq k (hs_grp.2 (.inl hk)) (hr k e)), hl, fun i a b => (h2 i a b).keptR hg (fun k hk e => hq k (hs_grp.2 (.inr ⟨_, List.getElem_mem a, hk⟩)) (hr k e)), h3⟩
theorem OwD.nq {w : World} {e1 e2 : TypeId} {G u v : Value} {ls : List (List UInt8)} (h : OwD w e1 e2 G u ls) (hn : Nw w v) : Nq G v := fun k hu hv => by
  have := h.lt k hu; have := hn k hv; omega
theorem OwD.nxt {w : World} {e1 e2 : TypeId} {G u v v' : Value} {ls : List (List UInt8)} (h : OwD w e1 e2 G u ls) (hq : Nq G v) (hn : Nx w v v') : Nq G v' := fun k hu hv => by
  rcases hn k hv with h1 | h1
  · exact hq k hu h1
  · have := h.lt k hu; omega
theorem OwD.rw {w : World} {e1 e2 : TypeId} {G u : Value} {ls : List (List UInt8)} (h : OwD w e1 e2 G u ls) (L : List Value) (ha : ∀ k, Hs G k → Av L k) : Rw w L u ls := by
  obtain ⟨us, rfl, h1, hl, h2, _⟩ := h
  refine ⟨us, h1.sl L (fun k hk => ?_), hl, fun i a b => ((h2 i a b).scal L).slk (Sc.stab _) L (fun k hk => ?_) (fun _ h => h)⟩
  · rcases h1 with ⟨p, rfl, _⟩ | ⟨g, cap, rfl, _⟩ <;> exact ha k (hs_grp.2 (.inl (hs_sl hk)))
  · obtain ⟨us', h4, _⟩ := h2 i a b
    refine ha k (hs_grp.2 (.inr ⟨_, List.getElem_mem a, ?_⟩))
    rcases h4 with ⟨p, e, _⟩ | ⟨g, cap, e, _⟩ <;> rw [e] at hk ⊢ <;> exact hs_sl hk
theorem OwD.rd {w : World} {e1 e2 : TypeId} {G u : Value} {ls : List (List UInt8)} (h : OwD w e1 e2 G u ls) : Rw w [] u ls := h.rw [] (fun _ _ => trivial)
def DAt (G : Value) (i : Nat) (x : Value) : Prop := ∃ u us, G = .tuple (u :: us).toArray ∧ us[i]? = some x
theorem tup_inj {a b : List Value} (h : (Value.tuple a.toArray) = .tuple b.toArray) : a = b := by
  have := Value.tuple.inj h
  exact congrArg Array.toList this
theorem OwD.row {w : World} {e1 e2 : TypeId} {G u x : Value} {ls : List (List UInt8)} {i : Nat} (h : OwD w e1 e2 G u ls) (hx : DAt G i x) : ∃ (h : i < ls.length), OwK (Sc u8) w [] e2 x ls[i] ∧ (∀ k, Hs x k → Hs G k) := by
  obtain ⟨us, rfl, h1, hl, h2, h3⟩ := h
  obtain ⟨u', us', e, hi⟩ := hx
  obtain ⟨rfl, rfl⟩ := List.cons.inj (tup_inj e)
  obtain ⟨hlt, rfl⟩ := List.getElem?_eq_some_iff.1 hi
  refine ⟨by omega, h2 i hlt (by omega), fun k hk => hs_grp.2 (.inr ⟨_, List.getElem_mem hlt, ?_⟩)⟩
  obtain ⟨us', h4, _⟩ := h2 i hlt (by omega)
  rcases h4 with ⟨p, e, _⟩ | ⟨g, cap, e, _⟩ <;> rw [e] at hk ⊢ <;> exact hs_sl hk
theorem OwD.rowrd {w : World} {e1 e2 : TypeId} {G u x : Value} {ls : List (List UInt8)} {i : Int} {r : List UInt8} (h : OwD w e1 e2 G u ls) (hx : DAt G i.toNat x) (hi : idx ls i = some r) : By w [] x r := by
  obtain ⟨hlt, ho, _⟩ := h.row hx
  obtain ⟨_, h2, rfl⟩ := idx_some.1 hi
  exact ho.rd (Sc.stab _)
theorem OwD.upd {w w' : World} {e1 e2 : TypeId} {G u x : Value} {ls : List (List UInt8)} {i : Nat} {r : List UInt8} {L : List Value} (h : OwD w e1 e2 G u ls) (hx : DAt G i x) (ho : OwK (Sc u8) w' L e2 x r) (hg : Gr w w' x) : OwD w' e1 e2 G u (ls.set i r) ∧ Gr w w' G := by
  have hrow := h.row hx
  obtain ⟨us, rfl, h1, hl, h2, h3⟩ := h
  obtain ⟨u', us', e, hi⟩ := hx
  obtain ⟨rfl, rfl⟩ := List.cons.inj (tup_inj e)
  obtain ⟨hlt, rfl⟩ := List.getElem?_eq_some_iff.1 hi
  obtain ⟨_, hor, hsub⟩ := hrow
  obtain ⟨row, hgr, hr⟩ := hg
  have hro : ∀ k, row = some k → oB us[i] = some k := fun k hk => by
    have h4 := hr k hk
    obtain ⟨us', h5, _⟩ := hor
    rcases h5 with ⟨p, e, _⟩ | ⟨g, cap, e, _⟩ <;> rw [e] at h4 ⊢ <;> exact hs_sl h4
  refine ⟨⟨us, rfl, h1.kept hgr (fun k hk e => ?_), by simpa using hl, fun j a b => ?_, h3⟩, ⟨row, hgr, fun k hk => hsub k (hr k hk)⟩⟩
  · exact (List.rel_of_pairwise_cons h3 (List.getElem_mem hlt)) k hk (hro k e)
  · have hj : j < ls.length := by simpa using b
    rw [List.getElem_set]
    by_cases hij : i = j
    · subst hij; rw [if_pos rfl]; exact ho
    · rw [if_neg hij]
      refine (h2 j a hj).keptR hgr (fun k hk e => ?_)
      have h4 := (List.pairwise_cons.1 h3).2
      rcases Nat.lt_or_gt_of_ne hij with h5 | h5
      · exact (List.pairwise_iff_getElem.1 h4 i j hlt a h5) k (hro k e) hk
      · exact (List.pairwise_iff_getElem.1 h4 j i a hlt h5) k hk (hro k e)
theorem OwD.relist {G G' x : Value} (hG : ∀ k, Hs G' k → Hs G k ∨ Hs x k) {v : Value} (h1 : Nq v G) (h2 : Nq v x) : Nq v G' := fun k hk h' => (hG k h').elim (h1 k hk) (h2 k hk)
theorem idv_eq {w : World} {L : List Value} {e : TypeId} {v : Value} {us : List Value} : OwK (Sc (fun x : Value => x)) w L e v us ↔ Ow w e v us := by
  constructor
  · rintro ⟨us', h, hl, he⟩
    have : us' = us := List.ext_getElem hl (fun i a b => he i a b)
    rw [← this]; exact h
  · intro h; exact ⟨us, h, rfl, fun _ _ _ => rfl⟩
theorem idv_stab : Stab (Sc (fun x : Value => x)) := Sc.stab _
section
variable {P : Program} {f : Nat → Value} {w : World} {o : Oper}
theorem loadD {x : Operand} {t e1 e2 : TypeId} {z : Value} {bytes : Nat} {i : Int} {G u : Value} {ls : List (List UInt8)} {r : List UInt8} (ho : o.op = .load e1 x) (T : TyS P t e1 z bytes) (hx : ev f x = adr u i.toNat) (h : OwD w e1 e2 G u ls) (hi : idx ls i = some r) :
    ∃ v, Qt P o f w v ∧ DAt G i.toNat v := by
  obtain ⟨us, rfl, h1, hl, h2, h3⟩ := h
  obtain ⟨h0, hlt, _⟩ := idx_some.1 hi
  have hid : idx us i = some (us[i.toNat]'(by omega)) := by unfold idx; rw [if_pos h0]; simp
  exact ⟨us[i.toNat]'(by omega), q_loadS (enc := fun x : Value => x) ho T hx ((idv_eq (L := []).2 h1).rd idv_stab) hid, u, us, rfl, by simp⟩
section
variable {ops : Array Oper} {K : (Nat → Value) → World → Prop} {rr : List Oper} {d : Nat}
end
section
variable {ops : Array Oper} {qs : List Nat} {K : (Nat → Value) → World → Prop} {rr : List (Nat × Nat)} {d j : Nat}
theorem wsq_loadD {x : Operand} {t e1 e2 : TypeId} {z : Value} {bytes : Nat} {i : Int} {G u : Value} {ls : List (List UInt8)} {r : List UInt8} (hj : ops[j]? = some o) (hw : wantF ops f o = true) (hd : o.dst = some d) (ho : o.op = .load e1 x) (T : TyS P t e1 z bytes) (hx : ev f x = adr u i.toNat) (h : OwD w e1 e2 G u ls) (hi : idx ls i = some r)
    (hk : ∀ v, DAt G i.toNat v → ws P ops qs K rr (upd f d v) w) : ws P ops qs K ((j, 1) :: rr) f w := by
  obtain ⟨v, h1, h2⟩ := loadD ho T hx h hi
  exact wsq hj hw hd h1 (hk v h2)
end
theorem stp_storeD (L1 L2 : List Value) {x y : Operand} {t e1 e2 : TypeId} {z v : Value} {bytes : Nat} {i k : Int} {G u : Value} {ls : List (List UInt8)} {r : List UInt8} {a c : UInt8} (ho : o.op = .store e2 x y) (T : TyS P t e2 z bytes) (hx : ev f x = adr v k.toNat) (hy : ev f y = u8 a)
    (h : OwD w e1 e2 G u ls) (hd : DAt G i.toNat v) (hi : idx ls i = some r) (hc : idx r k = some c)
    {K : Value → World → Prop} (hk : ∀ w', OwD w' e1 e2 G u (ls.set i.toNat (r.set k.toNat a)) → Gr w w' G → Lift w w' (L1 ++ G :: L2) (L1 ++ G :: L2) → K undef w') : Stp P o f w K := by
  obtain ⟨hlt, hor, _⟩ := h.row hd
  obtain ⟨_, _, rfl⟩ := idx_some.1 hi
  refine stp_store (R := Sc u8) (u := u8 a) (Sc.stab _) [] [] ho T hx hy (hor.scal _) (put_of a hc) rfl rfl ?_
  intro w' h' hg _
  obtain ⟨q1, q2⟩ := h.upd hd h' hg
  exact hk w' q1 q2 (Lift.own L1 L2 q2 (Nx.refl _ _))
end
end Gk

/- append of noughts (append(s, make(..)...)); slices.Grow on nothing; slices.Concat. No condition but the length. -/
namespace Gk
open Go Go.Proofs
section
variable {P : Program} {o : Oper} {f : Nat → Value} {w : World} {L : List Value}
end
end Gk

/- Cuts with three numbers; results that are read and not owned; rows that are put behind rows; rows that grow in their place. No condition. -/
namespace Gk
open Go Go.RowKit
section
variable {P : Program} {o : Oper} {f : Nat → Value} {w : World} {L : List Value}
theorem SlK.avail {α : Type} {enc : α → Value} {v : Value} {l : List α} (h : SlK (Sc enc) w [] v l) (L : List Value) (ha : ∀ k, Hs v k → Av L k) : SlK (Sc enc) w L v l := by
  obtain ⟨us, ⟨p, cap, rfl, hc, hne⟩, hl, he⟩ := h
  refine ⟨us, ⟨p, cap, rfl, hc, fun hn => ?_⟩, hl, he⟩
  obtain ⟨b, off, rfl, _, hr⟩ := hne hn
  refine ⟨b, off, rfl, ha b (.inl ?_), hr⟩
  have h1 : 0 < us.length := List.length_pos_iff.2 hn
  cases cap with
  | zero => omega
  | succ c => rfl
end
def Id1 (_ : World) (_ : List Value) (u x : Value) : Prop := u = x ∧ x.oneCell' = true
theorem id1_stab : Stab Id1 := fun _ _ _ _ _ _ _ h => h
theorem id1_own {w : World} {L : List Value} {e : TypeId} {v : Value} {us : List Value} (h : Ow w e v us) (h1 : ∀ x ∈ us, x.oneCell' = true) : OwK Id1 w L e v us := ⟨us, h, rfl, fun i a _ => ⟨rfl, h1 _ (List.getElem_mem a)⟩⟩
theorem id1_back {w : World} {L : List Value} {e : TypeId} {v : Value} {us : List Value} (h : OwK Id1 w L e v us) : Ow w e v us := by
  obtain ⟨us', h1, h2, h3⟩ := h
  have : us' = us := List.ext_getElem h2 (fun i a b => (h3 i a b).1)
  rw [← this]; exact h1
theorem id1_sl {w : World} {L : List Value} {v : Value} {us : List Value} (h : SlK (Sc (fun x : Value => x)) w L v us) (h1 : ∀ x ∈ us, x.oneCell' = true) : SlK Id1 w L v us := by
  obtain ⟨us', h2, h3, h4⟩ := h
  exact ⟨us', h2, h3, fun i a b => ⟨h4 i a b, h1 _ (List.getElem_mem b)⟩⟩
theorem ob_own {α : Type} {R : World → List Value → Value → α → Prop} {w : World} {L : List Value} {e : TypeId} {x : Value} {l : List α} (h : OwK R w L e x l) : ∀ k, Hs x k → oB x = some k := fun k hk => by
  obtain ⟨us', h5, _⟩ := h
  rcases h5 with ⟨p, rfl, _⟩ | ⟨g, cap, rfl, _⟩ <;> exact hs_sl hk
theorem ob_ow {w : World} {e : TypeId} {x : Value} {us : List Value} (h5 : Ow w e x us) : ∀ k, Hs x k → oB x = some k := fun k hk => by
  rcases h5 with ⟨p, rfl, _⟩ | ⟨g, cap, rfl, _⟩ <;> exact hs_sl hk
theorem hs_nilG {k : Nat} : ¬ Hs (.tuple #[.slice none 0 0]) k := fun h => by
  obtain ⟨x, hx, e⟩ := hs_tup h
  have hx : x ∈ [Value.slice none 0 0] := hx
  rw [List.mem_singleton.1 hx] at e; cases e
theorem nh_nilG {k : Nat} : ¬ Hs (.tuple #[.slice none 0 0]) k := hs_nilG
theorem nq_nilG (u : Value) : Nq u (.tuple #[.slice none 0 0]) := fun _ _ h => hs_nilG h
theorem nw_nilG (w : World) : Nw w (.tuple #[.slice none 0 0]) := fun _ h => absurd h hs_nilG
theorem OwD.nil (w : World) (e1 e2 : TypeId) : OwD w e1 e2 (.tuple #[.slice none 0 0]) (.slice none 0 0) [] := ⟨[], rfl, Ow.nil w e1, rfl, fun i h => absurd h (by simp), by simp⟩
theorem litV {w : World} {L : List Value} {e : TypeId} {x : Value} {xs : List UInt8} (h : OwK (Sc u8) w L e x xs) : ∀ u ∈ [x], u.cells = #[u] := fun u hu => by
  rw [List.mem_singleton.1 hu]
  obtain ⟨us, h1, _⟩ := h
  rcases h1 with ⟨p, rfl, _⟩ | ⟨g, cap, rfl, _⟩ <;> rfl
section
variable {P : Program} {f : Nat → Value} {w : World} {o : Oper}
theorem stp_appendD (L1 L2 : List Value) {Lx Lu : List Value} {s y : Operand} {t e1 e2 : TypeId} {z x q : Value} {bytes : Nat} {G u : Value} {ls r : List (List UInt8)} {xs : List UInt8} (ho : o.op = .call ⟨.builtin .append, #[s, y], #[t, t]⟩) (T : TyS P t e1 z bytes) (hs : ev f s = u) (hy : ev f y = q)
    (h : OwD w e1 e2 G u ls) (hq : SlK (Sc (fun x : Value => x)) w Lu q [x]) (hxo : OwK (Sc u8) w Lx e2 x xs) (hn : Nq x G) (hm : appL ls [xs] = some r)
    {K : Value → World → Prop} (hk : ∀ Gm G' u' w', OwD w' e1 e2 G' u' r → Gr w w' G → Nx w G Gm → (∀ k, Hs G' k → Hs Gm k ∨ Hs x k) → Lift w w' (L1 ++ G :: L2) (L1 ++ Gm :: L2) → K u' w') : Stp P o f w K := by
  have hlt := h.lt
  obtain ⟨us, rfl, h1, hl, h2, h3⟩ := h
  have hm2 : appL us [x] = some (us ++ [x]) := by
    obtain ⟨a1, _⟩ := appL_some.1 hm
    exact appL_some.2 ⟨by simp at a1 ⊢; omega, rfl⟩
  obtain ⟨hmm, rfl⟩ := appL_some.1 hm
  have hc : ∀ v ∈ us, v.oneCell' = true := fun v hv => by
    obtain ⟨i, hi, rfl⟩ := List.getElem_of_mem hv
    exact oc_own (h2 i hi (by omega))
  have hcx : x.oneCell' = true := oc_own hxo
  refine stp_append (R := Id1) id1_stab [] [] ho T hs hy (id1_own h1 hc) (id1_sl hq (fun v hv => by rw [List.mem_singleton.1 hv]; exact hcx)) (fun _ _ h => h) hm2 (fun w L u x h => by rw [h.1]; exact h.2) ?_
  intro u' w' hu' hg hnx _
  have hu' := id1_back hu'
  have hus := ob_ow h1
  have hxs := ob_own hxo
  have hgG : Gr w w' (.tuple (u :: us).toArray) := by
    obtain ⟨row, hgr, hr⟩ := hg
    exact ⟨row, hgr, fun k hk => hs_grp.2 (.inl (hus k (hr k hk)))⟩
  have hux : Apt u x := fun k hk1 hk2 => hn k (.inl hk2) (hs_grp.2 (.inl hk1))
  have hrx : ∀ v ∈ us, Apt v x := fun v hv k hk1 hk2 => hn k (.inl hk2) (hs_grp.2 (.inr ⟨v, hv, hk1⟩))
  have hNx : Nx w (.tuple (u :: us).toArray) (.tuple (u' :: us).toArray) := fun k hk => by
    rcases hs_grp.1 hk with hk | ⟨v, hv, hk⟩
    · rcases hnx k (.inl hk) with h4 | h4
      · exact .inl (hs_grp.2 (.inl (hus k h4)))
      · exact .inr h4
    · exact .inl (hs_grp.2 (.inr ⟨v, hv, hk⟩))
  obtain ⟨row, hgr, hr⟩ := hg
  have hro : ∀ k, row = some k → oB u = some k := fun k hk => hus k (hr k hk)
  refine hk (.tuple (u' :: us).toArray) (.tuple (u' :: (us ++ [x])).toArray) u' w' ⟨us ++ [x], rfl, hu', by simp [hl], fun j a b => ?_, ?_⟩ hgG hNx (fun k hk' => ?_) (Lift.own L1 L2 hgG hNx)
  · by_cases hj : j < us.length
    · rw [List.getElem_append_left hj, List.getElem_append_left (by omega)]
      exact (h2 j hj (by omega)).keptR hgr (fun k hk1 e => (List.rel_of_pairwise_cons h3 (List.getElem_mem hj)) k (hro k e) hk1)
    · have hj2 : j = us.length := by simp at a; omega
      subst hj2
      simp only [List.getElem_append_right (Nat.le_refl _), hl, Nat.sub_self, List.getElem_cons_zero]
      rw [List.getElem_append_right (by omega)]
      simp only [hl, Nat.sub_self, List.getElem_cons_zero]
      exact (hxo.scal []).keptR hgr (fun k hk1 e => hux k (hro k e) hk1)
  · rw [List.pairwise_cons] at h3 ⊢
    refine ⟨fun v hv k hk1 hk2 => ?_, ?_⟩
    · rcases hnx k (.inl hk1) with h4 | h4
      · have h5 := hus k h4
        rcases List.mem_append.1 hv with hv | hv
        · exact h3.1 v hv k h5 hk2
        · rw [List.mem_singleton.1 hv] at hk2; exact hux k h5 hk2
      · rcases List.mem_append.1 hv with hv | hv
        · have := hlt k (hs_grp.2 (.inr ⟨v, hv, hk2⟩)); omega
        · rw [List.mem_singleton.1 hv] at hk2
          have := hxo.lt k (.inl hk2); omega
    · rw [List.pairwise_append]
      refine ⟨h3.2, by simp, fun a ha b hb => ?_⟩
      rw [List.mem_singleton.1 hb]; exact hrx a ha
  · rcases hs_grp.1 hk' with hk2 | ⟨v, hv, hk2⟩
    · exact .inl (hs_grp.2 (.inl hk2))
    · rcases List.mem_append.1 hv with hv | hv
      · exact .inl (hs_grp.2 (.inr ⟨v, hv, hk2⟩))
      · rw [List.mem_singleton.1 hv] at hk2; exact .inr (.inl hk2)
end
end Gk

/- Printed by gen.py: for each Go function a pure function, and that the Go code comes to it. No condition beside the equation that says what the pure function gives. -/
namespace Gk
open Go Go.Proofs
noncomputable def mend_Radius (a0m : Int) (a1t : Int) : Option Int :=
(if a0m < a1t then some 0
else
((divI ((wI (a0m - a1t))) 2).bind fun c2 => some c2))
theorem mend_Radius_calls (a0m : Int) (a1t : Int) (r : Int) (w0 : World) (H : mend_Radius a0m a1t = some r) :
    Calls Try.prog 13 [(i64 a0m), (i64 a1t)].toArray w0 (fun e w' => e = .returned (i64 r) ∧ Ext w0 w') := by
  have hE : Ext w0 w0 := Ext.refl w0; unfold mend_Radius at H; refine calls_W (n := 12) Try.func13 rfl rfl rfl ?_; refine W_seq <| W_rg <| av (i64 0) rfl rfl <| wnt <| W_seq <| W_seq <| W_rg <| mv (i64 a0m) rfl rfl <| ?_; refine mv (i64 a1t) rfl rfl <| wa rfl (q_ltI rfl rfl rfl) <| wnt <| ?_; refine W_cond _ rfl rfl (fun hb1 => ?_) (fun hb1 => ?_)
  · replace H := ifp hb1 H; refine W_seq <| W_rg <| av (i64 0) rfl rfl <| wnt <| W_ret <| th_r <| ?_; obtain rfl := osi H; refine rt1 (i64 0) rfl rfl rfl rfl ?_; exact ⟨rfl, hE⟩
  replace H := ifn hb1 H; refine W_skip <| W_th <| W_seq <| W_rg <| mv (i64 a0m) rfl rfl <| mv (i64 a1t) rfl rfl <| wa rfl (q_subI rfl rfl rfl) <| ?_; obtain ⟨c2, hc2, H⟩ := bsi H; refine wa rfl (q_divI rfl rfl rfl hc2) <| av (i64 c2) rfl rfl <| wnt <| W_ret <| ?_; obtain rfl := osi H; refine rt1 (i64 c2) rfl rfl rfl rfl ?_; exact ⟨rfl, hE⟩
noncomputable def mend_check (a0f : Bool) (a1t : Int) (a2xs : List UInt8) (a3rows : Int) (a4e : Int) : Option Int :=
(if (!a0f) = true then some 1
else
(if (a2xs.length : Int) = a3rows then
(if a1t < 1 then some 2
else
(if 255 < a1t then some 2
else
(if a4e < 0 then some 2
else
(if (a2xs.length : Int) < a1t then some 5
else
((poly_Weights a0f a2xs (0 : UInt8)).bind fun r7 => some r7.2)))))
else some 1))
theorem mend_check_calls (a0f : Bool) (a1t : Int) (a2xs : List UInt8) (a3rows : Int) (a4e : Int) (p0 : Value) (p2 : Value) (r : Int) (w0 : World) (hp0 : Fd w0 [] p0 a0f) (hp2 : By w0 [] p2 a2xs) (H : mend_check a0f a1t a2xs a3rows a4e = some r) :
    Calls Try.prog 22 [p0, (i64 a1t), p2, (i64 a3rows), (i64 a4e)].toArray w0 (fun e w' => e = .returned (i64 r) ∧ Ext w0 w') := by
  have hE : Ext w0 w0 := Ext.refl w0; unfold mend_check at H; refine calls_W (n := 45) Try.func22 rfl rfl rfl ?_; refine W_seq <| W_rg <| av (i64 0) rfl rfl <| wnt <| W_seq <| W_block <| W_seq <| W_rg <| ?_; refine mv p0 rfl rfl <| wa rfl (q_eqF rfl rfl rfl rfl (hp0.lift (Lift.ext hE _))) <| ?_; refine wlb rfl rfl (q_move (v := (.bool ((!a0f)))) rfl rfl) (fun hb1 => ?_) (fun hb1 => ?_)
  · replace H := (if_pos hb1).symm.trans H; refine wlk rfl rfl <| wlk rfl rfl <| wlk rfl rfl <| wlk rfl rfl <| wa rfl (q_pick_t (v := (.bool true)) rfl rfl rfl) <| av (.bool true) rfl rfl <| wnt <| ?_; refine W_cond true rfl rfl (fun _ => ?_) (fun hb => by cases hb); refine W_seq <| W_rg <| av (i64 1) rfl rfl <| wnt <| W_ret <| bk_r <| th_r <| ?_; obtain rfl := osi H; refine rt1 (i64 1) rfl rfl rfl rfl ?_; exact ⟨rfl, hE⟩
  replace H := (if_neg (ne_true_of_eq_false hb1)).symm.trans H; refine mv p2 rfl rfl <| wa rfl (q_len rfl T22.sl rfl (hp2.lift (Lift.ext hE _))) <| mv (i64 a3rows) rfl rfl <| wa rfl (q_neI rfl rfl rfl) <| wa rfl (q_pick_f (v := (.bool ((!decide ((a2xs.length : Int) = a3rows))))) rfl rfl rfl) <| av (.bool ((!decide ((a2xs.length : Int) = a3rows)))) rfl rfl <| wnt <| ?_; refine W_cond _ rfl rfl (fun hb2 => ?_) (fun hb2 => ?_)
  · replace H := (if_neg (ndec_t hb2)).symm.trans H; refine W_seq <| W_rg <| av (i64 1) rfl rfl <| wnt <| W_ret <| bk_r <| th_r <| ?_; obtain rfl := osi H; refine rt1 (i64 1) rfl rfl rfl rfl ?_; exact ⟨rfl, hE⟩
  replace H := (if_pos (ndec_f hb2)).symm.trans H; refine W_seq <| W_rg <| mv (i64 a1t) rfl rfl <| wa rfl (q_ltI rfl rfl rfl) <| ?_; refine wlb rfl rfl (q_move (v := (.bool ((decide (a1t < 1))))) rfl rfl) (fun hb3 => ?_) (fun hb3 => ?_)
  · replace H := ifp hb3 H; refine wlk rfl rfl <| wlk rfl rfl <| wa rfl (q_pick_t (v := (.bool true)) rfl rfl rfl) <| mv (.bool true) rfl rfl <| wlk rfl rfl <| wlk rfl rfl <| wa rfl (q_pick_t (v := (.bool true)) rfl rfl rfl) <| av (.bool true) rfl rfl <| ?_; refine wnt ?_; refine W_cond true rfl rfl (fun _ => ?_) (fun hb => by cases hb); refine W_seq <| W_rg <| av (i64 2) rfl rfl <| wnt <| W_ret <| bk_r <| th_r <| ?_; obtain rfl := osi H; refine rt1 (i64 2) rfl rfl rfl rfl ?_; exact ⟨rfl, hE⟩
  replace H := ifn hb3 H; refine mv (i64 a1t) rfl rfl <| wa rfl (q_gtI rfl rfl rfl) <| wa rfl (q_pick_f (v := (.bool ((decide (255 < a1t))))) rfl rfl rfl) <| ?_; refine wlb rfl rfl (q_move (v := (.bool ((decide (255 < a1t))))) rfl rfl) (fun hb4 => ?_) (fun hb4 => ?_)
  · replace H := ifp hb4 H; refine wlk rfl rfl <| wlk rfl rfl <| wa rfl (q_pick_t (v := (.bool true)) rfl rfl rfl) <| av (.bool true) rfl rfl <| wnt <| ?_; refine W_cond true rfl rfl (fun _ => ?_) (fun hb => by cases hb); refine W_seq <| W_rg <| av (i64 2) rfl rfl <| wnt <| W_ret <| bk_r <| th_r <| ?_; obtain rfl := osi H; refine rt1 (i64 2) rfl rfl rfl rfl ?_; exact ⟨rfl, hE⟩
  replace H := ifn hb4 H; refine mv (i64 a4e) rfl rfl <| wa rfl (q_ltI rfl rfl rfl) <| wa rfl (q_pick_f (v := (.bool ((decide (a4e < 0))))) rfl rfl rfl) <| av (.bool ((decide (a4e < 0)))) rfl rfl <| wnt <| ?_; refine W_cond _ rfl rfl (fun hb5 => ?_) (fun hb5 => ?_)
  · replace H := ifp hb5 H; refine W_seq <| W_rg <| av (i64 2) rfl rfl <| wnt <| W_ret <| bk_r <| th_r <| ?_; obtain rfl := osi H; refine rt1 (i64 2) rfl rfl rfl rfl ?_; exact ⟨rfl, hE⟩
  replace H := ifn hb5 H; refine W_seq <| W_rg <| mv p2 rfl rfl <| wa rfl (q_len rfl T22.sl rfl (hp2.lift (Lift.ext hE _))) <| mv (i64 a1t) rfl rfl <| wa rfl (q_ltI rfl rfl rfl) <| av (.bool ((decide ((a2xs.length : Int) < a1t)))) rfl rfl <| wnt <| ?_; refine W_cond _ rfl rfl (fun hb6 => ?_) (fun hb6 => ?_)
  · replace H := ifp hb6 H; refine W_seq <| W_rg <| av (i64 5) rfl rfl <| wnt <| W_ret <| bk_r <| th_r <| ?_; obtain rfl := osi H; refine rt1 (i64 5) rfl rfl rfl rfl ?_; exact ⟨rfl, hE⟩
  replace H := ifn hb6 H; refine W_skip <| bk_n <| W_th <| W_seq <| W_rg <| mv p0 rfl rfl <| mv p2 rfl rfl <| ?_; obtain ⟨r7, hr7, H⟩ := bsi H; refine wls rfl rfl (stp_call (vs := [p0, p2, (u8 0)]) Try.func33 rfl rfl rfl (ar3 rfl rfl (by exact (cst8 (0 : UInt8) rfl))) (poly_Weights_calls a0f a2xs (0 : UInt8) p0 p2 r7 _ (hp0.lift (Lift.ext hE _)) (hp2.lift (Lift.ext hE _)) hr7) ?_); rintro _ w7 ⟨v7_0, rfl, x7, n7_0, o7_0⟩; refine ⟨_, rfl, ?_⟩; have i7_0 : By w7 [] v7_0 r7.1 := OwK.slk (Sc.stab _) _ (OwK.scal o7_0 (v7_0 :: [])) (fun k hk => (Old.nil _) k (n7_0 k hk)) (fun _ h => h.2); have e8 := hE.trans x7; refine mv (.tuple #[v7_0, (i64 r7.2)]) rfl rfl <| wa rfl (q_extract rfl rfl rfl) <| wa rfl (q_extract rfl rfl rfl) <| av v7_0 rfl rfl <| av (i64 r7.2) rfl rfl <| wnt <| W_seq <| W_rg <| ?_; refine mv (i64 r7.2) rfl rfl <| av (i64 r7.2) rfl rfl <| wnt <| W_ret <| ?_; obtain rfl := osi H; refine rt1 (i64 r7.2) rfl rfl rfl rfl ?_; exact ⟨rfl, e8⟩
noncomputable def mend_gao (a0f : Bool) (a1t : Int) (a2xs : List UInt8) (a3ys : List UInt8) : Option (List UInt8 × Bool) :=
((poly_Vanish a0f a2xs).bind fun r1 =>
((poly_Through a0f a2xs a3ys).bind fun r4 =>
((iterC (fun s10 : List UInt8 × List UInt8 × List UInt8 × List UInt8 =>
((poly_Degree s10.2.1).bind fun r12 =>
(if (wI ((a2xs.length : Int) + a1t)) ≤ (wI (2 * r12)) then
((poly_DivMod a0f s10.1 s10.2.1).bind fun r15 =>
(if r15.2.2 = 0 then
((poly_Mul a0f r15.1 s10.2.2.2).bind fun r20 =>
((poly_Add s10.2.2.1 r20.1).bind fun r23 => some (.inl (s10.2.1, r15.2.1, s10.2.2.2, r23))))
else some (.inr (.inr (([] : List UInt8), false)))))
else some (.inr (.inl (s10.2.1, s10.2.2.2)))))) (r1.1, r4.1, ([] : List UInt8), ([(1 : UInt8)] : List UInt8))).bind (Sum.elim (fun y10 =>
((poly_DivMod a0f y10.1 y10.2).bind fun r28 =>
(if r28.2.2 = 0 then
(if (r28.2.1.length : Int) = 0 then
((poly_Degree r28.1).bind fun r34 => some (r28.1, (decide (r34 < a1t))))
else some (r28.1, false))
else some (r28.1, false)))) (fun q10 => some q10)))))
theorem mend_gao_calls (a0f : Bool) (a1t : Int) (a2xs : List UInt8) (a3ys : List UInt8) (p0 : Value) (p2 : Value) (p3 : Value) (r : List UInt8 × Bool) (w0 : World) (hp0 : Fd w0 [] p0 a0f) (hp2 : By w0 [] p2 a2xs) (hp3 : By w0 [] p3 a3ys) (H : mend_gao a0f a1t a2xs a3ys = some r) :
    Calls Try.prog 43 [p0, (i64 a1t), p2, p3].toArray w0 (fun e w' => ∃ u0 : Value, e = .returned (.tuple #[u0, (.bool r.2)]) ∧ Ext w0 w' ∧ Nw w0 u0 ∧ By w' [] u0 r.1) := by
  have hE : Ext w0 w0 := Ext.refl w0; unfold mend_gao at H; refine calls_W (n := 91) Try.func43 rfl rfl rfl ?_; refine W_seq <| W_rg <| av (.slice none 0 0) rfl rfl <| av (.bool false) rfl rfl <| wnt <| W_seq <| W_rg <| mv p0 rfl rfl <| ?_; refine mv p2 rfl rfl ?_; obtain ⟨r1, hr1, H⟩ := bsi H; refine wls rfl rfl (stp_call (vs := [p0, p2]) Try.func61 rfl rfl rfl (ar2 rfl rfl) (poly_Vanish_calls a0f a2xs p0 p2 r1 _ (hp0.lift (Lift.ext hE _)) (hp2.lift (Lift.ext hE _)) hr1) ?_); rintro _ w1 ⟨v1_0, rfl, x1, n1_0, o1_0⟩; refine ⟨_, rfl, ?_⟩; have n2 := Nw.ext hE n1_0; have i1_0 : By w1 [] v1_0 r1.1 := OwK.slk (Sc.stab _) _ (OwK.scal o1_0 (v1_0 :: [])) (fun k hk => (Old.nil _) k (n1_0 k hk)) (fun _ h => h.2); have e3 := hE.trans x1; refine mv (.tuple #[v1_0, (i64 r1.2)]) rfl rfl <| wa rfl (q_extract rfl rfl rfl) <| wa rfl (q_extract rfl rfl rfl) <| av v1_0 rfl rfl <| av (i64 r1.2) rfl rfl <| wnt <| W_seq <| W_rg <| ?_; refine mv p0 rfl rfl <| mv p2 rfl rfl <| mv p3 rfl rfl <| ?_; obtain ⟨r4, hr4, H⟩ := bsi H; refine wls rfl rfl (stp_call (vs := [p0, p2, p3]) Try.func62 rfl rfl rfl (ar3 rfl rfl rfl) (poly_Through_calls a0f a2xs a3ys p0 p2 p3 r4 _ (hp0.lift (Lift.ext e3 _)) (hp2.lift (Lift.ext e3 _)) (hp3.lift (Lift.ext e3 _)) hr4) ?_); rintro _ w4 ⟨v4_0, rfl, x4, n4_0, o4_0⟩; refine ⟨_, rfl, ?_⟩; have n5 := Nw.ext e3 n4_0; have i4_0 : By w4 [] v4_0 r4.1 := OwK.slk (Sc.stab _) _ (OwK.scal o4_0 (v4_0 :: [])) (fun k hk => (Old.nil _) k (n4_0 k hk)) (fun _ h => h.2); replace i1_0 := i1_0.lift (Lift.ext x4 _); have e6 := e3.trans x4; refine mv (.tuple #[v4_0, (i64 r4.2)]) rfl rfl <| wa rfl (q_extract rfl rfl rfl) <| wa rfl (q_extract rfl rfl rfl) <| av v4_0 rfl rfl <| av (i64 r4.2) rfl rfl <| wnt <| W_seq <| W_rg <| ?_; refine wls rfl rfl (stp_lit (L := []) (R := (Sc u8)) [(u8 1)] ([(1 : UInt8)] : List UInt8) rfl T22 rfl (by exact ⟨rfl, (cst8 (1 : UInt8) rfl), trivial⟩) rfl (litC u8 (oneC_u8) (us := [(u8 1)]) (l := ([(1 : UInt8)] : List UInt8)) rfl) rfl (litS u8 (us := [(u8 1)]) (l := ([(1 : UInt8)] : List UInt8)) rfl) ?_); intro v7 w7 o7 n7 g7 l7; have x7 := grown_ext g7; have i7 : By w7 [] v7 (([(1 : UInt8)] : List UInt8)) := OwK.slk (Sc.stab _) _ o7 (fun k hk => (Old.nil _) k (n7 k hk)) (fun _ h => h.2); have n8 := Nw.ext e6 n7; replace i1_0 := i1_0.lift (Lift.ext x7 _)
  replace i4_0 := i4_0.lift (Lift.ext x7 _); have e9 := e6.trans x7; refine av (.slice none 0 0) rfl rfl <| av v7 rfl rfl <| wnt <| W_seq <| ?_; obtain ⟨x10, G10, H⟩ := bsi H; refine W_mid (fun f w => ∃ y10, x10 = .inl y10 ∧ ∃ v12_36 : Value, ∃ v15_36 : Value, f 0 = p0 ∧ f 1 = (i64 a1t) ∧ f 12 = v12_36 ∧ f 15 = v15_36 ∧ f 91 = undef ∧ Ext w0 w ∧ By w [] v12_36 y10.1 ∧ By w [] v15_36 y10.2) ?_ ?_
  · refine W_block ?_; refine W_loop (fun s10 f w => ∃ v10_26 : Value, ∃ v12_26 : Value, ∃ v14_26 : Value, ∃ v15_26 : Value, f 0 = p0 ∧ f 1 = (i64 a1t) ∧ f 2 = p2 ∧ f 10 = v10_26 ∧ f 12 = v12_26 ∧ f 14 = v14_26 ∧ f 15 = v15_26 ∧ f 91 = undef ∧ Ext w0 w ∧ By w [] v10_26 s10.1 ∧ By w [] v12_26 s10.2.1 ∧ By w [] v14_26 s10.2.2.1 ∧ By w [] v15_26 s10.2.2.2) G10 ?_ ?_
    · exact ⟨v1_0, v4_0, (.slice none 0 0), v7, rfl, rfl, rfl, rfl, rfl, rfl, rfl, rfl, e9, i1_0, i4_0, (SlK.nil _ _ _), i7⟩
    rintro s10 _ _ w11 ⟨v10_11, v12_11, v14_11, v15_11, s0_11, s1_11, s2_11, s10_11, s12_11, s14_11, s15_11, s91_11, hE11, i0_11, i1_11, i2_11, i3_11⟩ H10 hr10; refine W_seq <| W_seq <| W_rg <| mv v12_11 rfl s12_11 <| ?_; obtain ⟨r12, hr12, H10⟩ := bsi H10; refine wls rfl rfl (stp_call (vs := [v12_11]) Try.func63 rfl rfl rfl (ar1 rfl) (poly_Degree_calls s10.2.1 v12_11 r12 _ (i1_11.lift (Lift.sub (L' := []) (fun _ _ => trivial))) hr12) ?_); rintro _ w12 ⟨rfl, x12⟩; refine ⟨_, rfl, ?_⟩; replace i0_11 := i0_11.lift (Lift.ext x12 _); replace i1_11 := i1_11.lift (Lift.ext x12 _); replace i2_11 := i2_11.lift (Lift.ext x12 _); replace i3_11 := i3_11.lift (Lift.ext x12 _); have e13 := hE11.trans x12; refine wa rfl (q_mulI rfl rfl rfl) <| mv p2 rfl s2_11 <| wa rfl (q_len rfl T22.sl rfl (hp2.lift (Lift.ext e13 _))) <| mv (i64 a1t) rfl s1_11 <| wa rfl (q_addI rfl rfl rfl) <| wa rfl (q_geI rfl rfl rfl) <| wnt <| ?_; refine W_cond _ rfl rfl (fun hb14 => ?_) (fun hb14 => ?_)
    · replace H10 := ifp hb14 H10; refine W_skip <| W_th <| W_block <| W_seq <| W_rg <| mv p0 rfl s0_11 <| mv v10_11 rfl s10_11 <| mv v12_11 rfl s12_11 <| ?_; obtain ⟨r15, hr15, H10⟩ := bsi H10; refine wls rfl rfl (stp_call (vs := [p0, v10_11, v12_11]) Try.func64 rfl rfl rfl (ar3 rfl rfl rfl) (poly_DivMod_calls a0f s10.1 s10.2.1 p0 v10_11 v12_11 r15 _ (hp0.lift (Lift.ext e13 _)) (i0_11.lift (Lift.sub (L' := []) (fun _ _ => trivial))) (i1_11.lift (Lift.sub (L' := []) (fun _ _ => trivial))) hr15) ?_); rintro _ w15 ⟨v15_0, v15_1, rfl, x15, n15_0, o15_0, n15_1, o15_1⟩; refine ⟨_, rfl, ?_⟩; have n16 := Nw.ext e13 n15_0; have i15_0 : By w15 [] v15_0 r15.1 := OwK.slk (Sc.stab _) _ (OwK.scal o15_0 (v15_0 :: [])) (fun k hk => (Old.nil _) k (n15_0 k hk)) (fun _ h => h.2); have n17 := Nw.ext e13 n15_1; have i15_1 : By w15 [] v15_1 r15.2.1 := OwK.slk (Sc.stab _) _ (OwK.scal o15_1 (v15_1 :: [])) (fun k hk => (Old.nil _) k (n15_1 k hk)) (fun _ h => h.2); replace i0_11 := i0_11.lift (Lift.ext x15 _); replace i1_11 := i1_11.lift (Lift.ext x15 _); replace i2_11 := i2_11.lift (Lift.ext x15 _); replace i3_11 := i3_11.lift (Lift.ext x15 _); have e18 := e13.trans x15; refine mv (.tuple #[v15_0, v15_1, (i64 r15.2.2)]) rfl rfl <| wa rfl (q_extract rfl rfl rfl) <| wa rfl (q_extract rfl rfl rfl) <| wa rfl (q_extract rfl rfl rfl) <| av v15_0 rfl rfl <| av v15_1 rfl rfl <| av (i64 r15.2.2) rfl rfl <| wnt <| ?_; refine W_seq <| W_seq <| W_rg <| mv (i64 r15.2.2) rfl rfl <| wa rfl (q_neI rfl rfl rfl) <| wnt <| ?_; refine W_cond _ rfl rfl (fun hb19 => ?_) (fun hb19 => ?_)
      · replace H10 := (if_neg (ndec_t hb19)).symm.trans H10; refine W_seq <| W_rg <| av (.slice none 0 0) rfl rfl <| av (.bool false) rfl rfl <| wnt <| W_ret <| th_r <| bk_r <| ?_; obtain rfl := osi H10; obtain rfl := hr10 _ rfl; simp only [Sum.elim_inr] at H; refine th_r <| bk_r <| th_r <| th_r <| ?_; obtain rfl := osi H; refine rt2 (.slice none 0 0) (.bool false) rfl rfl rfl rfl rfl s91_11 ?_; exact ⟨(.slice none 0 0), rfl, e18, Nw.nil _, (SlK.nil _ _ _)⟩
      replace H10 := (if_pos (ndec_f hb19)).symm.trans H10; refine W_skip <| W_th <| W_seq <| W_rg <| mv p0 rfl s0_11 <| mv v15_0 rfl rfl <| mv v15_11 rfl s15_11 <| ?_; obtain ⟨r20, hr20, H10⟩ := bsi H10; refine wls rfl rfl (stp_call (vs := [p0, v15_0, v15_11]) Try.func65 rfl rfl rfl (ar3 rfl rfl rfl) (poly_Mul_calls a0f r15.1 s10.2.2.2 p0 v15_0 v15_11 r20 _ (hp0.lift (Lift.ext e18 _)) (i15_0.lift (Lift.sub (L' := []) (fun _ _ => trivial))) (i3_11.lift (Lift.sub (L' := []) (fun _ _ => trivial))) hr20) ?_); rintro _ w20 ⟨v20_0, rfl, x20, n20_0, o20_0⟩; refine ⟨_, rfl, ?_⟩; have n21 := Nw.ext e18 n20_0; have i20_0 : By w20 [] v20_0 r20.1 := OwK.slk (Sc.stab _) _ (OwK.scal o20_0 (v20_0 :: [])) (fun k hk => (Old.nil _) k (n20_0 k hk)) (fun _ h => h.2); replace i0_11 := i0_11.lift (Lift.ext x20 _); replace i1_11 := i1_11.lift (Lift.ext x20 _); replace i2_11 := i2_11.lift (Lift.ext x20 _); replace i3_11 := i3_11.lift (Lift.ext x20 _); replace i15_0 := i15_0.lift (Lift.ext x20 _); replace i15_1 := i15_1.lift (Lift.ext x20 _); have e22 := e18.trans x20; refine mv (.tuple #[v20_0, (i64 r20.2)]) rfl rfl <| wa rfl (q_extract rfl rfl rfl) <| wa rfl (q_extract rfl rfl rfl) <| av v20_0 rfl rfl <| av (i64 r20.2) rfl rfl <| wnt <| W_rg <| mv v12_11 rfl s12_11 <| ?_; refine mv v15_1 rfl rfl <| mv v15_11 rfl s15_11 <| mv v14_11 rfl s14_11 <| mv v20_0 rfl rfl <| ?_; obtain ⟨r23, hr23, H10⟩ := bsi H10; refine wls rfl rfl (stp_call (vs := [v14_11, v20_0]) Try.func66 rfl rfl rfl (ar2 rfl rfl) (poly_Add_calls s10.2.2.1 r20.1 v14_11 v20_0 r23 _ (i2_11.lift (Lift.sub (L' := []) (fun _ _ => trivial))) (i20_0.lift (Lift.sub (L' := []) (fun _ _ => trivial))) hr23) ?_); rintro _ w23 ⟨v23, rfl, x23, n23_0, o23_0⟩; refine ⟨_, rfl, ?_⟩; have n24 := Nw.ext e22 n23_0; have i23_0 : By w23 [] v23 r23 := OwK.slk (Sc.stab _) _ (OwK.scal o23_0 (v23 :: [])) (fun k hk => (Old.nil _) k (n23_0 k hk)) (fun _ h => h.2); replace i0_11 := i0_11.lift (Lift.ext x23 _); replace i1_11 := i1_11.lift (Lift.ext x23 _); replace i2_11 := i2_11.lift (Lift.ext x23 _); replace i3_11 := i3_11.lift (Lift.ext x23 _); replace i15_0 := i15_0.lift (Lift.ext x23 _); replace i15_1 := i15_1.lift (Lift.ext x23 _); replace i20_0 := i20_0.lift (Lift.ext x23 _); have e25 := e22.trans x23; refine av v12_11 rfl rfl <| av v15_1 rfl rfl <| av v15_11 rfl rfl <| av v23 rfl rfl <| wl_nil <| bk_n <| ?_
      obtain rfl := osi H10; exact ⟨_, rfl, v12_11, v15_1, v15_11, v23, s0_11, s1_11, s2_11, rfl, rfl, rfl, rfl, s91_11, e25, i1_11, i15_1, i3_11, i23_0⟩
    replace H10 := ifn hb14 H10; refine W_exit <| th_x <| ?_; obtain rfl := osi H10; obtain rfl := hr10 _ rfl; refine th_x <| bk_x <| ?_; exact ⟨_, rfl, v12_11, v15_11, s0_11, s1_11, s12_11, s15_11, s91_11, e13, i1_11, i3_11⟩
  rintro _ w27 ⟨y10, rfl, v12_27, v15_27, s0_27, s1_27, s12_27, s15_27, s91_27, hE27, i0_27, i1_27⟩; simp only [Sum.elim_inl] at H; refine W_th <| W_seq <| W_rg <| mv p0 rfl s0_27 <| mv v12_27 rfl s12_27 <| mv v15_27 rfl s15_27 <| ?_; obtain ⟨r28, hr28, H⟩ := bsi H; refine wls rfl rfl (stp_call (vs := [p0, v12_27, v15_27]) Try.func64 rfl rfl rfl (ar3 rfl rfl rfl) (poly_DivMod_calls a0f y10.1 y10.2 p0 v12_27 v15_27 r28 _ (hp0.lift (Lift.ext hE27 _)) (i0_27.lift (Lift.sub (L' := []) (fun _ _ => trivial))) (i1_27.lift (Lift.sub (L' := []) (fun _ _ => trivial))) hr28) ?_); rintro _ w28 ⟨v28_0, v28_1, rfl, x28, n28_0, o28_0, n28_1, o28_1⟩; refine ⟨_, rfl, ?_⟩; have n29 := Nw.ext hE27 n28_0; have i28_0 : By w28 [] v28_0 r28.1 := OwK.slk (Sc.stab _) _ (OwK.scal o28_0 (v28_0 :: [])) (fun k hk => (Old.nil _) k (n28_0 k hk)) (fun _ h => h.2); have n30 := Nw.ext hE27 n28_1; have i28_1 : By w28 [] v28_1 r28.2.1 := OwK.slk (Sc.stab _) _ (OwK.scal o28_1 (v28_1 :: [])) (fun k hk => (Old.nil _) k (n28_1 k hk)) (fun _ h => h.2); replace i0_27 := i0_27.lift (Lift.ext x28 _); replace i1_27 := i1_27.lift (Lift.ext x28 _); have e31 := hE27.trans x28; refine mv (.tuple #[v28_0, v28_1, (i64 r28.2.2)]) rfl rfl <| wa rfl (q_extract rfl rfl rfl) <| wa rfl (q_extract rfl rfl rfl) <| wa rfl (q_extract rfl rfl rfl) <| av v28_0 rfl rfl <| av v28_1 rfl rfl <| av (i64 r28.2.2) rfl rfl <| wnt <| ?_; refine W_seq <| W_rg <| mv v28_0 rfl rfl <| mv (i64 r28.2.2) rfl rfl <| wa rfl (q_eqI rfl rfl rfl) <| ?_; refine wlb rfl rfl (q_move (v := (.bool ((decide (r28.2.2 = 0))))) rfl rfl) (fun hb32 => ?_) (fun hb32 => ?_)
  · replace H := ifp hb32 H; refine mv v28_1 rfl rfl <| wa rfl (q_len rfl T22.sl rfl i28_1) <| wa rfl (q_eqI rfl rfl rfl) <| wa rfl (q_pick_t (v := (.bool ((decide ((r28.2.1.length : Int) = 0))))) rfl rfl rfl) <| ?_; refine wlb rfl rfl (q_move (v := (.bool ((decide ((r28.2.1.length : Int) = 0))))) rfl rfl) (fun hb33 => ?_) (fun hb33 => ?_)
    · replace H := ifp hb33 H; refine mv v28_0 rfl rfl ?_; obtain ⟨r34, hr34, H⟩ := bsi H; refine wls rfl rfl (stp_call (vs := [v28_0]) Try.func63 rfl rfl rfl (ar1 rfl) (poly_Degree_calls r28.1 v28_0 r34 _ (i28_0.lift (Lift.sub (L' := []) (fun _ _ => trivial))) hr34) ?_); rintro _ w34 ⟨rfl, x34⟩; refine ⟨_, rfl, ?_⟩; replace i0_27 := i0_27.lift (Lift.ext x34 _); replace i1_27 := i1_27.lift (Lift.ext x34 _); replace i28_0 := i28_0.lift (Lift.ext x34 _); replace i28_1 := i28_1.lift (Lift.ext x34 _); have e35 := e31.trans x34; refine mv (i64 a1t) rfl s1_27 <| wa rfl (q_ltI rfl rfl rfl) <| wa rfl (q_pick_t (v := (.bool ((decide (r34 < a1t))))) rfl rfl rfl) <| av v28_0 rfl rfl <| av (.bool ((decide (r34 < a1t)))) rfl rfl <| wnt <| W_ret <| ?_; obtain rfl := osi H; refine rt2 v28_0 (.bool ((decide (r34 < a1t)))) rfl rfl rfl rfl rfl s91_27 ?_; exact ⟨v28_0, rfl, e35, n29, (i28_0.lift (Lift.sub (L' := []) (fun _ _ => trivial)))⟩
    replace H := ifn hb33 H; refine wlk rfl rfl <| wlk rfl rfl <| wlk rfl rfl <| wlk rfl rfl <| wa rfl (q_pick_f (v := (.bool false)) rfl rfl rfl) <| av v28_0 rfl rfl <| av (.bool false) rfl rfl <| wnt <| ?_; refine W_ret ?_; obtain rfl := osi H; refine rt2 v28_0 (.bool false) rfl rfl rfl rfl rfl s91_27 ?_; exact ⟨v28_0, rfl, e31, n29, (i28_0.lift (Lift.sub (L' := []) (fun _ _ => trivial)))⟩
  replace H := ifn hb32 H; refine wlk rfl rfl <| wlk rfl rfl <| wlk rfl rfl <| wa rfl (q_pick_f (v := (.bool false)) rfl rfl rfl) <| mv (.bool false) rfl rfl <| wlk rfl rfl <| wlk rfl rfl <| wlk rfl rfl <| ?_; refine wlk rfl rfl <| wa rfl (q_pick_f (v := (.bool false)) rfl rfl rfl) <| av v28_0 rfl rfl <| av (.bool false) rfl rfl <| wnt <| W_ret <| ?_; obtain rfl := osi H; refine rt2 v28_0 (.bool false) rfl rfl rfl rfl rfl s91_27 ?_; exact ⟨v28_0, rfl, e31, n29, (i28_0.lift (Lift.sub (L' := []) (fun _ _ => trivial)))⟩
noncomputable def mend_wrong (a0f : Bool) (a1p : List UInt8) (a2xs : List UInt8) (a3ys : List UInt8) : Option Int :=
((iterC (fun s1 : Int × Int =>
(if s1.2 < (a2xs.length : Int) then
((idx a2xs s1.2).bind fun c4 =>
((idx a3ys s1.2).bind fun c7 =>
((poly_Eval a0f a1p c4).bind fun r8 =>
(if r8 = c7 then some (.inl (s1.1, (wI (s1.2 + 1))))
else some (.inl ((wI (s1.1 + 1)), (wI (s1.2 + 1))))))))
else some (.inr s1.1))) (0, 0)).bind fun x1 => some x1)
theorem mend_wrong_calls (a0f : Bool) (a1p : List UInt8) (a2xs : List UInt8) (a3ys : List UInt8) (p0 : Value) (p1 : Value) (p2 : Value) (p3 : Value) (r : Int) (w0 : World) (hp0 : Fd w0 [] p0 a0f) (hp1 : By w0 [] p1 a1p) (hp2 : By w0 [] p2 a2xs) (hp3 : By w0 [] p3 a3ys) (H : mend_wrong a0f a1p a2xs a3ys = some r) :
    Calls Try.prog 44 [p0, p1, p2, p3].toArray w0 (fun e w' => e = .returned (i64 r) ∧ Ext w0 w') := by
  have hE : Ext w0 w0 := Ext.refl w0; unfold mend_wrong at H; refine calls_W (n := 32) Try.func44 rfl rfl rfl ?_; refine W_seq <| W_rg <| av (i64 0) rfl rfl <| wnt <| W_seq <| W_rg <| av (i64 0) rfl rfl <| wnt <| ?_; refine W_seq <| W_seq <| W_rg <| mv p2 rfl rfl <| wa rfl (q_len rfl T22.sl rfl (hp2.lift (Lift.ext hE _))) <| mv (i64 0) rfl rfl <| wnt <| ?_; obtain ⟨x1, G1, H⟩ := bsi H; refine W_mid (fun f w => f 9 = (i64 x1) ∧ f 32 = undef ∧ Ext w0 w) ?_ ?_
  · refine W_block ?_; refine W_loop (fun s1 f w => f 0 = p0 ∧ f 1 = p1 ∧ f 3 = p3 ∧ f 9 = (i64 s1.1) ∧ f 12 = p2 ∧ f 13 = (i64 ((a2xs.length : Int))) ∧ f 14 = (i64 s1.2) ∧ f 32 = undef ∧ Ext w0 w) G1 ?_ ?_
    · exact ⟨rfl, rfl, rfl, rfl, rfl, rfl, rfl, rfl, hE⟩
    rintro s1 _ _ w2 ⟨s0_2, s1_2, s3_2, s9_2, s12_2, s13_2, s14_2, s32_2, hE2⟩ H1 hr1; refine W_seq <| W_rg <| wa rfl (q_ltI rfl s14_2 s13_2) <| wnt <| W_seq <| ?_; refine W_cond _ rfl rfl (fun hb3 => ?_) (fun hb3 => ?_)
    · replace H1 := ifp hb3 H1; refine W_skip <| W_th <| W_seq <| W_block <| W_seq <| W_rg <| mv (i64 s1.2) rfl s14_2 <| ?_; obtain ⟨c4, hc4, H1⟩ := bsi H1; refine wa rfl (q_adr rfl T22 s12_2 s14_2 (hp2.lift (Lift.ext hE2 _)) hc4) <| wq rfl (q_loadS rfl T22 rfl (hp2.lift (Lift.ext hE2 _)) hc4) <| av (i64 s1.2) rfl rfl <| av (u8 c4) rfl rfl <| wnt <| W_seq <| ?_; refine W_draw [7] [(0, 0), (1, 0), (2, 0), (4, 0), (5, 0), (6, 0), (7, 1), (3, 2), (8, 0)] mixed (by kernel_rfl) (by kernel_rfl) (by kernel_rfl) (by kernel_rfl) ?_; have x5 := Ext.drew w2; have e6 := hE2.trans x5; refine sv p0 rfl rfl s0_2 <| sv p1 rfl rfl s1_2 <| sv (u8 c4) rfl rfl rfl <| sv p3 rfl rfl s3_2 <| sv (i64 s1.2) rfl rfl rfl <| ?_; obtain ⟨c7, hc7, H1⟩ := bsi H1; refine sa rfl rfl (q_adr rfl T22 rfl rfl (hp3.lift (Lift.ext e6 _)) hc7) <| sq rfl rfl (q_loadS rfl T22 rfl (hp3.lift (Lift.ext e6 _)) hc7) <| ?_; obtain ⟨r8, hr8, H1⟩ := bsi H1; refine wss rfl rfl rfl (stp_call (vs := [p0, p1, (u8 c4)]) Try.func28 rfl rfl rfl (ar3 rfl rfl rfl) (poly_Eval_calls a0f a1p c4 p0 p1 r8 _ (hp0.lift (Lift.ext e6 _)) (hp1.lift (Lift.ext e6 _)) hr8) ?_); rintro _ w8 ⟨rfl, x8⟩; refine ⟨_, rfl, x8, ?_⟩; have e9 := e6.trans x8; refine sa rfl rfl (q_ne8 rfl rfl rfl) ?_; refine ws_nil ?_; refine W_th ?_; refine W_cond _ rfl rfl (fun hb10 => ?_) (fun hb10 => ?_)
      · replace H1 := (if_neg (ndec_t hb10)).symm.trans H1; refine W_rg <| mv (i64 s1.1) rfl s9_2 <| wa rfl (q_addI rfl rfl rfl) <| av (i64 ((wI (s1.1 + 1)))) rfl rfl <| wl_nil <| bk_n <| W_th <| W_rg <| ?_; refine wa rfl (q_addI rfl s14_2 rfl) <| mv (i64 ((wI (s1.2 + 1)))) rfl rfl <| wl_nil <| ?_; obtain rfl := osi H1; exact ⟨_, rfl, s0_2, s1_2, s3_2, rfl, s12_2, s13_2, rfl, s32_2, e9⟩
      replace H1 := (if_pos (ndec_f hb10)).symm.trans H1; refine W_skip <| bk_n <| W_th <| W_rg <| wa rfl (q_addI rfl s14_2 rfl) <| mv (i64 ((wI (s1.2 + 1)))) rfl rfl <| wl_nil <| ?_; obtain rfl := osi H1; exact ⟨_, rfl, s0_2, s1_2, s3_2, s9_2, s12_2, s13_2, rfl, s32_2, e9⟩
    replace H1 := ifn hb3 H1; refine W_exit <| th_x <| ?_; obtain rfl := osi H1; obtain rfl := hr1 _ rfl; refine th_x <| bk_x <| ?_; exact ⟨s9_2, s32_2, hE2⟩
  rintro _ w12 ⟨s9_12, s32_12, hE12⟩; refine W_th <| W_seq <| W_rg <| mv (i64 x1) rfl s9_12 <| av (i64 x1) rfl rfl <| wnt <| W_ret <| ?_; obtain rfl := osi H; refine rt1 (i64 x1) rfl rfl rfl s32_12 ?_; exact ⟨rfl, hE12⟩
noncomputable def mend_column (a0f : Bool) (a1t : Int) (a2xs : List UInt8) (a3ys : List UInt8) (a4e : Int) : Option (List UInt8 × Int) :=
((mend_gao a0f a1t a2xs a3ys).bind fun r1 =>
(if (!r1.2) = true then some (([] : List UInt8), 11)
else
((mend_wrong a0f r1.1 a2xs a3ys).bind fun r5 =>
((mend_Radius (a2xs.length : Int) a1t).bind fun r7 =>
(if (if r7 < a4e then r7 else a4e) < r5 then some (([] : List UInt8), 11)
else some (r1.1, 0))))))
theorem mend_column_calls (a0f : Bool) (a1t : Int) (a2xs : List UInt8) (a3ys : List UInt8) (a4e : Int) (p0 : Value) (p2 : Value) (p3 : Value) (r : List UInt8 × Int) (w0 : World) (hp0 : Fd w0 [] p0 a0f) (hp2 : By w0 [] p2 a2xs) (hp3 : By w0 [] p3 a3ys) (H : mend_column a0f a1t a2xs a3ys a4e = some r) :
    Calls Try.prog 27 [p0, (i64 a1t), p2, p3, (i64 a4e)].toArray w0 (fun e w' => ∃ u0 : Value, e = .returned (.tuple #[u0, (i64 r.2)]) ∧ Ext w0 w' ∧ Nw w0 u0 ∧ By w' [] u0 r.1) := by
  have hE : Ext w0 w0 := Ext.refl w0; unfold mend_column at H; refine calls_W (n := 39) Try.func27 rfl rfl rfl ?_; refine W_seq <| W_rg <| av (.slice none 0 0) rfl rfl <| av (i64 0) rfl rfl <| wnt <| W_seq <| W_rg <| mv p0 rfl rfl <| ?_; refine mv (i64 a1t) rfl rfl <| mv p2 rfl rfl <| mv p3 rfl rfl <| ?_; obtain ⟨r1, hr1, H⟩ := bsi H; refine wls rfl rfl (stp_call (vs := [p0, (i64 a1t), p2, p3]) Try.func43 rfl rfl rfl (ar4 rfl rfl rfl rfl) (mend_gao_calls a0f a1t a2xs a3ys p0 p2 p3 r1 _ (hp0.lift (Lift.ext hE _)) (hp2.lift (Lift.ext hE _)) (hp3.lift (Lift.ext hE _)) hr1) ?_); rintro _ w1 ⟨v1_0, rfl, x1, n1_0, o1_0⟩; refine ⟨_, rfl, ?_⟩; have n2 := Nw.ext hE n1_0; have i1_0 : By w1 [] v1_0 r1.1 := SlK.avail o1_0 _ (fun k hk => (Old.nil _) k (n1_0 k hk)); have e3 := hE.trans x1; refine mv (.tuple #[v1_0, (.bool r1.2)]) rfl rfl <| wa rfl (q_extract rfl rfl rfl) <| wa rfl (q_extract rfl rfl rfl) <| av v1_0 rfl rfl <| av (.bool r1.2) rfl rfl <| wnt <| W_seq <| W_seq <| ?_; refine W_rg <| mv (.bool r1.2) rfl rfl <| wa rfl (q_not rfl rfl) <| ?_; refine wlb rfl rfl (q_move (v := (.bool ((!r1.2)))) rfl rfl) (fun hb4 => ?_) (fun hb4 => ?_)
  · replace H := (if_pos hb4).symm.trans H; refine wlk rfl rfl <| wlk rfl rfl <| wlk rfl rfl <| wlk rfl rfl <| wlk rfl rfl <| wlk rfl rfl <| wlk rfl rfl <| wlk rfl rfl <| ?_; refine wlk rfl rfl <| wlk rfl rfl <| wlk rfl rfl <| wlk rfl rfl <| wa rfl (q_pick_t (v := (.bool true)) rfl rfl rfl) <| wnt <| ?_; refine W_cond true rfl rfl (fun _ => ?_) (fun hb => by cases hb); refine W_seq <| W_rg <| av (.slice none 0 0) rfl rfl <| av (i64 11) rfl rfl <| wnt <| W_ret <| th_r <| ?_; obtain rfl := osi H; refine rt2 (.slice none 0 0) (i64 11) rfl rfl rfl rfl rfl rfl ?_; exact ⟨(.slice none 0 0), rfl, e3, Nw.nil _, (SlK.nil _ _ _)⟩
  replace H := (if_neg (ne_true_of_eq_false hb4)).symm.trans H; refine mv p0 rfl rfl <| mv v1_0 rfl rfl <| mv p2 rfl rfl <| mv p3 rfl rfl <| ?_; obtain ⟨r5, hr5, H⟩ := bsi H; refine wls rfl rfl (stp_call (vs := [p0, v1_0, p2, p3]) Try.func44 rfl rfl rfl (ar4 rfl rfl rfl rfl) (mend_wrong_calls a0f r1.1 a2xs a3ys p0 v1_0 p2 p3 r5 _ (hp0.lift (Lift.ext e3 _)) (i1_0.lift (Lift.sub (L' := []) (fun _ _ => trivial))) (hp2.lift (Lift.ext e3 _)) (hp3.lift (Lift.ext e3 _)) hr5) ?_); rintro _ w5 ⟨rfl, x5⟩; refine ⟨_, rfl, ?_⟩; replace i1_0 := i1_0.lift (Lift.ext x5 _); have e6 := e3.trans x5; refine mv (i64 a4e) rfl rfl <| mv p2 rfl rfl <| wa rfl (q_len rfl T22.sl rfl (hp2.lift (Lift.ext e6 _))) <| mv (i64 a1t) rfl rfl <| ?_; obtain ⟨r7, hr7, H⟩ := bsi H; refine wls rfl rfl (stp_call (vs := [(i64 ((a2xs.length : Int))), (i64 a1t)]) Try.func13 rfl rfl rfl (ar2 rfl rfl) (mend_Radius_calls (a2xs.length : Int) a1t  r7 _  hr7) ?_); rintro _ w7 ⟨rfl, x7⟩; refine ⟨_, rfl, ?_⟩; replace i1_0 := i1_0.lift (Lift.ext x7 _); have e8 := e6.trans x7; refine wa rfl (q_minI rfl rfl rfl) <| wa rfl (q_gtI rfl rfl rfl) <| wa rfl (q_pick_f (v := (.bool ((decide ((if r7 < a4e then r7 else a4e) < r5))))) rfl rfl rfl) <| wnt <| ?_; refine W_cond _ rfl rfl (fun hb9 => ?_) (fun hb9 => ?_)
  · replace H := ifp hb9 H; refine W_seq <| W_rg <| av (.slice none 0 0) rfl rfl <| av (i64 11) rfl rfl <| wnt <| W_ret <| th_r <| ?_; obtain rfl := osi H; refine rt2 (.slice none 0 0) (i64 11) rfl rfl rfl rfl rfl rfl ?_; exact ⟨(.slice none 0 0), rfl, e8, Nw.nil _, (SlK.nil _ _ _)⟩
  replace H := ifn hb9 H; refine W_skip <| W_th <| W_seq <| W_rg <| mv v1_0 rfl rfl <| av v1_0 rfl rfl <| av (i64 0) rfl rfl <| wnt <| ?_; refine W_ret ?_; obtain rfl := osi H; refine rt2 v1_0 (i64 0) rfl rfl rfl rfl rfl rfl ?_; exact ⟨v1_0, rfl, e8, n2, (i1_0.lift (Lift.sub (L' := []) (fun _ _ => trivial)))⟩
noncomputable def mend_Column (a0f : Bool) (a1t : Int) (a2xs : List UInt8) (a3ys : List UInt8) (a4e : Int) : Option (List UInt8 × Int) :=
((mend_check a0f a1t a2xs (a3ys.length : Int) a4e).bind fun r1 =>
(if r1 = 0 then
((mend_column a0f a1t a2xs a3ys a4e).bind fun r4 => some (r4.1, r4.2))
else some (([] : List UInt8), r1)))
theorem mend_Column_calls (a0f : Bool) (a1t : Int) (a2xs : List UInt8) (a3ys : List UInt8) (a4e : Int) (p0 : Value) (p2 : Value) (p3 : Value) (r : List UInt8 × Int) (w0 : World) (hp0 : Fd w0 [] p0 a0f) (hp2 : By w0 [] p2 a2xs) (hp3 : By w0 [] p3 a3ys) (H : mend_Column a0f a1t a2xs a3ys a4e = some r) :
    Calls Try.prog 8 [p0, (i64 a1t), p2, p3, (i64 a4e)].toArray w0 (fun e w' => ∃ u0 : Value, e = .returned (.tuple #[u0, (i64 r.2)]) ∧ Ext w0 w' ∧ Nw w0 u0 ∧ By w' [] u0 r.1) := by
  have hE : Ext w0 w0 := Ext.refl w0; unfold mend_Column at H; refine calls_W (n := 31) Try.func8 rfl rfl rfl ?_; refine W_seq <| W_rg <| av (.slice none 0 0) rfl rfl <| av (i64 0) rfl rfl <| wnt <| W_seq <| W_seq <| W_rg <| ?_; refine mv p0 rfl rfl <| mv (i64 a1t) rfl rfl <| mv p2 rfl rfl <| mv p3 rfl rfl <| wa rfl (q_len rfl T22.sl rfl (hp3.lift (Lift.ext hE _))) <| mv (i64 a4e) rfl rfl <| ?_; obtain ⟨r1, hr1, H⟩ := bsi H; refine wls rfl rfl (stp_call (vs := [p0, (i64 a1t), p2, (i64 ((a3ys.length : Int))), (i64 a4e)]) Try.func22 rfl rfl rfl (ar5 rfl rfl rfl rfl rfl) (mend_check_calls a0f a1t a2xs (a3ys.length : Int) a4e p0 p2 r1 _ (hp0.lift (Lift.ext hE _)) (hp2.lift (Lift.ext hE _)) hr1) ?_); rintro _ w1 ⟨rfl, x1⟩; refine ⟨_, rfl, ?_⟩; have e2 := hE.trans x1; refine av (i64 r1) rfl rfl <| wnt <| W_seq <| W_rg <| mv (i64 r1) rfl rfl <| wa rfl (q_neI rfl rfl rfl) <| wnt <| ?_; refine W_cond _ rfl rfl (fun hb3 => ?_) (fun hb3 => ?_)
  · replace H := (if_neg (ndec_t hb3)).symm.trans H; refine W_seq <| W_rg <| mv (i64 r1) rfl rfl <| av (.slice none 0 0) rfl rfl <| av (i64 r1) rfl rfl <| wnt <| W_ret <| th_r <| ?_; obtain rfl := osi H; refine rt2 (.slice none 0 0) (i64 r1) rfl rfl rfl rfl rfl rfl ?_; exact ⟨(.slice none 0 0), rfl, e2, Nw.nil _, (SlK.nil _ _ _)⟩
  replace H := (if_pos (ndec_f hb3)).symm.trans H; refine W_skip <| W_th <| W_seq <| W_rg <| mv p0 rfl rfl <| mv (i64 a1t) rfl rfl <| mv p2 rfl rfl <| mv p3 rfl rfl <| ?_; refine mv (i64 a4e) rfl rfl ?_; obtain ⟨r4, hr4, H⟩ := bsi H; refine wls rfl rfl (stp_call (vs := [p0, (i64 a1t), p2, p3, (i64 a4e)]) Try.func27 rfl rfl rfl (ar5 rfl rfl rfl rfl rfl) (mend_column_calls a0f a1t a2xs a3ys a4e p0 p2 p3 r4 _ (hp0.lift (Lift.ext e2 _)) (hp2.lift (Lift.ext e2 _)) (hp3.lift (Lift.ext e2 _)) hr4) ?_); rintro _ w4 ⟨v4_0, rfl, x4, n4_0, o4_0⟩; refine ⟨_, rfl, ?_⟩; have n5 := Nw.ext e2 n4_0; have i4_0 : By w4 [] v4_0 r4.1 := SlK.avail o4_0 _ (fun k hk => (Old.nil _) k (n4_0 k hk)); have e6 := e2.trans x4; refine wa rfl (q_extract rfl rfl rfl) <| wa rfl (q_extract rfl rfl rfl) <| av v4_0 rfl rfl <| av (i64 r4.2) rfl rfl <| wnt <| W_ret <| ?_; obtain rfl := osi H; refine rt2 v4_0 (i64 r4.2) rfl rfl rfl rfl rfl rfl ?_; exact ⟨v4_0, rfl, e6, n5, (i4_0.lift (Lift.sub (L' := []) (fun _ _ => trivial)))⟩
end Gk

/- Printed by gen.py: for each Go function a pure function, and that the Go code comes to it. No condition beside the equation that says what the pure function gives. -/
namespace Gk
open Go Go.Proofs
noncomputable def law10_lives  : Option Bool :=
((field_New ).bind fun r1 =>
((mend_Column r1 1 ([(1 : UInt8), (2 : UInt8), (3 : UInt8)] : List UInt8) ([(5 : UInt8), (5 : UInt8), (9 : UInt8)] : List UInt8) 1).bind fun r7 =>
((mend_Column r1 1 ([(1 : UInt8), (2 : UInt8)] : List UInt8) ([(5 : UInt8), (9 : UInt8)] : List UInt8) 1).bind fun r13 =>
(if r7.2 = 0 then
(if r7.1 = ([5] : List UInt8) then some (decide (r13.2 = 11))
else some false)
else some false))))
theorem law10_lives_calls  (r : Bool) (w0 : World) (H : law10_lives = some r) :
    Calls Try.prog 5 [].toArray w0 (fun e w' => e = .returned (.bool r) ∧ Ext w0 w') := by
  have hE : Ext w0 w0 := Ext.refl w0; unfold law10_lives at H; refine calls_W (n := 32) Try.func5 rfl rfl rfl ?_; refine W_seq <| W_rg <| av (.bool false) rfl rfl <| wnt <| W_seq <| W_rg <| ?_; obtain ⟨r1, hr1, H⟩ := bsi H; refine wls rfl rfl (stp_call (vs := []) Try.func6 rfl rfl rfl (ar0 ) (field_New_calls   r1 _ [] (Old.nil _)  hr1) ?_); rintro _ w1 ⟨v1, rfl, x1, i1_0⟩; refine ⟨_, rfl, ?_⟩; have e2 := hE.trans x1; refine av v1 rfl rfl <| wnt <| W_seq <| W_rg <| mv v1 rfl rfl <| ?_; refine wls rfl rfl (stp_lit (L := []) (R := (Sc u8)) [(u8 1), (u8 2), (u8 3)] ([(1 : UInt8), (2 : UInt8), (3 : UInt8)] : List UInt8) rfl T22 rfl (by exact ⟨rfl, (cst8 (1 : UInt8) rfl), rfl, (cst8 (2 : UInt8) rfl), rfl, (cst8 (3 : UInt8) rfl), trivial⟩) rfl (litC u8 (oneC_u8) (us := [(u8 1), (u8 2), (u8 3)]) (l := ([(1 : UInt8), (2 : UInt8), (3 : UInt8)] : List UInt8)) rfl) rfl (litS u8 (us := [(u8 1), (u8 2), (u8 3)]) (l := ([(1 : UInt8), (2 : UInt8), (3 : UInt8)] : List UInt8)) rfl) ?_); intro v3 w3 o3 n3 g3 l3; have x3 := grown_ext g3; have i3 : By w3 [] v3 (([(1 : UInt8), (2 : UInt8), (3 : UInt8)] : List UInt8)) := OwK.slk (Sc.stab _) _ o3 (fun k hk => (Old.nil _) k (n3 k hk)) (fun _ h => h.2); replace i1_0 := i1_0.lift (Lift.ext x3 _); have e4 := e2.trans x3; refine wls rfl rfl (stp_lit (L := []) (R := (Sc u8)) [(u8 5), (u8 5), (u8 9)] ([(5 : UInt8), (5 : UInt8), (9 : UInt8)] : List UInt8) rfl T22 rfl (by exact ⟨rfl, (cst8 (5 : UInt8) rfl), rfl, (cst8 (5 : UInt8) rfl), rfl, (cst8 (9 : UInt8) rfl), trivial⟩) rfl (litC u8 (oneC_u8) (us := [(u8 5), (u8 5), (u8 9)]) (l := ([(5 : UInt8), (5 : UInt8), (9 : UInt8)] : List UInt8)) rfl) rfl (litS u8 (us := [(u8 5), (u8 5), (u8 9)]) (l := ([(5 : UInt8), (5 : UInt8), (9 : UInt8)] : List UInt8)) rfl) ?_); intro v5 w5 o5 n5 g5 l5; have x5 := grown_ext g5; have i5 : By w5 [] v5 (([(5 : UInt8), (5 : UInt8), (9 : UInt8)] : List UInt8)) := OwK.slk (Sc.stab _) _ o5 (fun k hk => (Old.nil _) k (n5 k hk)) (fun _ h => h.2); replace i1_0 := i1_0.lift (Lift.ext x5 _); replace i3 := i3.lift (Lift.ext x5 _); have e6 := e4.trans x5; obtain ⟨r7, hr7, H⟩ := bsi H; refine wls rfl rfl (stp_call (vs := [v1, (i64 1), v3, v5, (i64 1)]) Try.func8 rfl rfl rfl (ar5 rfl rfl rfl rfl rfl) (mend_Column_calls r1 1 ([(1 : UInt8), (2 : UInt8), (3 : UInt8)] : List UInt8) ([(5 : UInt8), (5 : UInt8), (9 : UInt8)] : List UInt8) 1 v1 v3 v5 r7 _ (i1_0.lift (Lift.sub (L' := []) (fun _ _ => trivial))) (i3.lift (Lift.sub (L' := []) (fun _ _ => trivial))) (i5.lift (Lift.sub (L' := []) (fun _ _ => trivial))) hr7) ?_); rintro _ w7 ⟨v7_0, rfl, x7, n7_0, o7_0⟩; refine ⟨_, rfl, ?_⟩; have i7_0 : By w7 [] v7_0 r7.1 := SlK.avail o7_0 _ (fun k hk => (Old.nil _) k (n7_0 k hk)); replace i1_0 := i1_0.lift (Lift.ext x7 _)
  replace i3 := i3.lift (Lift.ext x7 _); replace i5 := i5.lift (Lift.ext x7 _); have e8 := e6.trans x7; refine mv (.tuple #[v7_0, (i64 r7.2)]) rfl rfl <| wa rfl (q_extract rfl rfl rfl) <| wa rfl (q_extract rfl rfl rfl) <| av v7_0 rfl rfl <| av (i64 r7.2) rfl rfl <| wnt <| W_seq <| W_rg <| ?_; refine mv v1 rfl rfl ?_; refine wls rfl rfl (stp_lit (L := []) (R := (Sc u8)) [(u8 1), (u8 2)] ([(1 : UInt8), (2 : UInt8)] : List UInt8) rfl T22 rfl (by exact ⟨rfl, (cst8 (1 : UInt8) rfl), rfl, (cst8 (2 : UInt8) rfl), trivial⟩) rfl (litC u8 (oneC_u8) (us := [(u8 1), (u8 2)]) (l := ([(1 : UInt8), (2 : UInt8)] : List UInt8)) rfl) rfl (litS u8 (us := [(u8 1), (u8 2)]) (l := ([(1 : UInt8), (2 : UInt8)] : List UInt8)) rfl) ?_); intro v9 w9 o9 n9 g9 l9; have x9 := grown_ext g9; have i9 : By w9 [] v9 (([(1 : UInt8), (2 : UInt8)] : List UInt8)) := OwK.slk (Sc.stab _) _ o9 (fun k hk => (Old.nil _) k (n9 k hk)) (fun _ h => h.2); replace i1_0 := i1_0.lift (Lift.ext x9 _); replace i3 := i3.lift (Lift.ext x9 _); replace i5 := i5.lift (Lift.ext x9 _); replace i7_0 := i7_0.lift (Lift.ext x9 _); have e10 := e8.trans x9; refine wls rfl rfl (stp_lit (L := []) (R := (Sc u8)) [(u8 5), (u8 9)] ([(5 : UInt8), (9 : UInt8)] : List UInt8) rfl T22 rfl (by exact ⟨rfl, (cst8 (5 : UInt8) rfl), rfl, (cst8 (9 : UInt8) rfl), trivial⟩) rfl (litC u8 (oneC_u8) (us := [(u8 5), (u8 9)]) (l := ([(5 : UInt8), (9 : UInt8)] : List UInt8)) rfl) rfl (litS u8 (us := [(u8 5), (u8 9)]) (l := ([(5 : UInt8), (9 : UInt8)] : List UInt8)) rfl) ?_); intro v11 w11 o11 n11 g11 l11; have x11 := grown_ext g11; have i11 : By w11 [] v11 (([(5 : UInt8), (9 : UInt8)] : List UInt8)) := OwK.slk (Sc.stab _) _ o11 (fun k hk => (Old.nil _) k (n11 k hk)) (fun _ h => h.2); replace i1_0 := i1_0.lift (Lift.ext x11 _); replace i3 := i3.lift (Lift.ext x11 _); replace i5 := i5.lift (Lift.ext x11 _); replace i7_0 := i7_0.lift (Lift.ext x11 _); replace i9 := i9.lift (Lift.ext x11 _); have e12 := e10.trans x11; obtain ⟨r13, hr13, H⟩ := bsi H; refine wls rfl rfl (stp_call (vs := [v1, (i64 1), v9, v11, (i64 1)]) Try.func8 rfl rfl rfl (ar5 rfl rfl rfl rfl rfl) (mend_Column_calls r1 1 ([(1 : UInt8), (2 : UInt8)] : List UInt8) ([(5 : UInt8), (9 : UInt8)] : List UInt8) 1 v1 v9 v11 r13 _ (i1_0.lift (Lift.sub (L' := []) (fun _ _ => trivial))) (i9.lift (Lift.sub (L' := []) (fun _ _ => trivial))) (i11.lift (Lift.sub (L' := []) (fun _ _ => trivial))) hr13) ?_); rintro _ w13 ⟨v13_0, rfl, x13, n13_0, o13_0⟩; refine ⟨_, rfl, ?_⟩; have i13_0 : By w13 [] v13_0 r13.1 := SlK.avail o13_0 _ (fun k hk => (Old.nil _) k (n13_0 k hk)); replace i1_0 := i1_0.lift (Lift.ext x13 _); replace i3 := i3.lift (Lift.ext x13 _); replace i5 := i5.lift (Lift.ext x13 _); replace i7_0 := i7_0.lift (Lift.ext x13 _); replace i9 := i9.lift (Lift.ext x13 _)
  replace i11 := i11.lift (Lift.ext x13 _); have e14 := e12.trans x13; refine mv (.tuple #[v13_0, (i64 r13.2)]) rfl rfl <| wa rfl (q_extract rfl rfl rfl) <| wa rfl (q_extract rfl rfl rfl) <| av v13_0 rfl rfl <| av (i64 r13.2) rfl rfl <| wnt <| W_seq <| W_rg <| ?_; refine mv (i64 r7.2) rfl rfl <| wa rfl (q_eqI rfl rfl rfl) <| ?_; refine wlb rfl rfl (q_move (v := (.bool ((decide (r7.2 = 0))))) rfl rfl) (fun hb15 => ?_) (fun hb15 => ?_)
  · replace H := ifp hb15 H; refine mv v7_0 rfl rfl <| wq rfl (q_str rfl T22 rfl rfl rfl i7_0) <| wa rfl (q_eqS rfl rfl rfl) <| wa rfl (q_pick_t (v := (.bool ((decide (r7.1 = ([5] : List UInt8)))))) rfl rfl rfl) <| ?_; refine wlb rfl rfl (q_move (v := (.bool ((decide (r7.1 = ([5] : List UInt8)))))) rfl rfl) (fun hb16 => ?_) (fun hb16 => ?_)
    · replace H := ifp hb16 H; refine mv (i64 r13.2) rfl rfl <| wa rfl (q_eqI rfl rfl rfl) <| wa rfl (q_pick_t (v := (.bool ((decide (r13.2 = 11))))) rfl rfl rfl) <| av (.bool ((decide (r13.2 = 11)))) rfl rfl <| wnt <| W_ret <| ?_; obtain rfl := osi H; refine rt1 (.bool ((decide (r13.2 = 11)))) rfl rfl rfl rfl ?_; exact ⟨rfl, e14⟩
    replace H := ifn hb16 H; refine wlk rfl rfl <| wlk rfl rfl <| wa rfl (q_pick_f (v := (.bool false)) rfl rfl rfl) <| av (.bool false) rfl rfl <| wnt <| W_ret <| ?_; obtain rfl := osi H; refine rt1 (.bool false) rfl rfl rfl rfl ?_; exact ⟨rfl, e14⟩
  replace H := ifn hb15 H; refine wlk rfl rfl <| wlk rfl rfl <| wlk rfl rfl <| wa rfl (q_pick_f (v := (.bool false)) rfl rfl rfl) <| mv (.bool false) rfl rfl <| wlk rfl rfl <| wlk rfl rfl <| wa rfl (q_pick_f (v := (.bool false)) rfl rfl rfl) <| ?_; refine av (.bool false) rfl rfl <| wnt <| W_ret <| ?_; obtain rfl := osi H; refine rt1 (.bool false) rfl rfl rfl rfl ?_; exact ⟨rfl, e14⟩
end Gk

/- Matrices of this seat's program: the struct, its field, its building. No condition. -/
namespace Gk
open Go Go.Proofs
end Gk

/- Arrays: as values, and in blocks behind pointers. No condition. -/
namespace Gk
open Go Go.RowKit
section
variable {P : Program} {o : Oper} {f : Nat → Value} {w : World} {x y : Operand} {t e T : TypeId} {g m n : Nat} {cs : Array Value} {u v : Value} {α : Type} {enc : α → Value} {l l' : List α} {i : Int} {a b : α}
abbrev bpo (g m : Nat) : Value := .pointer (some ⟨g, m, none⟩)
end
section
variable {P : Program} {o : Oper} {f : Nat → Value} {w : World} {x y : Operand} {t t' : TypeId} {k : IntKind}
end
section
variable {P : Program} {fn : Func} {n : Nat} {R : Ending → World → Prop} {f : Nat → Value} {w : World} {t e T : TypeId} {a g m : Nat} {α : Type} {enc : α → Value} {l : List α}
end
end Gk

/- Structs of whole numbers, as values and behind pointers. No condition. -/
namespace Gk
open Go Go.RowKit
section
variable {P : Program} {o : Oper} {f : Nat → Value} {w : World} {x y : Operand} {t e T : TypeId} {g m n j : Nat} {cs : Array Value} {u v : Value} {α : Type} {enc : α → Value} {l l' : List α} {i : Int} {a b : α}
theorem bs2 {i j : Nat} {a b a' b' : Value} (h : a = a') (k : b = b') : ([(i, a), (j, b)] : List (Nat × Value)).toArray = #[(i, a'), (j, b')] := by rw [h, k]
theorem q_buildS {parts : Array (Nat × Operand)} (ho : o.op = .build t parts) {ps : Array (Nat × Value)} (hp : (parts.map fun p => (p.1, ev f p.2)) = ps) (h : ∀ w, (Instr.build t ps).run P w = .ok v w) : Qa P o f v := by
  intro w'
  have : (parts.map fun (i, x) => (i, ev f x)) = ps := hp
  simp [execOp, ho, this, h]
end
section
variable {P : Program} {fn : Func} {n : Nat} {R : Ending → World → Prop} {f : Nat → Value} {w : World} {t e T : TypeId} {a g m : Nat} {α : Type} {enc : α → Value} {l : List α}
end
end Gk

/- Records of this seat's program: structs behind their pointers. No condition. -/
namespace Gk
open Go Go.Proofs Go.RowKit
theorem q_fldR {o : Oper} {f : Nat → Value} {T : TypeId} {x : Operand} {g m d j : Nat} (ho : o.op = .fieldAddr T x j) (hf : ∀ (a : Addr) (w : World), (Instr.fieldAt T (.pointer (some a)) j).run Try.prog w = .ok (.pointer (some (a.add d))) w) (hx : ev f x = bpo g m) : Qa Try.prog o f (bpo g (m + d)) := by
  intro w'
  simp [execOp, ho, hx, hf, add_off, Addr.add]
theorem stp_storeR {o : Oper} {f : Nat → Value} {w : World} {e T : TypeId} {x y : Operand} {g m : Nat} {u : Value} {cs cs' : Array Value} (L1 L2 : List Value) (ho : o.op = .store e x y) (hs : ∀ w, (Go.sizeOf e).run Try.prog w = .ok 1 w) (hx : ev f x = bpo g m) (hy : ev f y = u) (h : Blk w g T cs) (hm : m < cs.size) (hc : u.oneCell' = true) (hset : cs.setIfInBounds m u = cs')
    {K : Value → World → Prop} (hk : ∀ w', Blk w' g T cs' → Gr w w' (bp g) → Lift w w' (L1 ++ bp g :: L2) (L1 ++ bp g :: L2) → K undef w') : Stp Try.prog o f w K :=
  stp_storeB ho hs hx hy h hm hc fun w' hB hg => hk w' (by rw [hset] at hB; exact hB) (Gr.of hg) (Lift.own L1 L2 (Gr.of hg) (Nx.refl _ _))
def RcMd (w : World) (L : List Value) (v : Value) (c : Option (Bool × List UInt8 × List (List UInt8) × List Int)) : Prop :=
  (c = none ∧ v = .pointer none) ∨ ∃ (x : Bool × List UInt8 × List (List UInt8) × List Int) (g : Nat) (u0 u1 u2 u3 : Value), c = some x ∧ v = bp g ∧ Av L g ∧ Blk w g 59 #[u0, u1, u2, u3] ∧ Fd w L u0 x.1 ∧ By w L u1 x.2.1 ∧ Rw w L u2 x.2.2.1 ∧ In w L u3 x.2.2.2
theorem RcMd.lift {w w' : World} {L L' : List Value} {v : Value} {c : Option (Bool × List UInt8 × List (List UInt8) × List Int)} (h : RcMd w L v c) (g : Lift w w' L L') : RcMd w' L' v c := by
  rcases h with h | ⟨x, k, u0, u1, u2, u3, h1, h2, ha, hB, r0, r1, r2, r3⟩
  · exact .inl h
  · exact .inr ⟨x, k, u0, u1, u2, u3, h1, h2, g.av k hB.lt ha, g.blk k _ hB rfl ha, r0.lift g, r1.lift g, r2.lift g, r3.lift g⟩
theorem RcMd.nil (w : World) (L : List Value) : RcMd w L (.pointer none) none := .inl ⟨rfl, rfl⟩
theorem RcMd.mk {w : World} {L : List Value} {g : Nat} {u0 u1 u2 u3 : Value} {x0 : Bool} {x1 : List UInt8} {x2 : List (List UInt8)} {x3 : List Int} (hB : Blk w g 59 #[u0, u1, u2, u3]) (ha : Av L g) (r0 : Fd w L u0 x0) (r1 : By w L u1 x1) (r2 : Rw w L u2 x2) (r3 : In w L u3 x3) : RcMd w L (bp g) (some (x0, x1, x2, x3)) :=
  .inr ⟨(x0, x1, x2, x3), g, u0, u1, u2, u3, rfl, rfl, ha, hB, r0, r1, r2, r3⟩
theorem RcMd.some {w : World} {L : List Value} {v : Value} {x : Bool × List UInt8 × List (List UInt8) × List Int} {c : Option (Bool × List UInt8 × List (List UInt8) × List Int)} (h : RcMd w L v c) (hc : c = some x) : ∃ (g : Nat) (u0 u1 u2 u3 : Value), v = bp g ∧ Blk w g 59 #[u0, u1, u2, u3] ∧ Fd w L u0 x.1 ∧ By w L u1 x.2.1 ∧ Rw w L u2 x.2.2.1 ∧ In w L u3 x.2.2.2 := by
  rcases h with ⟨h1, _⟩ | ⟨x', g, u0, u1, u2, u3, h1, h2, ha, hB, h3⟩
  · rw [h1] at hc; cases hc
  · rw [h1] at hc; obtain rfl := Option.some.inj hc
    exact ⟨g, u0, u1, u2, u3, h2, hB, h3⟩
theorem q_eqRMd {o : Oper} {f : Nat → Value} {w : World} {L : List Value} {x y : Operand} {v : Value} {t t' e : TypeId} {c : Option (Bool × List UInt8 × List (List UInt8) × List Int)} (ho : o.op = .binOp .eql t x y t') (ht : Try.prog.underlying t = some (.pointer e)) (hx : ev f x = v) (hy : ev f y = .pointer none) (h : RcMd w L v c) : Qa Try.prog o f (.bool c.isNone) := by
  rcases h with ⟨rfl, rfl⟩ | ⟨_, _, _, _, _, _, rfl, rfl, _⟩
  · exact q_eqP ho ht hx hy
  · exact q_eqP ho ht hx hy
theorem fieldAtMd0 (a : Addr) (w : World) : (Instr.fieldAt 59 (.pointer (some a)) 0).run Try.prog w = .ok (.pointer (some (a.add 0))) w := by
  simp [Instr.fieldAt, Instr.sureAddr, fieldPlace]
theorem fieldAtMd1 (a : Addr) (w : World) : (Instr.fieldAt 59 (.pointer (some a)) 1).run Try.prog w = .ok (.pointer (some (a.add 1))) w := by
  simp [Instr.fieldAt, Instr.sureAddr, fieldPlace]
theorem fieldAtMd2 (a : Addr) (w : World) : (Instr.fieldAt 59 (.pointer (some a)) 2).run Try.prog w = .ok (.pointer (some (a.add 2))) w := by
  simp [Instr.fieldAt, Instr.sureAddr, fieldPlace]
theorem fieldAtMd3 (a : Addr) (w : World) : (Instr.fieldAt 59 (.pointer (some a)) 3).run Try.prog w = .ok (.pointer (some (a.add 3))) w := by
  simp [Instr.fieldAt, Instr.sureAddr, fieldPlace]
theorem zeroMd : ∀ w, (zeroValue 59).run Try.prog w = .ok (.agg #[(.pointer none), (.slice none 0 0), (.slice none 0 0), (.slice none 0 0)]) w := fun w => by rw [Try.zeroValue59] <;> rfl
theorem buildMd_0_1 (v0 : Value) (hv0 : v0.cells = #[v0]) (v1 : Value) (hv1 : v1.cells = #[v1]) (w : World) : (Instr.build 59 #[(0, v0), (1, v1)]).run Try.prog w = .ok (.agg #[v0, v1, (.slice none 0 0), (.slice none 0 0)]) w := by
  unfold Instr.build
  simp only [Sem.run_bind, zeroMd, Result.andThen_ok, run_underlying Try.underlying59]
  have hfill : Instr.fill (fun i => ([((0 : Nat), (1 : Nat)), ((1 : Nat), (1 : Nat)), ((2 : Nat), (1 : Nat)), ((3 : Nat), (1 : Nat))] : List (Nat × Nat))[i]?) #[(.pointer none), (.slice none 0 0), (.slice none 0 0), (.slice none 0 0)] [(0, v0), (1, v1)] = some #[v0, v1, (.slice none 0 0), (.slice none 0 0)] := by simp [Instr.fill, hv0, hv1]
  simp [Try.sizeOf22, Try.sizeOf23, Try.sizeOf26, Try.sizeOf38, Value.cells, hfill]
end Gk

/- Maps from numbers to bools: made, written, read, counted. No condition. -/
namespace Gk
open Go Go.RowKit
section
variable {P : Program} {f : Nat → Value} {w : World} {o : Oper} {x y z : Operand} {t kt et : TypeId} {g : Nat} {m : List (Int × Bool)} {k : Int} {b : Bool}
end
end Gk

/- Maps from numbers to bytes: made, written, read, counted. No condition. -/
namespace Gk
open Go Go.RowKit
section
variable {P : Program} {f : Nat → Value} {w : World} {o : Oper} {x y z : Operand} {t kt et : TypeId} {g : Nat} {m : List (Int × UInt8)} {k : Int} {b : UInt8}
end
end Gk

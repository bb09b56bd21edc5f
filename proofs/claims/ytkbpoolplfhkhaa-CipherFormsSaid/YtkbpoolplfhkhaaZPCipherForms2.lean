/- Parts Mb, Gi, Fb, Mc, Md, Mp, Mv, Gk, Gl, Gm, Ff, Gn, Go, Mz, Gq, Gp, Gw, S2, Gt, Gu, Fe, one behind the other. What is proved: said at the head of each part. No condition beside those said there. -/
import Derived.Test.YtkbpoolplfhkhaaRows
import Derived.Orders
import Derived.Deep.Draws
import Derived.Laws.World
import Derived.KernelRfl
import Derived.OrdersIn
import Derived.TacticsIn
import Derived.RangeFuncCalls
import Derived.Deep.LoopGhost
import Derived.Tactics
import Derived.Sort.LoopGhostIn
import Derived.RangeFuncLeaves
import Derived.RangeFuncNested
import Derived.RangeFuncRecord
import Derived.Laws.Sem
import Derived.OwnWalk
import Derived.RangeFuncWrites
import Derived.Laws.IdiomCopy
import Derived.WalkKit
import Derived.ProofKit
import Derived.OpenShut
import Derived.ChangeOld
import Derived.Below
import Derived.Test.YtkbpoolplfhkhaaProg
import Derived.MapKept
import Derived.Lib.AppendZerosOnto
import Derived.Laws.CopyRow
import Derived.Laws.Cells
import Derived.Lib.SlBytesConst
import Derived.Test.YtkbpoolplfhkhaaZPCipherForms1
/- The field of 256 numbers, in plain Lean: what the program's and the document's product come to. No condition. -/



set_option linter.unusedSimpArgs false
namespace Gf
theorem bit_shr (b : UInt8) : (bit (Gk.shr8 b 1) 0 = bit b 1 ∧ bit (Gk.shr8 b 1) 1 = bit b 2 ∧ bit (Gk.shr8 b 1) 2 = bit b 3 ∧ bit (Gk.shr8 b 1) 3 = bit b 4) ∧
    bit (Gk.shr8 b 1) 4 = bit b 5 ∧ bit (Gk.shr8 b 1) 5 = bit b 6 ∧ bit (Gk.shr8 b 1) 6 = bit b 7 ∧ bit (Gk.shr8 b 1) 7 = false := by
  revert b; refine all8 ?_; decide +kernel
theorem bit_and (b : UInt8) : (b &&& 1 = 1) ↔ bit b 0 = true := by
  revert b; refine all8 ?_; decide +kernel
/-- One bit at a time. -/
theorem mul_step (a b : UInt8) : mul a b = sel (bit b 0) a ^^^ mul (dbl a) (Gk.shr8 b 1) := by
  obtain ⟨⟨h0, h1, h2, h3⟩, h4, h5, h6, h7⟩ := bit_shr b
  unfold mul
  rw [h0, h1, h2, h3, h4, h5, h6, h7]
  simp [dblN, sel, UInt8.xor_assoc]

/-! The document's product. -/
def cl (a b : Nat) : Nat → Nat
  | 0 => 0
  | k + 1 => if b.testBit k then cl a b k ^^^ (a <<< k) else cl a b k
def rd : Nat → Nat → Nat
  | 0, p => p
  | j + 1, p => rd j (if p.testBit (8 + j) then p ^^^ (283 <<< j) else p)
def rds (p : Nat) : Nat → Nat
  | 0 => p
  | i + 1 => if (rds p i).testBit (14 - i) then rds p i ^^^ (283 <<< (6 - i)) else rds p i
theorem rd_xor (j : Nat) : ∀ p q, rd j (p ^^^ q) = rd j p ^^^ rd j q := by
  induction j with
  | zero => intro p q; rfl
  | succ j ih =>
    intro p q
    have h : (if (p ^^^ q).testBit (8 + j) then (p ^^^ q) ^^^ (283 <<< j) else p ^^^ q) =
        (if p.testBit (8 + j) then p ^^^ (283 <<< j) else p) ^^^ (if q.testBit (8 + j) then q ^^^ (283 <<< j) else q) := by
      rw [Nat.testBit_xor]
      generalize 283 <<< j = c
      cases p.testBit (8 + j) <;> cases q.testBit (8 + j) <;> simp
      · exact Nat.xor_assoc p q c
      · rw [Nat.xor_assoc, Nat.xor_comm q c, Nat.xor_assoc]
      · rw [Nat.xor_assoc p c, ← Nat.xor_assoc c q c, Nat.xor_comm c q, Nat.xor_assoc q c c, Nat.xor_self, Nat.xor_zero]
    simp only [rd, h, ih]
theorem rd_sel (c : Bool) (x a : Nat) (k : Nat) : rd 7 (if c then x ^^^ (a <<< k) else x) = rd 7 x ^^^ (if c then rd 7 (a <<< k) else 0) := by
  cases c
  · simp
  · simp [rd_xor]
theorem rd_dbl (a : UInt8) : (List.range 8).all (fun k => rd 7 (a.toNat <<< k) == (dblN k a).toNat) = true := by
  revert a; refine all8 ?_; decide +kernel
theorem rd_dbl' (a : UInt8) (k : Nat) (h : k < 8) : rd 7 (a.toNat <<< k) = (dblN k a).toNat := by
  have := List.all_eq_true.1 (rd_dbl a) k (List.mem_range.2 h)
  simpa using this
theorem rd0 : rd 7 0 = 0 := by decide
theorem sel_nat (c : Bool) (a : UInt8) : (sel c a).toNat = if c then a.toNat else 0 := by cases c <;> simp [sel]
theorem ref_eq (a b : UInt8) : rd 7 (cl a.toNat b.toNat 8) = (mul a b).toNat := by
  simp only [cl, rd_sel, rd0, mul, UInt8.toNat_xor, sel_nat, bit]
  rw [rd_dbl' a 0 (by decide), rd_dbl' a 1 (by decide), rd_dbl' a 2 (by decide), rd_dbl' a 3 (by decide), rd_dbl' a 4 (by decide), rd_dbl' a 5 (by decide), rd_dbl' a 6 (by decide), rd_dbl' a 7 (by decide)]
  simp only [Nat.zero_xor]
theorem cl_lt (a b : Nat) (ha : a < 256) : ∀ k, k ≤ 8 → cl a b k < 32768 := by
  intro k
  induction k with
  | zero => intro _; simp [cl]
  | succ k ih =>
    intro hk
    have h1 := ih (by omega)
    have h2 : a <<< k < 32768 := by
      rw [Nat.shiftLeft_eq]
      have : 2 ^ k ≤ 2 ^ 7 := Nat.pow_le_pow_right (by decide) (by omega)
      calc a * 2 ^ k ≤ a * 2 ^ 7 := Nat.mul_le_mul_left _ this
        _ < 32768 := by omega
    simp only [cl]
    split
    · exact Nat.xor_lt_two_pow (n := 15) h1 h2
    · exact h1
end Gf
namespace Gk
open Gf
theorem double_eq (a : UInt8) : field_double a = some (dbl a) := by
  revert a
  refine all8 ?_
  unfold field_double
  decide +kernel
theorem ofInt_nat (a : UInt8) : UInt8.ofInt (a.toNat : Int) = a := by
  revert a; refine all8 ?_; decide +kernel
theorem Slow_loop (a b o : UInt8) : iterC (fun s1 : UInt8 × UInt8 × UInt8 =>
    (if s1.2.1 = (0 : UInt8) then some (.inr s1.2.2) else
    (if (s1.2.1 &&& (1 : UInt8)) = (1 : UInt8) then ((field_double s1.1).bind fun r5 => some (.inl (r5, (shr8 s1.2.1 1), (s1.2.2 ^^^ s1.1))))
    else ((field_double s1.1).bind fun r7 => some (.inl (r7, (shr8 s1.2.1 1), s1.2.2)))))) (a, b, o) = some (o ^^^ mul a b) := by
  simp only [double_eq, Option.bind_some]
  generalize hk : b.toNat = k
  induction k using Nat.strongRecOn generalizing a b o with
  | ind k ih =>
    rw [iterC_step]
    by_cases h : b = 0
    · subst h; simp [mul_zero]
    · have hlt : (shr8 b 1).toNat < k := by
        have : b.toNat ≠ 0 := fun e => h (UInt8.toNat_inj.1 (by simpa using e))
        have := b.toNat_lt
        simp [shr8]; omega
      simp only [if_neg h]
      by_cases h1 : b &&& 1 = 1
      · simp only [if_pos h1, Option.bind_some]
        rw [ih _ hlt _ _ _ rfl, mul_step a b, (bit_and b).1 h1]
        simp [sel, UInt8.xor_assoc]
      · simp only [if_neg h1, Option.bind_some]
        have h0 : bit b 0 = false := by cases hb : bit b 0 with | false => rfl | true => exact absurd ((bit_and b).2 hb) h1
        rw [ih _ hlt _ _ _ rfl, mul_step a b, h0]
        simp [sel]
theorem Slow_eq (a b : UInt8) : field_Slow a b = some (mul a b) := by
  unfold field_Slow
  rw [Slow_loop]; simp

theorem shr_bit (b : UInt8) : (List.range 8).all (fun k => decide ((shr8 b k % 2 = 1) ↔ b.toNat.testBit k = true)) = true := by
  revert b; refine all8 ?_; decide +kernel
theorem shr_bit' (b : UInt8) (k : Nat) (h : k < 8) : (shr8 b k % 2 = 1) ↔ b.toNat.testBit k = true := by
  have := List.all_eq_true.1 (shr_bit b) k (List.mem_range.2 h)
  exact of_decide_eq_true this
theorem refMul_eq (a b : UInt8) : ref02_Mul a b = some (mul a b) := by
  unfold ref02_Mul
  have ha := a.toNat_lt
  refine bind_of (iterC_count (fun k => (((cl a.toNat b.toNat k : Nat) : Int), (k : Int))) 8 ((cl a.toNat b.toNat 8 : Nat) : Int) rfl ?_ ?_) ?_
  rotate_left 2
  · have hl := cl_lt a.toNat b.toNat ha 8 (Nat.le_refl _)
    have hr := ref_eq a b
    generalize cl a.toNat b.toNat 8 = p at hl hr ⊢
    -- seven steps
    have hP : ∀ i, rds p (i + 1) = if (rds p i).testBit (14 - i) then rds p i ^^^ (283 <<< (6 - i)) else rds p i := fun i => rfl
    have hlt : ∀ i, rds p i < 32768 := by
      intro i
      induction i with
      | zero => exact hl
      | succ i ih =>
        rw [hP]; split
        · refine Nat.xor_lt_two_pow (n := 15) ih ?_
          have : 2 ^ (6 - i) ≤ 2 ^ 6 := Nat.pow_le_pow_right (by decide) (by omega)
          rw [Nat.shiftLeft_eq]; omega
        · exact ih
    have h7 : rds p 7 = rd 7 p := rfl
    refine bind_of (iterC_count (fun i => (((rds p i : Nat) : Int), 14 - (i : Int))) 7 ((rds p 7 : Nat) : Int) (by simp [rds]) ?_ ?_) ?_
    rotate_left 2
    · simp only [h7, hr]
      rw [ofInt_nat]
    · intro i hi
      have e1 : (14 - (i : Int)) = ((14 - i : Nat) : Int) := by omega
      have e2 : wI (14 - (i : Int) - 8) = ((6 - i : Nat) : Int) := by rw [wI_of (by omega) (by omega)]; omega
      have e3 : wI (14 - (i : Int) - 1) = 14 - ((i + 1 : Nat) : Int) := by rw [wI_of (by omega) (by omega)]; omega
      simp only [e2, e3]
      rw [if_pos (by omega), e1, cnt_nat]
      simp only [Option.bind_some, cnt_nat]
      rw [shrI_nat _ _ (by omega)]
      have e4 := remI_nat (rds p i >>> (14 - i)) 2 (by decide)
      have e5 : ((2 : Nat) : Int) = 2 := rfl
      rw [e5] at e4
      rw [e4, hP]
      have e6 : (rds p i).testBit (14 - i) = decide (rds p i >>> (14 - i) % 2 = 1) := by rw [Nat.testBit_eq_decide_div_mod_eq, Nat.shiftRight_eq_div_pow]
      simp only [Option.bind_some, e6]
      by_cases hc : rds p i >>> (14 - i) % 2 = 1
      · rw [if_pos (by omega), if_pos (decide_eq_true hc)]
        have h2 : 2 ^ (6 - i) ≤ 2 ^ 6 := Nat.pow_le_pow_right (by decide) (by omega)
        have e7 := shlI_nat 283 (6 - i) (by omega) (by omega)
        have e8 : ((283 : Nat) : Int) = 283 := rfl
        rw [e8] at e7
        rw [e7, xorI_nat _ _ (by have := hlt i; omega) (by rw [Nat.shiftLeft_eq]; omega)]
      · rw [if_neg (by omega), if_neg (fun e => hc (of_decide_eq_true e))]
    · rw [if_neg (by omega)]
  · intro i hi
    rw [if_pos (by omega)]
    simp only [cnt_nat, Option.bind_some, cl]
    have e3 : wI ((i : Int) + 1) = ((i + 1 : Nat) : Int) := by rw [wI_of (by omega) (by omega)]; omega
    have h2 : 2 ^ i ≤ 2 ^ 7 := Nat.pow_le_pow_right (by decide) (by omega)
    have h3 : a.toNat * 2 ^ i ≤ a.toNat * 2 ^ 7 := Nat.mul_le_mul_left _ h2
    rw [e3]
    by_cases hc : b.toNat.testBit i = true
    · rw [if_pos ((shr_bit' b i hi).2 hc), if_pos hc, shlI_nat _ _ (by omega) (by omega), xorI_nat _ _ (by have := cl_lt a.toNat b.toNat ha i (by omega); omega) (by rw [Nat.shiftLeft_eq]; omega)]
    · rw [if_neg (fun e => hc ((shr_bit' b i hi).1 e)), if_neg hc]
  · rw [if_neg (by omega)]
end Gk

/- Blocks of cells that something points to: a box, its cells read and written. No condition. -/

set_option linter.unusedVariables false
set_option linter.unusedSimpArgs false
namespace Gk
open Go

theorem Blk.cell {w : World} {g : Nat} {T : TypeId} {cs : Array Value} (h : Blk w g T cs) (m : Nat) : w.cell? ⟨g, m, none⟩ = cs[m]? := cell_of_row w g m _ _ _ h
theorem Blk.set {w : World} {g : Nat} {T : TypeId} {cs : Array Value} (h : Blk w g T cs) (m : Nat) (u : Value) :
    Blk (w.setCell ⟨g, m, none⟩ u) g T (cs.setIfInBounds m u) ∧ w.grownBy (w.setCell ⟨g, m, none⟩ u) (some g) :=
  ⟨heap_setCell_same w g m cs T u h, ⟨rfl, rfl, rfl, by simp, fun k _ hk => heap_setCell_other w ⟨g, m, none⟩ k u (fun e => hk (by simp [e]))⟩⟩
theorem Ext.grownB {w0 w w' : World} {g : Nat} (h : Ext w0 w) (hg : w.grownBy w' (some g)) (hn : w0.heap.size ≤ g) : Ext w0 w' :=
  ⟨hg.os.trans h.os, hg.output.trans h.output, Nat.le_trans h.size hg.size, fun k hk =>
    (hg.block k (Nat.lt_of_lt_of_le hk h.size) (fun e => by have := Option.some.inj e; omega)).trans (h.blk k hk)⟩

section
variable {P : Program} {o : Oper} {f : Nat → Value} {w : World} {x y : Operand} {t e T : TypeId} {g m : Nat} {cs : Array Value} {u v : Value}
/-- A pointer to something new. -/
theorem stp_box (ho : o.op = .box t x) (hx : ev f x = v) {K : Value → World → Prop}
    (hk : ∀ w', Blk w' w.heap.size t v.cells → w.grownBy w' none → K (.pointer (some ⟨w.heap.size, 0, none⟩)) w') : Stp P o f w K := by
  refine stp_of_run (w' := w.alloc (.cells v.cells t)) (v := .pointer (some ⟨w.heap.size, 0, none⟩)) ?_ (hk _ (alloc_new w _) (World.grownBy_alloc w _ none))
  simp [execOp, ho, hx, Instr.box, newVar, newRow, newObj, Sem.run]
theorem stp_storeB (ho : o.op = .store e x y) (hs : ∀ w, (Go.sizeOf e).run P w = .ok 1 w) (hx : ev f x = .pointer (some ⟨g, m, none⟩)) (hy : ev f y = u) (h : Blk w g T cs) (hm : m < cs.size) (hc : u.oneCell' = true)
    {K : Value → World → Prop} (hk : ∀ w', Blk w' g T (cs.setIfInBounds m u) → w.grownBy w' (some g) → K undef w') : Stp P o f w K := by
  obtain ⟨h1, h2⟩ := h.set m u
  refine stp_of_skip (w' := w.setCell ⟨g, m, none⟩ u) ?_ (hk _ h1 h2)
  have hcs : u.cells = #[u] := by cases u <;> simp_all [Value.cells, Value.oneCell']
  have hcl : w.cell? ⟨g, m, none⟩ = some cs[m] := by rw [h.cell m]; simp [hm]
  have hfr : w.frozen? ⟨g, m, none⟩ = false := frozen_of_row w g m cs T h
  simp only [execOp, ho, hx, hy, Instr.storeAt, Instr.sureAddr, storeVar, hcs, add_off, Sem.run_bind, Sem.run_pure, Result.andThen_ok, hs]
  simp [storeCells, add_off, store, Addr.add]
  cases u <;> simp_all [Sem.run, Value.oneCell']
theorem q_loadB (ho : o.op = .load e x) (ha : ∀ w, (isAgg e).run P w = .ok false w) (hx : ev f x = .pointer (some ⟨g, m, none⟩)) (h : Blk w g T cs) (hc : cs[m]? = some u) : Qt P o f w u := by
  intro w' hE
  have hcell : w'.cell? ⟨g, m, none⟩ = some u := by rw [(h.ext hE).cell m, hc]
  simp [execOp, ho, hx, Instr.loadAt, Instr.sureAddr, loadVar, ha, add_off, load, Sem.run, hcell]
theorem q_nilP (ho : o.op = .nilCheck x) (hx : ev f x = .pointer (some ⟨g, m, none⟩)) : Qa P o f (.pointer (some ⟨g, m, none⟩)) := by
  intro w'; simp [execOp, ho, hx]
theorem q_fldP {i k : Nat} (ho : o.op = .fieldAddr T x i) (hp : ∀ a w, (Instr.fieldAt T (.pointer (some a)) i).run P w = .ok (.pointer (some (a.add k))) w) (hx : ev f x = .pointer (some ⟨g, m, none⟩)) : Qa P o f (.pointer (some ⟨g, m + k, none⟩)) := by
  intro w'; simp [execOp, ho, hx, hp, Addr.add]
theorem q_ixP {kk : IntKind} {i : Nat} {n : Nat} (ho : o.op = .indexAddr t x y) (ht : P.underlying t = some (.array n e)) (hs : ∀ w, (Go.sizeOf e).run P w = .ok 1 w) (hx : ev f x = .pointer (some ⟨g, m, none⟩)) (hy : ev f y = .int kk (i : Int)) (hi : i < n) :
    Qa P o f (.pointer (some ⟨g, m + i, none⟩)) := by
  intro w'
  have h3 : (i : Int) < (n : Int) := by omega
  simp [execOp, ho, hx, hy, Instr.indexAt, asIntOf, run_underlying ht, Instr.sureAddr, h3, hs, add_off, Addr.add, hi]
end
end Gk

/- The field is made: its tables are those of Gf. No condition. -/



set_option linter.unusedVariables false
set_option linter.unusedSimpArgs false
namespace Gk
open Go Go.Proofs

/-- The cells of a field as it is made. -/
def zF : Array Value := fieldCells (List.replicate 510 0) (List.replicate 256 0)
theorem zeroF : (Try.prog.info? 82).map (fun i => i.zero) = some (some (.agg zF)) := by kernel_rfl
theorem build0 (w : World) : (Instr.build 82 #[]).run Try.prog w = .ok (.agg zF) w := by
  have h := zeroF
  cases hi : Try.prog.info? 82 with
  | none => rw [hi] at h; cases h
  | some i =>
    rw [hi] at h
    have hz : i.zero = some (.agg zF) := by simpa using h
    have hzr : (zeroValue 82).run Try.prog w = .ok (.agg zF) w := by
      simp [zeroValue, typeInfo, hi, hz]
    simp [Instr.build, hzr, Value.cells, Instr.fill]

theorem fc_pw (pw : List UInt8) (lg : List Int) (k : Nat) (c : UInt8) (h : k < pw.length) : (fieldCells pw lg).setIfInBounds k (u8 c) = fieldCells (pw.set k c) lg := by
  simp [fieldCells, List.set_append, h, List.map_set]
theorem fc_lg (pw : List UInt8) (lg : List Int) (k : Nat) (c : Int) : (fieldCells pw lg).setIfInBounds (pw.length + k) (i64 c) = fieldCells pw (lg.set k c) := by
  simp [fieldCells, List.set_append, List.map_set]
theorem fc_size (pw : List UInt8) (lg : List Int) : (fieldCells pw lg).size = pw.length + lg.length := by simp [fieldCells]

def newB (n : Nat) : Option (Nat ⊕ Unit) := if n < 255 then some (.inl (n + 1)) else some (.inr ())
theorem newB_some : iterC newB 0 = some () := iterC_count (fun n => n) 255 () rfl (fun i hi => by simp [newB, hi]) (by simp [newB])
/-- The pure function: a field. -/
def field_New : Option Bool := some true

set_option maxRecDepth 100000 in
set_option maxHeartbeats 8000000 in
theorem field_New_calls (r : Bool) (w0 : World) (L0 : List Value) (hL0 : Old w0 L0) (H : field_New = some r) :
    Calls Try.prog 18 [].toArray w0 (fun e w' => ∃ u0 : Value, e = .returned u0 ∧ Ext w0 w' ∧ Fd w' L0 u0 r) := by
  have hE : Ext w0 w0 := Ext.refl w0
  obtain rfl := Option.some.inj H
  refine calls_W (n := 32) Try.func18 rfl rfl rfl ?_
  refine W_seq ?_
  refine W_reg (by kernel_rfl) ?_
  refine wla rfl rfl (q_assign (v := .pointer none) rfl rfl) ?_
  refine wl_nil ?_
  refine W_th ?_
  refine W_seq ?_
  refine W_reg (by kernel_rfl) ?_
  refine wla rfl rfl (v := .agg zF) (fun w => by simp [execOp, build0]) ?_
  refine wls rfl rfl (stp_box (v := .agg zF) rfl rfl ?_)
  intro w1 hb hg
  have e1 := hE.trans (grown_ext hg)
  generalize hgg : w0.heap.size = g at hb
  have hgn : w0.heap.size ≤ g := Nat.le_of_eq hgg
  refine wla rfl rfl (q_assign (v := .pointer (some ⟨g, 0, none⟩)) rfl rfl) ?_
  refine wl_nil ?_
  refine W_th ?_
  refine W_seq ?_
  refine W_reg (by kernel_rfl) ?_
  refine wla rfl rfl (q_assign (v := u8 1) rfl (cst8 1 rfl)) ?_
  refine wl_nil ?_
  refine W_th ?_
  refine W_seq ?_
  refine W_seq ?_
  refine W_reg (by kernel_rfl) ?_
  refine wla rfl rfl (q_move (v := i64 0) rfl rfl) ?_
  refine wl_nil ?_
  refine W_th ?_
  refine W_mid (fun f w => f 32 = undef ∧ f 1 = .pointer (some ⟨g, 0, none⟩) ∧ Ext w0 w ∧ Blk w g 82 (fieldCells Gf.pwT Gf.lgT)) ?_ ?_
  · refine W_block ?_
    refine W_loop (fun (n : Nat) f w => f 32 = undef ∧ n ≤ 255 ∧ f 6 = i64 (n : Int) ∧ f 1 = .pointer (some ⟨g, 0, none⟩) ∧ f 2 = u8 (Gf.pw n) ∧ Ext w0 w ∧ Blk w g 82 (fieldCells (Gf.tabN n).1 (Gf.tabN n).2.1)) newB_some ?_ ?_
    · exact ⟨rfl, by decide, rfl, rfl, rfl, e1, hb⟩
    · rintro n r _ w ⟨hm, hn, s6, s1, s2, e, hB⟩ hr hx
      have hl := Gf.tab_len n
      refine W_seq ?_
      refine W_reg (by kernel_rfl) ?_
      refine wla rfl rfl (q_ltI rfl s6 rfl) ?_
      refine wl_nil ?_
      refine W_th ?_
      refine W_seq ?_
      refine W_cond _ rfl rfl (fun hb9 => ?_) (fun hb9 => ?_)
      · have hlt : n < 255 := by have := of_decide_eq_true hb9; omega
        have hr' : some (Sum.inl (n + 1)) = some r := by rw [← hr, newB, if_pos hlt]
        obtain rfl := Option.some.inj hr'
        refine W_skip ?_
        refine W_th ?_
        refine W_seq ?_
        refine W_block ?_
        refine W_seq ?_
        refine W_reg (by kernel_rfl) ?_
        refine wla rfl rfl (q_move (v := i64 (n : Int)) rfl s6) ?_
        refine wla rfl rfl (q_assign (v := i64 (n : Int)) rfl rfl) ?_
        refine wl_nil ?_
        refine W_th ?_
        refine W_seq ?_
        refine W_draw [] [(0, 0), (1, 0), (2, 0), (3, 0), (4, 0), (5, 0), (6, 0), (7, 0), (8, 0), (9, 0), (11, 0), (12, 0), (10, 2), (13, 0), (14, 2)] mixed (by kernel_rfl) (by kernel_rfl) (by kernel_rfl) (by kernel_rfl) ?_
        have x1 := Ext.drew w
        replace e := e.trans x1
        replace hB := hB.ext x1
        have ew : wI ((n : Int) + 255) = ((n + 255 : Nat) : Int) := by rw [wI_of (by omega) (by omega)]; omega
        refine wsa rfl rfl rfl (q_move (v := .pointer (some ⟨g, 0, none⟩)) rfl s1) ?_
        refine wsa rfl rfl rfl (q_move (v := i64 (n : Int)) rfl rfl) ?_
        refine wsa rfl rfl rfl (q_move (v := .pointer (some ⟨g, 0, none⟩)) rfl s1) ?_
        refine wsa rfl rfl rfl (q_move (v := i64 (n : Int)) rfl rfl) ?_
        refine wsa rfl rfl rfl (q_addI rfl rfl rfl) ?_
        rw [ew]
        refine wsa rfl rfl rfl (q_move (v := u8 (Gf.pw n)) rfl s2) ?_
        refine wsa rfl rfl rfl (q_move (v := u8 (Gf.pw n)) rfl s2) ?_
        refine wsa rfl rfl rfl (q_nilP rfl rfl) ?_
        refine wsa rfl rfl rfl (q_fldP rfl fieldAt0 rfl) ?_
        refine wsa rfl rfl rfl (q_ixP (i := n) rfl Try.underlying79 Try.sizeOf5 rfl rfl (by omega)) ?_
        refine wsa rfl rfl rfl (q_nilP rfl rfl) ?_
        refine wsa rfl rfl rfl (q_fldP rfl fieldAt0 rfl) ?_
        refine wsn rfl (by kernel_rfl) rfl rfl (stp_storeB (u := u8 (Gf.pw n)) rfl Try.sizeOf5 rfl rfl hB (by rw [fc_size, hl.1, hl.2]; omega) rfl ?_)
        intro w2 hB2 g2
        rw [show 0 + 0 + n = n by omega, fc_pw _ _ _ _ (by rw [hl.1]; omega)] at hB2
        replace e := e.grownB g2 hgn
        refine wsa rfl rfl rfl (q_ixP (i := n + 255) rfl Try.underlying79 Try.sizeOf5 rfl rfl (by omega)) ?_
        refine wsn rfl (by kernel_rfl) rfl rfl (stp_storeB (u := u8 (Gf.pw n)) rfl Try.sizeOf5 rfl rfl hB2 (by rw [fc_size, List.length_set, hl.1, hl.2]; omega) rfl ?_)
        intro w3 hB3 g3
        rw [show 0 + 0 + (n + 255) = n + 255 by omega, fc_pw _ _ _ _ (by rw [List.length_set, hl.1]; omega)] at hB3
        replace e := e.grownB g3 hgn
        refine ws_nil ?_
        refine W_th ?_
        refine W_seq ?_
        refine W_reg (by kernel_rfl) ?_
        refine wla rfl rfl (q_move (v := .pointer (some ⟨g, 0, none⟩)) rfl s1) ?_
        refine wla rfl rfl (q_move (v := u8 (Gf.pw n)) rfl s2) ?_
        refine wla rfl rfl (q_move (v := i64 (n : Int)) rfl rfl) ?_
        refine wla rfl rfl (q_nilP rfl rfl) ?_
        refine wla rfl rfl (q_fldP rfl fieldAt1 rfl) ?_
        refine wla rfl rfl (q_ixP (i := (Gf.pw n).toNat) rfl Try.underlying80 Try.sizeOf3 rfl rfl (Gf.pw n).toNat_lt) ?_
        refine wln rfl rfl (stp_storeB (u := i64 (n : Int)) rfl Try.sizeOf3 rfl rfl hB3 (by rw [fc_size, List.length_set, List.length_set, hl.1, hl.2]; have := (Gf.pw n).toNat_lt; omega) rfl ?_)
        intro w4 hB4 g4
        rw [show 0 + 510 + (Gf.pw n).toNat = (((Gf.tabN n).1.set n (Gf.pw n)).set (n + 255) (Gf.pw n)).length + (Gf.pw n).toNat by rw [List.length_set, List.length_set, hl.1], fc_lg] at hB4
        replace e := e.grownB g4 hgn
        refine wl_nil ?_
        refine W_th ?_
        refine W_reg (by kernel_rfl) ?_
        refine wla rfl rfl (q_move (v := u8 (Gf.pw n)) rfl s2) ?_
        refine wls rfl rfl (stp_call (vs := [u8 (Gf.pw n), u8 3]) Try.func52 rfl rfl rfl (ar2 rfl (cst8 3 rfl)) (field_Slow_calls (Gf.pw n) 3 _ _ (Slow_eq _ _)) ?_)
        rintro _ w5 ⟨rfl, x5⟩
        refine ⟨_, rfl, ?_⟩
        replace e := e.trans x5
        replace hB4 := hB4.ext x5
        refine wla rfl rfl (q_assign (v := u8 (Gf.mul (Gf.pw n) 3)) rfl rfl) ?_
        refine wl_nil ?_
        refine bk_n ?_
        refine W_th ?_
        refine W_reg (by kernel_rfl) ?_
        refine wla rfl rfl (q_addI rfl s6 rfl) ?_
        have ew2 : wI ((n : Int) + 1) = ((n + 1 : Nat) : Int) := by rw [wI_of (by omega) (by omega)]; omega
        rw [ew2]
        refine wla rfl rfl (q_move (v := i64 ((n + 1 : Nat) : Int)) rfl rfl) ?_
        refine wl_nil ?_
        refine ⟨_, rfl, hm, by omega, rfl, s1, rfl, e, ?_⟩
        rw [← Gf.tab_pw n] at hB4
        exact hB4
      · have hge : n = 255 := by have := of_decide_eq_false hb9; omega
        subst hge
        have hr' : some (Sum.inr ()) = some r := by rw [← hr]; rfl
        obtain rfl := Option.some.inj hr'
        refine W_exit ?_
        refine th_x ?_
        refine th_x ?_
        refine bk_x ?_
        exact ⟨hm, s1, e, hB⟩
  · rintro _ w ⟨hm, s1, e, hB⟩
    refine W_th ?_
    refine W_seq ?_
    refine W_reg (by kernel_rfl) ?_
    refine wla rfl rfl (q_move (v := .pointer (some ⟨g, 0, none⟩)) rfl s1) ?_
    refine wla rfl rfl (q_assign (v := .pointer (some ⟨g, 0, none⟩)) rfl rfl) ?_
    refine wl_nil ?_
    refine W_th ?_
    refine W_ret ?_
    refine rt1 (.pointer (some ⟨g, 0, none⟩)) rfl rfl rfl hm ?_
    exact ⟨.pointer (some ⟨g, 0, none⟩), rfl, e, .inr ⟨rfl, g, rfl, hL0 g hgn, hB⟩⟩
end Gk

/- What the field's functions come to, in plain Lean. No condition but lengths. -/



set_option linter.unusedSimpArgs false
namespace Gk
open Gf
theorem idx_nat {α : Type} (l : List α) (n : Nat) : idx l (n : Int) = l[n]? := by simp [idx]
theorem idx_lg (a : UInt8) : idx lgT (a.toNat : Int) = some (lg a : Int) := by rw [idx_nat, lgT_get]
theorem idx_pw (n : Nat) (h : n < 510) : idx pwT (n : Int) = some (pw n) := by rw [idx_nat, pwT_get n h]
theorem Mul_eq (a b : UInt8) : field_Mul true a b = some (mul a b) := by
  unfold field_Mul
  rw [if_neg (by simp)]
  by_cases ha : a = 0
  · rw [if_pos ha, ha, zero_mul]
  · by_cases hb : b = 0
    · rw [if_neg ha, if_pos hb, hb, mul_zero]
    · have h1 := lg_lt a
      have h2 := lg_lt b
      have e : wI ((lg a : Int) + (lg b : Int)) = ((lg a + lg b : Nat) : Int) := by rw [wI_of (by omega) (by omega)]; omega
      rw [if_neg ha, if_neg hb]
      simp only [grd, idx_lg, Option.bind_some, e, idx_pw _ (show lg a + lg b < 510 by omega), mul_pw ha hb, if_true]
theorem Inv_eq (a : UInt8) : field_Inv true a = some (if a = 0 then (0, 7) else (inv a, 0)) := by
  unfold field_Inv
  rw [if_neg (by simp)]
  by_cases ha : a = 0
  · rw [if_pos ha, if_pos ha]
  · have h1 := lg_lt a
    have e : wI (255 - (lg a : Int)) = ((255 - lg a : Nat) : Int) := by rw [wI_of (by omega) (by omega)]; omega
    rw [if_neg ha, if_neg ha]
    simp only [grd, idx_lg, Option.bind_some, e, idx_pw _ (show 255 - lg a < 510 by omega), if_true, inv, if_neg ha]
/-- A power, of whatever whole number. -/
def powZ (a : UInt8) (n : Int) : UInt8 := if n = 0 then 1 else if a = 0 then 0 else pw (lg a * (n % 255).toNat)
end Gk

/- Rows of bytes, sums of rows, the document's inverses and powers, in plain Lean. No condition. -/

set_option linter.unusedSimpArgs false
set_option linter.unusedVariables false
namespace Gk
open Gf
theorem makeL_nat {α : Type} (n : Nat) (z : α) (h : n ≤ most) : makeL (n : Int) z = some (List.replicate n z) := by
  unfold makeL; rw [if_pos ⟨by omega, by omega⟩]; simp
theorem copyL_all {α : Type} (z : α) (a : List α) : copyL (List.replicate a.length z) 0 a = a := by
  unfold copyL; simp
/-- A row, and a number times another one added. -/
def sumL (a : List UInt8) (c : UInt8) (b : List UInt8) : List UInt8 := a.mapIdx fun j x => x ^^^ mul c (b.getD j 0)
def sumTo (a : List UInt8) (c : UInt8) (b : List UInt8) (i : Nat) : List UInt8 := a.mapIdx fun j x => if j < i then x ^^^ mul c (b.getD j 0) else x
theorem sumL_len (a : List UInt8) (c : UInt8) (b : List UInt8) : (sumL a c b).length = a.length := by simp [sumL]
theorem sumTo_len (a : List UInt8) (c : UInt8) (b : List UInt8) (i : Nat) : (sumTo a c b i).length = a.length := by simp [sumTo]
theorem sumTo_set (a : List UInt8) (c : UInt8) (b : List UInt8) (i : Nat) (x : UInt8) (h : a[i]? = some x) (y : UInt8) (hb : b[i]? = some y) : (sumTo a c b i).set i (x ^^^ mul c y) = sumTo a c b (i + 1) := by
  apply List.ext_getElem?
  intro j
  simp only [sumTo, List.getElem?_set, List.getElem?_mapIdx, List.length_mapIdx]
  have hi := (List.getElem?_eq_some_iff.1 h).1
  by_cases hj : i = j
  · subst hj
    simp [hi, List.getD, hb]
    rw [(List.getElem?_eq_some_iff.1 h).2]
  · rw [if_neg hj]
    have : j < i + 1 ↔ j < i := by omega
    simp [this]
theorem sumTo_get (a : List UInt8) (c : UInt8) (b : List UInt8) (i : Nat) (x : UInt8) (h : a[i]? = some x) : (sumTo a c b i)[i]? = some x := by
  simp [sumTo, List.getElem?_mapIdx, h]
theorem sumTo_end (a : List UInt8) (c : UInt8) (b : List UInt8) (i : Nat) (h : b.length ≤ i ∨ a.length ≤ i) : sumTo a c b i = sumL a c b := by
  apply List.ext_getElem?
  intro j
  simp only [sumTo, sumL, List.getElem?_mapIdx]
  by_cases hj : j < i
  · simp [hj]
  · rcases h with h | h
    · have : b.getD j 0 = 0 := by simp [List.getD, List.getElem?_eq_none (show b.length ≤ j by omega)]
      simp only [hj, this, mul_zero, xor_zero, if_false]
    · simp [List.getElem?_eq_none (show a.length ≤ j by omega)]
theorem minI (a b : Nat) : (if (b : Int) < (a : Int) then (b : Int) else (a : Int)) = ((min a b : Nat) : Int) := by split <;> omega
theorem wI_succ (i : Nat) (h : i < 9223372036854775807) : wI ((i : Int) + 1) = ((i + 1 : Nat) : Int) := by rw [wI_of (by omega) (by omega)]; omega
theorem most_lt : most < 9223372036854775807 := by decide
theorem refInv_eq (a : UInt8) : ref02_Inv a = some (inv a) := by
  unfold ref02_Inv
  simp only [refMul_eq, Option.bind_some]
  have e : ∀ k : Nat, k < 256 → UInt8.ofInt (k : Int) = UInt8.ofNat k := by
    intro k hk
    have : (UInt8.ofNat k).toNat = k := by simp; omega
    rw [← this, ofInt_nat, this]
  by_cases ha : a = 0
  · refine bind_of (x := (Sum.inl () : Unit ⊕ UInt8)) (iterC_count (fun i => (1 + (i : Int))) 255 (Sum.inl ()) (by simp) ?_ ?_) ?_
    · intro i hi
      rw [if_pos (by omega)]
      rw [ha]
      simp only [zero_mul]
      rw [if_neg (by decide)]
      have : wI (1 + (i : Int) + 1) = 1 + ((i + 1 : Nat) : Int) := by rw [wI_of (by omega) (by omega)]; omega
      rw [this]
    · rw [if_neg (by omega)]
    · simp [ha, inv_zero]
  · have hn := inv_ne ha
    have hlt := (inv a).toNat_lt
    have hpos : 0 < (inv a).toNat := Nat.pos_of_ne_zero (fun e => hn (UInt8.toNat_inj.1 (by simpa using e)))
    refine bind_of (x := (Sum.inr (inv a) : Unit ⊕ UInt8)) (iterC_count (fun i => (1 + (i : Int))) ((inv a).toNat - 1) (Sum.inr (inv a)) (by simp) ?_ ?_) rfl
    · intro i hi
      rw [if_pos (by omega)]
      have e1 : (1 + (i : Int)) = ((i + 1 : Nat) : Int) := by omega
      have hne : mul a (UInt8.ofInt (1 + (i : Int))) ≠ 1 := by
        intro h
        have h2 := inv_uniq h
        rw [e1, e _ (by omega)] at h2
        have h3 := congrArg UInt8.toNat h2
        simp at h3
        omega
      rw [if_neg hne]
      have : wI (1 + (i : Int) + 1) = 1 + ((i + 1 : Nat) : Int) := by rw [wI_of (by omega) (by omega)]; omega
      rw [this]
    · rw [if_pos (by omega)]
      have e1 : (1 + (((inv a).toNat - 1 : Nat) : Int)) = ((inv a).toNat : Int) := by omega
      rw [e1, ofInt_nat, mul_inv ha, if_pos rfl]
theorem lg_mul {a b : UInt8} (ha : a ≠ 0) (hb : b ≠ 0) : lg (mul a b) = (lg a + lg b) % 255 := by rw [← mul_pw ha hb, lg_pw]
theorem appL_nil {α : Type} (a : List α) (h : a.length ≤ most) : appL [] a = some a := by
  unfold appL; rw [if_pos (by simpa using h)]; simp
end Gk

/- Polynomials over GF(256), as lists of numbers, the lowest first. Plain. No condition. -/

set_option linter.unusedSimpArgs false
namespace Gf

/-- The number at a place. -/
def co (p : List UInt8) (i : Nat) : UInt8 := p.getD i 0
theorem co_nil (i : Nat) : co [] i = 0 := by simp [co]
theorem co_zero (c : UInt8) (p : List UInt8) : co (c :: p) 0 = c := rfl
theorem co_succ (c : UInt8) (p : List UInt8) (i : Nat) : co (c :: p) (i + 1) = co p i := by simp [co]
theorem co_ge {p : List UInt8} {i : Nat} (h : p.length ≤ i) : co p i = 0 := by simp [co, List.getD_eq_getElem?_getD, List.getElem?_eq_none h]
theorem co_lt {p : List UInt8} {i : Nat} (h : i < p.length) : co p i = p[i] := by simp [co, List.getD_eq_getElem?_getD, h]
theorem co_get {p : List UInt8} {i : Nat} (h : i < p.length) : p[i]? = some (co p i) := by rw [co_lt h]; simp [h]
theorem co_rep (n i : Nat) : co (List.replicate n 0) i = 0 := by
  simp only [co, List.getD_eq_getElem?_getD, List.getElem?_replicate]; split <;> rfl
theorem co_map (c : UInt8) (p : List UInt8) (i : Nat) : co (p.map (mul c)) i = mul c (co p i) := by
  simp only [co, List.getD_eq_getElem?_getD, List.getElem?_map]
  cases p[i]? <;> simp [mul_zero]
theorem co_set {p : List UInt8} {j : Nat} (h : j < p.length) (c : UInt8) (i : Nat) : co (p.set j c) i = if i = j then c else co p i := by
  simp only [co, List.getD_eq_getElem?_getD, List.getElem?_set]
  by_cases hij : j = i
  · subst hij; simp [h]
  · simp [hij, Ne.symm hij]
/-- The same numbers everywhere. -/
def Sim (p q : List UInt8) : Prop := ∀ i, co p i = co q i
theorem Sim.refl (p : List UInt8) : Sim p p := fun _ => rfl
theorem Sim.symm {p q : List UInt8} (h : Sim p q) : Sim q p := fun i => (h i).symm
theorem Sim.trans {p q r : List UInt8} (h : Sim p q) (k : Sim q r) : Sim p r := fun i => (h i).trans (k i)

/-! ### Without noughts at the end -/
def trim : List UInt8 → List UInt8
  | [] => []
  | c :: p => if trim p = [] ∧ c = 0 then [] else c :: trim p
theorem co_trim : ∀ (p : List UInt8) (i : Nat), co (trim p) i = co p i
  | [], i => rfl
  | c :: p, i => by
    unfold trim
    split
    · rename_i h
      rw [co_nil]
      cases i with
      | zero => rw [co_zero, h.2]
      | succ i => rw [co_succ, ← co_trim p i, h.1, co_nil]
    · cases i with
      | zero => rfl
      | succ i => rw [co_succ, co_succ, co_trim p i]
theorem trim_sim (p : List UInt8) : Sim (trim p) p := co_trim p
theorem trim_zero : ∀ (p : List UInt8), (∀ i, co p i = 0) → trim p = []
  | [], _ => rfl
  | c :: p, h => by
    unfold trim
    rw [if_pos ⟨trim_zero p (fun i => by rw [← co_succ c p i]; exact h (i + 1)), by rw [← co_zero c p]; exact h 0⟩]
theorem trim_ext : ∀ (p q : List UInt8), Sim p q → trim p = trim q
  | [], q, h => (trim_zero q (fun i => by rw [← h i, co_nil])).symm
  | c :: p, [], h => trim_zero (c :: p) (fun i => by rw [h i, co_nil])
  | c :: p, d :: q, h => by
    have h0 : c = d := by have := h 0; rwa [co_zero, co_zero] at this
    have h1 : trim p = trim q := trim_ext p q (fun i => by have := h (i + 1); rwa [co_succ, co_succ] at this)
    unfold trim
    rw [h0, h1]
theorem trim_trim (p : List UInt8) : trim (trim p) = trim p := trim_ext _ _ (trim_sim p)
theorem trim_le : ∀ (p : List UInt8), (trim p).length ≤ p.length
  | [] => Nat.le_refl _
  | c :: p => by
    unfold trim
    split
    · exact Nat.zero_le _
    · have := trim_le p; simp only [List.length_cons]; omega
theorem trim_last : ∀ (p : List UInt8), trim p ≠ [] → co p ((trim p).length - 1) ≠ 0
  | [], h => absurd rfl h
  | c :: p, h => by
    unfold trim at h ⊢
    split
    · rename_i h'; rw [if_pos h'] at h; exact absurd rfl h
    · rename_i h'
      simp only [List.length_cons, Nat.add_sub_cancel]
      cases ht : trim p with
      | nil =>
        rw [List.length_nil, co_zero]
        exact fun e => h' ⟨ht, e⟩
      | cons d q =>
        have := trim_last p (by rw [ht]; simp)
        rw [ht] at this
        simp only [List.length_cons, Nat.add_sub_cancel] at this ⊢
        rwa [co_succ]
theorem trim_nil {p : List UInt8} (h : trim p = []) (i : Nat) : co p i = 0 := by rw [← co_trim, h, co_nil]
/-- What is above the degree is 0. -/
theorem trim_bound (p : List UInt8) (n : Nat) : (trim p).length ≤ n ↔ ∀ i, n ≤ i → co p i = 0 := by
  constructor
  · intro h i hi
    rw [← co_trim]; exact co_ge (Nat.le_trans h hi)
  · intro h
    refine Nat.le_of_not_lt fun hlt => ?_
    have hne : trim p ≠ [] := fun e => by rw [e] at hlt; simp at hlt
    exact trim_last p hne (h _ (by omega))
theorem trim_take : ∀ (p : List UInt8), trim p = p.take (trim p).length
  | [] => rfl
  | c :: p => by
    unfold trim
    split
    · rfl
    · simp only [List.length_cons, List.take_succ_cons]
      rw [← trim_take p]
theorem trim_id {p : List UInt8} (h : p ≠ [] → co p (p.length - 1) ≠ 0) : trim p = p := by
  by_cases hp : p = []
  · rw [hp]; rfl
  · have h1 : p.length ≤ (trim p).length := Nat.le_of_not_lt fun hlt => by
      have hpos := List.length_pos_iff.2 hp
      exact h hp ((trim_bound p (p.length - 1)).1 (by omega) _ (Nat.le_refl _))
    rw [trim_take p, List.take_of_length_le h1]
theorem sim_of_trim {p q : List UInt8} (h : trim p = trim q) : Sim p q := (trim_sim p).symm.trans (h ▸ trim_sim q)

/-! ### Values -/
def evp : List UInt8 → UInt8 → UInt8
  | [], _ => 0
  | c :: p, x => c ^^^ mul (evp p x) x
theorem ev_zero : ∀ (p : List UInt8) (x : UInt8), (∀ i, co p i = 0) → evp p x = 0
  | [], _, _ => rfl
  | c :: p, x, h => by
    have h0 : c = 0 := by rw [← co_zero c p]; exact h 0
    unfold evp
    rw [h0, ev_zero p x (fun i => by rw [← co_succ c p i]; exact h (i + 1)), zero_mul, zero_xor]
theorem ev_sim : ∀ (p q : List UInt8) (x : UInt8), Sim p q → evp p x = evp q x
  | [], q, x, h => (ev_zero q x (fun i => by rw [← h i, co_nil])).symm
  | c :: p, [], x, h => ev_zero (c :: p) x (fun i => by rw [h i, co_nil])
  | c :: p, d :: q, x, h => by
    have h0 : c = d := by have := h 0; rwa [co_zero, co_zero] at this
    unfold evp
    rw [h0, ev_sim p q x (fun i => by have := h (i + 1); rwa [co_succ, co_succ] at this)]
theorem ev_trim (p : List UInt8) (x : UInt8) : evp (trim p) x = evp p x := ev_sim _ _ x (trim_sim p)

/-! ### Sums and products -/
def pplus : List UInt8 → List UInt8 → List UInt8
  | [], q => q
  | p, [] => p
  | a :: p, b :: q => (a ^^^ b) :: pplus p q
theorem pplus_nil (p : List UInt8) : pplus p [] = p := by cases p <;> rfl
theorem co_pplus : ∀ (p q : List UInt8) (i : Nat), co (pplus p q) i = co p i ^^^ co q i
  | [], q, i => by rw [co_nil, zero_xor]; rfl
  | a :: p, [], i => by rw [co_nil, xor_zero]; rfl
  | a :: p, b :: q, 0 => rfl
  | a :: p, b :: q, i + 1 => by
    show co ((a ^^^ b) :: pplus p q) (i + 1) = _
    rw [co_succ, co_succ, co_succ]; exact co_pplus p q i
theorem pplus_len : ∀ (p q : List UInt8), (pplus p q).length = max p.length q.length
  | [], q => by simp [pplus]
  | a :: p, [] => by simp [pplus]
  | a :: p, b :: q => by simp only [pplus, List.length_cons, pplus_len p q]; omega
theorem ev_pplus : ∀ (p q : List UInt8) (x : UInt8), evp (pplus p q) x = evp p x ^^^ evp q x
  | [], q, x => by show evp q x = 0 ^^^ evp q x; rw [zero_xor]
  | a :: p, [], x => by show evp (a :: p) x = evp (a :: p) x ^^^ 0; rw [xor_zero]
  | a :: p, b :: q, x => by
    show (a ^^^ b) ^^^ mul (evp (pplus p q) x) x = (a ^^^ mul (evp p x) x) ^^^ (b ^^^ mul (evp q x) x)
    rw [ev_pplus p q x, add_mul, xor_xor_swap]
theorem ev_map (c : UInt8) : ∀ (p : List UInt8) (x : UInt8), evp (p.map (mul c)) x = mul c (evp p x)
  | [], x => (mul_zero c).symm
  | a :: p, x => by
    show mul c a ^^^ mul (evp (p.map (mul c)) x) x = mul c (a ^^^ mul (evp p x) x)
    rw [ev_map c p x, mul_add, mul_assoc]
def pmul : List UInt8 → List UInt8 → List UInt8
  | [], _ => []
  | c :: p, q => pplus (q.map (mul c)) (0 :: pmul p q)
theorem co_pmul_zero (c : UInt8) (p q : List UInt8) : co (pmul (c :: p) q) 0 = mul c (co q 0) := by
  unfold pmul; rw [co_pplus, co_map, co_zero, xor_zero]
theorem co_pmul_succ (c : UInt8) (p q : List UInt8) (i : Nat) : co (pmul (c :: p) q) (i + 1) = mul c (co q (i + 1)) ^^^ co (pmul p q) i := by
  show co (pplus (q.map (mul c)) (0 :: pmul p q)) (i + 1) = _
  rw [co_pplus, co_map, co_succ]
theorem pmul_len : ∀ (p q : List UInt8), (pmul p q).length ≤ p.length + q.length
  | [], q => by simp [pmul]
  | c :: p, q => by
    have := pmul_len p q
    simp only [pmul, pplus_len, List.length_map, List.length_cons]; omega
theorem ev_pmul : ∀ (p q : List UInt8) (x : UInt8), evp (pmul p q) x = mul (evp p x) (evp q x)
  | [], q, x => (zero_mul _).symm
  | c :: p, q, x => by
    show evp (pplus (q.map (mul c)) (0 :: pmul p q)) x = mul (c ^^^ mul (evp p x) x) (evp q x)
    rw [ev_pplus, ev_map, add_mul]
    show mul c (evp q x) ^^^ (0 ^^^ mul (evp (pmul p q) x) x) = _
    rw [zero_xor, ev_pmul p q x, mul_assoc, mul_assoc, mul_comm (evp q x) x]
/-- One number more on top. -/
theorem co_pmul_snoc : ∀ (p : List UInt8) (c : UInt8) (q : List UInt8) (i : Nat), co (pmul (p ++ [c]) q) i = co (pmul p q) i ^^^ (if i < p.length then 0 else mul c (co q (i - p.length)))
  | [], c, q, i => by
    cases i with
    | zero => rw [List.nil_append, co_pmul_zero]; simp [pmul, co_nil, zero_xor]
    | succ i => rw [List.nil_append, co_pmul_succ]; simp [pmul, co_nil, zero_xor, xor_zero]
  | a :: p, c, q, i => by
    cases i with
    | zero => rw [List.cons_append, co_pmul_zero, co_pmul_zero]; simp [xor_zero]
    | succ i =>
      rw [List.cons_append, co_pmul_succ, co_pmul_succ, co_pmul_snoc p c q i, xor_assoc]
      simp only [List.length_cons, Nat.add_lt_add_iff_right, Nat.add_sub_add_right]
/-- A number is set where there was 0. -/
theorem co_pmul_set : ∀ (p : List UInt8) (j : Nat) (c : UInt8) (q : List UInt8) (i : Nat), j < p.length → co p j = 0 → co (pmul (p.set j c) q) i = co (pmul p q) i ^^^ (if i < j then 0 else mul c (co q (i - j)))
  | [], j, c, q, i, h, _ => by simp at h
  | a :: p, 0, c, q, i, _, h0 => by
    rw [co_zero] at h0; subst h0
    rw [List.set_cons_zero]
    cases i with
    | zero => rw [co_pmul_zero, co_pmul_zero, zero_mul, zero_xor]; simp
    | succ i => rw [co_pmul_succ, co_pmul_succ, zero_mul, zero_xor, xor_comm]; simp
  | a :: p, j + 1, c, q, i, h, h0 => by
    rw [co_succ] at h0
    rw [List.set_cons_succ]
    cases i with
    | zero => rw [co_pmul_zero, co_pmul_zero]; simp [xor_zero]
    | succ i =>
      rw [co_pmul_succ, co_pmul_succ, co_pmul_set p j c q i (by simpa using h) h0, xor_assoc]
      simp only [Nat.add_lt_add_iff_right, Nat.add_sub_add_right]
theorem pmul_simL : ∀ (p p' q : List UInt8), Sim p p' → Sim (pmul p q) (pmul p' q)
  | [], [], q, _ => Sim.refl _
  | [], d :: p', q, h => by
    have h0 : d = 0 := by have := h 0; rw [co_nil, co_zero] at this; exact this.symm
    have h1 := pmul_simL [] p' q (fun i => by have := h (i + 1); rwa [co_nil, co_succ] at this)
    intro i
    cases i with
    | zero => rw [co_pmul_zero, h0, zero_mul]; rfl
    | succ i => rw [co_pmul_succ, h0, zero_mul, zero_xor, ← h1 i]; rfl
  | c :: p, [], q, h => by
    have h0 : c = 0 := by have := h 0; rwa [co_nil, co_zero] at this
    have h1 := pmul_simL p [] q (fun i => by have := h (i + 1); rwa [co_nil, co_succ] at this)
    intro i
    cases i with
    | zero => rw [co_pmul_zero, h0, zero_mul]; rfl
    | succ i => rw [co_pmul_succ, h0, zero_mul, zero_xor, h1 i]; rfl
  | c :: p, d :: p', q, h => by
    have h0 : c = d := by have := h 0; rwa [co_zero, co_zero] at this
    have h1 := pmul_simL p p' q (fun i => by have := h (i + 1); rwa [co_succ, co_succ] at this)
    intro i
    cases i with
    | zero => rw [co_pmul_zero, co_pmul_zero, h0]
    | succ i => rw [co_pmul_succ, co_pmul_succ, h0, h1 i]
theorem pmul_simR : ∀ (p q q' : List UInt8), Sim q q' → Sim (pmul p q) (pmul p q')
  | [], q, q', _ => Sim.refl _
  | c :: p, q, q', h => by
    have h1 := pmul_simR p q q' h
    intro i
    cases i with
    | zero => rw [co_pmul_zero, co_pmul_zero, h 0]
    | succ i => rw [co_pmul_succ, co_pmul_succ, h (i + 1), h1 i]
theorem pmul_sim {p p' q q' : List UInt8} (h : Sim p p') (k : Sim q q') : Sim (pmul p q) (pmul p' q') := (pmul_simL p p' q h).trans (pmul_simR p' q q' k)
theorem pplus_sim {p p' q q' : List UInt8} (h : Sim p p') (k : Sim q q') : Sim (pplus p q) (pplus p' q') := fun i => by rw [co_pplus, co_pplus, h i, k i]
theorem pplus_comm (p q : List UInt8) : Sim (pplus p q) (pplus q p) := fun i => by rw [co_pplus, co_pplus, xor_comm]
/-- Products go through sums. -/
theorem pmul_addL : ∀ (p q o : List UInt8), Sim (pmul (pplus p q) o) (pplus (pmul p o) (pmul q o))
  | [], q, o => by
    intro i; rw [co_pplus]
    show co (pmul q o) i = co [] i ^^^ co (pmul q o) i
    rw [co_nil, zero_xor]
  | a :: p, [], o => by
    intro i; rw [co_pplus]
    show co (pmul (a :: p) o) i = co (pmul (a :: p) o) i ^^^ co [] i
    rw [co_nil, xor_zero]
  | a :: p, b :: q, o => by
    have h1 := pmul_addL p q o
    intro i
    rw [co_pplus]
    show co (pmul ((a ^^^ b) :: pplus p q) o) i = _
    cases i with
    | zero => rw [co_pmul_zero, co_pmul_zero, co_pmul_zero, add_mul]
    | succ i => rw [co_pmul_succ, co_pmul_succ, co_pmul_succ, h1 i, co_pplus, add_mul, xor_xor_swap]
/-- The number on top of a product. -/
theorem co_pmul_top : ∀ (p q : List UInt8) (m : Nat), p ≠ [] → (∀ i, m < i → co q i = 0) → co (pmul p q) (p.length - 1 + m) = mul (co p (p.length - 1)) (co q m)
  | [], q, m, h, _ => absurd rfl h
  | [c], q, m, _, hq => by
    simp only [List.length_cons, List.length_nil, Nat.zero_add, Nat.sub_self, co_zero]
    cases m with
    | zero => rw [co_pmul_zero]
    | succ m => rw [co_pmul_succ]; simp [pmul, co_nil, xor_zero]
  | c :: d :: p, q, m, _, hq => by
    have h1 := co_pmul_top (d :: p) q m (by simp) hq
    simp only [List.length_cons, Nat.add_sub_cancel] at h1 ⊢
    rw [show p.length + 1 + m = (p.length + m) + 1 by omega, co_pmul_succ, hq (p.length + m + 1) (by omega), mul_zero, zero_xor, co_succ]
    exact h1
/-- A product of what has no noughts at its end has none either. -/
theorem pmul_trim_len {p q : List UInt8} (hp : trim p = p) (hq : trim q = q) (hp0 : p ≠ []) (hq0 : q ≠ []) : (trim (pmul p q)).length = p.length + q.length - 1 := by
  have lp := List.length_pos_iff.2 hp0
  have lq := List.length_pos_iff.2 hq0
  have t1 : co p (p.length - 1) ≠ 0 := by have := trim_last p (by rw [hp]; exact hp0); rwa [hp] at this
  have t2 : co q (q.length - 1) ≠ 0 := by have := trim_last q (by rw [hq]; exact hq0); rwa [hq] at this
  have top := co_pmul_top p q (q.length - 1) hp0 (fun i hi => co_ge (by omega))
  have hle : (trim (pmul p q)).length ≤ p.length + q.length - 1 := by
    refine (trim_bound _ _).2 fun i hi => ?_
    exact go p q i (by omega)
  refine Nat.le_antisymm hle (Nat.le_of_not_lt fun hlt => ?_)
  have := (trim_bound (pmul p q) (p.length + q.length - 2)).1 (by omega) (p.length - 1 + (q.length - 1)) (by omega)
  rw [top] at this
  exact mul_ne t1 t2 this
where
  go : ∀ (p q : List UInt8) (i : Nat), p.length + q.length ≤ i + 1 → co (pmul p q) i = 0
  | [], q, i, _ => co_nil i
  | c :: p, q, i, h => by
    simp only [List.length_cons] at h
    cases i with
    | zero => rw [co_pmul_zero, co_ge (by omega), mul_zero]
    | succ i => rw [co_pmul_succ, co_ge (by omega), mul_zero, zero_xor]; exact go p q i (by omega)
theorem co_pmul_ge {p q : List UInt8} {i : Nat} (h : p.length + q.length ≤ i + 1) : co (pmul p q) i = 0 := pmul_trim_len.go p q i h
theorem pmul_nilR (p : List UInt8) : Sim (pmul p []) [] := by
  intro i
  induction p generalizing i with
  | nil => rfl
  | cons c p ih =>
    rw [co_nil]
    cases i with
    | zero => rw [co_pmul_zero, co_nil, mul_zero]
    | succ i => rw [co_pmul_succ, co_nil, mul_zero, zero_xor, ih i, co_nil]
end Gf

/- Interpolation over GF(256): roots, Lagrange's and Newton's way. Plain. No condition. -/

set_option linter.unusedSimpArgs false
set_option linter.unusedVariables false
namespace Gf

/-! ### Degrees -/
/-- How many numbers a polynomial has, without noughts at the end. -/
def dg (p : List UInt8) : Nat := (trim p).length
theorem dg_le {p : List UInt8} {n : Nat} : dg p ≤ n ↔ ∀ i, n ≤ i → co p i = 0 := trim_bound p n
theorem dg_len (p : List UInt8) : dg p ≤ p.length := trim_le p
theorem dg_sim {p q : List UInt8} (h : Sim p q) : dg p = dg q := congrArg List.length (trim_ext _ _ h)
theorem dg_pplus {p q : List UInt8} {n : Nat} (hp : dg p ≤ n) (hq : dg q ≤ n) : dg (pplus p q) ≤ n :=
  dg_le.2 fun i hi => by rw [co_pplus, dg_le.1 hp i hi, dg_le.1 hq i hi, xor_zero]
theorem dg_map {p : List UInt8} {n : Nat} (c : UInt8) (hp : dg p ≤ n) : dg (p.map (mul c)) ≤ n :=
  dg_le.2 fun i hi => by rw [co_map, dg_le.1 hp i hi, mul_zero]
theorem dg_pmul {p q : List UInt8} {a b : Nat} (hp : dg p ≤ a) (hq : dg q ≤ b) : dg (pmul p q) ≤ a + b - 1 :=
  dg_le.2 fun i hi => by
    rw [← pmul_sim (trim_sim p) (trim_sim q) i]
    exact co_pmul_ge (by unfold dg at hp hq; omega)
theorem dg_lin (a : UInt8) : dg [a, 1] ≤ 2 := dg_len _
theorem ev_lin (a x : UInt8) : evp [a, 1] x = x ^^^ a := by
  show a ^^^ mul (1 ^^^ mul 0 x) x = x ^^^ a
  rw [zero_mul, xor_zero, one_mul, xor_comm]

/-! ### A polynomial with as many roots as numbers is nothing -/
def syn : List UInt8 → UInt8 → List UInt8
  | [], _ => []
  | _ :: p, a => evp p a :: syn p a
theorem co_syn : ∀ (p : List UInt8) (a : UInt8) (i : Nat), co (syn p a) i = evp (p.drop (i + 1)) a
  | [], a, i => by simp [syn, co_nil, evp]
  | c :: p, a, 0 => by simp [syn, co_zero]
  | c :: p, a, i + 1 => by
    show co (evp p a :: syn p a) (i + 1) = _
    rw [co_succ, co_syn p a i]; rfl
theorem ev_drop : ∀ (p : List UInt8) (a : UInt8) (i : Nat), evp (p.drop i) a = co p i ^^^ mul (evp (p.drop (i + 1)) a) a
  | [], a, i => by simp [co_nil, evp, zero_mul]
  | c :: p, a, 0 => by simp [co_zero, evp]
  | c :: p, a, i + 1 => by rw [List.drop_succ_cons, List.drop_succ_cons, co_succ]; exact ev_drop p a i
theorem ev_syn : ∀ (p : List UInt8) (a x : UInt8), evp p x = mul (x ^^^ a) (evp (syn p a) x) ^^^ evp p a
  | [], a, x => by simp [syn, evp, mul_zero]
  | c :: p, a, x => by
    show c ^^^ mul (evp p x) x = mul (x ^^^ a) (evp p a ^^^ mul (evp (syn p a) x) x) ^^^ (c ^^^ mul (evp p a) a)
    rw [ev_syn p a x, mul_add, add_mul, add_mul x a (evp p a), mul_assoc, mul_comm x (evp p a), mul_comm a (evp p a)]
    generalize mul (x ^^^ a) (mul (evp (syn p a) x) x) = A
    generalize mul (evp p a) x = B
    generalize mul (evp p a) a = C
    simp only [xor_comm, xor_left_comm, xor_assoc]
    rw [xor_self, xor_zero]
theorem roots : ∀ (xs : List UInt8), xs.Nodup → ∀ p : List UInt8, dg p ≤ xs.length → (∀ a ∈ xs, evp p a = 0) → ∀ i, co p i = 0
  | [], _, p, hd, _, i => dg_le.1 hd i (Nat.zero_le _)
  | a :: xs, hn, p, hd, hz, i => by
    rw [List.nodup_cons] at hn
    have ha := hz a (by simp)
    have hs : ∀ i, co (syn p a) i = 0 := by
      refine roots xs hn.2 (syn p a) (dg_le.2 fun i hi => ?_) (fun b hb => ?_)
      · rw [co_syn]
        refine ev_zero _ a fun j => ?_
        have : co (p.drop (i + 1)) j = co p (i + 1 + j) := by simp [co, List.getD_eq_getElem?_getD]
        rw [this]
        exact dg_le.1 hd _ (by simp only [List.length_cons]; omega)
      · have h1 := ev_syn p a b
        rw [hz b (by simp [hb]), ha, xor_zero] at h1
        rcases mul_eq_zero h1.symm with h | h
        · exact absurd (xor_eq_zero h) (fun e => hn.1 (e ▸ hb))
        · exact h
    have h2 := ev_drop p a i
    rw [← co_syn, hs i, zero_mul, xor_zero] at h2
    rw [← h2]
    cases i with
    | zero => rw [List.drop_zero]; exact ha
    | succ i => rw [← co_syn]; exact hs i
/-- Two polynomials of few enough numbers that agree at as many places are one. -/
theorem agree {xs : List UInt8} (hn : xs.Nodup) {p q : List UInt8} (hp : dg p ≤ xs.length) (hq : dg q ≤ xs.length) (h : ∀ a ∈ xs, evp p a = evp q a) : Sim p q := by
  intro i
  have := roots xs hn (pplus p q) (dg_pplus hp hq) (fun a ha => by rw [ev_pplus, h a ha, xor_self]) i
  rw [co_pplus] at this
  exact xor_eq_zero this

/-! ### Products over all places but one -/
def pe (xs : List UInt8) (i : Nat) (x : UInt8) : Nat → UInt8
  | 0 => 1
  | n + 1 => if n = i then pe xs i x n else mul (pe xs i x n) (x ^^^ co xs n)
def pep (xs : List UInt8) (i : Nat) : Nat → List UInt8
  | 0 => [1]
  | n + 1 => if n = i then pep xs i n else pmul (pep xs i n) [co xs n, 1]
theorem ev_pep (xs : List UInt8) (i : Nat) (x : UInt8) : ∀ n, evp (pep xs i n) x = pe xs i x n
  | 0 => by show 1 ^^^ mul 0 x = 1; rw [zero_mul, xor_zero]
  | n + 1 => by
    unfold pep pe
    split
    · exact ev_pep xs i x n
    · rw [ev_pmul, ev_pep xs i x n, ev_lin]
theorem dg_pep (xs : List UInt8) (i : Nat) : ∀ n, dg (pep xs i n) ≤ n + 1 ∧ (i < n → dg (pep xs i n) ≤ n)
  | 0 => ⟨dg_len _, fun h => by omega⟩
  | n + 1 => by
    obtain ⟨h1, h2⟩ := dg_pep xs i n
    unfold pep
    split
    · rename_i h; exact ⟨by omega, fun _ => h1⟩
    · rename_i h
      refine ⟨?_, fun hi => ?_⟩
      · have := dg_pmul h1 (dg_lin (co xs n)); omega
      · have := dg_pmul (h2 (by omega)) (dg_lin (co xs n)); omega
theorem pe_zero (xs : List UInt8) (i j : Nat) (hij : j ≠ i) : ∀ n, j < n → pe xs i (co xs j) n = 0
  | n + 1, h => by
    unfold pe
    by_cases hj : j = n
    · subst hj; rw [if_neg hij, xor_self, mul_zero]
    · have := pe_zero xs i j hij n (by omega)
      split
      · exact this
      · rw [this, zero_mul]
theorem co_inj {xs : List UInt8} (hn : xs.Nodup) {i j : Nat} (hi : i < xs.length) (hj : j < xs.length) (h : co xs i = co xs j) : i = j := by
  rw [co_lt hi, co_lt hj] at h
  rcases Nat.lt_trichotomy i j with h1 | h1 | h1
  · exact absurd h (List.pairwise_iff_getElem.1 hn i j hi hj h1)
  · exact h1
  · exact absurd h.symm (List.pairwise_iff_getElem.1 hn j i hj hi h1)
theorem pe_ne {xs : List UInt8} (hn : xs.Nodup) {i : Nat} (hi : i < xs.length) : ∀ n, n ≤ xs.length → pe xs i (co xs i) n ≠ 0
  | 0, _ => by show (1 : UInt8) ≠ 0; decide
  | n + 1, h => by
    unfold pe
    have := pe_ne hn hi n (by omega)
    split
    · exact this
    · rename_i hne
      exact mul_ne this (fun e => hne (co_inj hn (by omega) hi (xor_eq_zero e).symm))
/-- What the value at the i-th place counts for that at x. -/
def wt (xs : List UInt8) (i : Nat) (x : UInt8) : UInt8 := mul (pe xs i x xs.length) (inv (pe xs i (co xs i) xs.length))
/-- Sums. -/
def sm (f : Nat → UInt8) : Nat → UInt8
  | 0 => 0
  | n + 1 => sm f n ^^^ f n
theorem sm_one (f : Nat → UInt8) (j : Nat) : ∀ n, (∀ i, i < n → i ≠ j → f i = 0) → sm f n = if j < n then f j else 0
  | 0, _ => rfl
  | n + 1, h => by
    unfold sm
    rw [sm_one f j n (fun i hi => h i (by omega))]
    by_cases hj : j < n
    · rw [if_pos hj, if_pos (by omega), h n (by omega) (by omega), xor_zero]
    · rw [if_neg hj, zero_xor]
      by_cases hn : n = j
      · subst hn; rw [if_pos (by omega)]
      · rw [if_neg (by omega)]; exact h n (by omega) hn
theorem sm_congr {f g : Nat → UInt8} : ∀ n, (∀ i, i < n → f i = g i) → sm f n = sm g n
  | 0, _ => rfl
  | n + 1, h => by unfold sm; rw [sm_congr n (fun i hi => h i (by omega)), h n (by omega)]
/-- Lagrange's polynomial of these factors. -/
def lag (xs : List UInt8) (f : Nat → UInt8) : Nat → List UInt8
  | 0 => []
  | m + 1 => pplus (lag xs f m) ((pep xs m xs.length).map (mul (f m)))
theorem ev_lag (xs : List UInt8) (f : Nat → UInt8) (x : UInt8) : ∀ m, evp (lag xs f m) x = sm (fun i => mul (f i) (pe xs i x xs.length)) m
  | 0 => rfl
  | m + 1 => by
    unfold lag sm
    rw [ev_pplus, ev_lag xs f x m, ev_map, ev_pep]
theorem dg_lag (xs : List UInt8) (f : Nat → UInt8) : ∀ m, m ≤ xs.length → dg (lag xs f m) ≤ xs.length
  | 0, _ => Nat.zero_le _
  | m + 1, h => dg_pplus (dg_lag xs f m (by omega)) (dg_map _ ((dg_pep xs m xs.length).2 (by omega)))
/-- The values that Lagrange's polynomial has at the places. -/
theorem lag_at {xs : List UInt8} (hn : xs.Nodup) (ys : Nat → UInt8) {j : Nat} (hj : j < xs.length) : evp (lag xs (fun i => mul (ys i) (inv (pe xs i (co xs i) xs.length))) xs.length) (co xs j) = ys j := by
  rw [ev_lag, sm_one _ j _ (fun i hi hne => by rw [pe_zero xs i j (Ne.symm hne) _ hj, mul_zero]), if_pos hj, mul_assoc, inv_mul (pe_ne hn hj _ (Nat.le_refl _)), mul_one]
theorem mem_co {xs : List UInt8} {a : UInt8} (h : a ∈ xs) : ∃ j, j < xs.length ∧ a = co xs j := by
  obtain ⟨j, hj, rfl⟩ := List.getElem_of_mem h
  exact ⟨j, hj, (co_lt hj).symm⟩
theorem co_mem {xs : List UInt8} {j : Nat} (h : j < xs.length) : co xs j ∈ xs := by rw [co_lt h]; exact List.getElem_mem h
/-- The value anywhere, by the values at the places. -/
theorem lagrange {xs : List UInt8} (hn : xs.Nodup) {p : List UInt8} (hp : dg p ≤ xs.length) (x : UInt8) : evp p x = sm (fun i => mul (wt xs i x) (evp p (co xs i))) xs.length := by
  have h1 : Sim p (lag xs (fun i => mul (evp p (co xs i)) (inv (pe xs i (co xs i) xs.length))) xs.length) :=
    agree hn hp (dg_lag _ _ _ (Nat.le_refl _)) (fun a ha => by
      obtain ⟨j, hj, rfl⟩ := mem_co ha
      rw [lag_at hn (fun i => evp p (co xs i)) hj])
  rw [ev_sim _ _ x h1, ev_lag]
  refine sm_congr _ fun i _ => ?_
  unfold wt
  rw [mul_assoc, mul_comm (inv _) (pe xs i x xs.length), mul_comm (evp p (co xs i))]
end Gf

/- A range over a function, in the walk's own words. No condition. -/



set_option linter.unusedVariables false
set_option linter.unusedSimpArgs false
namespace Gk
open Go Go.RowKit

/-- How a round's body may be left: to the next round, by a return, by a break. -/
def RoundQ {α : Type} (B : Nat) (Kp : World → World → Prop) (I : List α → World → Prop) (Ir : List α → World → Prop) (xs : List α) (W : World) : Exit → (Nat → Value) → World → Prop
  | .normal, _, W' => KeepsFrom B W W' ∧ Kp W W' ∧ I xs W'
  | .ret, _, W' => KeepsFrom B W W' ∧ Ir xs W'
  | _, _, _ => False

theorem fr_mark (n : Nat) (f : Nat → Value) (D : Nat) (h : f n = undef) : ({ fr n f with defers := { target := .collected D, args := #[] } :: (fr n f).defers } : Act) = fr n (upd f n (.pointer (some ⟨D, 0, none⟩))) := by
  have e1 : (fr n f).tmps = (fr n (upd f n (.pointer (some ⟨D, 0, none⟩)))).tmps := by
    apply Array.ext_getElem?
    intro i
    by_cases hi : i < n
    · rw [fr_get n _ i hi, fr_get n _ i hi, upd_ne f _ (by omega)]
    · rw [fr_none n _ i (by omega), fr_none n _ i (by omega)]
  have e2 : (fr n f).defers = [] := by show dec (f n) = []; rw [h]; rfl
  have e3 : (fr n (upd f n (.pointer (some ⟨D, 0, none⟩)))).defers = [{ target := .collected D, args := #[] }] := by
    show dec (upd f n (.pointer (some ⟨D, 0, none⟩)) n) = _
    rw [upd_eq]; rfl
  rw [e2]
  show Act.mk (fr n f).tmps _ = _
  rw [e1, ← e3]

section
variable {P : Program} {n : Nat} {Q : Exit → (Nat → Value) → World → Prop} {f : Nat → Value} {w : World}
theorem W_range {α : Type} {g : Operand} {ps : Array Tmp} {assign body : Code} (hm : f n = undef) (hog : okO n g = true) {gf : Nat} {lb : Array Value} (hg : ev f g = .func (.func gf) #[] lb)
    (eg : ∀ args w, (callFunc gf args).run P w = .ok (.enter gf args) w)
    {encs : α → Array Value} {Kp : World → World → Prop} {S Sp : List α → Prop} {N : Nat} {w0 : World} (hseq : SeqStopsK Fence.wide 1 P gf lb encs Kp S Sp N w0)
    (hKt : ∀ {A B C : World}, Kp A B → Kp B C → Kp A C) (hKb : ∀ (W : World) (l : Nat) (o o' : Obj), w.heap.size ≤ l → W.heap[l]? = some o → o.isCells = false → o.isWalk = false → Kp W (W.putObj l o'))
    (hb0 : Below w0.heap.size w0 w) (hps : ∀ x, (encs x).size = ps.size)
    (I Ir : List α → World → Prop) (hI : OwnFrom w.heap.size I) (hIr : OwnFrom w.heap.size Ir) (h0 : I [] w) (fp fa : α → Nat → Value)
    (hp : ∀ x, ({ tmps := (ps.zip (encs x)).foldl (fun t (p, v) => t.setIfInBounds p v) (fr n f).tmps, defers := [] } : Act) = fr n (fp x))
    (hassign : ∀ (l : Nat) (x : α) (W1 : World) (K : (Nat → Value) → World → Prop), K (fa x) W1 → W (ro := some l) P n assign (Th K (fun _ _ _ => False)) (fp x) W1)
    (hbody : ∀ (l : Nat) (pre : List α) (x : α) (W1 : World), I pre W1 → pre.length < N → W (ro := some l) P n body (RoundQ w.heap.size Kp I Ir (pre ++ [x]) W1) (fa x) W1)
    (hdone : ∀ (D : Nat) (xs : List α) (W1 : World), w.heap.size ≤ D → S xs → I xs W1 → W1.heap[D]? = some (.deferred (some [])) → Q .normal (upd f n (.pointer (some ⟨D, 0, none⟩))) W1)
    (hstop : ∀ (D : Nat) (pre : List α) (W1 : World), w.heap.size ≤ D → Sp pre → Ir pre W1 → W1.heap[D]? = some (.deferred (some [])) → Q .ret (upd f n (.pointer (some ⟨D, 0, none⟩))) W1) :
    W (ro := none) P n (.rangeFunc g ps assign body) Q f w := by
  unfold W
  refine (wpIn_wide (n := 0)).2 ((wpIn_wide (n := 2)).1 ?_)
  refine wpIn_rangeFunc_ownG (F := Fence.wide) (n := 2) (w0 := w0) rfl (by decide) (gf := gf) (lb := lb) (by rw [fr_eval n f g hog]; exact hg) trivial eg hseq hKt hKb hb0 hps I
    (fun c pre W1 => match c with | .ret => Ir pre W1 | _ => False) hI ?_ h0 (fun x => fr n (fa x)) ?_ ?_ ?_ ?_
  · intro c
    cases c <;> first | exact hIr | exact fun _ _ _ _ h _ _ => h
  · intro l x W1 K hK
    rw [hp]
    refine wpIn_mono (hassign l x W1 (fun f w => K (fr n f) w) hK) ?_
    rintro e a w' ⟨f', rfl, q⟩
    cases e <;> exact q
  · intro l pre x W1 hi hl
    refine wpIn_mono (hbody l pre x W1 hi hl) ?_
    rintro e a w' ⟨f', rfl, q⟩
    cases e <;> first | exact q | exact (show False from q).elim
  · intro D xs W1 hD hS hi hK
    exact ⟨_, fr_mark n f D hm, hdone D xs W1 hD hS hi hK⟩
  · intro D c pre W1 hD hSp hx hK
    cases c <;> first | exact hx.elim | skip
    refine wpIn_ret ⟨_, fr_mark n f D hm, hstop D pre W1 hD hSp hx hK⟩
end

section
variable {P : Program} {n : Nat} {f : Nat → Value} {w : World} {o : Oper} {t e T : TypeId} {g D : Nat} {u z : Value}
theorem stp_alloc (ho : o.op = .alloc t) (hz : ∀ w, (zeroValue t).run P w = .ok z w) {K : Value → World → Prop}
    (hk : ∀ w', Blk w' w.heap.size t z.cells → w.grownBy w' none → K (.pointer (some ⟨w.heap.size, 0, none⟩)) w') : Stp P o f w K := by
  refine stp_of_run (w' := w.alloc (.cells z.cells t)) (v := .pointer (some ⟨w.heap.size, 0, none⟩)) ?_ (hk _ (alloc_new w _) (World.grownBy_alloc w _ none))
  simp [execOp, ho, Instr.alloc, hz, newVar, newRow, newObj, Sem.run]
/-- A result that lies in a cell, behind a loop that has left its mark. -/
theorem rtc_mark {fn : Func} {R : Ending → World → Prop} {t : Nat} (hr : fn.results = #[.cell t e]) (ht : Nat.blt t n = true) (hv : f t = .pointer (some ⟨g, 0, none⟩)) (hD : f n = .pointer (some ⟨D, 0, none⟩))
    (hK : w.heap[D]? = some (.deferred (some []))) (ha : ∀ w, (isAgg e).run P w = .ok false w) (hB : Blk w g T #[u]) (h : R (.returned u) (w.putObj D (.deferred none))) : Rt P fn n R .ret f w := by
  refine .inr (.inl ⟨D, hD, hK, u, ?_, h⟩)
  have hne : g ≠ D := by
    intro e; subst e
    have : w.heap[g]? = some (.cells #[u] T (0, 0)) := hB
    rw [this] at hK; cases hK
  have hB2 : Blk (w.putObj D (.deferred none)) g T #[u] := by
    unfold Blk; rw [World.putObj_heap_other hne]; exact hB
  have hcell : (w.putObj D (.deferred none)).cell? ⟨g, 0, none⟩ = some u := by rw [hB2.cell 0]; rfl
  have hg : (fr n f).tmps.getD t undef = .pointer (some ⟨g, 0, none⟩) := by rw [fr_getD n f t ht, hv]
  simp [results, hr, ← Array.getD_eq_getD_getElem?, hg, asAddr, loadVar, ha, load, Sem.run, hcell]
theorem Ext.grownO {w0 w w' : World} {row : Option Nat} (h : Ext w0 w) (hg : w.grownBy w' row) (hn : ∀ k, row = some k → w0.heap.size ≤ k) : Ext w0 w' :=
  ⟨hg.os.trans h.os, hg.output.trans h.output, Nat.le_trans h.size hg.size, fun k hk =>
    (hg.block k (Nat.lt_of_lt_of_le hk h.size) (fun e => by have := hn k e.symm; omega)).trans (h.blk k hk)⟩
theorem Ext.putD {w0 w : World} (h : Ext w0 w) (D : Nat) (o : Obj) (hD : w0.heap.size ≤ D) : Ext w0 (w.putObj D o) := h.grownO (grownBy_putObj' w D o) (fun k e => by cases e; exact hD)
end

theorem params2 {n : Nat} {F : Nat → Value} {p q : Nat} {a b : Value} (hm : F n = undef) (hp : Nat.blt p n = true) (hq : Nat.blt q n = true) :
    ({ tmps := ((#[p, q] : Array Tmp).zip #[a, b]).foldl (fun t (p, v) => t.setIfInBounds p v) (fr n F).tmps, defers := [] } : Act) = fr n (upd (upd F p a) q b) := by
  have h1 := fr_put n F (some p) a hp
  have h2 := fr_put n (upd F p a) (some q) b hq
  have e : (fr n F).defers = [] := by show dec (F n) = []; rw [hm]; rfl
  simp only [updO] at h1 h2
  rw [← h2, ← h1]
  simp [Act.put, e]
section
variable {P : Program} {n : Nat} {Q : Exit → (Nat → Value) → World → Prop} {f : Nat → Value} {w : World}
/-- Two loop variables. 'ga': what the assignments to them do to the frame. -/
theorem W_range2 {α : Type} {g : Operand} {p q : Tmp} {assign body : Code} (hm : f n = undef) (hog : okO n g = true) {gf : Nat} {lb : Array Value} (hg : ev f g = .func (.func gf) #[] lb)
    (eg : ∀ args w, (callFunc gf args).run P w = .ok (.enter gf args) w)
    {ea eb : α → Value} {Kp : World → World → Prop} {S Sp : List α → Prop} {N : Nat} {w0 : World} (hseq : SeqStopsK Fence.wide 1 P gf lb (fun x => #[ea x, eb x]) Kp S Sp N w0)
    (hKt : ∀ {A B C : World}, Kp A B → Kp B C → Kp A C) (hKb : ∀ (W : World) (l : Nat) (o o' : Obj), w.heap.size ≤ l → W.heap[l]? = some o → o.isCells = false → o.isWalk = false → Kp W (W.putObj l o'))
    (hb0 : Below w0.heap.size w0 w) (hp : Nat.blt p n = true) (hq : Nat.blt q n = true)
    (I Ir : List α → World → Prop) (hI : OwnFrom w.heap.size I) (hIr : OwnFrom w.heap.size Ir) (h0 : I [] w) (ga : α → (Nat → Value) → Nat → Value)
    (hassign : ∀ (l : Nat) (x : α) (W1 : World) (K : (Nat → Value) → World → Prop), K (ga x (upd (upd f p (ea x)) q (eb x))) W1 → W (ro := some l) P n assign (Th K (fun _ _ _ => False)) (upd (upd f p (ea x)) q (eb x)) W1)
    (hbody : ∀ (l : Nat) (pre : List α) (x : α) (W1 : World), I pre W1 → pre.length < N → W (ro := some l) P n body (RoundQ w.heap.size Kp I Ir (pre ++ [x]) W1) (ga x (upd (upd f p (ea x)) q (eb x))) W1)
    (hdone : ∀ (D : Nat) (xs : List α) (W1 : World), w.heap.size ≤ D → S xs → I xs W1 → W1.heap[D]? = some (.deferred (some [])) → Q .normal (upd f n (.pointer (some ⟨D, 0, none⟩))) W1)
    (hstop : ∀ (D : Nat) (pre : List α) (W1 : World), w.heap.size ≤ D → Sp pre → Ir pre W1 → W1.heap[D]? = some (.deferred (some [])) → Q .ret (upd f n (.pointer (some ⟨D, 0, none⟩))) W1) :
    W (ro := none) P n (.rangeFunc g #[p, q] assign body) Q f w :=
  W_range hm hog hg eg hseq hKt hKb hb0 (fun _ => rfl) I Ir hI hIr h0 (fun x => upd (upd f p (ea x)) q (eb x)) (fun x => ga x (upd (upd f p (ea x)) q (eb x))) (fun x => params2 hm hp hq) hassign hbody hdone hstop
end

/-! A slice against nil. -/
def nilB : Value → Bool
  | .slice none _ _ => true
  | _ => false
section
variable {P : Program} {f : Nat → Value} {o : Oper}
theorem run_eqSl {t e : TypeId} (d : Nat) (p : Option Addr) (n c : Nat) (ht : P.underlying t = some (.slice e)) (w : World) : (Op.equalIn (d + 1) t (.slice p n c) (.slice none 0 0)).run P w = .ok p.isNone w := by
  cases p <;> simp [Op.equalIn, run_underlying ht]
theorem q_eqSl {x y : Operand} {t t' e : TypeId} {p : Option Addr} {n c : Nat} (ho : o.op = .binOp .eql t x y t') (ht : P.underlying t = some (.slice e)) (hx : ev f x = .slice p n c) (hy : ev f y = .slice none 0 0) : Qa P o f (.bool p.isNone) := by
  intro w
  have h : (Op.equalIn 10000 t (.slice p n c) (.slice none 0 0)).run P w = .ok p.isNone w := run_eqSl (P := P) 9999 p n c ht w
  unfold execOp; rw [ho]; dsimp only; rw [hx, hy]
  simp only [eqGuard, binOp, Op.equal, Op.maxDepth, Sem.run_bind, Sem.run_pure, Result.andThen_ok, h, Bool.not_true, Bool.false_eq_true, if_false]
end

/-! An owned slice, cut to a beginning of itself. -/
theorem oB_sub0 (v : Value) (lo hi : Int) (h0 : lo = 0) : oB (subV v lo.toNat hi.toNat) = oB v := by
  subst h0
  cases v <;> try rfl
  rename_i p n cap
  cases p with
  | none => simp [subV, oB]
  | some a =>
    cases cap with
    | zero => simp [subV, oB]
    | succ c => simp [subV, oB, Addr.add]
theorem hs_sub0 {v : Value} {lo hi : Int} (h0 : lo = 0) {k : Nat} (h : Hs (subV v lo.toNat hi.toNat) k) : Hs v k := by
  rcases h with h | ⟨vs, e, h⟩
  · rw [oB_sub0 v lo hi h0] at h; exact .inl h
  · refine .inr ⟨vs, ?_, h⟩
    cases v <;> simp_all [subV]
theorem own_cut {α : Type} {R : World → List Value → Value → α → Prop} (hR : Stab R) {w : World} {e : TypeId} {v : Value} {l m : List α} {lo hi : Int} (L1 L2 : List Value) (h : OwK R w (L1 ++ v :: L2) e v l) (h0 : lo = 0) (hs : subL l lo hi = some m) :
    OwK R w (L1 ++ subV v lo.toNat hi.toNat :: L2) e (subV v lo.toNat hi.toNat) m ∧ Nx w v (subV v lo.toNat hi.toNat) ∧ Lift w w (L1 ++ v :: L2) (L1 ++ subV v lo.toNat hi.toNat :: L2) := by
  have hnx : Nx w v (subV v lo.toNat hi.toNat) := fun k hk => .inl (hs_sub0 h0 hk)
  have hlift := Lift.own (w := w) (w' := w) L1 L2 (Gr.refl w v) hnx
  refine ⟨?_, hnx, hlift⟩
  subst h0
  obtain ⟨us, hown, hl, he⟩ := h
  obtain ⟨⟨_, h1, h2⟩, rfl⟩ := subL_some.1 hs
  refine ⟨us.take hi.toNat, ?_, by simp [hl], fun i a b => ?_⟩
  · rcases hown with ⟨p, rfl, rfl⟩ | ⟨g, cap, rfl, hc, hrow⟩
    · have : hi = 0 := by simp at hl; omega
      subst this
      exact .inl ⟨p, by cases p <;> simp [subV], by simp⟩
    · obtain ⟨cur, hg, q1, q2, q3, q4⟩ := row_spec hrow
      have hlen : (us.take hi.toNat).length = hi.toNat := by simp; omega
      have hv : subV (.slice (some ⟨g, 0, none⟩) us.length cap) (0 : Int).toNat hi.toNat = .slice (some ⟨g, 0, none⟩) hi.toNat cap := by
        simp [subV, Addr.add]
      rw [hv]
      refine Ow.mk hlen.symm ⟨by simpa using hlen, .inr ⟨g, cap, cur, rfl, Nat.zero_le _, hg, by omega, q2, q3, ?_⟩⟩
      rw [← q4, Nat.mul_one, Nat.mul_one, List.take_take]
      congr 1; omega
  · simp only [Int.toNat_zero, List.drop_zero, List.getElem_take]
    exact hR _ _ _ _ _ _ hlift (he i (by simp at a; omega) (by simp at b; omega))
end Gk

/- Ranges over functions whose pure form is a fold; boxes beside what is owned; results behind a mark. No condition. -/

set_option linter.unusedVariables false
set_option linter.unusedSimpArgs false
namespace Gk
open Go Go.RowKit

/-! ### Folds -/
/-- A fold over a list, where whatever elements of it can be gone through, in whatever order, as many as it has. -/
noncomputable def rangeL {σ α : Type} (f : σ → α → Option σ) (xs : List α) (s0 : σ) : Option σ :=
  open Classical in if (∀ ys : List α, ys.length ≤ xs.length → (∀ y ∈ ys, y ∈ xs) → ∃ r, ys.foldlM f s0 = some r) then xs.foldlM f s0 else none
theorem rangeL_some {σ α : Type} {f : σ → α → Option σ} {xs : List α} {s0 r : σ} (h : rangeL f xs s0 = some r) :
    (∀ ys : List α, ys.length ≤ xs.length → (∀ y ∈ ys, y ∈ xs) → ∃ r, ys.foldlM f s0 = some r) ∧ xs.foldlM f s0 = some r := by
  unfold rangeL at h
  split at h
  · rename_i h'; exact ⟨h', h⟩
  · cases h
theorem foldlM_app {σ α : Type} (f : σ → α → Option σ) (a b : List α) (s : σ) : (a ++ b).foldlM f s = (a.foldlM f s).bind fun s' => b.foldlM f s' := by
  rw [List.foldlM_append]; rfl
theorem fold_inv {σ α : Type} {f : σ → α → Option σ} {g : σ → α → σ} (I : Nat → σ → Prop) (N : Nat) (P : α → Prop) (hs : ∀ k s x, k < N → P x → I k s → f s x = some (g s x) ∧ I (k + 1) (g s x)) :
    ∀ (ys : List α) (k : Nat) (s0 : σ), k + ys.length ≤ N → (∀ y ∈ ys, P y) → I k s0 → ys.foldlM f s0 = some (ys.foldl g s0) ∧ I (k + ys.length) (ys.foldl g s0)
  | [], k, s0, _, _, h0 => ⟨rfl, h0⟩
  | y :: ys, k, s0, hl, hy, h0 => by
    obtain ⟨h1, h2⟩ := hs k s0 y (by simp at hl; omega) (hy y (by simp)) h0
    obtain ⟨h3, h4⟩ := fold_inv I N P hs ys (k + 1) (g s0 y) (by simp at hl; omega) (fun z hz => hy z (by simp [hz])) h2
    refine ⟨?_, ?_⟩
    · rw [List.foldlM_cons, h1]; exact h3
    · rw [List.foldl_cons, List.length_cons, show k + (ys.length + 1) = k + 1 + ys.length by omega]; exact h4
/-- What a fold comes to, by an invariant. -/
theorem rangeL_inv {σ α : Type} {f : σ → α → Option σ} (g : σ → α → σ) {xs : List α} {s0 : σ} (I : Nat → σ → Prop) (h0 : I 0 s0) (hs : ∀ k s x, k < xs.length → x ∈ xs → I k s → f s x = some (g s x) ∧ I (k + 1) (g s x)) :
    rangeL f xs s0 = some (xs.foldl g s0) ∧ I xs.length (xs.foldl g s0) := by
  have hall := fold_inv I xs.length (· ∈ xs) hs
  have h1 := hall xs 0 s0 (by omega) (fun y hy => hy) h0
  refine ⟨?_, by simpa using h1.2⟩
  unfold rangeL
  rw [if_pos (fun ys hl hm => ⟨_, (hall ys 0 s0 (by omega) hm h0).1⟩)]
  exact h1.1

/-- A length that a number of 64 bits can tell. -/
def lim (n : Nat) : Option Unit := if n < 9223372036854775808 then some () else none
theorem lim_lt {n : Nat} {u : Unit} (h : lim n = some u) : n < 9223372036854775808 := by
  unfold lim at h
  split at h
  · assumption
  · cases h
theorem lim_of {n : Nat} (h : n < 9223372036854775808) : lim n = some () := if_pos h

/-! ### A range over a function, its pure form a fold -/
/-- What the iterator needs is kept. -/
def Keep (Rd : World → Prop) (W W' : World) : Prop := W.heap.size ≤ W'.heap.size ∧ (Rd W → Rd W')
theorem Keep.trans {Rd : World → Prop} {A B C : World} (h : Keep Rd A B) (k : Keep Rd B C) : Keep Rd A C := ⟨Nat.le_trans h.1 k.1, fun x => k.2 (h.2 x)⟩
/-- How a round's body may be left. -/
def RoundK (B : Nat) (Rd : World → Prop) (I : World → Prop) (W : World) : Exit → (Nat → Value) → World → Prop
  | .normal, _, W' => KeepsFrom B W W' ∧ Rd W' ∧ I W'
  | _, _, _ => False
section
variable {P : Program} {n : Nat} {Q : Exit → (Nat → Value) → World → Prop} {f : Nat → Value} {w : World}
theorem W_rangeS {α α' σ : Type} {π : α' → α} {xs : List α} {fstep : σ → α → Option σ} {s0 r : σ} {g : Operand} {p q : Tmp} {assign body : Code} (hfold : rangeL fstep xs s0 = some r)
    (hm : f n = undef) (hog : okO n g = true) {gf : Nat} {lb : Array Value} (hg : ev f g = .func (.func gf) #[] lb)
    (eg : ∀ args w, (callFunc gf args).run P w = .ok (.enter gf args) w)
    {ea eb : α' → Value} {Rd : World → Prop} {S Sp : List α' → Prop} {N : Nat} (hN : N = xs.length) (hseq : SeqStopsK Fence.wide 1 P gf lb (fun x => #[ea x, eb x]) (Keep Rd) S Sp N w) (hS : ∀ ys, S ys → ys.map π = xs) (hmem : ∀ x, π x ∈ xs)
    (hRdT : ∀ W W', Tn w.heap.size W W' → Rd W → Rd W') (hp : Nat.blt p n = true) (hq : Nat.blt q n = true)
    (I : σ → World → Prop) (hI : ∀ s W W', Tn w.heap.size W W' → I s W → I s W') (h0 : I s0 w) (ga : α' → (Nat → Value) → Nat → Value)
    (hassign : ∀ (l : Nat) (x : α') (W1 : World) (K : (Nat → Value) → World → Prop), K (ga x (upd (upd f p (ea x)) q (eb x))) W1 → W (ro := some l) P n assign (Th K (fun _ _ _ => False)) (upd (upd f p (ea x)) q (eb x)) W1)
    (hbody : ∀ (l : Nat) (x : α') (s s' : σ) (W1 : World), I s W1 → fstep s (π x) = some s' → W (ro := some l) P n body (RoundK w.heap.size Rd (I s') W1) (ga x (upd (upd f p (ea x)) q (eb x))) W1)
    (hdone : ∀ (D : Nat) (W1 : World), w.heap.size ≤ D → I r W1 → W1.heap[D]? = some (.deferred (some [])) → Q .normal (upd f n (bp D)) W1) :
    W (ro := none) P n (.rangeFunc g #[p, q] assign body) Q f w := by
  obtain ⟨hall, hxs⟩ := rangeL_some hfold
  refine W_range2 hm hog hg eg hseq (fun h k => h.trans k) ?_ (Below.refl _ _) hp hq (fun pre W => ∃ s, (pre.map π).foldlM fstep s0 = some s ∧ I s W) (fun _ _ => False) ?_ ?_ ⟨s0, rfl, h0⟩ ga hassign ?_ ?_ ?_
  · intro W l o o' hl ho hc _
    have hg := grownBy_putObj' W l o'
    exact ⟨hg.size, fun h => hRdT _ _ ⟨some l, hg, fun r e => by cases e; exact ⟨hl, o, ho, hc⟩⟩ h⟩
  · rintro pre W W' row ⟨s, hs, h⟩ hg hr
    exact ⟨s, hs, hI _ _ _ ⟨row, hg, hr⟩ h⟩
  · intro _ _ _ _ h _ _; exact h
  · rintro l pre x W1 ⟨s, hs, h⟩ hl
    obtain ⟨s2, h2⟩ := hall ((pre ++ [x]).map π) (by simp; omega) (fun y hy => by
      obtain ⟨z, _, rfl⟩ := List.mem_map.1 hy
      exact hmem z)
    have h3 : fstep s (π x) = some s2 := by
      rw [List.map_append, foldlM_app, hs] at h2
      simpa using h2
    refine wpIn_mono (hbody l x s s2 W1 h h3) ?_
    rintro e a w' ⟨f', rfl, q⟩
    refine ⟨f', rfl, ?_⟩
    cases e <;> first | exact q.elim | exact ⟨q.1, ⟨q.1.size, fun _ => q.2.1⟩, s2, h2, q.2.2⟩
  · rintro D ys W1 hD hSy ⟨s, hs, h⟩ hK
    rw [hS ys hSy, hxs] at hs
    obtain rfl := Option.some.inj hs
    exact hdone D W1 hD h hK
  · intro _ _ _ _ _ h _; exact h.elim
end

/-! ### Boxes beside what is owned -/
section
variable {P : Program} {f : Nat → Value} {w : World} {o : Oper} {t e T : TypeId} {g : Nat} {u z v u0 : Value} {x y : Operand} {cs : Array Value}
theorem Nw.bp (w : World) : Nw w (bp w.heap.size) := fun k e => by
  have e' := hs_bp e
  omega
theorem stp_allocL (L : List Value) (ho : o.op = .alloc t) (hz : ∀ w, (zeroValue t).run P w = .ok z w) (hc : z.cells = cs) {K : Value → World → Prop}
    (hk : ∀ g w', Blk w' g t cs → Nw w (bp g) → w.grownBy w' none → Lift w w' L (bp g :: L) → K (bp g) w') : Stp P o f w K := by
  subst hc
  exact stp_alloc ho hz fun w' hB hg => hk _ w' hB (Nw.bp w) hg (Lift.new L hg (Nw.bp w))
theorem stp_boxL (L : List Value) (ho : o.op = .box t x) (hx : ev f x = v) (hc : v.cells = cs) {K : Value → World → Prop}
    (hk : ∀ g w', Blk w' g t cs → Nw w (bp g) → w.grownBy w' none → Lift w w' L (bp g :: L) → K (bp g) w') : Stp P o f w K := by
  subst hc
  exact stp_box ho hx fun w' hB hg => hk _ w' hB (Nw.bp w) hg (Lift.new L hg (Nw.bp w))
theorem stp_storeL (L1 L2 : List Value) (ho : o.op = .store e x y) (hs : ∀ w, (Go.sizeOf e).run P w = .ok 1 w) (hx : ev f x = bp g) (hy : ev f y = u) (h : Blk w g T #[u0]) (hc : u.oneCell' = true)
    {K : Value → World → Prop} (hk : ∀ w', Blk w' g T #[u] → Gr w w' (bp g) → Lift w w' (L1 ++ bp g :: L2) (L1 ++ bp g :: L2) → K undef w') : Stp P o f w K :=
  stp_storeB ho hs hx hy h (Nat.zero_lt_one) hc fun w' hB hg => hk w' hB (Gr.of hg) (Lift.own L1 L2 (Gr.of hg) (Nx.refl _ _))
theorem cells_fd {pw : List UInt8} {lg : List Int} {T : TypeId} {w : World} {L : List Value} {v : Value} {b : Bool} (h : FdT pw lg T w L v b) : v.cells = #[v] := by
  rcases h with ⟨_, rfl⟩ | ⟨_, k, rfl, _⟩ <;> rfl
theorem oc_fd {pw : List UInt8} {lg : List Int} {T : TypeId} {w : World} {L : List Value} {v : Value} {b : Bool} (h : FdT pw lg T w L v b) : v.oneCell' = true := by
  rcases h with ⟨_, rfl⟩ | ⟨_, k, rfl, _⟩ <;> rfl
theorem cells_own {α : Type} {R : World → List Value → Value → α → Prop} {w : World} {L : List Value} {e : TypeId} {v : Value} {l : List α} (h : OwK R w L e v l) : v.cells = #[v] := by
  obtain ⟨us, h, _⟩ := h
  rcases h with ⟨p, rfl, _⟩ | ⟨g, cap, rfl, _⟩ <;> rfl
theorem oc_own {α : Type} {R : World → List Value → Value → α → Prop} {w : World} {L : List Value} {e : TypeId} {v : Value} {l : List α} (h : OwK R w L e v l) : v.oneCell' = true := by
  obtain ⟨us, h, _⟩ := h
  rcases h with ⟨p, rfl, _⟩ | ⟨g, cap, rfl, _⟩ <;> rfl
theorem FdT.tn {pw : List UInt8} {lg : List Int} {T : TypeId} {B : Nat} {w w' : World} {L : List Value} {v : Value} {b : Bool} (h : FdT pw lg T w L v b) (t : Tn B w w') : FdT pw lg T w' L v b := h.lift (t.lift L)
end

theorem q_mkfuncN {P : Program} {o : Oper} {f : Nat → Value} {g : FuncId} {xs : Array Operand} {vs : List Value} (ho : o.op = .makeFunc (.func g) #[] xs) (hx : xs.toList.map (ev f) = vs) : Qa P o f (.func (.func g) #[] vs.toArray) := by
  intro w
  have hxs : xs.map (ev f) = vs.toArray := by subst hx; apply Array.ext'; simp
  simp [execOp, ho, hxs, Instr.makeFunc]

/-! ### Results behind a mark -/
section
variable {P : Program} {fn : Func} {n : Nat} {R : Ending → World → Prop} {f : Nat → Value} {w : World} {D t u s : Nat}
theorem Tn.put {B : Nat} (hK : w.heap[D]? = some (.deferred (some []))) (hB : B ≤ D) (o : Obj) : Tn B w (w.putObj D o) :=
  ⟨some D, grownBy_putObj' w D o, fun r e => by cases e; exact ⟨hB, _, hK, rfl⟩⟩
theorem rtm0 (hr : fn.results = #[]) (hD : f n = bp D) (hK : w.heap[D]? = some (.deferred (some []))) (h : R (.returned (.tuple #[])) (w.putObj D (.deferred none))) : Rt P fn n R .ret f w :=
  .inr (.inl ⟨D, hD, hK, _, results_none hr _ _ _, h⟩)
theorem rtm1 (v : Value) (hr : fn.results = #[.tmp t]) (ht : Nat.blt t n = true) (hv : f t = v) (hD : f n = bp D) (hK : w.heap[D]? = some (.deferred (some []))) (h : R (.returned v) (w.putObj D (.deferred none))) : Rt P fn n R .ret f w :=
  .inr (.inl ⟨D, hD, hK, v, by rw [results_tmp hr, fr_getD n f t ht, hv], h⟩)
theorem rtm2 (v1 v2 : Value) (hr : fn.results = #[.tmp t, .tmp u]) (ht : Nat.blt t n = true) (hu : Nat.blt u n = true) (hv1 : f t = v1) (hv2 : f u = v2) (hD : f n = bp D) (hK : w.heap[D]? = some (.deferred (some []))) (h : R (.returned (.tuple #[v1, v2])) (w.putObj D (.deferred none))) : Rt P fn n R .ret f w :=
  .inr (.inl ⟨D, hD, hK, _, by rw [results_tmp2 hr, fr_getD n f t ht, fr_getD n f u hu, hv1, hv2], h⟩)
theorem rtm3 (v1 v2 v3 : Value) (hr : fn.results = #[.tmp t, .tmp u, .tmp s]) (ht : Nat.blt t n = true) (hu : Nat.blt u n = true) (hs : Nat.blt s n = true) (hv1 : f t = v1) (hv2 : f u = v2) (hv3 : f s = v3) (hD : f n = bp D) (hK : w.heap[D]? = some (.deferred (some []))) (h : R (.returned (.tuple #[v1, v2, v3])) (w.putObj D (.deferred none))) : Rt P fn n R .ret f w :=
  .inr (.inl ⟨D, hD, hK, _, by simp [results, hr, ← Array.getD_eq_getD_getElem?, fr_getD n f t ht, fr_getD n f u hu, fr_getD n f s hs, hv1, hv2, hv3], h⟩)
theorem rtmm2 {D' : Nat} (v1 v2 : Value) (hr : fn.results = #[.tmp t, .tmp u]) (ht : Nat.blt t n = true) (hu : Nat.blt u n = true) (hv1 : f t = v1) (hv2 : f u = v2) (hD : f n = mk2 D D') (hne : D ≠ D') (hK : w.heap[D]? = some (.deferred (some []))) (hK' : w.heap[D']? = some (.deferred (some []))) (h : R (.returned (.tuple #[v1, v2])) ((w.putObj D (.deferred none)).putObj D' (.deferred none))) : Rt P fn n R .ret f w :=
  .inr (.inr ⟨D, D', hD, hne, hK, hK', _, by rw [results_tmp2 hr, fr_getD n f t ht, fr_getD n f u hu, hv1, hv2], h⟩)
theorem Tn.put2 {B D' : Nat} (hK : w.heap[D]? = some (.deferred (some []))) (hK' : w.heap[D']? = some (.deferred (some []))) (hne : D ≠ D') (hB : B ≤ D') (o o' : Obj) : Tn B (w.putObj D o) ((w.putObj D o).putObj D' o') :=
  Tn.put (by rw [World.putObj_heap_other (Ne.symm hne)]; exact hK') hB o'
end
end Gk

/- Maps from bytes to bools: made, written, read, counted. No condition. -/


set_option linter.unusedVariables false
set_option linter.unusedSimpArgs false
namespace Gk
open Go Go.RowKit

def mput (m : List (UInt8 × Bool)) (k : UInt8) (v : Bool) : List (UInt8 × Bool) := if k ∈ m.map (·.1) then m.map (fun p => if p.1 = k then (p.1, v) else p) else m ++ [(k, v)]
def mget (m : List (UInt8 × Bool)) (k : UInt8) : Bool := ((m.find? (fun p => p.1 == k)).map (·.2)).getD false
abbrev mp (g : Nat) : Value := .map (some g)
/-- In w, block g is a map with these entries. -/
def Mp (w : World) (g : Nat) (m : List (UInt8 × Bool)) : Prop :=
  ∃ es clock, w.heap[g]? = some (.map es clock) ∧ es.toList.map (fun e => (e.key, e.val)) = m.map (fun p => (u8 p.1, Value.bool p.2)) ∧ (m.map (·.1)).Nodup
theorem Mp.lt {w : World} {g : Nat} {m : List (UInt8 × Bool)} (h : Mp w g m) : g < w.heap.size := by
  obtain ⟨es, c, h, _⟩ := h; exact lt_of_get h
theorem Mp.ltB {w : World} {g : Nat} {m : List (UInt8 × Bool)} (h : Mp w g m) : ∀ k, Hs (mp g) k → k < w.heap.size := fun k e => by
  have e' : g = k := Option.some.inj (hs_map e)
  subst e'; exact h.lt
theorem Mp.ext {w w' : World} {g : Nat} {m : List (UInt8 × Bool)} (h : Mp w g m) (x : Ext w w') : Mp w' g m := by
  have hl := h.lt
  obtain ⟨es, c, h1, h2⟩ := h
  exact ⟨es, c, (x.blk g hl).trans h1, h2⟩
theorem Mp.nq {w : World} {g : Nat} {m : List (UInt8 × Bool)} {v : Value} (h : Mp w g m) (hn : Nw w v) : Nq (mp g) v := fun k hu hv => by
  have := h.ltB k hu; have := hn k hv; omega
theorem Mp.nxt {w : World} {g : Nat} {m : List (UInt8 × Bool)} {v v' : Value} (h : Mp w g m) (hq : Nq (mp g) v) (hn : Nx w v v') : Nq (mp g) v' := fun k hu hv => by
  rcases hn k hv with h1 | h1
  · exact hq k hu h1
  · have := h.ltB k hu; omega
theorem Mp.other {w w' : World} {g : Nat} {m : List (UInt8 × Bool)} {v : Value} (h : Mp w g m) (hg : Gr w w' v) (hq : Nq (mp g) v) : Mp w' g m := by
  have hl := h.lt
  obtain ⟨es, c, h1, h2⟩ := h
  exact ⟨es, c, (hg.block hl (hq g (.inl rfl))).trans h1, h2⟩
theorem Nw.mp (w : World) : Nw w (mp w.heap.size) := fun k e => by
  have e' : w.heap.size = k := Option.some.inj (hs_map e)
  omega
theorem Mp.keys {w : World} {g : Nat} {m : List (UInt8 × Bool)} {es : Array MapEntry} (h : es.toList.map (fun e => (e.key, e.val)) = m.map (fun p => (u8 p.1, Value.bool p.2))) : ∀ x ∈ es.toList, ∃ p ∈ m, x.key = u8 p.1 ∧ x.val = .bool p.2 := by
  intro x hx
  have h1 : (x.key, x.val) ∈ es.toList.map (fun e => (e.key, e.val)) := List.mem_map.2 ⟨x, hx, rfl⟩
  rw [h] at h1
  obtain ⟨p, hp, e⟩ := List.mem_map.1 h1
  simp only [Prod.mk.injEq] at e
  exact ⟨p, hp, e.1.symm, e.2.symm⟩
theorem u8_inj {a b : UInt8} (h : u8 a = u8 b) : a = b := by
  simp only [u8, Value.int.injEq, true_and] at h
  exact UInt8.toNat_inj.1 (by omega)
theorem isKey_u8 (a : UInt8) : MapKept.IsKey (.int .u8) (u8 a) := rfl
/-- The entry at a key. -/
theorem Mp.find {m : List (UInt8 × Bool)} {es : Array MapEntry} (h : es.toList.map (fun e => (e.key, e.val)) = m.map (fun p => (u8 p.1, Value.bool p.2))) (k : UInt8) :
    (Instr.findNow (.int .u8) (u8 k) es.toList 0 = some none ∧ k ∉ m.map (·.1)) ∨ ∃ j e p, Instr.findNow (.int .u8) (u8 k) es.toList 0 = some (some (j, .bool p.2)) ∧ es[j]? = some e ∧ e.key = u8 k ∧ m[j]? = some p ∧ p.1 = k := by
  have hks : ∀ x ∈ es.toList, MapKept.IsKey (.int .u8) x.key := fun x hx => by
    obtain ⟨p, _, e, _⟩ := Mp.keys (w := default) (g := 0) h x hx
    rw [e]; rfl
  rcases MapKept.findNow_spec (isKey_u8 k) es.toList 0 hks with ⟨h1, h2⟩ | ⟨j, e, h1, h2, h3⟩
  · refine .inl ⟨h1, fun hk => ?_⟩
    obtain ⟨p, hp, rfl⟩ := List.mem_map.1 hk
    have h4 : (u8 p.1, Value.bool p.2) ∈ es.toList.map (fun e => (e.key, e.val)) := by rw [h]; exact List.mem_map.2 ⟨p, hp, rfl⟩
    obtain ⟨x, hx, e⟩ := List.mem_map.1 h4
    simp only [Prod.mk.injEq] at e
    exact h2 x hx e.1
  · have h4 := congrArg (·[j]?) h
    simp only [List.getElem?_map, h2, Option.map_some] at h4
    cases hm : m[j]? with
    | none => rw [hm] at h4; cases h4
    | some p =>
      rw [hm] at h4
      simp only [Option.map_some, Option.some.injEq, Prod.mk.injEq] at h4
      refine .inr ⟨j, e, p, ?_, by simpa using h2, h3, hm, ?_⟩
      · rw [h1, h4.2, Nat.zero_add]
      · exact u8_inj (h4.1.symm.trans h3)
theorem nd_inj {m : List (UInt8 × Bool)} (hn : (m.map (·.1)).Nodup) {i j : Nat} {p q : UInt8 × Bool} (hi : m[i]? = some p) (hj : m[j]? = some q) (e : p.1 = q.1) : i = j := by
  obtain ⟨hil, hip⟩ := List.getElem?_eq_some_iff.1 hi
  obtain ⟨hjl, hjq⟩ := List.getElem?_eq_some_iff.1 hj
  have h := List.pairwise_iff_getElem.1 hn
  rcases Nat.lt_trichotomy i j with h1 | h1 | h1
  · exact (h i j (by simpa using hil) (by simpa using hjl) h1 (by simp [hip, hjq, e])).elim
  · exact h1
  · exact (h j i (by simpa using hjl) (by simpa using hil) h1 (by simp [hip, hjq, e])).elim
theorem mput_at {m : List (UInt8 × Bool)} (hn : (m.map (·.1)).Nodup) {j : Nat} {p : UInt8 × Bool} (hj : m[j]? = some p) (v : Bool) : m.map (fun q => if q.1 = p.1 then (q.1, v) else q) = m.set j (p.1, v) := by
  apply List.ext_getElem?
  intro i
  obtain ⟨hjl, hjp⟩ := List.getElem?_eq_some_iff.1 hj
  rw [List.getElem?_map, List.getElem?_set]
  by_cases hij : j = i
  · subst hij
    rw [hj, if_pos rfl, if_pos hjl]; simp
  · rw [if_neg hij]
    cases hi : m[i]? with
    | none => rfl
    | some q =>
      obtain ⟨hil, hiq⟩ := List.getElem?_eq_some_iff.1 hi
      have : q.1 ≠ p.1 := fun e => hij (nd_inj hn hj hi e.symm)
      simp [this]
theorem mput_nodup {m : List (UInt8 × Bool)} (hn : (m.map (·.1)).Nodup) (k : UInt8) (v : Bool) : ((mput m k v).map (·.1)).Nodup := by
  unfold mput
  split
  · rw [List.map_map]
    have : ((fun x : UInt8 × Bool => x.1) ∘ fun p => if p.1 = k then (p.1, v) else p) = (fun x => x.1) := by
      funext p; simp only [Function.comp]; split <;> rfl
    rw [this]; exact hn
  · rename_i hk
    rw [List.map_append, List.nodup_append]
    refine ⟨hn, by simp, ?_⟩
    intro a ha b hb e
    simp only [List.map_cons, List.map_nil, List.mem_singleton] at hb
    subst hb; subst e; exact hk ha

section
variable {P : Program} {f : Nat → Value} {w : World} {o : Oper} {x y z : Operand} {t kt et : TypeId} {g : Nat} {m : List (UInt8 × Bool)} {k : UInt8} {b : Bool}
theorem stp_makeMap (L : List Value) (ho : o.op = .makeMap t none) {K : Value → World → Prop}
    (hk : ∀ g w', Mp w' g [] → Nw w (mp g) → w.grownBy w' none → Lift w w' L (mp g :: L) → K (mp g) w') : Stp P o f w K := by
  have hg := World.grownBy_alloc w (.map #[] 0) none
  refine stp_of_run (w' := w.alloc (.map #[] 0)) (v := mp w.heap.size) ?_ (hk _ _ ⟨#[], 0, alloc_new w _, by simp, by simp⟩ (Nw.mp w) hg (Lift.new L hg (Nw.mp w)))
  simp [execOp, ho, Instr.makeMap, newObj, Sem.run]
theorem putObj_eq {w : World} {r : Nat} {o o' : Obj} (hb : w.heap[r]? = some o) : ({ w with heap := w.heap.setIfInBounds r o' } : World) = w.putObj r o' := rfl
theorem stp_mapUpdate (L1 L2 : List Value) (ho : o.op = .mapUpdate t x y z ∨ o.op = .insert t x y z) (ht : P.underlying t = some (.map kt et)) (hkt : P.underlying kt = some (.int .u8)) (hx : ev f x = mp g) (hy : ev f y = u8 k) (hz : ev f z = .bool b) (h : Mp w g m)
    {K : Value → World → Prop} (hk : ∀ w', Mp w' g (mput m k b) → Gr w w' (mp g) → Lift w w' (L1 ++ mp g :: L2) (L1 ++ mp g :: L2) → K undef w') : Stp P o f w K := by
  obtain ⟨es, c, hb, he, hn⟩ := h
  have key : ∀ es' c', es'.toList.map (fun e => (e.key, e.val)) = (mput m k b).map (fun p => (u8 p.1, Value.bool p.2)) → (Instr.mapUpdate t (mp g) (u8 k) (.bool b)).run P w = .ok () (w.putObj g (.map es' c')) → Stp P o f w K := by
    intro es' c' he' hr
    have hg := grownBy_putObj' w g (.map es' c')
    refine stp_of_skip (w' := w.putObj g (.map es' c')) ?_ (hk _ ⟨es', c', World.putObj_heap_same (lt_of_get hb), he', mput_nodup hn k b⟩ (Gr.of hg) (Lift.own L1 L2 (Gr.of hg) (Nx.refl _ _)))
    rcases ho with ho | ho
    · simp only [execOp, ho, hx, hy, hz, Sem.run_bind, hr, Result.andThen_ok]
      rfl
    · simp only [execOp, ho, hx, hy, hz, Sem.run_bind, hr, Result.andThen_ok]
      rfl
  rcases Mp.find he k with ⟨h1, h2⟩ | ⟨j, e, p, h1, h2, h3, h4, h5⟩
  · refine key (es.push { key := u8 k, val := .bool b, born := c }) (c + 1) ?_ ?_
    · unfold mput
      rw [if_neg h2]
      simp only [Array.toList_push, List.map_append, he, List.map_cons, List.map_nil]
    · simp [Instr.mapUpdate, run_underlying ht, MapKept.run_getObj_map hb, MapKept.run_checkKey hkt (isKey_u8 k), MapKept.run_findKey hkt h1, MapKept.run_setObj_map _ hb, Result.andThen, World.putObj]
  · subst h5
    refine key (es.modify j fun e => { e with key := u8 p.1, val := .bool b }) c ?_ ?_
    · unfold mput
      rw [if_pos (List.mem_map.2 ⟨p, List.mem_of_getElem? h4, rfl⟩), mput_at hn h4]
      apply List.ext_getElem?
      intro i
      have hi := congrArg (·[i]?) he
      simp only [List.getElem?_map, Array.getElem?_toList] at hi
      simp only [List.getElem?_map, Array.getElem?_toList, Array.getElem?_modify, List.getElem?_set]
      by_cases hij : j = i
      · subst hij
        obtain ⟨hl, _⟩ := List.getElem?_eq_some_iff.1 h4
        simp [h2, hl]
      · simp only [if_neg hij]; exact hi
    · simp [Instr.mapUpdate, run_underlying ht, MapKept.run_getObj_map hb, MapKept.run_checkKey hkt (isKey_u8 p.1), MapKept.run_findKey hkt h1, h2, h3, MapKept.run_keyThatStays (isKey_u8 p.1), MapKept.run_setObj_map _ hb, Result.andThen, World.putObj]
theorem q_lenMap (ho : o.op = .call ⟨.builtin .len, #[x], #[t]⟩) (ht : P.underlying t = some (.map kt et)) (hx : ev f x = mp g) (h : Mp w g m) : Qt P o f w (i64 (m.length : Int)) := by
  intro w' hE
  obtain ⟨es, c, hb, he, _⟩ := h.ext hE
  have hl : es.size = m.length := by have := congrArg List.length he; simpa using this
  rw [exec_builtin _ ho]
  simp [builtin, Builtin.len_, run_underlying ht, hx, MapKept.run_getObj_map hb, Result.andThen, goInt, hl, i64]
theorem q_lookup (ho : o.op = .lookup t x y false) (ht : P.underlying t = some (.map kt et)) (hkt : P.underlying kt = some (.int .u8)) (hz : ∀ w, (zeroValue et).run P w = .ok (.bool false) w) (hx : ev f x = mp g) (hy : ev f y = u8 k) (h : Mp w g m) : Qt P o f w (.bool (mget m k)) := by
  intro w' hE
  obtain ⟨es, c, hb, he, hn⟩ := h.ext hE
  rcases Mp.find he k with ⟨h1, h2⟩ | ⟨j, e, p, h1, h2, h3, h4, h5⟩
  · have : mget m k = false := by
      unfold mget
      rw [List.find?_eq_none.2 (fun q hq e => h2 (List.mem_map.2 ⟨q, hq, by simpa using e⟩))]; rfl
    rw [this]
    simp [execOp, ho, hx, hy, Instr.lookup, run_underlying ht, MapKept.run_getObj_map hb, MapKept.run_checkKey hkt (isKey_u8 k), MapKept.run_findKey hkt h1, hz, Result.andThen]
  · subst h5
    have : mget m p.1 = p.2 := by
      unfold mget
      have hex : ∃ q ∈ m, (q.1 == p.1) = true := ⟨p, List.mem_of_getElem? h4, by simp⟩
      cases hf : m.find? (fun q => q.1 == p.1) with
      | none => exact absurd hf (by rw [List.find?_eq_none]; intro hh; exact hh p (List.mem_of_getElem? h4) (by simp))
      | some q =>
        have hq1 : q.1 = p.1 := by simpa using List.find?_some hf
        have hqm := List.mem_of_find?_eq_some hf
        obtain ⟨i, hi⟩ := List.getElem?_of_mem hqm
        have : q = p := by
          by_cases hij : i = j
          · subst hij; rw [h4] at hi; exact (Option.some.inj hi).symm
          · exact absurd (nd_inj hn hi h4 hq1) hij
        rw [this]; rfl
    rw [this]
    simp [execOp, ho, hx, hy, Instr.lookup, run_underlying ht, MapKept.run_getObj_map hb, MapKept.run_checkKey hkt (isKey_u8 p.1), MapKept.run_findKey hkt h1, Result.andThen]
end
end Gk

/- slices.IndexFunc and slices.ContainsFunc, with a function that has captured what it looks at. No condition but the length. -/


set_option linter.unusedVariables false
set_option linter.unusedSimpArgs false
namespace Gk
open Go Go.Proofs

/-- The place of the first that passes, counted from i; -1: none. -/
def findAt {α : Type} (t : α → Option Bool) : Int → List α → Option Int
  | _, [] => some (-1)
  | i, x :: xs => (t x).bind fun b => if b = true then some i else findAt t (i + 1) xs
/-- Does one pass? -/
def anyO {α : Type} (t : α → Option Bool) : List α → Option Bool
  | [] => some false
  | x :: xs => (t x).bind fun b => if b = true then some true else anyO t xs
theorem anyO_find {α : Type} (t : α → Option Bool) : ∀ (l : List α) {i : Int} (hi : 0 ≤ i) {r : Bool}, anyO t l = some r → ∃ j, findAt t i l = some j ∧ decide (0 ≤ j) = r
  | [], i, _, r, h => ⟨-1, rfl, by simpa [anyO] using h⟩
  | x :: xs, i, hi, r, h => by
    unfold anyO at h
    obtain ⟨b, hb, h⟩ := Option.bind_eq_some_iff.1 h
    cases b with
    | true => exact ⟨i, by unfold findAt; rw [hb]; rfl, by simpa [hi] using h⟩
    | false =>
      obtain ⟨j, h1, h2⟩ := anyO_find t xs (i := i + 1) (by omega) (by simpa using h)
      exact ⟨j, by unfold findAt; rw [hb]; simpa using h1, h2⟩
section
variable {P : Program} {o : Oper} {f : Nat → Value} {w : World}
theorem stp_callF {g : FuncId} {fn : Func} {y : Operand} {xs : Array Operand} {ats : Array TypeId} {vs lb : List Value} {R' : Ending → World → Prop} (hf : P.funcs[g]? = some fn) (hn : (fn.name == "runtime.NumGoroutine") = false) (hb : fn.body.isNone = false)
    (ho : o.op = .call ⟨.value y, xs, ats⟩) (hy : ev f y = .func (.func g) #[] lb.toArray) (hx : xs.toList.map (ev f) = vs) (hc : Calls P g (vs ++ lb).toArray w R') {K : Value → World → Prop} (hk : ∀ e w', R' e w' → ∃ v, e = .returned v ∧ K v w') : Stp P o f w K := by
  have hxs : xs.map (ev f) = vs.toArray := by subst hx; apply Array.ext'; simp
  unfold Stp
  have : (execOp (ev f) o).run P w = .ok (.enter g (vs ++ lb).toArray) w := by
    have h1 := enters (P := P) hf hn hb (vs ++ lb).toArray w
    unfold execOp
    rw [ho]
    dsimp only
    simp only [resolve, hy, Deferred.ofValue, hxs, Sem.run_bind, Sem.run_pure, Result.andThen_ok, invoke]
    simpa using h1
  rw [this]
  exact hc.mono hk
end
end Gk

/- Rows that are owned with all that lies in them; matrices behind pointers. No condition. -/

set_option linter.unusedVariables false
set_option linter.unusedSimpArgs false
namespace Gk
open Go Go.RowKit

/-- a and b have no block in common. -/
def Apt (a b : Value) : Prop := ∀ k, oB a = some k → oB b ≠ some k
theorem Apt.symm {a b : Value} (h : Apt a b) : Apt b a := fun k h1 h2 => h k h2 h1
/-- Slice u and all its rows are owned, by the group G. -/
def OwD (w : World) (e1 e2 : TypeId) (G u : Value) (ls : List (List UInt8)) : Prop :=
  ∃ us : List Value, G = .tuple (u :: us).toArray ∧ Ow w e1 u us ∧ us.length = ls.length ∧ (∀ (i : Nat) (h : i < us.length) (h' : i < ls.length), OwK (Sc u8) w [] e2 us[i] ls[i]) ∧ (u :: us).Pairwise Apt
theorem hs_grp {u : Value} {us : List Value} {k : Nat} : Hs (.tuple (u :: us).toArray) k ↔ oB u = some k ∨ ∃ x ∈ us, oB x = some k := by
  constructor
  · intro h
    obtain ⟨x, hx, e⟩ := hs_tup h
    simp only [List.mem_cons] at hx
    rcases hx with rfl | hx
    · exact .inl e
    · exact .inr ⟨x, hx, e⟩
  · rintro (h | ⟨x, hx, h⟩)
    · exact .inr ⟨_, rfl, u, by simp, h⟩
    · exact .inr ⟨_, rfl, x, by simp [hx], h⟩
theorem OwK.ltO {α : Type} {R : World → List Value → Value → α → Prop} {w : World} {L : List Value} {e : TypeId} {v : Value} {l : List α} (h : OwK R w L e v l) {k : Nat} (hk : oB v = some k) : k < w.heap.size := h.lt k (.inl hk)
theorem OwD.lt {w : World} {e1 e2 : TypeId} {G u : Value} {ls : List (List UInt8)} (h : OwD w e1 e2 G u ls) : ∀ k, Hs G k → k < w.heap.size := by
  obtain ⟨us, rfl, h1, hl, h2, _⟩ := h
  intro k hk
  rcases hs_grp.1 hk with hk | ⟨x, hx, hk⟩
  · exact h1.lt k (.inl hk)
  · obtain ⟨i, hi, rfl⟩ := List.getElem_of_mem hx
    exact (h2 i hi (by omega)).ltO hk
theorem OwD.ltB {w : World} {e1 e2 : TypeId} {G u : Value} {ls : List (List UInt8)} (h : OwD w e1 e2 G u ls) : ∀ k, Hs G k → k < w.heap.size := h.lt
theorem OwD.ext {w w' : World} {e1 e2 : TypeId} {G u : Value} {ls : List (List UInt8)} (h : OwD w e1 e2 G u ls) (x : Ext w w') : OwD w' e1 e2 G u ls := by
  obtain ⟨us, hG, h1, hl, h2, h3⟩ := h
  exact ⟨us, hG, h1.ext x, hl, fun i a b => (h2 i a b).ext (Sc.stab _) x, h3⟩
theorem OwD.tn {B : Nat} {w w' : World} {e1 e2 : TypeId} {G u : Value} {ls : List (List UInt8)} (h : OwD w e1 e2 G u ls) (t : Tn B w w') : OwD w' e1 e2 G u ls := by
  obtain ⟨us, hG, h1, hl, h2, h3⟩ := h
  exact ⟨us, hG, h1.tn t, hl, fun i a b => (h2 i a b).tn (Sc.stab _) t, h3⟩
theorem OwK.keptR {w w' : World} {row : Option Nat} {e : TypeId} {v : Value} {l : List UInt8} (h : OwK (Sc u8) w [] e v l) (hg : w.grownBy w' row) (hne : ∀ k, oB v = some k → row ≠ some k) : OwK (Sc u8) w' [] e v l := by
  obtain ⟨us, h1, h2, h3⟩ := h
  exact ⟨us, h1.kept hg hne, h2, h3⟩
theorem OwD.other {w w' : World} {e1 e2 : TypeId} {G u v : Value} {ls : List (List UInt8)} (h : OwD w e1 e2 G u ls) (hg : Gr w w' v) (hq : Nq G v) : OwD w' e1 e2 G u ls := by
  obtain ⟨us, rfl, h1, hl, h2, h3⟩ := h
  obtain ⟨row, hg, hr⟩ := hg
  refine ⟨us, rfl, h1.kept hg (fun k hk e => hq k (hs_grp.2 (.inl hk)) (hr k e)), hl, fun i a b => (h2 i a b).keptR hg (fun k hk e => hq k (hs_grp.2 (.inr ⟨_, List.getElem_mem a, hk⟩)) (hr k e)), h3⟩
theorem OwD.nq {w : World} {e1 e2 : TypeId} {G u v : Value} {ls : List (List UInt8)} (h : OwD w e1 e2 G u ls) (hn : Nw w v) : Nq G v := fun k hu hv => by
  have := h.lt k hu; have := hn k hv; omega
theorem OwD.nxt {w : World} {e1 e2 : TypeId} {G u v v' : Value} {ls : List (List UInt8)} (h : OwD w e1 e2 G u ls) (hq : Nq G v) (hn : Nx w v v') : Nq G v' := fun k hu hv => by
  rcases hn k hv with h1 | h1
  · exact hq k hu h1
  · have := h.lt k hu; omega
theorem OwD.cl {w : World} {e1 e2 : TypeId} {G u : Value} {ls : List (List UInt8)} (h : OwD w e1 e2 G u ls) : Cl w G := by
  obtain ⟨us, rfl, h1, hl, h2, _⟩ := h
  intro k hk
  rcases hs_grp.1 hk with hk | ⟨x, hx, hk⟩
  · exact (OwK.cl (R := Sc (fun v : Value => v)) (L := []) ⟨us, h1, rfl, fun _ _ _ => rfl⟩) k (.inl hk)
  · obtain ⟨i, hi, rfl⟩ := List.getElem_of_mem hx
    exact (h2 i hi (by omega)).cl k (.inl hk)
/-- It reads as rows. -/
theorem OwD.rw {w : World} {e1 e2 : TypeId} {G u : Value} {ls : List (List UInt8)} (h : OwD w e1 e2 G u ls) (L : List Value) (ha : ∀ k, Hs G k → Av L k) : Rw w L u ls := by
  obtain ⟨us, rfl, h1, hl, h2, _⟩ := h
  refine ⟨us, h1.sl L (fun k hk => ?_), hl, fun i a b => ((h2 i a b).scal L).slk (Sc.stab _) L (fun k hk => ?_) (fun _ h => h)⟩
  · rcases h1 with ⟨p, rfl, _⟩ | ⟨g, cap, rfl, _⟩ <;> exact ha k (hs_grp.2 (.inl (hs_sl hk)))
  · obtain ⟨us', h4, _⟩ := h2 i a b
    refine ha k (hs_grp.2 (.inr ⟨_, List.getElem_mem a, ?_⟩))
    rcases h4 with ⟨p, e, _⟩ | ⟨g, cap, e, _⟩ <;> rw [e] at hk ⊢ <;> exact hs_sl hk
theorem OwD.rd {w : World} {e1 e2 : TypeId} {G u : Value} {ls : List (List UInt8)} (h : OwD w e1 e2 G u ls) : Rw w [] u ls := h.rw [] (fun _ _ => trivial)

/-- Row i of the group. -/
def DAt (G : Value) (i : Nat) (x : Value) : Prop := ∃ u us, G = .tuple (u :: us).toArray ∧ us[i]? = some x
theorem tup_inj {a b : List Value} (h : (Value.tuple a.toArray) = .tuple b.toArray) : a = b := by
  have := Value.tuple.inj h
  exact congrArg Array.toList this
theorem OwD.row {w : World} {e1 e2 : TypeId} {G u x : Value} {ls : List (List UInt8)} {i : Nat} (h : OwD w e1 e2 G u ls) (hx : DAt G i x) : ∃ (h : i < ls.length), OwK (Sc u8) w [] e2 x ls[i] ∧ (∀ k, Hs x k → Hs G k) := by
  obtain ⟨us, rfl, h1, hl, h2, h3⟩ := h
  obtain ⟨u', us', e, hi⟩ := hx
  obtain ⟨rfl, rfl⟩ := List.cons.inj (tup_inj e)
  obtain ⟨hlt, rfl⟩ := List.getElem?_eq_some_iff.1 hi
  refine ⟨by omega, h2 i hlt (by omega), fun k hk => hs_grp.2 (.inr ⟨_, List.getElem_mem hlt, ?_⟩)⟩
  obtain ⟨us', h4, _⟩ := h2 i hlt (by omega)
  rcases h4 with ⟨p, e, _⟩ | ⟨g, cap, e, _⟩ <;> rw [e] at hk ⊢ <;> exact hs_sl hk
theorem OwD.rowrd {w : World} {e1 e2 : TypeId} {G u x : Value} {ls : List (List UInt8)} {i : Int} {r : List UInt8} (h : OwD w e1 e2 G u ls) (hx : DAt G i.toNat x) (hi : idx ls i = some r) : By w [] x r := by
  obtain ⟨hlt, ho, _⟩ := h.row hx
  obtain ⟨_, h2, rfl⟩ := idx_some.1 hi
  exact ho.rd (Sc.stab _)
theorem OwD.shape {w : World} {e1 e2 : TypeId} {G u : Value} {ls : List (List UInt8)} (h : OwD w e1 e2 G u ls) : ∃ p n c, u = .slice p n c := by
  obtain ⟨us, _, h1, _⟩ := h
  rcases h1 with ⟨p, rfl, _⟩ | ⟨g, cap, rfl, _⟩
  · exact ⟨_, _, _, rfl⟩
  · exact ⟨_, _, _, rfl⟩
/-- A row turned in its place. -/
theorem OwD.upd {w w' : World} {e1 e2 : TypeId} {G u x : Value} {ls : List (List UInt8)} {i : Nat} {r : List UInt8} {L : List Value} (h : OwD w e1 e2 G u ls) (hx : DAt G i x) (ho : OwK (Sc u8) w' L e2 x r) (hg : Gr w w' x) : OwD w' e1 e2 G u (ls.set i r) ∧ Gr w w' G := by
  have hrow := h.row hx
  obtain ⟨us, rfl, h1, hl, h2, h3⟩ := h
  obtain ⟨u', us', e, hi⟩ := hx
  obtain ⟨rfl, rfl⟩ := List.cons.inj (tup_inj e)
  obtain ⟨hlt, rfl⟩ := List.getElem?_eq_some_iff.1 hi
  obtain ⟨_, hor, hsub⟩ := hrow
  obtain ⟨row, hgr, hr⟩ := hg
  have hro : ∀ k, row = some k → oB us[i] = some k := fun k hk => by
    have h4 := hr k hk
    obtain ⟨us', h5, _⟩ := hor
    rcases h5 with ⟨p, e, _⟩ | ⟨g, cap, e, _⟩ <;> rw [e] at h4 ⊢ <;> exact hs_sl h4
  refine ⟨⟨us, rfl, h1.kept hgr (fun k hk e => ?_), by simpa using hl, fun j a b => ?_, h3⟩, ⟨row, hgr, fun k hk => hsub k (hr k hk)⟩⟩
  · exact (List.rel_of_pairwise_cons h3 (List.getElem_mem hlt)) k hk (hro k e)
  · have hj : j < ls.length := by simpa using b
    rw [List.getElem_set]
    by_cases hij : i = j
    · subst hij; rw [if_pos rfl]; exact ho
    · rw [if_neg hij]
      refine (h2 j a hj).keptR hgr (fun k hk e => ?_)
      have h4 := (List.pairwise_cons.1 h3).2
      rcases Nat.lt_or_gt_of_ne hij with h5 | h5
      · exact (List.pairwise_iff_getElem.1 h4 i j hlt a h5) k (hro k e) hk
      · exact (List.pairwise_iff_getElem.1 h4 j i a hlt h5) k hk (hro k e)
/-- The group may be turned to another one, by what it had and what x had. -/
theorem OwD.relist {G G' x : Value} (hG : ∀ k, Hs G' k → Hs G k ∨ Hs x k) {v : Value} (h1 : Nq v G) (h2 : Nq v x) : Nq v G' := fun k hk h' => (hG k h').elim (h1 k hk) (h2 k hk)
/-- It is a slice of rows that is owned. -/
theorem OwD.owk {w : World} {e1 e2 : TypeId} {G u : Value} {ls : List (List UInt8)} (h : OwD w e1 e2 G u ls) (L : List Value) (ha : ∀ k, Hs G k → Av L k) : OwK By w (u :: L) e1 u ls := by
  obtain ⟨us, rfl, h1, hl, h2, h3⟩ := h
  refine ⟨us, h1, hl, fun i a b => ((h2 i a b).scal (u :: L)).slk (Sc.stab _) (u :: L) (fun k hk => ?_) (fun _ h => h)⟩
  have hb : oB us[i] = some k := by
    obtain ⟨us', h4, _⟩ := h2 i a b
    rcases h4 with ⟨p, e, _⟩ | ⟨g, cap, e, _⟩ <;> rw [e] at hk ⊢ <;> exact hs_sl hk
  refine ⟨fun hu => ?_, ha k (hs_grp.2 (.inr ⟨_, List.getElem_mem a, hb⟩))⟩
  have hu' : oB u = some k := by rcases h1 with ⟨p, rfl, _⟩ | ⟨g, cap, rfl, _⟩ <;> exact hs_sl hu
  exact (List.rel_of_pairwise_cons h3 (List.getElem_mem a)) k hu' hb
theorem OwD.nwu {w w0 : World} {e1 e2 : TypeId} {G u : Value} {ls : List (List UInt8)} (h : OwD w e1 e2 G u ls) (hn : Nw w0 G) : Nw w0 u := by
  obtain ⟨us, rfl, h1, _⟩ := h
  intro k hk
  refine hn k (hs_grp.2 (.inl ?_))
  rcases h1 with ⟨p, rfl, _⟩ | ⟨g, cap, rfl, _⟩ <;> exact hs_sl hk

theorem Lift.call2 {w w' : World} {a b : Value} (L : List Value) (hg : Ext w w') (ha : Nw w a) (hb : Nw w b) : Lift w w' L (a :: b :: L) :=
  ⟨fun k o ho _ _ => (hg.blk k (lt_of_get ho)).trans ho, fun k hk h => ⟨fun e => by have := ha k e; omega, fun e => by have := hb k e; omega, h⟩⟩
theorem idv_eq {w : World} {L : List Value} {e : TypeId} {v : Value} {us : List Value} : OwK (Sc (fun x : Value => x)) w L e v us ↔ Ow w e v us := by
  constructor
  · rintro ⟨us', h, hl, he⟩
    have : us' = us := List.ext_getElem hl (fun i a b => he i a b)
    rw [← this]; exact h
  · intro h; exact ⟨us, h, rfl, fun _ _ _ => rfl⟩
theorem idv_stab : Stab (Sc (fun x : Value => x)) := Sc.stab _
section
variable {P : Program} {f : Nat → Value} {w : World} {o : Oper}
/-- make([][]byte, n): owned with all rows. -/
theorem stp_makeD (L : List Value) {x y : Operand} {t e1 e2 : TypeId} {bytes : Nat} {n : Int} {ls : List (List UInt8)} (ho : o.op = .makeSlice t x y) (T : TyS P t e1 (.slice none 0 0) bytes) (hx : ev f x = i64 n) (hy : ev f y = i64 n) (hl : makeL n ([] : List UInt8) = some ls)
    {K : Value → World → Prop} (hk : ∀ G v w', OwD w' e1 e2 G v ls → Nw w G → w.grownBy w' none → Lift w w' L (G :: L) → K v w') : Stp P o f w K := by
  have hl2 : makeL n (Value.slice none 0 0) = some (List.replicate ls.length (.slice none 0 0)) := by
    unfold makeL at hl ⊢
    split at hl
    · rename_i h; rw [if_pos h]; obtain rfl := Option.some.inj hl; simp
    · cases hl
  have hls : ls = List.replicate ls.length [] := by
    unfold makeL at hl
    split at hl
    · obtain rfl := Option.some.inj hl; simp
    · cases hl
  refine stp_make (L := L) (R := Sc (fun x : Value => x)) ho T hx hy hl2 (fun _ _ => rfl) ?_
  intro v w' h hn hg _
  have h := idv_eq.1 h
  have hd : OwD w' e1 e2 (.tuple (v :: List.replicate ls.length (.slice none 0 0)).toArray) v ls := by
    refine ⟨_, rfl, h, by simp, fun i a b => ?_, ?_⟩
    · have h1 : (List.replicate ls.length (Value.slice none 0 0))[i] = .slice none 0 0 := by simp
      have h2 : ls[i] = [] := by
        have := congrArg (·[i]?) hls
        simp only [List.getElem?_eq_getElem b, List.getElem?_replicate, if_pos b] at this
        exact Option.some.inj this
      rw [h1, h2]; exact OwK.nil _ _ _ _
    · rw [List.pairwise_cons]
      refine ⟨fun a ha k _ hk2 => ?_, ?_⟩
      · rw [List.mem_replicate.1 ha |>.2] at hk2; cases hk2
      · refine List.pairwise_replicate.2 (.inr fun k hk => by cases hk)
  have hnG : Nw w (.tuple (v :: List.replicate ls.length (.slice none 0 0)).toArray) := fun k hk => by
    rcases hs_grp.1 hk with hk | ⟨x, hx, hk⟩
    · exact hn k (.inl hk)
    · rw [List.mem_replicate.1 hx |>.2] at hk; cases hk
  exact hk _ v w' hd hnG hg (Lift.new L hg hnG)
/-- A row is told. -/
theorem loadD {x : Operand} {t e1 e2 : TypeId} {z : Value} {bytes : Nat} {i : Int} {G u : Value} {ls : List (List UInt8)} {r : List UInt8} (ho : o.op = .load e1 x) (T : TyS P t e1 z bytes) (hx : ev f x = adr u i.toNat) (h : OwD w e1 e2 G u ls) (hi : idx ls i = some r) :
    ∃ v, Qt P o f w v ∧ DAt G i.toNat v := by
  obtain ⟨us, rfl, h1, hl, h2, h3⟩ := h
  obtain ⟨h0, hlt, _⟩ := idx_some.1 hi
  have hid : idx us i = some (us[i.toNat]'(by omega)) := by unfold idx; rw [if_pos h0]; simp
  exact ⟨us[i.toNat]'(by omega), q_loadS (enc := fun x : Value => x) ho T hx ((idv_eq (L := []).2 h1).rd idv_stab) hid, u, us, rfl, by simp⟩
section
variable {ops : Array Oper} {K : (Nat → Value) → World → Prop} {rr : List Oper} {d : Nat}
theorem wlq_loadD {x : Operand} {t e1 e2 : TypeId} {z : Value} {bytes : Nat} {i : Int} {G u : Value} {ls : List (List UInt8)} {r : List UInt8} (hw : wantF ops f o = true) (hd : o.dst = some d) (ho : o.op = .load e1 x) (T : TyS P t e1 z bytes) (hx : ev f x = adr u i.toNat) (h : OwD w e1 e2 G u ls) (hi : idx ls i = some r)
    (hk : ∀ v, DAt G i.toNat v → wl P ops K rr (upd f d v) w) : wl P ops K (o :: rr) f w := by
  obtain ⟨v, h1, h2⟩ := loadD ho T hx h hi
  exact wlq hw hd h1 (hk v h2)
end
section
variable {ops : Array Oper} {qs : List Nat} {K : (Nat → Value) → World → Prop} {rr : List (Nat × Nat)} {d j : Nat}
theorem wsq_loadD {x : Operand} {t e1 e2 : TypeId} {z : Value} {bytes : Nat} {i : Int} {G u : Value} {ls : List (List UInt8)} {r : List UInt8} (hj : ops[j]? = some o) (hw : wantF ops f o = true) (hd : o.dst = some d) (ho : o.op = .load e1 x) (T : TyS P t e1 z bytes) (hx : ev f x = adr u i.toNat) (h : OwD w e1 e2 G u ls) (hi : idx ls i = some r)
    (hk : ∀ v, DAt G i.toNat v → ws P ops qs K rr (upd f d v) w) : ws P ops qs K ((j, 1) :: rr) f w := by
  obtain ⟨v, h1, h2⟩ := loadD ho T hx h hi
  exact wsq hj hw hd h1 (hk v h2)
end
/-- u[i][k] = x -/
theorem stp_storeD (L1 L2 : List Value) {x y : Operand} {t e1 e2 : TypeId} {z v : Value} {bytes : Nat} {i k : Int} {G u : Value} {ls : List (List UInt8)} {r : List UInt8} {a c : UInt8} (ho : o.op = .store e2 x y) (T : TyS P t e2 z bytes) (hx : ev f x = adr v k.toNat) (hy : ev f y = u8 a)
    (h : OwD w e1 e2 G u ls) (hd : DAt G i.toNat v) (hi : idx ls i = some r) (hc : idx r k = some c)
    {K : Value → World → Prop} (hk : ∀ w', OwD w' e1 e2 G u (ls.set i.toNat (r.set k.toNat a)) → Gr w w' G → Lift w w' (L1 ++ G :: L2) (L1 ++ G :: L2) → K undef w') : Stp P o f w K := by
  obtain ⟨hlt, hor, _⟩ := h.row hd
  obtain ⟨_, _, rfl⟩ := idx_some.1 hi
  refine stp_store (R := Sc u8) (u := u8 a) (Sc.stab _) [] [] ho T hx hy (hor.scal _) (put_of a hc) rfl rfl ?_
  intro w' h' hg _
  obtain ⟨q1, q2⟩ := h.upd hd h' hg
  exact hk w' q1 q2 (Lift.own L1 L2 q2 (Nx.refl _ _))
theorem drow_whole {e1 e2 : TypeId} {i : Int} {G u v : Value} {ls : List (List UInt8)} {r : List UInt8} (h : OwD w e1 e2 G u ls) (hd : DAt G i.toNat v) (hi : idx ls i = some r) : v = subV v (0 : Int).toNat r.length := by
  obtain ⟨hlt, hor, _⟩ := h.row hd
  obtain ⟨_, _, rfl⟩ := idx_some.1 hi
  exact copy_whole hor
/-- copy(u[i][off:], x) -/
theorem stp_copyD (L1 L2 : List Value) {d x : Operand} {t e1 e2 : TypeId} {z v dv s : Value} {bytes : Nat} {i off : Int} {G u : Value} {ls : List (List UInt8)} {r m : List UInt8} (ho : o.op = .call ⟨.builtin .copy, #[d, x], #[t, t]⟩) (T : TyS P t e2 z bytes) (hdd : ev f d = dv) (hx : ev f x = s)
    (h : OwD w e1 e2 G u ls) (hd : DAt G i.toNat v) (hi : idx ls i = some r) (hdv : dv = subV v off.toNat r.length) (h0 : 0 ≤ off) (hoff : off ≤ r.length) {Lu : List Value} (hu : By w Lu s m)
    {K : Value → World → Prop} (hk : ∀ w', OwD w' e1 e2 G u (ls.set i.toNat (copyL r off m)) → Gr w w' G → Lift w w' (L1 ++ G :: L2) (L1 ++ G :: L2) → K (i64 (min m.length (r.length - off.toNat) : Nat)) w') : Stp P o f w K := by
  obtain ⟨hlt, hor, _⟩ := h.row hd
  obtain ⟨_, _, rfl⟩ := idx_some.1 hi
  refine stp_copy (R := Sc u8) (Sc.stab _) [] [] ho T hdd hx (hor.scal _) hdv h0 hoff hu (fun _ _ h => h) oc_u8 ?_
  intro w' h' hg _
  obtain ⟨q1, q2⟩ := h.upd hd h' hg
  exact hk w' q1 q2 (Lift.own L1 L2 q2 (Nx.refl _ _))
/-- u[i] = x, x a row that is owned: it goes into the group. -/
theorem stp_storeRow (L1 L2 : List Value) {Lx : List Value} {a y : Operand} {t e1 e2 : TypeId} {z x : Value} {bytes : Nat} {i : Int} {G u : Value} {ls : List (List UInt8)} {r xs : List UInt8} (ho : o.op = .store e1 a y) (T : TyS P t e1 z bytes) (hx : ev f a = adr u i.toNat) (hy : ev f y = x)
    (h : OwD w e1 e2 G u ls) (hi : idx ls i = some r) (hxo : OwK (Sc u8) w Lx e2 x xs) (hq : Nq x G)
    {K : Value → World → Prop} (hk : ∀ G' w', OwD w' e1 e2 G' u (ls.set i.toNat xs) → Gr w w' G → (∀ k, Hs G' k → Hs G k ∨ Hs x k) → Lift w w' (L1 ++ G :: L2) (L1 ++ G :: L2) → K undef w') : Stp P o f w K := by
  obtain ⟨us, rfl, h1, hl, h2, h3⟩ := h
  obtain ⟨h0, hlt, rfl⟩ := idx_some.1 hi
  have hid : idx us i = some (us[i.toNat]'(by omega)) := by unfold idx; rw [if_pos h0]; simp
  refine stp_store (R := Sc (fun x : Value => x)) (u := x) idv_stab [] [] ho T hx hy (idv_eq.2 h1) (put_of x hid) rfl (oc_own hxo) ?_
  intro w' h' hg _
  have h' := idv_eq.1 h'
  have hxs : ∀ k, Hs x k → oB x = some k := fun k hk => by
    obtain ⟨us', h5, _⟩ := hxo
    rcases h5 with ⟨p, rfl, _⟩ | ⟨g, cap, rfl, _⟩ <;> exact hs_sl hk
  have hus : ∀ k, Hs u k → oB u = some k := fun k hk => by
    rcases h1 with ⟨p, rfl, _⟩ | ⟨g, cap, rfl, _⟩ <;> exact hs_sl hk
  have hgG : Gr w w' (.tuple (u :: us).toArray) := by
    obtain ⟨row, hgr, hr⟩ := hg
    exact ⟨row, hgr, fun k hk => hs_grp.2 (.inl (hus k (hr k hk)))⟩
  have hux : Apt u x := fun k hk1 hk2 => hq k (.inl hk2) (hs_grp.2 (.inl hk1))
  have hrx : ∀ v ∈ us, Apt v x := fun v hv k hk1 hk2 => hq k (.inl hk2) (hs_grp.2 (.inr ⟨v, hv, hk1⟩))
  obtain ⟨row, hgr, hr⟩ := hg
  have hro : ∀ k, row = some k → oB u = some k := fun k hk => hus k (hr k hk)
  refine hk (.tuple (u :: us.set i.toNat x).toArray) w' ⟨us.set i.toNat x, rfl, h', by simpa using hl, fun j a b => ?_, ?_⟩ hgG (fun k hk' => ?_) (Lift.own L1 L2 hgG (Nx.refl _ _))
  · have hj : j < us.length := by simpa using a
    have hj' : j < ls.length := by simpa using b
    simp only [List.getElem_set]
    by_cases hij : i.toNat = j
    · subst hij
      rw [if_pos rfl, if_pos rfl]
      exact (hxo.scal []).keptR hgr (fun k hk1 e => hux k (hro k e) hk1)
    · rw [if_neg hij, if_neg hij]
      exact (h2 j hj hj').keptR hgr (fun k hk1 e => (List.rel_of_pairwise_cons h3 (List.getElem_mem hj)) k (hro k e) hk1)
  · rw [List.pairwise_cons] at h3 ⊢
    refine ⟨fun v hv => ?_, ?_⟩
    · rcases List.mem_or_eq_of_mem_set hv with hv | rfl
      · exact h3.1 v hv
      · exact hux
    · refine List.pairwise_iff_getElem.2 fun p q hp hq' hpq => ?_
      have hp' : p < us.length := by simpa using hp
      have hq'' : q < us.length := by simpa using hq'
      simp only [List.getElem_set]
      have h4 := List.pairwise_iff_getElem.1 h3.2 p q hp' hq'' hpq
      by_cases h5 : i.toNat = p
      · rw [if_pos h5, if_neg (by omega)]
        exact (hrx _ (List.getElem_mem hq'')).symm
      · rw [if_neg h5]
        by_cases h6 : i.toNat = q
        · rw [if_pos h6]; exact hrx _ (List.getElem_mem hp')
        · rw [if_neg h6]; exact h4
  · rcases hs_grp.1 hk' with hk2 | ⟨v, hv, hk2⟩
    · exact .inl (hs_grp.2 (.inl hk2))
    · rcases List.mem_or_eq_of_mem_set hv with hv | rfl
      · exact .inl (hs_grp.2 (.inr ⟨v, hv, hk2⟩))
      · exact .inr (.inl hk2)
end

/-! ### Matrices behind pointers -/
/-- v points to a block whose one cell is a slice that reads as rows; or it is nil. -/
def MxT (T : TypeId) (w : World) (L : List Value) (v : Value) (m : Option (List (List UInt8))) : Prop :=
  (m = none ∧ v = .pointer none) ∨ ∃ l g u, m = some l ∧ v = bp g ∧ Av L g ∧ Blk w g T #[u] ∧ Rw w L u l
theorem MxT.lift {T : TypeId} {w w' : World} {L L' : List Value} {v : Value} {m : Option (List (List UInt8))} (h : MxT T w L v m) (g : Lift w w' L L') : MxT T w' L' v m := by
  rcases h with h | ⟨l, k, u, h1, h2, ha, hB, hR⟩
  · exact .inl h
  · exact .inr ⟨l, k, u, h1, h2, g.av k hB.lt ha, g.blk k _ hB rfl ha, hR.lift g⟩
theorem MxT.some {T : TypeId} {w : World} {L : List Value} {v : Value} {l : List (List UInt8)} {m : Option (List (List UInt8))} (h : MxT T w L v m) (hm : m = some l) : ∃ g u, v = bp g ∧ Blk w g T #[u] ∧ Rw w L u l := by
  rcases h with ⟨h1, _⟩ | ⟨l', k, u, h1, h2, ha, hB, hR⟩
  · rw [h1] at hm; cases hm
  · rw [h1] at hm; obtain rfl := Option.some.inj hm
    exact ⟨k, u, h2, hB, hR⟩
theorem MxT.cells {T : TypeId} {w : World} {L : List Value} {v : Value} {m : Option (List (List UInt8))} (h : MxT T w L v m) : v.cells = #[v] := by
  rcases h with ⟨_, rfl⟩ | ⟨_, _, _, _, rfl, _⟩ <;> rfl
theorem MxT.nil (T : TypeId) (w : World) (L : List Value) : MxT T w L (.pointer none) none := .inl ⟨rfl, rfl⟩
theorem q_eqM {P : Program} {o : Oper} {f : Nat → Value} {T : TypeId} {w : World} {L : List Value} {v : Value} {m : Option (List (List UInt8))} {x y : Operand} {t t' e : TypeId} (ho : o.op = .binOp .eql t x y t') (ht : P.underlying t = some (.pointer e)) (hx : ev f x = v) (hy : ev f y = .pointer none) (h : MxT T w L v m) : Qa P o f (.bool m.isNone) := by
  rcases h with ⟨rfl, rfl⟩ | ⟨l, g, u, rfl, rfl, _⟩
  · exact q_eqP ho ht hx hy
  · exact q_eqP ho ht hx hy
end Gk

/- append of noughts (append(s, make(..)...)); slices.Grow on nothing; slices.Concat. No condition but the length. -/



set_option linter.unusedVariables false
set_option linter.unusedSimpArgs false
namespace Gk
open Go Go.Proofs
section
variable {P : Program} {o : Oper} {f : Nat → Value} {w : World} {L : List Value}
theorem q_cap {α : Type} {R : World → List Value → Value → α → Prop} {p : Option Addr} {n c : Nat} {x : Operand} {t e : TypeId}
    (ho : o.op = .call ⟨.builtin .cap, #[x], #[t]⟩) (ht : P.underlying t = some (.slice e)) (hx : ev f x = .slice p n c) : Qa P o f (i64 c) := by
  intro w'
  rw [exec_builtin _ ho]
  simp [builtin, Builtin.cap_, run_underlying ht, hx, goInt, i64]
theorem zeroCells_one {z : Value} (hz : z.cells = #[z]) (n : Nat) : (Builtin.zeroCells z.cells n).toList = List.replicate n z := by
  apply List.ext_getElem?
  intro i
  simp only [Builtin.zeroCells, hz]
  by_cases h : i < n
  · simp [h, Nat.mod_one]
  · simp [h]
/-- append(s, make([]T, n)...): the run. -/
theorem run_appz {t tn ty e : TypeId} {z v : Value} {bytes : Nat} {us : List Value} (T : TyS P t e z bytes) (htn : P.underlying tn = some (.int .i64)) (h1 : z.oneCell' = true) (h : Ow w e v us) (n : Nat) (hm : us.length + n ≤ most) :
    ∃ v' w', (Builtin.append_ #[t, tn] ty #[v, i64 n]).run P w = .ok v' w' ∧ Ow w' e v' (us ++ List.replicate n z) ∧ Gr w w' v ∧ Nx w v v' := by
  obtain ⟨i, hi, i1, i2, i3⟩ := info_parts T.info
  obtain ⟨b1, b2, b3⟩ := mem_most hm T.fit
  obtain ⟨c1, c2, c3⟩ := mem_most (show n ≤ most by omega) T.fit
  have h63 : ((us.length + n : Nat) : Int) ≤ 9223372036854775807 := by simp only [most] at hm; omega
  have hw : IntKind.i64.wrap (n : Int) = n := by rw [IntKind.wrap_i64]; simp only [most] at hm; omega
  have h48i : ¬ (281474976710656 < (n : Int) * (i.bytes : Int)) := by rw [← Int.natCast_mul, i3]; omega
  have hneg : ¬ ((n : Int) < 0) := by omega
  have made : ∀ (old : Nat), (w.drew.alloc (.cells (us.toArray ++ Builtin.zeroCells z.cells n ++ Builtin.zeroCells z.cells (grownCap w (us.length + n) old e - (us.length + n))) e)).ownsRow 0 e 1
        (.slice (some ⟨w.heap.size, 0, none⟩) (us.length + n) (grownCap w (us.length + n) old e)) (us.length + n) (us ++ List.replicate n z) := fun old => by
    have hge := grownCap_ge w (us.length + n) old e
    refine ⟨by simp, .inr ⟨w.heap.size, _, _, rfl, Nat.zero_le _, heap_alloc_new w.drew _, hge, grownCap_le_maxLen w _ old e b3, ?_, ?_⟩⟩
    · simp only [Array.size_append, List.size_toArray, size_zeroCells, T.cell]
      simp; omega
    · simp only [Array.toList_append, zeroCells_one T.cell]
      exact List.take_left' (by simp)
  have hlen : (us ++ List.replicate n z).length = us.length + n := by simp
  have hnxn : ∀ (v : Value) (n c : Nat), Nx w v (.slice (some ⟨w.heap.size, 0, none⟩) n c) := fun v n c => (Nw.mk w n c).nx v
  by_cases hn : n = 0
  · subst hn
    refine ⟨v, w, ?_, by simpa using h, Gr.refl w v, Nx.refl w v⟩
    have hw0 : IntKind.i64.wrap 0 = 0 := by rw [IntKind.wrap_i64]; rfl
    rcases h with ⟨pv, rfl, rfl⟩ | ⟨g, cap', rfl, hc0, h⟩
    · cases pv <;> simp [Builtin.append_, run_underlying T.sl, run_underlying htn, Go.sizeOf, typeInfo, hi, i64, asInt, asIntOf, storeCells, hw0]
    · obtain ⟨cur, hg, hc, _⟩ := row_spec h
      simp [Builtin.append_, run_underlying T.sl, run_underlying htn, Go.sizeOf, typeInfo, hi, i64, asInt, asIntOf, storeCells, hw0, hc]
  · rcases h with ⟨pv, rfl, rfl⟩ | ⟨g, cap', rfl, hc0, h⟩
    · have hold : (Builtin.firstCells i.size 0 (.slice pv 0 0)).run P w.drew = .ok ([] : List Value).toArray w.drew := by
        cases pv <;> simp [Builtin.firstCells, loadCells, loadCellsFrom]
      have hr := Lib.run_append_grow_zeros (P := P) w t tn ty e i z .i64 .i64 T.sl htn hi i1 pv 0 0 [] hold n (by omega) (by omega) (by omega) (by simpa using h63) (by rw [i3]; rw [Nat.mul_comm]; exact c2) (by rw [i3]; exact growslice_fits (by omega) (by simpa using b1))
      have hmk := made 0
      exact ⟨_, _, hr, Ow.mk (by simp) hmk, Gr.of ⟨rfl, rfl, rfl, by simp, fun k hk _ => alloc_old w.drew _ k hk⟩, hnxn _ _ _⟩
    · obtain ⟨cur, hg, hc, hcm, hcs, htake⟩ := row_spec h
      by_cases hroom : us.length + n ≤ cap'
      · have hst := run_storeCells_at P g us.length e (List.replicate n z) 0 cur w hg (by rw [hcs]; simp; omega) (fun v hv => by rw [(List.mem_replicate.1 hv).2]; exact h1)
        have hr : (Builtin.append_ #[t, tn] ty #[.slice (some ⟨g, 0, none⟩) us.length cap', i64 n]).run P w = .ok (.slice (some ⟨g, 0, none⟩) (us.length + n) cap') (w.setRow g (cur.toList.take us.length ++ List.replicate n z ++ cur.toList.drop (us.length + n)).toArray) := by
          simp only [Nat.add_zero, List.length_replicate] at hst
          have hz0 : ¬ (n * i.size = 0) := by rw [i2]; omega
          simp [Builtin.append_, run_underlying T.sl, run_underlying htn, Go.sizeOf, typeInfo, zeroValue, hi, i1, i64, asInt, asIntOf, hw, hneg, h48i, hroom, hz0, i2, zeroCells_one T.cell, add_off, hst, hn]
        refine ⟨_, _, hr, Ow.mk hlen.symm ⟨by simp, .inr ⟨g, cap', _, rfl, Nat.zero_le _, setRow_heap w g cur _ e _ hg, hroom, hcm, ?_, ?_⟩⟩,
          Gr.of ⟨rfl, rfl, rfl, by simp, fun k _ hk => setRow_other w g k _ (fun e => hk (by rw [oB_pos hc0, e]))⟩, fun k hk => .inl (.inl (by have := hs_sl hk; rw [oB_pos hc0] at *; exact this))⟩
        · simp only [List.size_toArray, List.length_append, List.length_take, List.length_drop, Array.length_toList, List.length_replicate]
          omega
        · rw [Nat.mul_one] at htake
          rw [htake]
          exact List.take_left' (by simp)
      · have holds : ∀ j u, us[j]? = some u → w.cell? ((⟨g, 0, none⟩ : Addr).add j) = some u := World.ownsRow.cells h (g := g) rfl
        have hold : (Builtin.firstCells i.size us.length (.slice (some ⟨g, 0, none⟩) us.length cap')).run P w.drew = .ok us.toArray w.drew := by
          have := run_firstCells_some (P := P) w.drew i.size us.length ⟨g, 0, none⟩ us.length cap' us (by rw [i2]; simp) (fun j u hj => holds j u hj)
          exact this
        have hr := Lib.run_append_grow_zeros (P := P) w t tn ty e i z .i64 .i64 T.sl htn hi i1 (some ⟨g, 0, none⟩) us.length cap' us hold n (by omega) (by omega) (by omega) h63 (by rw [i3]; rw [Nat.mul_comm]; exact c2) (by rw [i3]; exact growslice_fits (by omega) b1)
        exact ⟨_, _, hr, Ow.mk hlen.symm (made cap'), Gr.of ⟨rfl, rfl, rfl, by simp, fun k hk _ => alloc_old w.drew _ k hk⟩, hnxn _ _ _⟩
/-- append(s, make([]T, n)...), s owned. -/
theorem stp_appz {α : Type} {R : World → List Value → Value → α → Prop} (hR : Stab R) {s x : Operand} {t tn e : TypeId} {z v : Value} {bytes : Nat} {l r : List α} {n : Int} {a : α} (L1 L2 : List Value)
    (ho : o.op = .call ⟨.builtin .append, #[s, x], #[t, tn]⟩) (T : TyS P t e z bytes) (htn : P.underlying tn = some (.int .i64)) (h1 : z.oneCell' = true) (hs : ev f s = v) (hx : ev f x = i64 n) (h : OwK R w (L1 ++ v :: L2) e v l) {m : List α} (hz : makeL n a = some m) (hza : ∀ w L, R w L z a) (hm : appL l m = some r)
    {K : Value → World → Prop} (hk : ∀ v' w', OwK R w' (L1 ++ v' :: L2) e v' r → Gr w w' v → Nx w v v' → Lift w w' (L1 ++ v :: L2) (L1 ++ v' :: L2) → K v' w') : Stp P o f w K := by
  obtain ⟨us, hown, hl, he⟩ := h
  obtain ⟨hmost, rfl⟩ := appL_some.1 hm
  unfold makeL at hz
  split at hz
  · rename_i hn
    obtain ⟨k, rfl⟩ := Int.eq_ofNat_of_zero_le hn.1
    obtain rfl := Option.some.inj hz
    simp only [Int.toNat_natCast, List.length_replicate] at hmost ⊢
    obtain ⟨v', w', hr, h2, h3, h4⟩ := run_appz (ty := o.type) T htn h1 hown k (by omega)
    have hlift := Lift.own L1 L2 h3 h4
    refine stp_of_run (v := v') (w' := w') ?_ (hk _ _ ⟨us ++ List.replicate k z, h2, by simp [hl], fun i a1 a2 => ?_⟩ h3 h4 hlift)
    · rw [exec_builtin _ ho]
      simp [builtin, hs, hx, hr]
    · by_cases hi : i < us.length
      · rw [List.getElem_append_left hi, List.getElem_append_left (by omega)]
        exact hR _ _ _ _ _ _ hlift (he i hi (by omega))
      · rw [List.getElem_append_right (by omega), List.getElem_append_right (by omega), List.getElem_replicate, List.getElem_replicate]
        exact hza _ _
  · cases hz
end

def slices_Grow (a0 : List UInt8) (n : Int) : Option (List UInt8) := if 0 ≤ n ∧ n ≤ most then some [] else none
set_option maxRecDepth 100000 in
set_option maxHeartbeats 8000000 in
theorem slices_Grow_calls (a0 : List UInt8) (n : Int) (p0 : Value) (r : List UInt8) (w0 : World) (hp0 : p0 = .slice none 0 0) (H : slices_Grow a0 n = some r) :
    Calls Try.prog 75 [p0, i64 n].toArray w0 (fun e w' => ∃ u0 : Value, e = .returned u0 ∧ Ext w0 w' ∧ Nw w0 u0 ∧ OwK (Sc u8) w' [] 5 u0 r) := by
  subst hp0
  unfold slices_Grow at H
  split at H
  case isFalse => cases H
  rename_i hn
  obtain rfl := Option.some.inj H
  have hE : Ext w0 w0 := Ext.refl w0
  obtain ⟨k, rfl⟩ := Int.eq_ofNat_of_zero_le hn.1
  have hmo : k ≤ 5000000000000 := by have := hn.2; simp only [most] at this; omega
  have hk0 : wI ((k : Int) - wI (0 - 0)) = k := by rw [wI_of (x := 0 - 0) (by decide) (by decide), wI_of (by omega) (by omega)]; omega
  refine calls_W (n := 27) Try.func75 rfl rfl rfl ?_
  refine W_seq ?_
  refine W_reg (by kernel_rfl) ?_
  refine wla rfl rfl (q_assign (v := (.slice none 0 0)) rfl rfl) ?_
  refine wl_nil ?_
  refine W_th ?_
  refine W_seq ?_
  refine W_seq ?_
  refine W_reg (by kernel_rfl) ?_
  refine wla rfl rfl (q_move (v := (i64 k)) rfl rfl) ?_
  refine wla rfl rfl (q_ltI rfl rfl rfl) ?_
  refine wl_nil ?_
  refine W_th ?_
  refine W_cond _ rfl rfl (fun hb => ?_) (fun hb => ?_)
  · have := of_decide_eq_true hb; omega
  refine W_skip ?_
  refine W_th ?_
  refine W_seq ?_
  refine W_seq ?_
  refine W_reg (by kernel_rfl) ?_
  refine wla rfl rfl (q_move (v := (i64 k)) rfl rfl) ?_
  refine wla rfl rfl (q_move (v := (.slice none 0 0)) rfl rfl) ?_
  refine wla rfl rfl (q_cap (α := UInt8) (R := Sc u8) rfl T22.sl rfl) ?_
  refine wla rfl rfl (q_move (v := (.slice none 0 0)) rfl rfl) ?_
  refine wla rfl rfl (q_len_nil rfl T22.sl rfl) ?_
  refine wla rfl rfl (q_subI rfl rfl rfl) ?_
  refine wla rfl rfl (q_subI rfl rfl rfl) ?_
  refine wla rfl rfl (q_assign (v := (i64 (wI ((k : Int) - wI (0 - 0))))) rfl rfl) ?_
  refine wl_nil ?_
  refine W_th ?_
  refine W_seq ?_
  refine W_reg (by kernel_rfl) ?_
  refine wla rfl rfl (q_move (v := (i64 k)) rfl (by show i64 _ = i64 _; rw [hk0])) ?_
  refine wla rfl rfl (q_gtI rfl rfl rfl) ?_
  refine wl_nil ?_
  refine W_th ?_
  refine W_cond _ rfl rfl (fun hb => ?_) (fun hb => ?_)
  · refine W_reg (by kernel_rfl) ?_
    refine wla rfl rfl (q_move (v := (.slice none 0 0)) rfl rfl) ?_
    refine wla rfl rfl (q_move (v := (.slice none 0 0)) rfl rfl) ?_
    refine wla rfl rfl (q_cap (α := UInt8) (R := Sc u8) rfl T22.sl rfl) ?_
    refine wla rfl rfl (q_slice (l := ([] : List UInt8)) (m := []) (R := Sc u8) (w := w0) (L := []) (a := 0) (b := 0) rfl T22 rfl (SlK.nil _ _ _) rfl rfl rfl) ?_
    refine wla rfl rfl (q_move (v := (i64 k)) rfl (by show i64 _ = i64 _; rw [hk0])) ?_
    refine wls rfl rfl (stp_appz (R := (Sc u8)) (v := (.slice none 0 0)) (l := []) (r := List.replicate k 0) (m := List.replicate k 0) (n := (k : Int)) (a := 0) (Sc.stab _) [] [] rfl T22 Try.underlying3 rfl rfl rfl (OwK.nil _ _ _ _) (by unfold makeL; rw [if_pos hn]; simp) (fun _ _ => rfl) (by unfold appL; rw [if_pos (by simp; omega)]; rfl) ?_)
    intro v1 w1 o1 g1 nx1 l1
    obtain ⟨us, hu, hl, he⟩ := o1
    rcases hu with ⟨p, rfl, rfl⟩ | ⟨g, cap, rfl, hc, hrow⟩
    · have : 0 < (k : Int) := of_decide_eq_true hb
      simp at hl; omega
    · have e1 : Ext w0 w1 := hE.grown g1 (Nw.nil _)
      have n1 : Nw w0 (.slice (some ⟨g, 0, none⟩) us.length cap) := Nw.nxt hE (Nw.nil _) nx1
      have h1 : SlK (Sc u8) w1 [] (.slice (some ⟨g, 0, none⟩) us.length cap) (List.replicate k (0 : UInt8)) := (OwK.rd (Sc.stab _) (L := []) ⟨us, .inr ⟨g, cap, rfl, hc, hrow⟩, hl, fun i a b => he i a b⟩)
      have hsub : subV (.slice (some ⟨g, 0, none⟩) us.length cap) (0 : Int).toNat (0 : Int).toNat = .slice (some ⟨g, 0, none⟩) 0 cap := by
        unfold subV
        by_cases h0 : cap = 0
        · omega
        · simp [Addr.add]
      refine wla rfl rfl (q_move (v := (.slice none 0 0)) rfl rfl) ?_
      refine wla rfl rfl (q_len_nil rfl T22.sl rfl) ?_
      refine wla rfl rfl (q_slice (m := []) (a := 0) (b := 0) rfl T22 rfl h1 rfl rfl (by unfold subL; rw [if_pos (by simp)]; simp)) ?_
      refine wla rfl rfl (q_assign (v := .slice (some ⟨g, 0, none⟩) 0 cap) rfl hsub) ?_
      refine wl_nil ?_
      refine W_th ?_
      refine W_seq ?_
      refine W_reg (by kernel_rfl) ?_
      refine wla rfl rfl (q_move (v := .slice (some ⟨g, 0, none⟩) 0 cap) rfl rfl) ?_
      refine wla rfl rfl (q_assign (v := .slice (some ⟨g, 0, none⟩) 0 cap) rfl rfl) ?_
      refine wl_nil ?_
      refine W_th ?_
      refine W_ret ?_
      refine rt1 (.slice (some ⟨g, 0, none⟩) 0 cap) rfl rfl rfl rfl ?_
      obtain ⟨cur, hg, a1, a2, a3, a4⟩ := row_spec hrow
      refine ⟨_, rfl, e1, fun q hq => n1 q ?_, [], .inr ⟨g, cap, rfl, hc, rfl, .inr ⟨g, cap, cur, rfl, Nat.zero_le _, hg, Nat.zero_le _, a2, a3, by simp⟩⟩, rfl, fun i h => absurd h (by simp)⟩
      have := hs_sl hq
      rw [oB_pos hc] at this
      exact .inl (by rw [oB_pos hc]; exact this)
  · refine W_skip ?_
    refine W_th ?_
    refine W_seq ?_
    refine W_reg (by kernel_rfl) ?_
    refine wla rfl rfl (q_move (v := (.slice none 0 0)) rfl rfl) ?_
    refine wla rfl rfl (q_assign (v := (.slice none 0 0)) rfl rfl) ?_
    refine wl_nil ?_
    refine W_th ?_
    refine W_ret ?_
    refine rt1 (.slice none 0 0) rfl rfl rfl rfl ?_
    exact ⟨_, rfl, hE, Nw.nil _, OwK.nil _ _ _ _⟩
/-! slices.Concat[[]byte,byte] -/
noncomputable def slices_Concat_sbytebyte (a0slices : List (List UInt8)) : Option (List UInt8) :=
((iterC (fun s1 : Int × Int =>
(if s1.2 < (a0slices.length : Int) then
((idx a0slices s1.2).bind fun c4 =>
(if (wI (s1.1 + (c4.length : Int))) < 0 then none
else some (.inl ((wI (s1.1 + (c4.length : Int))), (wI (s1.2 + 1))))))
else some (.inr s1.1))) (0, 0)).bind fun x1 =>
((slices_Grow ([] : List UInt8) x1).bind fun r9 =>
((iterC (fun s12 : List UInt8 × Int =>
(if s12.2 < (a0slices.length : Int) then
((idx a0slices s12.2).bind fun c15 =>
((appL s12.1 c15).bind fun c17 => some (.inl (c17, (wI (s12.2 + 1))))))
else some (.inr s12.1))) (r9, 0)).bind fun x12 => some x12)))
set_option maxRecDepth 100000 in
set_option maxHeartbeats 8000000 in
theorem slices_Concat_sbytebyte_calls (a0slices : List (List UInt8)) (p0 : Value) (r : List UInt8) (w0 : World) (hp0 : Rw w0 [] p0 a0slices) (H : slices_Concat_sbytebyte a0slices = some r) :
    Calls Try.prog 51 [p0].toArray w0 (fun e w' => ∃ u0 : Value, e = .returned u0 ∧ Ext w0 w' ∧ Nw w0 u0 ∧ OwK (Sc u8) w' [] 5 u0 r) := by
  have hE : Ext w0 w0 := Ext.refl w0
  unfold slices_Concat_sbytebyte at H
  refine calls_W (n := 36) Try.func51 rfl rfl rfl ?_
  refine W_seq ?_
  refine W_reg (by kernel_rfl) ?_
  refine wla rfl rfl (q_assign (v := (.slice none 0 0)) rfl rfl) ?_
  refine wl_nil ?_
  refine W_th ?_
  refine W_seq ?_
  refine W_reg (by kernel_rfl) ?_
  refine wla rfl rfl (q_assign (v := (i64 0)) rfl rfl) ?_
  refine wl_nil ?_
  refine W_th ?_
  refine W_seq ?_
  refine W_seq ?_
  refine W_reg (by kernel_rfl) ?_
  refine wla rfl rfl (q_move (v := p0) rfl rfl) ?_
  refine wla rfl rfl (q_len rfl T61.sl rfl (hp0.lift (Lift.ext hE _))) ?_
  refine wla rfl rfl (q_move (v := (i64 0)) rfl rfl) ?_
  refine wl_nil ?_
  refine W_th ?_
  obtain ⟨x1, G1, H⟩ := Option.bind_eq_some_iff.1 H
  refine W_mid (fun f w => f 0 = p0 ∧ f 3 = (i64 x1) ∧ f 36 = undef ∧ Ext w0 w) ?_ ?_
  · refine W_block ?_
    refine W_loop (fun s1 f w => f 0 = p0 ∧ f 3 = (i64 s1.1) ∧ f 9 = p0 ∧ f 10 = (i64 ((a0slices.length : Int))) ∧ f 11 = (i64 s1.2) ∧ f 36 = undef ∧ Ext w0 w) G1 ?_ ?_
    · exact ⟨rfl, rfl, rfl, rfl, rfl, rfl, hE⟩
    · rintro s1 _ _ w2 ⟨s0_2, s3_2, s9_2, s10_2, s11_2, s36_2, hE2⟩ H1 hr1
      refine W_seq ?_
      refine W_reg (by kernel_rfl) ?_
      refine wla rfl rfl (q_ltI rfl s11_2 s10_2) ?_
      refine wl_nil ?_
      refine W_th ?_
      refine W_seq ?_
      refine W_cond _ rfl rfl (fun hb3 => ?_) (fun hb3 => ?_)
      · replace H1 := (if_pos (of_decide_eq_true hb3)).symm.trans H1
        refine W_skip ?_
        refine W_th ?_
        refine W_seq ?_
        refine W_block ?_
        refine W_seq ?_
        refine W_reg (by kernel_rfl) ?_
        obtain ⟨c4, hc4, H1⟩ := Option.bind_eq_some_iff.1 H1
        refine wla rfl rfl (q_adr rfl T61 s9_2 s11_2 (hp0.lift (Lift.ext hE2 _)) hc4) ?_
        refine wlq_load rfl rfl rfl T61 rfl hp0 hc4 hE2 (fun v5 ha5 => ?_)
        refine wla rfl rfl (q_assign (v := v5) rfl rfl) ?_
        refine wl_nil ?_
        refine W_th ?_
        refine W_seq ?_
        refine W_reg (by kernel_rfl) ?_
        refine wla rfl rfl (q_move (v := (i64 s1.1)) rfl s3_2) ?_
        refine wla rfl rfl (q_move (v := v5) rfl rfl) ?_
        refine wla rfl rfl (q_len rfl T22.sl rfl (ha5.lift (Lift.ext hE2 _))) ?_
        refine wla rfl rfl (q_addI rfl rfl rfl) ?_
        refine wla rfl rfl (q_assign (v := (i64 ((wI (s1.1 + (c4.length : Int)))))) rfl rfl) ?_
        refine wl_nil ?_
        refine W_th ?_
        refine W_seq ?_
        refine W_reg (by kernel_rfl) ?_
        refine wla rfl rfl (q_move (v := (i64 ((wI (s1.1 + (c4.length : Int)))))) rfl rfl) ?_
        refine wla rfl rfl (q_ltI rfl rfl rfl) ?_
        refine wl_nil ?_
        refine W_th ?_
        refine W_cond _ rfl rfl (fun hb6 => ?_) (fun hb6 => ?_)
        · replace H1 := (if_pos (of_decide_eq_true hb6)).symm.trans H1
          cases H1
        · replace H1 := (if_neg (of_decide_eq_false hb6)).symm.trans H1
          refine W_skip ?_
          refine bk_n ?_
          refine W_th ?_
          refine W_reg (by kernel_rfl) ?_
          refine wla rfl rfl (q_addI rfl s11_2 rfl) ?_
          refine wla rfl rfl (q_move (v := (i64 ((wI (s1.2 + 1))))) rfl rfl) ?_
          refine wl_nil ?_
          obtain rfl := Option.some.inj H1
          exact ⟨_, rfl, s0_2, rfl, s9_2, s10_2, rfl, s36_2, hE2⟩
      · replace H1 := (if_neg (of_decide_eq_false hb3)).symm.trans H1
        refine W_exit ?_
        refine th_x ?_
        obtain rfl := Option.some.inj H1
        obtain rfl := hr1 _ rfl
        refine th_x ?_
        refine bk_x ?_
        exact ⟨s0_2, s3_2, s36_2, hE2⟩
  · rintro _ w8 ⟨s0_8, s3_8, s36_8, hE8⟩
    refine W_th ?_
    refine W_seq ?_
    refine W_reg (by kernel_rfl) ?_
    refine wla rfl rfl (q_move (v := (i64 x1)) rfl s3_8) ?_
    obtain ⟨r9, hr9, H⟩ := Option.bind_eq_some_iff.1 H
    refine wls rfl rfl (stp_call (vs := [(.slice none 0 0), (i64 x1)]) Try.func75 rfl rfl rfl (ar2 rfl rfl) (slices_Grow_calls ([] : List UInt8) x1 (.slice none 0 0) r9 _ rfl hr9) ?_)
    rintro _ w9 ⟨v9, rfl, x9, n9_0, o9_0⟩
    refine ⟨_, rfl, ?_⟩
    have o9 : OwK (Sc u8) w9 (v9 :: []) 5 v9 r9 := OwK.scal o9_0 _
    have n11 := Nw.ext hE8 n9_0
    have e10 := hE8.trans x9
    refine wla rfl rfl (q_assign (v := v9) rfl rfl) ?_
    refine wl_nil ?_
    refine W_th ?_
    refine W_seq ?_
    refine W_seq ?_
    refine W_reg (by kernel_rfl) ?_
    refine wla rfl rfl (q_move (v := p0) rfl s0_8) ?_
    refine wla rfl rfl (q_len rfl T61.sl rfl (hp0.lift (Lift.ext e10 _))) ?_
    refine wla rfl rfl (q_move (v := (i64 0)) rfl rfl) ?_
    refine wl_nil ?_
    refine W_th ?_
    obtain ⟨x12, G12, H⟩ := Option.bind_eq_some_iff.1 H
    refine W_mid (fun f w => ∃ v6_22 : Value, f 6 = v6_22 ∧ f 36 = undef ∧ Ext w0 w ∧ OwK (Sc u8) w [v6_22] 5 v6_22 x12 ∧ Nw w0 v6_22) ?_ ?_
    · refine W_block ?_
      refine W_loop (fun s12 f w => ∃ v6_20 : Value, f 6 = v6_20 ∧ f 25 = p0 ∧ f 26 = (i64 ((a0slices.length : Int))) ∧ f 27 = (i64 s12.2) ∧ f 36 = undef ∧ Ext w0 w ∧ OwK (Sc u8) w [v6_20] 5 v6_20 s12.1 ∧ Nw w0 v6_20) G12 ?_ ?_
      · exact ⟨v9, rfl, rfl, rfl, rfl, s36_8, e10, o9, n11⟩
      · rintro s12 _ _ w13 ⟨v6_13, s6_13, s25_13, s26_13, s27_13, s36_13, hE13, o0_13, n0_13⟩ H12 hr12
        refine W_seq ?_
        refine W_reg (by kernel_rfl) ?_
        refine wla rfl rfl (q_ltI rfl s27_13 s26_13) ?_
        refine wl_nil ?_
        refine W_th ?_
        refine W_seq ?_
        refine W_cond _ rfl rfl (fun hb14 => ?_) (fun hb14 => ?_)
        · replace H12 := (if_pos (of_decide_eq_true hb14)).symm.trans H12
          refine W_skip ?_
          refine W_th ?_
          refine W_seq ?_
          refine W_block ?_
          refine W_seq ?_
          refine W_reg (by kernel_rfl) ?_
          obtain ⟨c15, hc15, H12⟩ := Option.bind_eq_some_iff.1 H12
          refine wla rfl rfl (q_adr rfl T61 s25_13 s27_13 (hp0.lift (Lift.ext hE13 _)) hc15) ?_
          refine wlq_load rfl rfl rfl T61 rfl hp0 hc15 hE13 (fun v16 ha16 => ?_)
          refine wla rfl rfl (q_assign (v := v16) rfl rfl) ?_
          refine wl_nil ?_
          refine W_th ?_
          refine W_reg (by kernel_rfl) ?_
          refine wla rfl rfl (q_move (v := v6_13) rfl s6_13) ?_
          refine wla rfl rfl (q_move (v := v16) rfl rfl) ?_
          obtain ⟨c17, hc17, H12⟩ := Option.bind_eq_some_iff.1 H12
          refine wls rfl rfl (stp_append (R := (Sc u8)) (v := v6_13) (u := v16) (Sc.stab _) [] [] rfl T22 rfl rfl o0_13 (ha16.lift (Lift.ext hE13 _)) (fun _ _ h => h) hc17 oc_u8 ?_)
          intro v17 w17 o17 g17 nx17 l17
          have e18 := hE13.grown g17 n0_13
          have n19 := Nw.nxt hE13 n0_13 nx17
          refine wla rfl rfl (q_assign (v := v17) rfl rfl) ?_
          refine wl_nil ?_
          refine bk_n ?_
          refine W_th ?_
          refine W_reg (by kernel_rfl) ?_
          refine wla rfl rfl (q_addI rfl s27_13 rfl) ?_
          refine wla rfl rfl (q_move (v := (i64 ((wI (s12.2 + 1))))) rfl rfl) ?_
          refine wl_nil ?_
          obtain rfl := Option.some.inj H12
          exact ⟨_, rfl, v17, rfl, s25_13, s26_13, rfl, s36_13, e18, o17, n19⟩
        · replace H12 := (if_neg (of_decide_eq_false hb14)).symm.trans H12
          refine W_exit ?_
          refine th_x ?_
          obtain rfl := Option.some.inj H12
          obtain rfl := hr12 _ rfl
          refine th_x ?_
          refine bk_x ?_
          exact ⟨v6_13, s6_13, s36_13, hE13, o0_13, n0_13⟩
    · rintro _ w21 ⟨v6_21, s6_21, s36_21, hE21, o0_21, n0_21⟩
      refine W_th ?_
      refine W_seq ?_
      refine W_reg (by kernel_rfl) ?_
      refine wla rfl rfl (q_move (v := v6_21) rfl s6_21) ?_
      refine wla rfl rfl (q_assign (v := v6_21) rfl rfl) ?_
      refine wl_nil ?_
      refine W_th ?_
      refine W_ret ?_
      obtain rfl := Option.some.inj H
      refine rt1 v6_21 rfl rfl rfl s36_21 ?_
      exact ⟨v6_21, rfl, hE21, n0_21, (o0_21.weak (Sc.stab _) (fun _ _ => trivial))⟩

end Gk

/- Small laws of lists, rows and numbers. No condition but lengths. -/




set_option linter.unusedSimpArgs false
set_option linter.unusedVariables false
namespace Gk
open Gf

/-! ### Small laws -/
theorem idx_co {p : List UInt8} {i : Nat} (h : i < p.length) : idx p (i : Int) = some (co p i) := by rw [idx_nat, co_get h]
theorem subL_nat {α : Type} (l : List α) (a b : Nat) (h1 : a ≤ b) (h2 : b ≤ l.length) : subL l (a : Int) (b : Int) = some ((l.take b).drop a) := by
  unfold subL; rw [if_pos ⟨by omega, by omega, by omega⟩]; simp
theorem wI_add (a b : Nat) (h : a + b < 9223372036854775808) : wI ((a : Int) + (b : Int)) = ((a + b : Nat) : Int) := by rw [wI_of (by omega) (by omega)]; omega
theorem wI_sub (a b : Nat) (h : b ≤ a) (h2 : a < 9223372036854775808) : wI ((a : Int) - (b : Int)) = ((a - b : Nat) : Int) := by rw [wI_of (by omega) (by omega)]; omega
theorem wI_pred (a : Nat) (h : 1 ≤ a) (h2 : a < 9223372036854775808) : wI ((a : Int) - 1) = ((a - 1 : Nat) : Int) := by rw [wI_of (by omega) (by omega)]; omega
theorem h257 : (257 : Nat) ≤ most := by decide
theorem most_lt' : most < 9223372036854775000 := by decide
theorem eq_of_co {p q : List UInt8} (hl : p.length = q.length) (h : ∀ i, co p i = co q i) : p = q := by
  apply List.ext_getElem hl
  intro i h1 h2
  have := h i
  rwa [co_lt h1, co_lt h2] at this
theorem co_sumL (a : List UInt8) (c : UInt8) (b : List UInt8) (i : Nat) : co (sumL a c b) i = if i < a.length then co a i ^^^ mul c (co b i) else 0 := by
  simp only [co, sumL, List.getD_eq_getElem?_getD, List.getElem?_mapIdx]
  by_cases h : i < a.length
  · simp [h]
  · simp [h, List.getElem?_eq_none (show a.length ≤ i by omega)]
theorem copyL_len {α : Type} (l : List α) (off : Nat) (m : List α) (h : off ≤ l.length) : (copyL l (off : Int) m).length = l.length := by
  simp only [copyL, Int.toNat_natCast, List.length_append, List.length_take, List.length_drop]; omega
theorem co_copyL (l : List UInt8) (off : Nat) (m : List UInt8) (h : off + m.length ≤ l.length) (j : Nat) : co (copyL l (off : Int) m) j = if off ≤ j ∧ j < off + m.length then co m (j - off) else co l j := by
  have e1 : m.take (l.length - off) = m := List.take_of_length_le (by omega)
  have e2 : min m.length (l.length - off) = m.length := by omega
  simp only [copyL, Int.toNat_natCast, e1, e2, co, List.getD_eq_getElem?_getD, List.getElem?_append, List.length_take, List.getElem?_take, List.getElem?_drop]
  by_cases h1 : j < off
  · rw [if_pos (by omega), if_pos (by omega), if_neg (by omega)]
  · rw [if_neg (by omega), show j - min off l.length = j - off by omega]
    by_cases h2 : j < off + m.length
    · rw [if_pos (by omega), if_pos ⟨by omega, h2⟩]
    · rw [if_neg (by omega), if_neg (by omega)]
      congr 2; omega
theorem co_take (p : List UInt8) (n i : Nat) : co (p.take n) i = if i < n then co p i else 0 := by
  simp only [co, List.getD_eq_getElem?_getD, List.getElem?_take]; split <;> simp
theorem co_drop (p : List UInt8) (n i : Nat) : co (p.drop n) i = co p (n + i) := by
  simp only [co, List.getD_eq_getElem?_getD, List.getElem?_drop]
theorem take_snoc {p : List UInt8} {i : Nat} (h : i < p.length) : p.take (i + 1) = p.take i ++ [co p i] := by
  rw [List.take_add_one, co_get h]; rfl

theorem co_tab (n : Nat) (f : Nat → UInt8) (i : Nat) : co ((List.range n).map f) i = if i < n then f i else 0 := by
  simp only [co, List.getD_eq_getElem?_getD, List.getElem?_map]
  by_cases h : i < n
  · simp [h]
  · rw [List.getElem?_eq_none (by simpa using h), if_neg h]; rfl
theorem anyO_all {α : Type} (t : α → Option Bool) (b : α → Bool) : ∀ l : List α, (∀ x ∈ l, t x = some (b x)) → anyO t l = some (l.any b)
  | [], _ => rfl
  | x :: l, h => by
    unfold anyO
    rw [h x (by simp), Option.bind_some, anyO_all t b l (fun y hy => h y (by simp [hy])), List.any_cons]
    cases b x <;> rfl
theorem getD_get {l : List (List UInt8)} {k : Nat} (h : k < l.length) : l[k]? = some (l.getD k []) := by simp [List.getD_eq_getElem?_getD, h]
theorem getD_mem {l : List (List UInt8)} {k : Nat} (h : k < l.length) : l.getD k [] ∈ l := List.mem_of_getElem? (getD_get h)
theorem idx_getD {l : List (List UInt8)} {k : Nat} (h : k < l.length) : idx l (k : Int) = some (l.getD k []) := by rw [idx_nat, getD_get h]
theorem getD_set {l : List (List UInt8)} {j : Nat} (h : j < l.length) (r : List UInt8) (i : Nat) : (l.set j r).getD i [] = if i = j then r else l.getD i [] := by
  simp only [List.getD_eq_getElem?_getD, List.getElem?_set]
  by_cases hij : j = i
  · subst hij; simp [h]
  · simp [hij, Ne.symm hij]
theorem getD_ge {l : List (List UInt8)} {i : Nat} (h : l.length ≤ i) : l.getD i [] = [] := by simp [List.getD_eq_getElem?_getD, List.getElem?_eq_none h]
theorem getD_rep {n i : Nat} (r : List UInt8) (h : i < n) : (List.replicate n r).getD i [] = r := by simp [List.getD_eq_getElem?_getD, h]
theorem getD_tab (n : Nat) (f : Nat → List UInt8) (i : Nat) (h : i < n) : ((List.range n).map f).getD i [] = f i := by simp [List.getD_eq_getElem?_getD, h]
theorem getD_map (f : List UInt8 → List UInt8) {l : List (List UInt8)} {i : Nat} (h : i < l.length) : (l.map f).getD i [] = f (l.getD i []) := by simp [List.getD_eq_getElem?_getD, h]
theorem rows_ext {a b : List (List UInt8)} (hl : a.length = b.length) (h : ∀ i, i < a.length → a.getD i [] = b.getD i []) : a = b := by
  apply List.ext_getElem hl
  intro i h1 h2
  have := h i h1
  simpa [List.getD_eq_getElem?_getD, h1, h2] using this
theorem idx_0 {l : List (List UInt8)} (h : 0 < l.length) : idx l 0 = some (l.getD 0 []) := by
  have := idx_getD (l := l) (k := 0) h
  rwa [show ((0 : Nat) : Int) = 0 from rfl] at this
theorem rows_snoc {l : List (List UInt8)} {i : Nat} (h : i < l.length) : l.take (i + 1) = l.take i ++ [l.getD i []] := by
  rw [List.take_add_one, getD_get h]; rfl
theorem appL_ok {α : Type} (a b : List α) (h : a.length + b.length ≤ most) (hb : b.length = 1) : appL a b = some (a ++ b) := by
  unfold appL; rw [if_pos (by omega)]
theorem mem_getD {l : List (List UInt8)} {r : List UInt8} (h : r ∈ l) : ∃ i, i < l.length ∧ l.getD i [] = r := by
  obtain ⟨i, hi, rfl⟩ := List.getElem_of_mem h
  exact ⟨i, hi, by simp [List.getD_eq_getElem?_getD, hi]⟩
/-! ### Rows that are written place by place -/
/-- The first k numbers are told by f. -/
def updB (row : List UInt8) (f : Nat → UInt8) (k : Nat) : List UInt8 := (List.range row.length).map fun j => if j < k then f j else co row j
theorem updB_len (row : List UInt8) (f : Nat → UInt8) (k : Nat) : (updB row f k).length = row.length := by simp [updB]
theorem co_updB (row : List UInt8) (f : Nat → UInt8) (k i : Nat) (h : i < row.length) : co (updB row f k) i = if i < k then f i else co row i := by
  unfold updB; rw [co_tab, if_pos h]
theorem updB_zero (row : List UInt8) (f : Nat → UInt8) : updB row f 0 = row := eq_of_co (updB_len _ _ _) fun i => by
  by_cases h : i < row.length
  · rw [co_updB _ _ _ _ h, if_neg (by omega)]
  · rw [co_ge (by rw [updB_len]; omega), co_ge (by omega)]
theorem updB_succ (row : List UInt8) (f : Nat → UInt8) (k : Nat) (h : k < row.length) : (updB row f k).set k (f k) = updB row f (k + 1) := eq_of_co (by simp [updB_len]) fun i => by
  rw [co_set (by rw [updB_len]; omega)]
  by_cases hi : i < row.length
  · rw [co_updB _ _ _ _ hi, co_updB _ _ _ _ hi]
    by_cases hik : i = k
    · rw [if_pos hik, if_pos (by omega), hik]
    · rw [if_neg hik]
      by_cases h2 : i < k
      · rw [if_pos h2, if_pos (by omega)]
      · rw [if_neg h2, if_neg (by omega)]
  · rw [if_neg (by omega), co_ge (by rw [updB_len]; omega), co_ge (by rw [updB_len]; omega)]
theorem updB_end (row : List UInt8) (f : Nat → UInt8) : updB row f row.length = (List.range row.length).map f := by
  unfold updB; exact List.map_congr_left fun j hj => by rw [if_pos (List.mem_range.1 hj)]
theorem idx_updB (row : List UInt8) (f : Nat → UInt8) (k i : Nat) (h : i < row.length) : idx (updB row f k) (i : Int) = some (if i < k then f i else co row i) := by
  rw [idx_co (by rw [updB_len]; exact h), co_updB _ _ _ _ h]
/-- The first i rows are told by F. -/
def updR (l : List (List UInt8)) (F : Nat → List UInt8) (i : Nat) : List (List UInt8) := (List.range l.length).map fun j => if j < i then F j else l.getD j []
theorem updR_len (l : List (List UInt8)) (F : Nat → List UInt8) (i : Nat) : (updR l F i).length = l.length := by simp [updR]
theorem getD_updR (l : List (List UInt8)) (F : Nat → List UInt8) (i j : Nat) (h : j < l.length) : (updR l F i).getD j [] = if j < i then F j else l.getD j [] := by
  unfold updR; rw [getD_tab _ _ _ h]
theorem updR_zero (l : List (List UInt8)) (F : Nat → List UInt8) : updR l F 0 = l := rows_ext (updR_len _ _ _) fun i h => by
  rw [updR_len] at h
  rw [getD_updR _ _ _ _ h, if_neg (by omega)]
theorem updR_succ (l : List (List UInt8)) (F : Nat → List UInt8) (k : Nat) (h : k < l.length) : (updR l F k).set k (F k) = updR l F (k + 1) := rows_ext (by simp [updR_len]) fun i hi => by
  rw [List.length_set, updR_len] at hi
  rw [getD_set (by rw [updR_len]; omega), getD_updR _ _ _ _ hi, getD_updR _ _ _ _ hi]
  by_cases hik : i = k
  · rw [if_pos hik, if_pos (by omega), hik]
  · rw [if_neg hik]
    by_cases h2 : i < k
    · rw [if_pos h2, if_pos (by omega)]
    · rw [if_neg h2, if_neg (by omega)]
theorem updR_end (l : List (List UInt8)) (F : Nat → List UInt8) : updR l F l.length = (List.range l.length).map F := by
  unfold updR; exact List.map_congr_left fun j hj => by rw [if_pos (List.mem_range.1 hj)]
theorem idx_updR (l : List (List UInt8)) (F : Nat → List UInt8) (k : Nat) (h : k < l.length) : idx (updR l F k) (k : Int) = some (l.getD k []) := by
  rw [idx_getD (by rw [updR_len]; exact h), getD_updR _ _ _ _ h, if_neg (by omega)]
theorem set_getD (l : List (List UInt8)) (i : Nat) : l.set i (l.getD i []) = l := by
  by_cases h : i < l.length
  · refine rows_ext (by simp) fun j hj => ?_
    rw [getD_set h]
    by_cases e : j = i
    · rw [if_pos e, e]
    · rw [if_neg e]
  · exact List.set_eq_of_length_le (by omega)
theorem idx_set {l : List (List UInt8)} {i : Nat} (h : i < l.length) (r : List UInt8) : idx (l.set i r) (i : Int) = some r := by
  rw [idx_getD (by simpa using h), getD_set h, if_pos rfl]
/-- A loop that writes a row's numbers one by one. -/
theorem row_loop {body : List (List UInt8) × Int → Option ((List (List UInt8) × Int) ⊕ List (List UInt8))} (l : List (List UInt8)) (i c : Nat) (h : i < l.length) (hc : (l.getD i []).length = c) (f : Nat → UInt8)
    (hs : ∀ k, k < c → body (l.set i (updB (l.getD i []) f k), (k : Int)) = some (.inl (l.set i ((updB (l.getD i []) f k).set k (f k)), ((k + 1 : Nat) : Int))))
    (he : ∀ s, body (s, (c : Int)) = some (.inr s)) : iterC body (l, 0) = some (l.set i ((List.range c).map f)) := by
  refine iterC_count (fun k => (l.set i (updB (l.getD i []) f k), (k : Int))) c _ ?_ ?_ ?_
  · rw [updB_zero, set_getD]; rfl
  · intro k hk
    rw [hs k hk, updB_succ _ _ _ (by omega)]
  · rw [he, ← hc, updB_end]
/-- A loop that writes rows one by one. -/
theorem rows_loop {body : List (List UInt8) × Int → Option ((List (List UInt8) × Int) ⊕ List (List UInt8))} (l : List (List UInt8)) (n : Nat) (hn : l.length = n) (F : Nat → List UInt8)
    (hs : ∀ i, i < n → body (updR l F i, (i : Int)) = some (.inl ((updR l F i).set i (F i), ((i + 1 : Nat) : Int))))
    (he : ∀ s, body (s, (n : Int)) = some (.inr s)) : iterC body (l, 0) = some ((List.range n).map F) := by
  refine iterC_count (fun i => (updR l F i, (i : Int))) n _ ?_ ?_ ?_
  · rw [updR_zero]; rfl
  · intro k hk
    rw [hs k hk, updR_succ _ _ _ (by omega)]
  · rw [he, ← hn, updR_end]
theorem flat_take_le (l : List (List UInt8)) (i : Nat) : (l.take i).flatten.length ≤ l.flatten.length := by
  have h := congrArg List.length (congrArg List.flatten (List.take_append_drop i l))
  rw [List.flatten_append, List.length_append] at h
  omega
theorem Concat_eq (l : List (List UInt8)) (h : l.flatten.length ≤ most) (hl : l.length ≤ most) : slices_Concat_sbytebyte l = some l.flatten := by
  unfold slices_Concat_sbytebyte
  have hmo := most_lt'
  refine bind_of (iterC_count (fun i => (((l.take i).flatten.length : Int), (i : Int))) l.length (l.flatten.length : Int) (by simp) ?_ (by simp)) ?_
  · intro i hi
    have h1 := flat_take_le l (i + 1)
    have e : (l.take (i + 1)).flatten.length = (l.take i).flatten.length + (l.getD i []).length := by rw [rows_snoc hi, List.flatten_append, List.length_append]; simp
    simp only
    rw [if_pos (by omega), idx_getD hi, Option.bind_some, wI_add _ _ (by omega), if_neg (by omega), wI_succ i (by omega), e]
  · unfold slices_Grow
    rw [if_pos (by omega), Option.bind_some]
    refine bind_of (iterC_count (fun i => ((l.take i).flatten, (i : Int))) l.length l.flatten (by simp) ?_ (by simp)) rfl
    intro i hi
    have h1 := flat_take_le l (i + 1)
    have e : (l.take (i + 1)).flatten = (l.take i).flatten ++ l.getD i [] := by rw [rows_snoc hi, List.flatten_append]; simp
    have e2 := congrArg List.length e
    rw [List.length_append] at e2
    simp only
    rw [if_pos (by omega), idx_getD hi, Option.bind_some]
    unfold appL
    rw [if_pos (by omega), Option.bind_some, wI_succ i (by omega), e]
end Gk

/- Arrays: as values, and in blocks behind pointers. No condition. -/




set_option linter.unusedVariables false
set_option linter.unusedSimpArgs false
namespace Gk
open Go Go.RowKit

def ac {α : Type} (enc : α → Value) (l : List α) : Array Value := (l.map enc).toArray
/-- An array's value. -/
def ag {α : Type} (enc : α → Value) (l : List α) : Value := .agg (ac enc l)
theorem ac_size {α : Type} (enc : α → Value) (l : List α) : (ac enc l).size = l.length := by simp [ac]
theorem ac_get {α : Type} (enc : α → Value) (l : List α) (i : Nat) : (ac enc l)[i]? = (l[i]?).map enc := by simp [ac]
theorem ac_set {α : Type} (enc : α → Value) (l : List α) (i : Nat) (x : α) : (ac enc l).setIfInBounds i (enc x) = ac enc (l.set i x) := by
  apply Array.ext'
  simp [ac, List.map_set]
def lenA {α : Type} (n : Nat) (l : List α) : Option Unit := if l.length = n then some () else none
theorem lenA_eq {α : Type} {n : Nat} {l : List α} {u : Unit} (h : lenA n l = some u) : l.length = n := by
  unfold lenA at h; split at h
  · assumption
  · cases h
/-- From place m on, a block's cells are these. -/
def Seg (cs : Array Value) (m : Nat) (us : List Value) : Prop := ∀ j, j < us.length → cs[m + j]? = us[j]?
theorem seg_self {α : Type} (enc : α → Value) (l : List α) : Seg (ac enc l) 0 (l.map enc) := fun j _ => by simp [ac]
/-- An array type of elements of one cell. -/
structure TyA (P : Program) (t e : TypeId) (n : Nat) : Prop where
  und : P.underlying t = some (.array n e)
  agg : ∀ w, (isAgg t).run P w = .ok true w
  size : ∀ w, (Go.sizeOf t).run P w = .ok n w
  esz : ∀ w, (Go.sizeOf e).run P w = .ok 1 w
  eagg : ∀ w, (isAgg e).run P w = .ok false w
section
variable {P : Program} {o : Oper} {f : Nat → Value} {w : World} {x y : Operand} {t e T : TypeId} {g m n : Nat} {cs : Array Value} {u v : Value} {α : Type} {enc : α → Value} {l l' : List α} {i : Int} {a b : α}
theorem run_loadSeg (A : TyA P t e n) (h : Blk w g T cs) {us : List Value} (hs : Seg cs m us) (hl : us.length = n) : (loadVar t ⟨g, m, none⟩).run P w = .ok (.agg us.toArray) w := by
  have := run_loadCells_list (P := P) w ⟨g, m, none⟩ us (fun j v hj => by
    have hlt : j < us.length := (List.getElem?_eq_some_iff.1 hj).1
    rw [add_off, h.cell, hs j hlt]; exact hj)
  rw [hl] at this
  simp [loadVar, A.agg, A.size, this]
theorem q_loadA (ho : o.op = .load t x) (A : TyA P t e n) (hx : ev f x = .pointer (some ⟨g, m, none⟩)) (h : Blk w g T cs) (hs : Seg cs m (l.map enc)) (hl : l.length = n) : Qt P o f w (ag enc l) := by
  intro w' hE
  have := run_loadSeg (w := w') A (h.ext hE) hs (by simpa using hl)
  simp [execOp, ho, hx, Instr.loadAt, Instr.sureAddr, this, ag, ac]
/-- What a block has where a part of it is written anew. -/
def spl (cs : Array Value) (m : Nat) (us : List Value) : Array Value := (cs.toList.take m ++ us ++ cs.toList.drop (m + us.length)).toArray
theorem stp_storeSeg (ho : o.op = .store t x y) (A : TyA P t e n) (hx : ev f x = .pointer (some ⟨g, m, none⟩)) (hy : ev f y = ag enc l) (hl : l.length = n) (h : Blk w g T cs) (hm : m + n ≤ cs.size) (hc : ∀ x, (enc x).oneCell' = true)
    {K : Value → World → Prop} (hk : ∀ w', Blk w' g T (spl cs m (l.map enc)) → w.grownBy w' (some g) → K undef w') : Stp P o f w K := by
  have hrun := run_storeCells_at (P := P) g m T (l.map enc) 0 cs w h (by simp; omega) (fun v hv => by obtain ⟨x, _, rfl⟩ := List.mem_map.1 hv; exact hc x)
  have hb : Blk (w.setRow g (spl cs m (l.map enc))) g T (spl cs m (l.map enc)) := setRow_heap w g cs _ T _ h
  have hg : w.grownBy (w.setRow g (spl cs m (l.map enc))) (some g) := ⟨rfl, rfl, rfl, by simp [World.setRow], fun k _ hk => setRow_other w g k _ (fun e => hk (by rw [e]))⟩
  refine stp_of_skip (w' := w.setRow g (spl cs m (l.map enc))) ?_ (hk _ hb hg)
  have hsz : (ac enc l).size = n := by rw [ac_size]; exact hl
  simp only [Nat.add_zero] at hrun
  have hrun' : (storeCells ⟨g, m, none⟩ (ac enc l).toList).run P w = .ok () (w.setRow g (spl cs m (l.map enc))) := by simpa [ac, spl] using hrun
  simp [execOp, ho, hx, hy, Instr.storeAt, Instr.sureAddr, storeVar, ag, Value.cells, A.size, hsz, hrun']
theorem spl_all (h : cs.size = l.length) : spl cs 0 (l.map enc) = ac enc l := by
  unfold spl ac
  apply Array.ext'
  simp [List.drop_eq_nil_of_le, h]
/-- A whole array is written. -/
theorem stp_storeA (L1 L2 : List Value) (ho : o.op = .store t x y) (A : TyA P t e n) (hx : ev f x = bp g) (hy : ev f y = ag enc l') (hl : l.length = n) (hl' : l'.length = n) (h : Blk w g T (ac enc l)) (hc : ∀ x, (enc x).oneCell' = true)
    {K : Value → World → Prop} (hk : ∀ w', Blk w' g T (ac enc l') → Gr w w' (bp g) → Lift w w' (L1 ++ bp g :: L2) (L1 ++ bp g :: L2) → K undef w') : Stp P o f w K :=
  stp_storeSeg (m := 0) ho A hx hy hl' h (by rw [ac_size]; omega) hc fun w' hB hg => hk w' (by rw [spl_all (by rw [ac_size]; omega)] at hB; exact hB) (Gr.of hg) (Lift.own L1 L2 (Gr.of hg) (Nx.refl _ _))
/-- A place in an array. -/
abbrev bpo (g m : Nat) : Value := .pointer (some ⟨g, m, none⟩)
theorem q_ixA (ho : o.op = .indexAddr t x y) (A : TyA P t e n) (hx : ev f x = bpo g m) (hy : ev f y = i64 i) (hl : l.length = n) (hi : idx l i = some a) : Qa P o f (bpo g (m + i.toNat)) := by
  obtain ⟨h0, h1, _⟩ := idx_some.1 hi
  refine q_ixP (kk := .i64) ho A.und A.esz hx (hy.trans ?_) (by omega)
  show Value.int .i64 i = _
  rw [show ((i.toNat : Nat) : Int) = i by omega]
theorem q_ixA8 {c : UInt8} (ho : o.op = .indexAddr t x y) (A : TyA P t e n) (hx : ev f x = bpo g m) (hy : ev f y = u8 c) (hl : l.length = n) (hi : idx l (c.toNat : Int) = some a) : Qa P o f (bpo g (m + (c.toNat : Int).toNat)) := by
  obtain ⟨h0, h1, _⟩ := idx_some.1 hi
  exact q_ixP (kk := .u8) ho A.und A.esz hx hy (by omega)
theorem q_loadE (ho : o.op = .load e x) (A : TyA P t e n) (hx : ev f x = bpo g (m + i.toNat)) (h : Blk w g T cs) (hs : Seg cs m (l.map enc)) (hi : idx l i = some a) : Qt P o f w (enc a) := by
  obtain ⟨h0, h1, h2⟩ := idx_some.1 hi
  refine q_loadB ho A.eagg hx h ?_
  rw [hs i.toNat (by simpa using h1)]
  simp [h1, h2]
theorem stp_storeE (ho : o.op = .store e x y) (A : TyA P t e n) (hx : ev f x = bpo g (m + i.toNat)) (hy : ev f y = enc b) (h : Blk w g T cs) (hm : m + l.length ≤ cs.size) (hi : idx l i = some a) (hc : (enc b).oneCell' = true)
    {K : Value → World → Prop} (hk : ∀ w', Blk w' g T (cs.setIfInBounds (m + i.toNat) (enc b)) → w.grownBy w' (some g) → K undef w') : Stp P o f w K := by
  obtain ⟨h0, h1, h2⟩ := idx_some.1 hi
  exact stp_storeB ho A.esz hx hy h (by omega) hc hk
/-- An element of an array is written. -/
theorem stp_storeX (L1 L2 : List Value) (ho : o.op = .store e x y) (A : TyA P t e n) (hx : ev f x = bpo g (0 + i.toNat)) (hy : ev f y = enc b) (h : Blk w g T (ac enc l)) (hi : idx l i = some a) (hc : (enc b).oneCell' = true)
    {K : Value → World → Prop} (hk : ∀ w', Blk w' g T (ac enc (l.set i.toNat b)) → Gr w w' (bp g) → Lift w w' (L1 ++ bp g :: L2) (L1 ++ bp g :: L2) → K undef w') : Stp P o f w K :=
  stp_storeE (m := 0) ho A hx hy h (by rw [ac_size]; omega) hi hc fun w' hB hg => hk w' (by rw [Nat.zero_add, ac_set] at hB; exact hB) (Gr.of hg) (Lift.own L1 L2 (Gr.of hg) (Nx.refl _ _))
/-- An element of an array's value. -/
theorem q_index (ho : o.op = .index t x y) (A : TyA P t e n) (hx : ev f x = ag enc l) (hy : ev f y = i64 i) (hl : l.length = n) (hi : idx l i = some a) : Qa P o f (enc a) := by
  intro w'
  obtain ⟨h0, h1, h2⟩ := idx_some.1 hi
  have h3 : i < (n : Int) := by omega
  have h4 : (ac enc l)[i.toNat]? = some (enc a) := by rw [ac_get]; simp [h1, h2]
  simp [execOp, ho, hx, hy, i64, Instr.index, asIntOf, run_underlying A.und, ag, h0, h3, A.esz, part, A.eagg, h4]
/-- An array's value, built. -/
theorem q_buildA {z : α} {parts : List (Nat × Operand)} {us : List Value} (ho : o.op = .build t parts.toArray) (A : TyA P t e n) (hz : ∀ w, (zeroValue t).run P w = .ok (ag enc (List.replicate n z)) w) (hp : Parts f parts 0 us) (hus : us = l.map enc) (hl : l.length ≤ n) (h1 : ∀ x, (enc x).cells = #[enc x]) : Qa P o f (ag enc (l ++ List.replicate (n - l.length) z)) := by
  intro w'
  have hparts : (parts.toArray.map fun (i, x) => (i, ev f x)).toList = (us.zipIdx 0).map fun p => (p.2, p.1) := by
    rw [← Parts.eq parts 0 us hp]; simp
  have hf := fill_seq us 0 ((List.replicate n z).map enc) (by subst hus; simp; omega) (fun u hu => by subst hus; obtain ⟨x, _, rfl⟩ := List.mem_map.1 hu; exact h1 x)
  have hf' : Instr.fill (fun i => some (i * 1, 1)) (ac enc (List.replicate n z)) ((us.zipIdx 0).map fun p => (p.2, p.1)) = some (ac enc (l ++ List.replicate (n - l.length) z)) := by
    unfold ac at hf ⊢
    rw [hf]
    subst hus
    simp
  have hrun : (Instr.build t (parts.toArray.map fun (i, x) => (i, ev f x))).run P w' = .ok (ag enc (l ++ List.replicate (n - l.length) z)) w' := by
    unfold Instr.build
    simp only [Sem.run_bind, hz, Result.andThen_ok, Sem.run_pure, run_underlying A.und, A.esz, hparts]
    show Sem.run P (match Instr.fill (fun i => some (i * 1, 1)) (ac enc (List.replicate n z)) ((us.zipIdx 0).map fun p => (p.2, p.1)) with | some cells => pure (Value.agg cells) | x => stuck "build: a part of the wrong size") w' = _
    rw [hf']; rfl
  simp only [execOp, ho, Sem.run_bind, hrun, Result.andThen_ok, Sem.run_pure]
theorem q_buildAF {z : α} {parts : List (Nat × Operand)} {us : List Value} (ho : o.op = .build t parts.toArray) (A : TyA P t e n) (hz : ∀ w, (zeroValue t).run P w = .ok (ag enc (List.replicate n z)) w) (hp : Parts f parts 0 us) (hus : us = l.map enc) (hl : l.length = n) (h1 : ∀ x, (enc x).cells = #[enc x]) : Qa P o f (ag enc l) := by
  have := q_buildA (l := l) ho A hz hp hus (Nat.le_of_eq hl) h1
  rwa [hl, Nat.sub_self, List.replicate_zero, List.append_nil] at this
theorem q_buildA0 {z : α} {parts : List (Nat × Operand)} {us : List Value} (ho : o.op = .build t parts.toArray) (A : TyA P t e n) (hz : ∀ w, (zeroValue t).run P w = .ok (ag enc (List.replicate n z)) w) (hp : Parts f parts 0 us) (hus : us = l.map enc) (hl : l.length = 0) (h1 : ∀ x, (enc x).cells = #[enc x]) : Qa P o f (ag enc (List.replicate n z)) := by
  have := q_buildA (l := l) ho A hz hp hus (by omega) h1
  have h0 := List.eq_nil_of_length_eq_zero hl
  subst h0
  simpa using this
end
theorem one_u8 (x : UInt8) : (u8 x).oneCell' = true := rfl
theorem one_u32 (x : UInt32) : (u32 x).oneCell' = true := rfl
theorem one_u64 (x : UInt64) : (u64 x).oneCell' = true := rfl
theorem one_i64 (x : Int) : (i64 x).oneCell' = true := rfl
theorem cel_u8 (x : UInt8) : (u8 x).cells = #[u8 x] := rfl
theorem cel_u32 (x : UInt32) : (u32 x).cells = #[u32 x] := rfl
theorem cel_u64 (x : UInt64) : (u64 x).cells = #[u64 x] := rfl
theorem cel_i64 (x : Int) : (i64 x).cells = #[i64 x] := rfl

/-! ### Words of 32 bits, and from one to another -/
section
variable {P : Program} {o : Oper} {f : Nat → Value} {w : World} {x y : Operand} {t t' : TypeId} {k : IntKind}
theorem q_not8 {a : UInt8} (ho : o.op = .unOp .xor t x) (hx : ev f x = u8 a) : Qa P o f (u8 ((255 : UInt8) ^^^ a)) := by
  intro w
  have h := back_u8 ((255 : UInt8) ^^^ a)
  rw [UInt8.toBitVec_xor, ← bv_u8, ← bv_u8] at h
  unfold execOp; rw [ho]; dsimp only; rw [hx]; exact congrArg (fun n : Int => (Result.ok (Next.value (Value.int .u8 n)) w : Result Next)) h
theorem q_not32 {a : UInt32} (ho : o.op = .unOp .xor t x) (hx : ev f x = u32 a) : Qa P o f (u32 ((4294967295 : UInt32) ^^^ a)) := by
  intro w
  have h := back_u32 ((4294967295 : UInt32) ^^^ a)
  rw [UInt32.toBitVec_xor, ← bv_u32, ← bv_u32] at h
  unfold execOp; rw [ho]; dsimp only; rw [hx]; exact congrArg (fun n : Int => (Result.ok (Next.value (Value.int .u32 n)) w : Result Next)) h
theorem q_not64 {a : UInt64} (ho : o.op = .unOp .xor t x) (hx : ev f x = u64 a) : Qa P o f (u64 ((18446744073709551615 : UInt64) ^^^ a)) := by
  intro w
  have h := back_u64 ((18446744073709551615 : UInt64) ^^^ a)
  rw [UInt64.toBitVec_xor, ← bv_u64, ← bv_u64] at h
  unfold execOp; rw [ho]; dsimp only; rw [hx]; exact congrArg (fun n : Int => (Result.ok (Next.value (Value.int .u64 n)) w : Result Next)) h
theorem q_cvt648 {a : UInt8} (ho : o.op = .convert t t' x) (ht : P.underlying t = some (.int k)) (ht' : P.underlying t' = some (.int .u64)) (hx : ev f x = u8 a) : Qa P o f (u64 a.toUInt64) := by
  intro w
  have h : IntKind.u64.wrap (a.toNat : Int) = (a.toUInt64.toNat : Int) := by
    have := a.toNat_lt
    rw [wrap_u64]; simp; omega
  simp [execOp, ho, hx, u8, convert, run_underlying ht, run_underlying ht', Conv.intToInt, h, u64]
theorem q_cvt3264 {a : UInt64} (ho : o.op = .convert t t' x) (ht : P.underlying t = some (.int k)) (ht' : P.underlying t' = some (.int .u32)) (hx : ev f x = u64 a) : Qa P o f (u32 a.toUInt32) := by
  intro w
  have h : IntKind.u32.wrap (a.toNat : Int) = (a.toUInt32.toNat : Int) := by
    rw [wrap_u32]; simp
  simp [execOp, ho, hx, u64, convert, run_underlying ht, run_underlying ht', Conv.intToInt, h, u32]
theorem q_cvt832 {a : UInt32} (ho : o.op = .convert t t' x) (ht : P.underlying t = some (.int k)) (ht' : P.underlying t' = some (.int .u8)) (hx : ev f x = u32 a) : Qa P o f (u8 a.toUInt8) := by
  intro w
  have h : IntKind.u8.wrap (a.toNat : Int) = (a.toUInt8.toNat : Int) := by
    rw [wrap_u8]; simp
  simp [execOp, ho, hx, u32, convert, run_underlying ht, run_underlying ht', Conv.intToInt, h, u8]
theorem q_cvt32I {a : Int} (ho : o.op = .convert t t' x) (ht : P.underlying t = some (.int k)) (ht' : P.underlying t' = some (.int .u32)) (hx : ev f x = i64 a) : Qa P o f (u32 (UInt32.ofInt a)) := by
  intro w
  have h : IntKind.u32.wrap a = ((UInt32.ofInt a).toNat : Int) := by
    rw [wrap_u32]; simp [UInt32.ofInt]; omega
  simp [execOp, ho, hx, i64, convert, run_underlying ht, run_underlying ht', Conv.intToInt, h, u32]
theorem q_cvt328 {a : UInt8} (ho : o.op = .convert t t' x) (ht : P.underlying t = some (.int k)) (ht' : P.underlying t' = some (.int .u32)) (hx : ev f x = u8 a) : Qa P o f (u32 a.toUInt32) := by
  intro w
  have h : IntKind.u32.wrap (a.toNat : Int) = (a.toUInt32.toNat : Int) := by
    have := a.toNat_lt
    rw [wrap_u32]; simp; omega
  simp [execOp, ho, hx, u8, convert, run_underlying ht, run_underlying ht', Conv.intToInt, h, u32]
theorem q_cvt88 {a : UInt8} (ho : o.op = .convert t t' x) (ht : P.underlying t = some (.int k)) (ht' : P.underlying t' = some (.int .u8)) (hx : ev f x = u8 a) : Qa P o f (u8 a) := by
  intro w
  have h : IntKind.u8.wrap (a.toNat : Int) = (a.toNat : Int) := by
    have := a.toNat_lt
    rw [wrap_u8]; omega
  simp [execOp, ho, hx, u8, convert, run_underlying ht, run_underlying ht', Conv.intToInt, h]
theorem q_cvtII {a : Int} (ho : o.op = .convert t t' x) (ht : P.underlying t = some (.int k)) (ht' : P.underlying t' = some (.int .i64)) (hx : ev f x = i64 a) : Qa P o f (i64 (wI a)) := by
  intro w
  simp [execOp, ho, hx, i64, convert, run_underlying ht, run_underlying ht', Conv.intToInt, wI]
end

/-! ### A result in memory -/
section
variable {P : Program} {fn : Func} {n : Nat} {R : Ending → World → Prop} {f : Nat → Value} {w : World} {t e T : TypeId} {a g m : Nat} {α : Type} {enc : α → Value} {l : List α}
theorem rtc1 (A : TyA P T e m) (hr : fn.results = #[.cell a T]) (ha : Nat.blt a n = true) (hv : f a = bp g) (hB : Blk w g t (ac enc l)) (hl : l.length = m) (hm : f n = undef) (h : R (.returned (ag enc l)) w) : Rt P fn n R .ret f w := by
  have hrun := run_loadSeg A hB (seg_self enc l) (by simpa using hl)
  refine .inl ⟨by rw [hm]; rfl, ag enc l, ?_, h⟩
  have hg : (fr n f).tmps.getD a undef = bp g := by rw [fr_getD n f a ha, hv]
  simp [results, hr, ← Array.getD_eq_getD_getElem?, hg, asAddr, hrun, ag, ac]
end
end Gk

/- Cuts with three numbers; results that are read and not owned; rows that are put behind rows; rows that grow in their place. No condition. -/

set_option linter.unusedVariables false
set_option linter.unusedSimpArgs false
namespace Gk
open Go Go.RowKit
def subL3 {α : Type} (l : List α) (lo hi mx : Int) : Option (List α) := if 0 ≤ lo ∧ lo ≤ hi ∧ hi ≤ mx ∧ mx ≤ l.length then some ((l.take hi.toNat).drop lo.toNat) else none
theorem subL3_some {α : Type} {l m : List α} {lo hi mx : Int} : subL3 l lo hi mx = some m ↔ (0 ≤ lo ∧ lo ≤ hi ∧ hi ≤ mx ∧ mx ≤ l.length) ∧ (l.take hi.toNat).drop lo.toNat = m := by
  unfold subL3
  by_cases h : 0 ≤ lo ∧ lo ≤ hi ∧ hi ≤ mx ∧ mx ≤ l.length
  · rw [if_pos h]; simp [h]
  · rw [if_neg h]; simp [h]
section
variable {P : Program} {o : Oper} {f : Nat → Value} {w : World} {L : List Value}
theorem q_slice3 {α : Type} {R : World → List Value → Value → α → Prop} {v z : Value} {l m : List α} {x y y' : Operand} {t e : TypeId} {bytes : Nat} {lo : Option Operand} {a b c : Int}
    (ho : o.op = .slice t x lo (some y) (some y')) (T : TyS P t e z bytes) (hx : ev f x = v) (h : SlK R w L v l)
    (hlo : match lo with | none => a = 0 | some q => ev f q = i64 a) (hy : ev f y = i64 b) (hy' : ev f y' = i64 c) (hs : subL3 l a b c = some m) : Qa P o f (subW v a.toNat b.toNat c.toNat) := by
  intro w'
  obtain ⟨p, cap, rfl, hc⟩ := h.shape
  obtain ⟨⟨h0, h1, h2, h3⟩, _⟩ := subL3_some.1 hs
  have hm : ∀ k w, (Instr.sliceBound (i64 c) cap k).run P w = .ok c.toNat w := fun k w => run_bound rfl (by omega) (by omega) w
  have hb : ∀ k w, (Instr.sliceBound (i64 b) c.toNat k).run P w = .ok b.toNat w := fun k w => run_bound rfl (by omega) (by omega) w
  have ha : ∀ k w, (Instr.sliceBound (i64 a) b.toNat k).run P w = .ok a.toNat w := fun k w => run_bound rfl (by omega) (by omega) w
  cases lo with
  | none =>
    dsimp only at hlo; subst hlo
    simp [execOp, ho, hx, hy, hy', Instr.sliceAt, run_underlying T.sl, Instr.slice, Instr.sliceBounds, ty_size T, hb, hm, subW]
  | some q =>
    dsimp only at hlo
    simp [execOp, ho, hx, hlo, hy, hy', Instr.sliceAt, run_underlying T.sl, Instr.slice, Instr.sliceBounds, ty_size T, ha, hb, hm, subW]
theorem Sl.cut3 {v : Value} {us : List Value} (h : Sl w L v us) (lo hi mx : Nat) (h1 : lo ≤ hi) (h2 : hi ≤ mx) (h3 : mx ≤ us.length) : Sl w L (subW v lo hi mx) ((us.take hi).drop lo) := by
  obtain ⟨p, cap, rfl, hc, hne⟩ := h
  have hlen : ((us.take hi).drop lo).length = hi - lo := by simp; omega
  refine ⟨_, mx - lo, by unfold subW; rw [hlen], by rw [hlen]; omega, fun hn => ?_⟩
  have h0 : 0 < hi - lo := by rw [← hlen]; exact List.length_pos_iff.2 hn
  obtain ⟨b, off, rfl, ha, hr⟩ := hne (fun e => by subst e; simp at h3; omega)
  refine ⟨b, off + lo, ?_, ha, fun i hi' => ?_⟩
  · rw [if_neg (by omega)]; simp [add_off]
  · rw [hlen] at hi'
    have := hr (lo + i) (by omega)
    rw [Nat.add_assoc, this]
    simp
theorem SlK.cut3 {α : Type} {R : World → List Value → Value → α → Prop} {v : Value} {l m : List α} (h : SlK R w L v l) {lo hi mx : Int} (hs : subL3 l lo hi mx = some m) : SlK R w L (subW v lo.toNat hi.toNat mx.toNat) m := by
  obtain ⟨us, hu, hl, he⟩ := h
  obtain ⟨⟨h0, h1, h2, h3⟩, rfl⟩ := subL3_some.1 hs
  refine ⟨_, hu.cut3 lo.toNat hi.toNat mx.toNat (by omega) (by omega) (by omega), by simp [hl], fun i a b => ?_⟩
  simp only [List.getElem_drop, List.getElem_take]
  exact he _ _ _
theorem oB_add {p : Option Addr} {n n' c c' d : Nat} {q : Prop} [Decidable q] {k : Nat} (hc : 0 < c) (h : oB (.slice (if q then p else p.map (·.add d)) n' c') = some k) : oB (.slice p n c) = some k := by
  cases c with
  | zero => omega
  | succ c =>
    cases p with
    | none => split at h <;> cases h
    | some a =>
      cases c' with
      | zero => split at h <;> simp [oB] at h
      | succ c' =>
        split at h
        · exact h
        · simp only [Option.map_some, oB] at h ⊢
          rw [← h]
          unfold Addr.add
          split <;> rfl
theorem hs_cut3 {α : Type} {R : World → List Value → Value → α → Prop} {v : Value} {l m : List α} (h : SlK R w L v l) {lo hi mx : Int} (hs : subL3 l lo hi mx = some m) : ∀ k, Hs (subW v lo.toNat hi.toNat mx.toNat) k → Hs v k := by
  intro k hk
  obtain ⟨p, cap, rfl, hc⟩ := h.shape
  obtain ⟨⟨h0, h1, h2, h3⟩, _⟩ := subL3_some.1 hs
  have hk := hs_sl hk
  by_cases h4 : 0 < cap
  · exact .inl (oB_add h4 hk)
  · rw [show mx.toNat - lo.toNat = 0 by omega] at hk
    cases hp : (if mx.toNat = lo.toNat then p else p.map (·.add lo.toNat)) <;> rw [hp] at hk <;> cases hk
theorem hs_cut {α : Type} {R : World → List Value → Value → α → Prop} {v : Value} {l m : List α} (h : SlK R w L v l) {lo hi : Int} (hs : subL l lo hi = some m) : ∀ k, Hs (subV v lo.toNat hi.toNat) k → Hs v k := by
  intro k hk
  obtain ⟨p, cap, rfl, hc⟩ := h.shape
  have hk := hs_sl hk
  by_cases h4 : 0 < cap
  · exact .inl (oB_add h4 hk)
  · rw [show cap - lo.toNat = 0 by omega] at hk
    cases hp : (if cap = lo.toNat then p else p.map (·.add lo.toNat)) <;> rw [hp] at hk <;> cases hk
theorem SlK.avail {α : Type} {enc : α → Value} {v : Value} {l : List α} (h : SlK (Sc enc) w [] v l) (L : List Value) (ha : ∀ k, Hs v k → Av L k) : SlK (Sc enc) w L v l := by
  obtain ⟨us, ⟨p, cap, rfl, hc, hne⟩, hl, he⟩ := h
  refine ⟨us, ⟨p, cap, rfl, hc, fun hn => ?_⟩, hl, he⟩
  obtain ⟨b, off, rfl, _, hr⟩ := hne hn
  refine ⟨b, off, rfl, ha b (.inl ?_), hr⟩
  have h1 : 0 < us.length := List.length_pos_iff.2 hn
  cases cap with
  | zero => omega
  | succ c => rfl
end

/-- The value itself, of one cell. -/
def Id1 (_ : World) (_ : List Value) (u x : Value) : Prop := u = x ∧ x.oneCell' = true
theorem id1_stab : Stab Id1 := fun _ _ _ _ _ _ _ h => h
theorem id1_own {w : World} {L : List Value} {e : TypeId} {v : Value} {us : List Value} (h : Ow w e v us) (h1 : ∀ x ∈ us, x.oneCell' = true) : OwK Id1 w L e v us := ⟨us, h, rfl, fun i a _ => ⟨rfl, h1 _ (List.getElem_mem a)⟩⟩
theorem id1_back {w : World} {L : List Value} {e : TypeId} {v : Value} {us : List Value} (h : OwK Id1 w L e v us) : Ow w e v us := by
  obtain ⟨us', h1, h2, h3⟩ := h
  have : us' = us := List.ext_getElem h2 (fun i a b => (h3 i a b).1)
  rw [← this]; exact h1
theorem id1_sl {w : World} {L : List Value} {v : Value} {us : List Value} (h : SlK (Sc (fun x : Value => x)) w L v us) (h1 : ∀ x ∈ us, x.oneCell' = true) : SlK Id1 w L v us := by
  obtain ⟨us', h2, h3, h4⟩ := h
  exact ⟨us', h2, h3, fun i a b => ⟨h4 i a b, h1 _ (List.getElem_mem b)⟩⟩
theorem ob_own {α : Type} {R : World → List Value → Value → α → Prop} {w : World} {L : List Value} {e : TypeId} {x : Value} {l : List α} (h : OwK R w L e x l) : ∀ k, Hs x k → oB x = some k := fun k hk => by
  obtain ⟨us', h5, _⟩ := h
  rcases h5 with ⟨p, rfl, _⟩ | ⟨g, cap, rfl, _⟩ <;> exact hs_sl hk
theorem ob_ow {w : World} {e : TypeId} {x : Value} {us : List Value} (h5 : Ow w e x us) : ∀ k, Hs x k → oB x = some k := fun k hk => by
  rcases h5 with ⟨p, rfl, _⟩ | ⟨g, cap, rfl, _⟩ <;> exact hs_sl hk
theorem hs_nilG {k : Nat} : ¬ Hs (.tuple #[.slice none 0 0]) k := fun h => by
  obtain ⟨x, hx, e⟩ := hs_tup h
  have hx : x ∈ [Value.slice none 0 0] := hx
  rw [List.mem_singleton.1 hx] at e; cases e
theorem nh_nilG {k : Nat} : ¬ Hs (.tuple #[.slice none 0 0]) k := hs_nilG
theorem nq_nilG (u : Value) : Nq u (.tuple #[.slice none 0 0]) := fun _ _ h => hs_nilG h
theorem nw_nilG (w : World) : Nw w (.tuple #[.slice none 0 0]) := fun _ h => absurd h hs_nilG
theorem OwD.nil (w : World) (e1 e2 : TypeId) : OwD w e1 e2 (.tuple #[.slice none 0 0]) (.slice none 0 0) [] := ⟨[], rfl, Ow.nil w e1, rfl, fun i h => absurd h (by simp), by simp⟩
theorem litV {w : World} {L : List Value} {e : TypeId} {x : Value} {xs : List UInt8} (h : OwK (Sc u8) w L e x xs) : ∀ u ∈ [x], u.cells = #[u] := fun u hu => by
  rw [List.mem_singleton.1 hu]
  obtain ⟨us, h1, _⟩ := h
  rcases h1 with ⟨p, rfl, _⟩ | ⟨g, cap, rfl, _⟩ <;> rfl
section
variable {P : Program} {f : Nat → Value} {w : World} {o : Oper}
/-- append(u, x), u owned with all rows, x a row that is owned: it goes into the group. -/
theorem stp_appendD (L1 L2 : List Value) {Lx Lu : List Value} {s y : Operand} {t e1 e2 : TypeId} {z x q : Value} {bytes : Nat} {G u : Value} {ls r : List (List UInt8)} {xs : List UInt8} (ho : o.op = .call ⟨.builtin .append, #[s, y], #[t, t]⟩) (T : TyS P t e1 z bytes) (hs : ev f s = u) (hy : ev f y = q)
    (h : OwD w e1 e2 G u ls) (hq : SlK (Sc (fun x : Value => x)) w Lu q [x]) (hxo : OwK (Sc u8) w Lx e2 x xs) (hn : Nq x G) (hm : appL ls [xs] = some r)
    {K : Value → World → Prop} (hk : ∀ Gm G' u' w', OwD w' e1 e2 G' u' r → Gr w w' G → Nx w G Gm → (∀ k, Hs G' k → Hs Gm k ∨ Hs x k) → Lift w w' (L1 ++ G :: L2) (L1 ++ Gm :: L2) → K u' w') : Stp P o f w K := by
  have hlt := h.lt
  obtain ⟨us, rfl, h1, hl, h2, h3⟩ := h
  have hm2 : appL us [x] = some (us ++ [x]) := by
    obtain ⟨a1, _⟩ := appL_some.1 hm
    exact appL_some.2 ⟨by simp at a1 ⊢; omega, rfl⟩
  obtain ⟨hmm, rfl⟩ := appL_some.1 hm
  have hc : ∀ v ∈ us, v.oneCell' = true := fun v hv => by
    obtain ⟨i, hi, rfl⟩ := List.getElem_of_mem hv
    exact oc_own (h2 i hi (by omega))
  have hcx : x.oneCell' = true := oc_own hxo
  refine stp_append (R := Id1) id1_stab [] [] ho T hs hy (id1_own h1 hc) (id1_sl hq (fun v hv => by rw [List.mem_singleton.1 hv]; exact hcx)) (fun _ _ h => h) hm2 (fun w L u x h => by rw [h.1]; exact h.2) ?_
  intro u' w' hu' hg hnx _
  have hu' := id1_back hu'
  have hus := ob_ow h1
  have hxs := ob_own hxo
  have hgG : Gr w w' (.tuple (u :: us).toArray) := by
    obtain ⟨row, hgr, hr⟩ := hg
    exact ⟨row, hgr, fun k hk => hs_grp.2 (.inl (hus k (hr k hk)))⟩
  have hux : Apt u x := fun k hk1 hk2 => hn k (.inl hk2) (hs_grp.2 (.inl hk1))
  have hrx : ∀ v ∈ us, Apt v x := fun v hv k hk1 hk2 => hn k (.inl hk2) (hs_grp.2 (.inr ⟨v, hv, hk1⟩))
  have hNx : Nx w (.tuple (u :: us).toArray) (.tuple (u' :: us).toArray) := fun k hk => by
    rcases hs_grp.1 hk with hk | ⟨v, hv, hk⟩
    · rcases hnx k (.inl hk) with h4 | h4
      · exact .inl (hs_grp.2 (.inl (hus k h4)))
      · exact .inr h4
    · exact .inl (hs_grp.2 (.inr ⟨v, hv, hk⟩))
  obtain ⟨row, hgr, hr⟩ := hg
  have hro : ∀ k, row = some k → oB u = some k := fun k hk => hus k (hr k hk)
  refine hk (.tuple (u' :: us).toArray) (.tuple (u' :: (us ++ [x])).toArray) u' w' ⟨us ++ [x], rfl, hu', by simp [hl], fun j a b => ?_, ?_⟩ hgG hNx (fun k hk' => ?_) (Lift.own L1 L2 hgG hNx)
  · by_cases hj : j < us.length
    · rw [List.getElem_append_left hj, List.getElem_append_left (by omega)]
      exact (h2 j hj (by omega)).keptR hgr (fun k hk1 e => (List.rel_of_pairwise_cons h3 (List.getElem_mem hj)) k (hro k e) hk1)
    · have hj2 : j = us.length := by simp at a; omega
      subst hj2
      simp only [List.getElem_append_right (Nat.le_refl _), hl, Nat.sub_self, List.getElem_cons_zero]
      rw [List.getElem_append_right (by omega)]
      simp only [hl, Nat.sub_self, List.getElem_cons_zero]
      exact (hxo.scal []).keptR hgr (fun k hk1 e => hux k (hro k e) hk1)
  · rw [List.pairwise_cons] at h3 ⊢
    refine ⟨fun v hv k hk1 hk2 => ?_, ?_⟩
    · rcases hnx k (.inl hk1) with h4 | h4
      · have h5 := hus k h4
        rcases List.mem_append.1 hv with hv | hv
        · exact h3.1 v hv k h5 hk2
        · rw [List.mem_singleton.1 hv] at hk2; exact hux k h5 hk2
      · rcases List.mem_append.1 hv with hv | hv
        · have := hlt k (hs_grp.2 (.inr ⟨v, hv, hk2⟩)); omega
        · rw [List.mem_singleton.1 hv] at hk2
          have := hxo.lt k (.inl hk2); omega
    · rw [List.pairwise_append]
      refine ⟨h3.2, by simp, fun a ha b hb => ?_⟩
      rw [List.mem_singleton.1 hb]; exact hrx a ha
  · rcases hs_grp.1 hk' with hk2 | ⟨v, hv, hk2⟩
    · exact .inl (hs_grp.2 (.inl hk2))
    · rcases List.mem_append.1 hv with hv | hv
      · exact .inl (hs_grp.2 (.inr ⟨v, hv, hk2⟩))
      · rw [List.mem_singleton.1 hv] at hk2; exact .inr (.inl hk2)
/-- The row at i, grown: not yet put back. -/
def Pnd (w : World) (e2 : TypeId) (G : Value) (i : Nat) (x' : Value) (r' : List UInt8) : Prop :=
  OwK (Sc u8) w [] e2 x' r' ∧ ∀ k, Hs x' k → (∃ x, DAt G i x ∧ oB x = some k) ∨ ¬ Hs G k
/-- append(u[i], m...), the row of the group. -/
theorem stp_appendRow (L1 L2 : List Value) {s y : Operand} {t e1 e2 : TypeId} {z v q : Value} {bytes : Nat} {i : Int} {G u : Value} {ls : List (List UInt8)} {r m r' : List UInt8} (ho : o.op = .call ⟨.builtin .append, #[s, y], #[t, t]⟩) (T : TyS P t e2 z bytes) (hs : ev f s = v) (hy : ev f y = q)
    (h : OwD w e1 e2 G u ls) (hd : DAt G i.toNat v) (hi : idx ls i = some r) {Lu : List Value} (hq : SlK (Sc u8) w Lu q m) (hm : appL r m = some r')
    {K : Value → World → Prop} (hk : ∀ x' w', Pnd w' e2 G i.toNat x' r' → OwD w' e1 e2 G u ls → Gr w w' G → Nx w G x' → Lift w w' (L1 ++ G :: L2) (x' :: (L1 ++ G :: L2)) → K x' w') : Stp P o f w K := by
  obtain ⟨hlt, hor, hsub⟩ := h.row hd
  have hG := h.lt
  obtain ⟨_, _, rfl⟩ := idx_some.1 hi
  refine stp_append2 (R := Sc u8) (Sc.stab _) [] [] ho T hs hy (hor.scal _) hq (fun _ _ h => h) hm oc_u8 ?_
  intro x' w' hx' hg hnx _ hold
  have hb := ob_own hor
  have hNx : Nx w G x' := fun k hk => (hnx k hk).imp (hsub k) id
  have hgG : Gr w w' G := by
    obtain ⟨row, hgr, hr⟩ := hg
    exact ⟨row, hgr, fun k hk => hsub k (hr k hk)⟩
  refine hk x' w' ⟨hx'.scal [], fun k hk1 => ?_⟩ ?_ hgG hNx ⟨fun k o ho hc ha => ?_, fun k hk1 ha => ⟨fun e => ?_, ha⟩⟩
  · rcases hnx k hk1 with h4 | h4
    · exact .inl ⟨v, hd, hb k h4⟩
    · exact .inr fun h5 => by have := hG k h5; omega
  · have := (h.upd (r := ls[i.toNat]) hd (hold.scal []) hg).1
    rwa [List.set_getElem_self] at this
  · exact (Lift.own L1 L2 hgG (Nx.refl _ _)).blk k o ho hc ha
  · rcases hNx k e with h4 | h4
    · exact (av_append.1 ha).2.1 h4
    · omega
/-- u[i] = the row that was grown. -/
theorem stp_storePnd (L1 L2 : List Value) {a y : Operand} {t e1 e2 : TypeId} {z x : Value} {bytes : Nat} {i : Int} {G u : Value} {ls : List (List UInt8)} {r xs : List UInt8} (ho : o.op = .store e1 a y) (T : TyS P t e1 z bytes) (hx : ev f a = adr u i.toNat) (hy : ev f y = x)
    (h : OwD w e1 e2 G u ls) (hi : idx ls i = some r) (hp : Pnd w e2 G i.toNat x xs)
    {K : Value → World → Prop} (hk : ∀ G' w', OwD w' e1 e2 G' u (ls.set i.toNat xs) → Gr w w' G → (∀ k, Hs G' k → Hs G k ∨ Hs x k) → Lift w w' (L1 ++ G :: L2) (L1 ++ G :: L2) → K undef w') : Stp P o f w K := by
  obtain ⟨us, rfl, h1, hl, h2, h3⟩ := h
  obtain ⟨hxo, hxG⟩ := hp
  obtain ⟨h0, hlt, rfl⟩ := idx_some.1 hi
  have hid : idx us i = some (us[i.toNat]'(by omega)) := by unfold idx; rw [if_pos h0]; simp
  refine stp_store (R := Sc (fun x : Value => x)) (u := x) idv_stab [] [] ho T hx hy (idv_eq.2 h1) (put_of x hid) rfl (oc_own hxo) ?_
  intro w' h' hg _
  have h' := idv_eq.1 h'
  have hxs := ob_own hxo
  have hus := ob_ow h1
  have hgG : Gr w w' (.tuple (u :: us).toArray) := by
    obtain ⟨row, hgr, hr⟩ := hg
    exact ⟨row, hgr, fun k hk => hs_grp.2 (.inl (hus k (hr k hk)))⟩
  have hi' : i.toNat < us.length := by omega
  have hold : ∀ k, oB x = some k → oB us[i.toNat] = some k ∨ ¬ Hs (.tuple (u :: us).toArray) k := fun k hk => by
    rcases hxG k (.inl hk) with ⟨y, ⟨u', us', e, hy⟩, hyk⟩ | h4
    · obtain ⟨rfl, rfl⟩ := List.cons.inj (tup_inj e)
      obtain ⟨_, rfl⟩ := List.getElem?_eq_some_iff.1 hy
      exact .inl hyk
    · exact .inr h4
  have hux : Apt u x := fun k hk1 hk2 => by
    rcases hold k hk2 with h4 | h4
    · exact (List.rel_of_pairwise_cons h3 (List.getElem_mem hi')) k hk1 h4
    · exact h4 (hs_grp.2 (.inl hk1))
  have hrx : ∀ (j : Nat) (hj : j < us.length), j ≠ i.toNat → Apt us[j] x := fun j hj hne k hk1 hk2 => by
    rcases hold k hk2 with h4 | h4
    · have h5 := List.pairwise_iff_getElem.1 (List.pairwise_cons.1 h3).2
      rcases Nat.lt_or_gt_of_ne hne with h6 | h6
      · exact h5 j i.toNat hj hi' h6 k hk1 h4
      · exact h5 i.toNat j hi' hj h6 k h4 hk1
    · exact h4 (hs_grp.2 (.inr ⟨_, List.getElem_mem hj, hk1⟩))
  obtain ⟨row, hgr, hr⟩ := hg
  have hro : ∀ k, row = some k → oB u = some k := fun k hk => hus k (hr k hk)
  refine hk (.tuple (u :: us.set i.toNat x).toArray) w' ⟨us.set i.toNat x, rfl, h', by simpa using hl, fun j a b => ?_, ?_⟩ hgG (fun k hk' => ?_) (Lift.own L1 L2 hgG (Nx.refl _ _))
  · have hj : j < us.length := by simpa using a
    have hj' : j < ls.length := by simpa using b
    simp only [List.getElem_set]
    by_cases hij : i.toNat = j
    · subst hij
      rw [if_pos rfl, if_pos rfl]
      exact hxo.keptR hgr (fun k hk1 e => hux k (hro k e) hk1)
    · rw [if_neg hij, if_neg hij]
      exact (h2 j hj hj').keptR hgr (fun k hk1 e => (List.rel_of_pairwise_cons h3 (List.getElem_mem hj)) k (hro k e) hk1)
  · rw [List.pairwise_cons] at h3 ⊢
    refine ⟨fun v hv => ?_, ?_⟩
    · rcases List.mem_or_eq_of_mem_set hv with hv | rfl
      · exact h3.1 v hv
      · exact hux
    · refine List.pairwise_iff_getElem.2 fun p q hp hq' hpq => ?_
      have hp' : p < us.length := by simpa using hp
      have hq'' : q < us.length := by simpa using hq'
      simp only [List.getElem_set]
      have h4 := List.pairwise_iff_getElem.1 h3.2 p q hp' hq'' hpq
      by_cases h5 : i.toNat = p
      · rw [if_pos h5, if_neg (by omega)]
        exact (hrx q hq'' (by omega)).symm
      · rw [if_neg h5]
        by_cases h6 : i.toNat = q
        · rw [if_pos h6]; exact hrx p hp' (by omega)
        · rw [if_neg h6]; exact h4
  · rcases hs_grp.1 hk' with hk2 | ⟨v, hv, hk2⟩
    · exact .inl (hs_grp.2 (.inl hk2))
    · rcases List.mem_or_eq_of_mem_set hv with hv | rfl
      · exact .inl (hs_grp.2 (.inr ⟨v, hv, hk2⟩))
      · exact .inr (.inl hk2)
end
end Gk

/- Functions that turn what a pointer points to: what they keep. No condition. -/


set_option linter.unusedVariables false
set_option linter.unusedSimpArgs false
namespace Gk
open Go Go.RowKit

/-- From w to w' nothing turned but what S owns. -/
structure ExG (S : List Value) (w w' : World) : Prop where
  os : w'.os = w.os
  output : w'.output = w.output
  size : w.heap.size ≤ w'.heap.size
  blk : ∀ k, k < w.heap.size → Av S k → w'.heap[k]? = w.heap[k]?
/-- v owns what is new, or what S owns. -/
def NS (S : List Value) (w : World) (v : Value) : Prop := ∀ k, Hs v k → w.heap.size ≤ k ∨ ¬ Av S k
section
variable {S : List Value} {w0 w w' : World} {v v' : Value}
theorem ExG.refl (S : List Value) (w : World) : ExG S w w := ⟨rfl, rfl, Nat.le_refl _, fun _ _ _ => rfl⟩
theorem ExG.trans (h : ExG S w0 w) (x : Ext w w') : ExG S w0 w' :=
  ⟨x.os.trans h.os, x.output.trans h.output, Nat.le_trans h.size x.size, fun k hk ha => (x.blk k (Nat.lt_of_lt_of_le hk h.size)).trans (h.blk k hk ha)⟩
theorem ExG.grown (h : ExG S w0 w) (hg : Gr w w' v) (hn : NS S w0 v) : ExG S w0 w' := by
  obtain ⟨row, hg, hr⟩ := hg
  refine ⟨hg.os.trans h.os, hg.output.trans h.output, Nat.le_trans h.size hg.size, fun k hk ha => ?_⟩
  refine (hg.block k (Nat.lt_of_lt_of_le hk h.size) (fun e => ?_)).trans (h.blk k hk ha)
  rcases hn k (hr k e.symm) with h1 | h1
  · omega
  · exact h1 ha
theorem ExG.tn {B : Nat} (h : ExG S w0 w) (t : Tn B w w') (hB : w0.heap.size ≤ B) : ExG S w0 w' := by
  obtain ⟨row, hg, hr⟩ := t
  exact ⟨hg.os.trans h.os, hg.output.trans h.output, Nat.le_trans h.size hg.size, fun k hk ha =>
    (hg.block k (Nat.lt_of_lt_of_le hk h.size) (fun e => by have := (hr k e.symm).1; omega)).trans (h.blk k hk ha)⟩
theorem NS.ext (h : ExG S w0 w) (hn : Nw w v) : NS S w0 v := fun k hk => .inl (Nat.le_trans h.size (hn k hk))
theorem NS.nxt (h : ExG S w0 w) (h0 : NS S w0 v) (hn : Nx w v v') : NS S w0 v' := fun k hk => (hn k hk).elim (h0 k) (fun h1 => .inl (Nat.le_trans h.size h1))
theorem NS.nil (S : List Value) (w : World) : NS S w (.slice none 0 0) := fun k hk => absurd hk nh_nil
theorem NS.own {g : Nat} {S' : List Value} : NS (bp g :: S') w (bp g) := fun k hk => .inr (fun h => h.1 hk)
theorem Lift.exg (h : ExG S w0 w) : Lift w0 w S S := ⟨fun k o ho _ ha => (h.blk k (lt_of_get ho) ha).trans ho, fun _ _ h => h⟩
theorem Lift.exg0 (h : ExG S w0 w) : Lift w0 w S [] := ⟨fun k o ho _ ha => (h.blk k (lt_of_get ho) ha).trans ho, fun _ _ _ => trivial⟩
/-! What an owner of b keeps where b alone turns. -/
variable {b u : Value} {e T : TypeId} {g : Nat} {cs : Array Value}
theorem av_one {k : Nat} (h : ¬ Hs b k) : Av [b] k := ⟨h, trivial⟩
theorem Ow.otherX {us : List Value} (h : Ow w e u us) (x : ExG [b] w w') (hq : Nq u b) : Ow w' e u us := by
  rcases h with h | ⟨g, cap, rfl, hc, h⟩
  · exact .inl h
  · have ha : Av [b] g := av_one (hq g (.inl (oB_pos hc)))
    obtain ⟨cur, hg, h1, h2, h3, h4⟩ := row_spec h
    have hlt := lt_of_get hg
    exact .inr ⟨g, cap, rfl, hc, h.1, .inr ⟨g, cap, cur, rfl, Nat.zero_le _, by rw [x.blk g hlt ha]; exact hg, h1, h2, h3, h4⟩⟩
theorem OwK.otherX {α : Type} {R : World → List Value → Value → α → Prop} (hR : Stab R) {L L' : List Value} {l : List α} (h : OwK R w L e u l) (x : ExG [b] w w') (hq : Nq u b) (g : Lift w w' L L') : OwK R w' L' e u l := by
  obtain ⟨us, h, hl, he⟩ := h
  exact ⟨us, h.otherX x hq, hl, fun i h1 h2 => hR _ _ _ _ _ _ g (he i h1 h2)⟩
theorem Blk.otherX (h : Blk w g T cs) (x : ExG [b] w w') (hq : Nq (bp g) b) : Blk w' g T cs := by
  unfold Blk; rw [x.blk g h.lt (av_one (hq g (hs_bp' g)))]; exact h
theorem Mp.otherX {m : List (UInt8 × Bool)} (h : Mp w g m) (x : ExG [b] w w') (hq : Nq (mp g) b) : Mp w' g m := by
  have hl := h.lt
  obtain ⟨es, c, h1, h2⟩ := h
  exact ⟨es, c, (x.blk g hl (av_one (hq g (.inl rfl)))).trans h1, h2⟩
theorem OwD.otherX {e1 e2 : TypeId} {G : Value} {ls : List (List UInt8)} (h : OwD w e1 e2 G u ls) (x : ExG [b] w w') (hq : Nq G b) : OwD w' e1 e2 G u ls := by
  obtain ⟨us, rfl, h1, hl, h2, h3⟩ := h
  have hsub : ∀ y, (y = u ∨ y ∈ us) → ∀ e us', Ow w e y us' → Nq y b := fun y hy e us' ho k hk hb => by
    have hk' : oB y = some k := ob_ow ho k hk
    rcases hy with rfl | hy
    · exact hq k (hs_grp.2 (.inl hk')) hb
    · exact hq k (hs_grp.2 (.inr ⟨y, hy, hk'⟩)) hb
  refine ⟨us, rfl, h1.otherX x (hsub u (.inl rfl) _ _ h1), hl, fun i a c => ?_, h3⟩
  obtain ⟨us', h4, h5, h6⟩ := h2 i a c
  exact ⟨us', h4.otherX x (hsub _ (.inr (List.getElem_mem a)) _ _ h4), h5, h6⟩
theorem Lift.ownX (L1 L2 : List Value) (x : ExG [b] w w') : Lift w w' (L1 ++ b :: L2) (L1 ++ b :: L2) :=
  ⟨fun k o ho _ ha => by
    obtain ⟨_, h2, _⟩ := av_append.1 ha
    exact (x.blk k (lt_of_get ho) (av_one h2)).trans ho, fun _ _ h => h⟩
theorem Ext.grownX (h : Ext w0 w) (x : ExG [b] w w') (hn : Nw w0 b) : Ext w0 w' :=
  ⟨x.os.trans h.os, x.output.trans h.output, Nat.le_trans h.size x.size, fun k hk =>
    (x.blk k (Nat.lt_of_lt_of_le hk h.size) (av_one (fun e => by have := hn k e; omega))).trans (h.blk k hk)⟩
theorem ExG.grownX (h : ExG S w0 w) (x : ExG [b] w w') (hn : NS S w0 b) : ExG S w0 w' :=
  ⟨x.os.trans h.os, x.output.trans h.output, Nat.le_trans h.size x.size, fun k hk ha =>
    (x.blk k (Nat.lt_of_lt_of_le hk h.size) (av_one (fun e => by
      rcases hn k e with h1 | h1
      · omega
      · exact h1 ha))).trans (h.blk k hk ha)⟩
theorem _root_.Go.KeepsFrom.ownX {B : Nat} {W : World} (h : KeepsFrom B W w) (x : ExG [b] w w') (hc : Cl w b) : KeepsFrom B W w' := h.trans ⟨x.size, fun k o _ ho hn => by
  refine (x.blk k (lt_of_get ho) (av_one (fun e => ?_))).trans ho
  obtain ⟨o', ho', hc'⟩ := hc k e
  rw [ho] at ho'; cases ho'; rw [hn] at hc'; cases hc'⟩
end
/-- A call that turns what a pointer points to. -/
theorem callX {P : Program} {g : FuncId} {args : Array Value} {w : World} {R R' : Ending → World → Prop} (h : Calls P g args w R) (hr : ∀ e w', R e w' → R' e w') : Calls P g args w R' := h.mono hr
end Gk

/- Facts of this seat's program: its array types. No condition. -/


set_option linter.unusedVariables false
namespace Gk
open Go Go.Proofs
theorem A64 : TyA Try.prog 64 5 256 := ⟨Try.underlying64, Try.isAgg64, Try.sizeOf64, Try.sizeOf5, Try.isAgg5⟩
set_option maxRecDepth 100000 in
theorem Z64 : ∀ w, (zeroValue 64).run Try.prog w = .ok (ag u8 (List.replicate 256 (0 : UInt8))) w := fun w => by rw [Try.zeroValue64]; rfl
theorem A76 : TyA Try.prog 76 5 16 := ⟨Try.underlying76, Try.isAgg76, Try.sizeOf76, Try.sizeOf5, Try.isAgg5⟩
set_option maxRecDepth 100000 in
theorem Z76 : ∀ w, (zeroValue 76).run Try.prog w = .ok (ag u8 (List.replicate 16 (0 : UInt8))) w := fun w => by rw [Try.zeroValue76]; rfl
theorem A77 : TyA Try.prog 77 5 16 := ⟨Try.underlying77, Try.isAgg77, Try.sizeOf77, Try.sizeOf5, Try.isAgg5⟩
set_option maxRecDepth 100000 in
theorem Z77 : ∀ w, (zeroValue 77).run Try.prog w = .ok (ag u8 (List.replicate 16 (0 : UInt8))) w := fun w => by rw [Try.zeroValue77]; rfl
theorem A79 : TyA Try.prog 79 5 510 := ⟨Try.underlying79, Try.isAgg79, Try.sizeOf79, Try.sizeOf5, Try.isAgg5⟩
set_option maxRecDepth 100000 in
theorem Z79 : ∀ w, (zeroValue 79).run Try.prog w = .ok (ag u8 (List.replicate 510 (0 : UInt8))) w := fun w => by rw [Try.zeroValue79]; rfl
theorem A80 : TyA Try.prog 80 3 256 := ⟨Try.underlying80, Try.isAgg80, Try.sizeOf80, Try.sizeOf3, Try.isAgg3⟩
set_option maxRecDepth 100000 in
theorem Z80 : ∀ w, (zeroValue 80).run Try.prog w = .ok (ag i64 (List.replicate 256 (0 : Int))) w := fun w => by rw [Try.zeroValue80]; rfl
theorem A87 : TyA Try.prog 87 5 4 := ⟨Try.underlying87, Try.isAgg87, Try.sizeOf87, Try.sizeOf5, Try.isAgg5⟩
set_option maxRecDepth 100000 in
theorem Z87 : ∀ w, (zeroValue 87).run Try.prog w = .ok (ag u8 (List.replicate 4 (0 : UInt8))) w := fun w => by rw [Try.zeroValue87]; rfl
theorem A94 : TyA Try.prog 94 93 64 := ⟨Try.underlying94, Try.isAgg94, Try.sizeOf94, Try.sizeOf93, Try.isAgg93⟩
set_option maxRecDepth 100000 in
theorem Z94 : ∀ w, (zeroValue 94).run Try.prog w = .ok (ag u32 (List.replicate 64 (0 : UInt32))) w := fun w => by rw [Try.zeroValue94]; rfl
theorem A95 : TyA Try.prog 95 93 8 := ⟨Try.underlying95, Try.isAgg95, Try.sizeOf95, Try.sizeOf93, Try.isAgg93⟩
set_option maxRecDepth 100000 in
theorem Z95 : ∀ w, (zeroValue 95).run Try.prog w = .ok (ag u32 (List.replicate 8 (0 : UInt32))) w := fun w => by rw [Try.zeroValue95]; rfl
theorem A111 : TyA Try.prog 111 93 8 := ⟨Try.underlying111, Try.isAgg111, Try.sizeOf111, Try.sizeOf93, Try.isAgg93⟩
set_option maxRecDepth 100000 in
theorem Z111 : ∀ w, (zeroValue 111).run Try.prog w = .ok (ag u32 (List.replicate 8 (0 : UInt32))) w := fun w => by rw [Try.zeroValue111]; rfl
end Gk

/- Regions in which several operations that act may come up, in whatever order: a tree of orders. No condition. -/

set_option linter.unusedVariables false
set_option linter.unusedSimpArgs false
namespace Gk
open Go

/-- Orders: operation i acts, then those of sch, then t; or the rest of the alternatives. -/
inductive Tr where
  | fin
  | br (i : Nat) (sch : List (Nat × Nat)) (t rest : Tr)
/-- How long an order is. -/
def Tr.len : Tr → Nat
  | .fin => 0
  | .br _ sch t _ => t.len + sch.length + 1
def Tr.roots : Tr → List Nat
  | .fin => []
  | .br i _ _ rest => i :: rest.roots
def Tr.isFin : Tr → Bool
  | .fin => true
  | _ => false
/-- The alternatives fit, one by one: each of length m. -/
def okS (ops : Array Oper) (qs : List Nat) : Tr → Nat → Array Bool → Bool
  | .fin, _, _ => true
  | .br i sch t rest, m, listed =>
    Nat.beq (t.len + sch.length + 1) m && (schOKe ops qs (fun l => if t.isFin then (Region.ready .any ops l).isEmpty else (Region.ready .any ops l == t.roots && okS ops qs t t.len l)) sch (listed.setIfInBounds i true) && okS ops qs rest m listed)
/-- An end, or more. -/
def wt (t : Tr) (A B : Prop) : Prop := match t with | .fin => A | .br .. => B
/-- The walk of a tree. -/
def wr (P : Program) (ops : Array Oper) (qs : List Nat) (K : (Nat → Value) → World → Prop) : Tr → (Nat → Value) → World → Prop
  | .fin, _, _ => True
  | .br i sch t rest, f, w => stepT P ops qs i (ws P ops qs (fun f w => wt t (K f w) (wr P ops qs K t f w)) sch) f w ∧ wr P ops qs K rest f w

theorem tree_ok {P : Program} {n : Nat} {ops : Array Oper} {qs : List Nat} {K : (Nat → Value) → World → Prop} (hok : okRegion n ops = true) (hns : Region.noSelect ops = true) :
    ∀ (t : Tr) (m : Nat) (listed : Array Bool) (f : Nat → Value) (w : World), Closed .any ops listed → okS ops qs t (m + 1) listed = true → wr P ops qs K t f w →
      ∀ k ∈ t.roots, k ∈ Region.ready .any ops listed → wpOp P ops (fun e a w => e = .normal ∧ At n K a w) k (fun a' w' => (Ext w w' ∨ clearOf .any ops qs k = true) ∧ wpAnyE P .any ops (fun e a w => e = .normal ∧ At n K a w) Ext qs m (listed.setIfInBounds k true) a' w') (fr n f) w
  | .fin, _, _, _, _, _, _, _, k, hk, _ => by simp [Tr.roots] at hk
  | .br i sch t rest, m, listed, f, w, hcl, hs, h, k, hk, hr => by
    simp only [okS, Bool.and_eq_true] at hs
    obtain ⟨hl, hsch, hrest⟩ := hs
    have hl' : t.len + sch.length = m := by have := Nat.eq_of_beq_eq_true hl; omega
    unfold wr at h
    rcases List.mem_cons.1 hk with rfl | hk
    · have h1 := h.1
      unfold stepT at h1
      unfold Go.wpOp
      cases ho : ops[k]? with
      | none => rw [ho] at h1; exact h1.elim
      | some o =>
        rw [ho] at h1
        dsimp only at h1 ⊢
        have hmem : o ∈ ops := Array.mem_of_getElem? ho
        have hall := List.all_eq_true.1 hok o (Array.mem_toList_iff.2 hmem)
        simp only [Bool.and_eq_true] at hall
        have hwant := wantF_fr n ops f o hall.2
        have hcl' : Closed .any ops (listed.setIfInBounds k true) := by
          obtain ⟨_, o', ho', hall'⟩ := mem_ready.1 hr
          exact hcl.set ho' hall'
        have key : ∀ f w, ws P ops qs (fun f w => wt t (K f w) (wr P ops qs K t f w)) sch f w → wpAnyE P .any ops (fun e a w => e = .normal ∧ At n K a w) Ext qs m (listed.setIfInBounds k true) (fr n f) w := fun f w hw => by
          have := wpAnyE_of_wse (K0 := K) (m := t.len) hok hns (fun listed f w hcl2 hf hk2 => by
            cases t with
            | fin =>
              simp only [Tr.isFin, if_true] at hf
              rw [List.isEmpty_iff] at hf
              exact ⟨hf, rfl, At.mk hk2⟩
            | br i2 sch2 t2 rest2 =>
              simp only [Tr.isFin, Bool.false_eq_true, if_false, Bool.and_eq_true] at hf
              obtain ⟨hrd, hok2⟩ := hf
              have hrd' : Region.ready .any ops listed = (Tr.br i2 sch2 t2 rest2).roots := by simpa using hrd
              have ih := tree_ok hok hns (.br i2 sch2 t2 rest2) (t2.len + sch2.length) listed f w hcl2 hok2 hk2
              show wpAnyE P .any ops _ Ext qs (t2.len + sch2.length + 1) listed (fr n f) w
              refine ⟨fun h0 => ?_, fun j hj => ih j (by rw [← hrd']; exact hj) hj⟩
              rw [hrd'] at h0
              simp [Tr.roots] at h0) sch (listed.setIfInBounds k true) f w hcl' hsch hw
          rwa [hl'] at this
        by_cases hw : wantF ops f o = true
        · rw [if_pos hw] at h1
          rw [if_pos (hwant.trans hw)]
          exact .inl (Stp.wp hall.1 h1 fun v w' hv => ⟨hv.1, key _ _ hv.2⟩)
        · rw [if_neg hw] at h1
          have hwf : Region.wanted o (yielded ops (fr n f).tmps) = false := hwant.trans (by simpa using hw)
          rw [if_neg (by rw [hwf]; simp)]
          rw [fr_put _ _ _ _ (okOp.dst hall.1)]
          exact ⟨.inl (Ext.refl w), key _ _ h1⟩
    · exact tree_ok hok hns rest m listed f w hcl hrest h.2 k hk hr

theorem wr_mono {P : Program} {ops : Array Oper} {qs : List Nat} {K K' : (Nat → Value) → World → Prop} (hk : ∀ f w, K f w → K' f w) : ∀ (t : Tr) (f : Nat → Value) (w : World), wr P ops qs K t f w → wr P ops qs K' t f w
  | .fin, _, _, _ => trivial
  | .br i sch t rest, f, w, h => by
    unfold wr at h ⊢
    refine ⟨?_, wr_mono hk rest f w h.2⟩
    have h1 := h.1
    have key : ∀ f w, ws P ops qs (fun f w => wt t (K f w) (wr P ops qs K t f w)) sch f w → ws P ops qs (fun f w => wt t (K' f w) (wr P ops qs K' t f w)) sch f w :=
      ws_mono (fun f w h2 => by
        cases t with
        | fin => exact hk f w h2
        | br i2 sch2 t2 rest2 => exact wr_mono hk (.br i2 sch2 t2 rest2) f w h2) sch
    unfold stepT at h1 ⊢
    cases ho : ops[i]? with
    | none => rw [ho] at h1; exact h1
    | some o =>
      rw [ho] at h1
      dsimp only at h1 ⊢
      by_cases hw : wantF ops f o = true
      · rw [if_pos hw] at h1 ⊢
        exact Stp.mono h1 fun v w' h' => ⟨h'.1, key _ _ h'.2⟩
      · rw [if_neg hw] at h1 ⊢
        exact key _ _ h1
/-- A region whose orders are a tree's, behind what comes up in one way. -/
def schT (ops : Array Oper) (qs : List Nat) (t : Tr) (listed : Array Bool) : Bool := Region.ready .any ops listed == t.roots && (okS ops qs t t.len listed && !t.isFin)
section
variable {P : Program} {ro : Option Nat} {n : Nat} {Q : Exit → (Nat → Value) → World → Prop} {f : Nat → Value} {w : World}
theorem W_drawT {id : Nat} {l : List Oper} (qs : List Nat) (sch : List (Nat × Nat)) (t : Tr) (hm : P.follows .mixedOrders = true) (hok : okRegion n l.toArray = true) (hns : Region.noSelect l.toArray = true)
    (hlen : Nat.beq (t.len + sch.length) l.toArray.size = true) (hs : schOKe l.toArray qs (schT l.toArray qs t) sch (Array.replicate l.toArray.size false) = true)
    (h : ws P l.toArray qs (fun f w => wr P l.toArray qs (Q .normal) t f w) sch f w.drew) : W (ro := ro) P n (.region id l.toArray true) Q f w := by
  have h0 : ws P l.toArray qs (fun f w => wr P l.toArray qs (fun f w => ∃ f', fr n f = fr n f' ∧ Q .normal f' w) t f w) sch f w.drew := ws_mono (fun f w q => wr_mono (fun f _ q => ⟨f, rfl, q⟩) t f w q) _ _ _ h
  have h1 := wpAnyE_of_wse (K0 := fun f w => ∃ f', fr n f = fr n f' ∧ Q .normal f' w) (m := t.len) hok hns (fun listed f w hcl hf hk => by
    simp only [schT, Bool.and_eq_true] at hf
    obtain ⟨hrd, hok2, hnf⟩ := hf
    have hrd' : Region.ready .any l.toArray listed = t.roots := by simpa using hrd
    cases t with
    | fin => simp [Tr.isFin] at hnf
    | br i2 sch2 t2 rest2 =>
      have ih := tree_ok hok hns (.br i2 sch2 t2 rest2) (t2.len + sch2.length) listed f w hcl hok2 hk
      show wpAnyE P .any l.toArray _ Ext qs (t2.len + sch2.length + 1) listed (fr n f) w
      refine ⟨fun h0 => ?_, fun j hj => ih j (by rw [← hrd']; exact hj) hj⟩
      rw [hrd'] at h0
      simp [Tr.roots] at h0) sch _ f _ (Closed.none _ _ _) hs h0
  rw [Nat.eq_of_beq_eq_true hlen] at h1
  have h2 := any_in (ro := ro) (m := 0) no_out (okRegion.noDefer hok) _ _ _ _ (wpAny_of_E _ _ _ _ h1)
  refine Code.wpIn_mono ?_ (wpIn_region_any (id := id) hm h2)
  rintro e a w' ⟨rfl, f', rfl, f'', he, hk⟩
  exact ⟨f'', he, hk⟩
theorem wr_br {ops : Array Oper} {qs : List Nat} {K : (Nat → Value) → World → Prop} {i : Nat} {sch : List (Nat × Nat)} {t rest : Tr}
    (h1 : ws P ops qs (fun f w => wt t (K f w) (wr P ops qs K t f w)) ((i, 2) :: sch) f w) (h2 : wr P ops qs K rest f w) : wr P ops qs K (.br i sch t rest) f w := by
  unfold wr
  exact ⟨stepT_of_ws (fun _ _ h => h) h1, h2⟩
theorem wt_fin {A B : Prop} (h : A) : wt .fin A B := h
theorem wt_br {i : Nat} {sch : List (Nat × Nat)} {t rest : Tr} {A B : Prop} (h : B) : wt (.br i sch t rest) A B := h
end
end Gk

/- Regions in whose orders what is read from blocks that were there stands beside what writes to new ones. No condition. (Made out of Ga, Gb, Gg, Gt by a program: what a load is let stand is that the blocks below B are as they were.) -/


set_option linter.unusedVariables false
set_option linter.unusedSimpArgs false
namespace Gk
open Go Go.RowKit
/-- From w to w' nothing below B turned. -/
def EB (B : Nat) (w w' : World) : Prop := w.heap.size ≤ w'.heap.size ∧ ∀ k, k < B → w'.heap[k]? = w.heap[k]?
theorem EB.refl {B : Nat} (w : World) : EB B w w := ⟨Nat.le_refl _, fun _ _ => rfl⟩
theorem EB.trans {B : Nat} {a b c : World} (h : EB B a b) (k : EB B b c) : EB B a c := ⟨Nat.le_trans h.1 k.1, fun i hi => (k.2 i hi).trans (h.2 i hi)⟩
theorem EB.ext {B : Nat} {w w' : World} (hB : B ≤ w.heap.size) (x : Ext w w') : EB B w w' := ⟨x.size, fun k hk => x.blk k (Nat.lt_of_lt_of_le hk hB)⟩
theorem EB.own {B : Nat} {w w' : World} {v : Value} (hB : B ≤ w.heap.size) (g : Gr w w' v) (hn : ∀ k, Hs v k → B ≤ k) : EB B w w' :=
  ⟨g.size, fun k hk => g.block (Nat.lt_of_lt_of_le hk hB) (fun h => by have := hn k h; omega)⟩
/-- The operation yields v in w, and wherever the blocks below B are as they are there. -/
def Qb (P : Program) (o : Oper) (f : Nat → Value) (B : Nat) (w : World) (v : Value) : Prop := ∀ w', EB B w w' → (execOp (ev f) o).run P w' = .ok (.value v) w'
theorem Qb.stp {P : Program} {o : Oper} {f : Nat → Value} {B : Nat} {w : World} {v : Value} {R : Value → World → Prop} (h : Qb P o f B w v) (hr : R v w) : Stp P o f w R := by
  unfold Stp; rw [h w (EB.refl w)]; exact hr
section
variable {B : Nat}
/-- The walk of a region by a schedule: 0: in whatever world · 1: in this world and in whatever more · else: as it comes. -/
def wsB (P : Program) (ops : Array Oper) (qs : List Nat) (B : Nat) (K : (Nat → Value) → World → Prop) : List (Nat × Nat) → (Nat → Value) → World → Prop
  | [], f, w => K f w
  | (i, t) :: r, f, w =>
    match ops[i]? with
    | none => False
    | some o =>
      if wantF ops f o = true then
        (match t with
         | 0 => ∃ v, Qa P o f v ∧ wsB P ops qs B K r (updO f o.dst v) w
         | 1 => ∃ v, Qb P o f B w v ∧ wsB P ops qs B K r (updO f o.dst v) w
         | _ => Stp P o f w (fun v w' => (EB B w w' ∨ clearOf .any ops qs i = true) ∧ wsB P ops qs B K r (updO f o.dst v) w'))
      else wsB P ops qs B K r (updO f o.dst undef) w

theorem wpAnyE_of_wseB {P : Program} {n : Nat} {ops : Array Oper} {qs : List Nat} {K0 K : (Nat → Value) → World → Prop} (hok : okRegion n ops = true) (hns : Region.noSelect ops = true) {fin : Array Bool → Bool} {m : Nat}
    (hfin : ∀ (listed : Array Bool) (f : Nat → Value) (w : World), Closed .any ops listed → fin listed = true → K f w → wpAnyE P .any ops (fun e a w => e = .normal ∧ At n K0 a w) (EB B) qs m listed (fr n f) w) :
    ∀ (sch : List (Nat × Nat)) (listed : Array Bool) (f : Nat → Value) (w : World), Closed .any ops listed → schOKe ops qs fin sch listed = true → wsB P ops qs B K sch f w →
      wpAnyE P .any ops (fun e a w => e = .normal ∧ At n K0 a w) (EB B) qs (m + sch.length) listed (fr n f) w
  | [], listed, f, w, hcl, hs, h => hfin listed f w hcl hs h
  | (i, t) :: r, listed, f, w, hcl, hs, h => by
    simp only [schOKe, Bool.and_eq_true] at hs
    obtain ⟨hst, hsr⟩ := hs
    unfold wsB at h
    cases ho : ops[i]? with
    | none => rw [ho] at h; exact h.elim
    | some o =>
      rw [ho] at h
      dsimp only at h
      have hmem : o ∈ ops := Array.mem_of_getElem? ho
      have hall := List.all_eq_true.1 hok o (Array.mem_toList_iff.2 hmem)
      simp only [Bool.and_eq_true] at hall
      have hwant := wantF_fr n ops f o hall.2
      have hcl' : i ∈ Region.ready .any ops listed → Closed .any ops (listed.setIfInBounds i true) := fun hi => by
        obtain ⟨_, o', ho', hall'⟩ := mem_ready.1 hi
        exact hcl.set ho' hall'
      have key0 : ∀ v, (Region.wanted o (yielded ops (fr n f).tmps) = true ∧ ∀ w, (execOp (fr n f).eval o).run P w = .ok (.value v) w) ∨ (Region.wanted o (yielded ops (fr n f).tmps) = false ∧ v = undef) →
          (Region.ready .any ops listed).contains i = true → Region.free .any ops listed i = true → wsB P ops qs B K r (updO f o.dst v) w →
          wpAnyE P .any ops (fun e a w => e = .normal ∧ At n K0 a w) (EB B) qs (m + r.length + 1) listed (fr n f) w := fun v hy hr hf hk =>
        wpAnyE_free ho (Region.noSelect_spec hns) (fun _ _ _ h => by cases h.1) EB.refl _ listed _ w (Region.free_spec ho hf) (by simpa using hr) hy
          (by rw [fr_put _ _ _ _ (okOp.dst hall.1)]; exact wpAnyE_of_wseB hok hns hfin r _ _ _ (hcl' (by simpa using hr)) hsr hk)
      by_cases hw : wantF ops f o = true
      · rw [if_pos hw] at h
        match t, hst, h with
        | 0, hst, ⟨v, hv, hk⟩ =>
          simp only [Bool.and_eq_true] at hst
          exact key0 v (.inl ⟨hwant.trans hw, fun w => by rw [execOp_fr n f o hall.1]; exact hv w⟩) hst.1 hst.2 hk
        | 1, hst, ⟨v, hv, hk⟩ =>
          simp only [Bool.and_eq_true] at hst
          refine wpAnyE_first (by simpa using hst.2) ho (Region.noSelect_spec hns) (fun _ _ _ h => by cases h.1) EB.refl (fun _ _ _ => EB.trans) _ listed _ w hcl (Region.free_spec ho hst.1.2) (by simpa using hst.1.1)
            (.inl ⟨hwant.trans hw, fun w' hw' => by rw [execOp_fr n f o hall.1]; exact hv w' hw'⟩) ?_
          rw [fr_put _ _ _ _ (okOp.dst hall.1)]; exact wpAnyE_of_wseB hok hns hfin r _ _ _ (hcl' (by simpa using hst.1.1)) hsr hk
        | t + 2, hst, h =>
          have hr : Region.ready .any ops listed = [i] := by simpa using hst
          show wpAnyE P .any ops _ (EB B) qs (m + r.length + 1) listed _ w
          refine ⟨fun h0 => (by rw [hr] at h0; cases h0), fun j hj => ?_⟩
          obtain rfl : j = i := by rw [hr] at hj; simpa using hj
          unfold wpOp
          rw [ho]
          dsimp only
          rw [if_pos (hwant.trans hw)]
          exact .inl (Stp.wp hall.1 h fun v w' hv => ⟨hv.1, wpAnyE_of_wseB hok hns hfin r _ _ _ (hcl' hj) hsr hv.2⟩)
      · rw [if_neg hw] at h
        have hwf : Region.wanted o (yielded ops (fr n f).tmps) = false := hwant.trans (by simpa using hw)
        match t, hst with
        | 0, hst =>
          simp only [Bool.and_eq_true] at hst
          exact key0 undef (.inr ⟨hwf, rfl⟩) hst.1 hst.2 h
        | 1, hst =>
          simp only [Bool.and_eq_true] at hst
          exact key0 undef (.inr ⟨hwf, rfl⟩) hst.1.1 hst.1.2 h
        | t + 2, hst =>
          have hr : Region.ready .any ops listed = [i] := by simpa using hst
          show wpAnyE P .any ops _ (EB B) qs (m + r.length + 1) listed _ w
          refine ⟨fun h0 => (by rw [hr] at h0; cases h0), fun j hj => ?_⟩
          obtain rfl : j = i := by rw [hr] at hj; simpa using hj
          unfold wpOp
          rw [ho]
          dsimp only
          rw [if_neg (by rw [hwf]; simp)]
          rw [fr_put _ _ _ _ (okOp.dst hall.1)]
          exact ⟨.inl (EB.refl w), wpAnyE_of_wseB hok hns hfin r _ _ _ (hcl' hj) hsr h⟩

theorem wpAnyE_of_wsB {P : Program} {n : Nat} {ops : Array Oper} {qs : List Nat} {K : (Nat → Value) → World → Prop} (hok : okRegion n ops = true) (hns : Region.noSelect ops = true)
    (sch : List (Nat × Nat)) (listed : Array Bool) (f : Nat → Value) (w : World) (hcl : Closed .any ops listed) (hs : schOK ops qs sch listed = true) (h : wsB P ops qs B K sch f w) :
      wpAnyE P .any ops (fun e a w => e = .normal ∧ At n K a w) (EB B) qs sch.length listed (fr n f) w := by
  have := wpAnyE_of_wseB (m := 0) (K0 := K) hok hns (fun listed f w _ hf hk => by
    rw [List.isEmpty_iff] at hf
    exact ⟨hf, rfl, At.mk hk⟩) sch listed f w hcl hs h
  rwa [Nat.zero_add] at this
/-- An operation that acts, the one way or the other of two. -/
def stepB (P : Program) (ops : Array Oper) (qs : List Nat) (B : Nat) (i : Nat) (K : (Nat → Value) → World → Prop) (f : Nat → Value) (w : World) : Prop :=
  match ops[i]? with
  | none => False
  | some o => if wantF ops f o = true then Stp P o f w (fun v w' => (EB B w w' ∨ clearOf .any ops qs i = true) ∧ K (updO f o.dst v) w') else K (updO f o.dst undef) w
section
variable {P : Program} {ro : Option Nat} {n : Nat} {Q : Exit → (Nat → Value) → World → Prop} {f : Nat → Value} {w : World}
theorem wsB_mono {ops : Array Oper} {qs : List Nat} {K K' : (Nat → Value) → World → Prop} (hk : ∀ f w, K f w → K' f w) : ∀ (l : List (Nat × Nat)) (f : Nat → Value) (w : World), wsB P ops qs B K l f w → wsB P ops qs B K' l f w
  | [], _, _, h => hk _ _ h
  | (i, t) :: r, f, w, h => by
    unfold wsB at h ⊢
    cases ho : ops[i]? with
    | none => rw [ho] at h; exact h.elim
    | some o =>
      rw [ho] at h
      dsimp only at h ⊢
      by_cases hw : wantF ops f o = true
      · rw [if_pos hw] at h ⊢
        match t, h with
        | 0, ⟨v, hv, h'⟩ => exact ⟨v, hv, wsB_mono hk r _ _ h'⟩
        | 1, ⟨v, hv, h'⟩ => exact ⟨v, hv, wsB_mono hk r _ _ h'⟩
        | t + 2, h => exact Stp.mono h fun v w' h' => ⟨h'.1, wsB_mono hk r _ _ h'.2⟩
      · rw [if_neg hw] at h ⊢
        exact wsB_mono hk r _ _ h

theorem stepB_of_ws {ops : Array Oper} {qs : List Nat} {K K' : (Nat → Value) → World → Prop} (hk : ∀ f w, K f w → K' f w) {i : Nat} {r : List (Nat × Nat)} (h : wsB P ops qs B K ((i, 2) :: r) f w) : stepB P ops qs B i (wsB P ops qs B K' r) f w := by
  unfold wsB at h
  unfold stepB
  cases ho : ops[i]? with
  | none => rw [ho] at h; exact h
  | some o =>
    rw [ho] at h
    dsimp only at h ⊢
    by_cases hw : wantF ops f o = true
    · rw [if_pos hw] at h ⊢
      exact Stp.mono h fun v w' h' => ⟨h'.1, wsB_mono hk r _ _ h'.2⟩
    · rw [if_neg hw] at h ⊢
      exact wsB_mono hk r _ _ h
end
/-- The walk of a tree. -/
def wrB (P : Program) (ops : Array Oper) (qs : List Nat) (B : Nat) (K : (Nat → Value) → World → Prop) : Tr → (Nat → Value) → World → Prop
  | .fin, _, _ => True
  | .br i sch t rest, f, w => stepB P ops qs B i (wsB P ops qs B (fun f w => wt t (K f w) (wrB P ops qs B K t f w)) sch) f w ∧ wrB P ops qs B K rest f w

theorem tree_okB {P : Program} {n : Nat} {ops : Array Oper} {qs : List Nat} {K : (Nat → Value) → World → Prop} (hok : okRegion n ops = true) (hns : Region.noSelect ops = true) :
    ∀ (t : Tr) (m : Nat) (listed : Array Bool) (f : Nat → Value) (w : World), Closed .any ops listed → okS ops qs t (m + 1) listed = true → wrB P ops qs B K t f w →
      ∀ k ∈ t.roots, k ∈ Region.ready .any ops listed → wpOp P ops (fun e a w => e = .normal ∧ At n K a w) k (fun a' w' => (EB B w w' ∨ clearOf .any ops qs k = true) ∧ wpAnyE P .any ops (fun e a w => e = .normal ∧ At n K a w) (EB B) qs m (listed.setIfInBounds k true) a' w') (fr n f) w
  | .fin, _, _, _, _, _, _, _, k, hk, _ => by simp [Tr.roots] at hk
  | .br i sch t rest, m, listed, f, w, hcl, hs, h, k, hk, hr => by
    simp only [okS, Bool.and_eq_true] at hs
    obtain ⟨hl, hsch, hrest⟩ := hs
    have hl' : t.len + sch.length = m := by have := Nat.eq_of_beq_eq_true hl; omega
    unfold wrB at h
    rcases List.mem_cons.1 hk with rfl | hk
    · have h1 := h.1
      unfold stepB at h1
      unfold Go.wpOp
      cases ho : ops[k]? with
      | none => rw [ho] at h1; exact h1.elim
      | some o =>
        rw [ho] at h1
        dsimp only at h1 ⊢
        have hmem : o ∈ ops := Array.mem_of_getElem? ho
        have hall := List.all_eq_true.1 hok o (Array.mem_toList_iff.2 hmem)
        simp only [Bool.and_eq_true] at hall
        have hwant := wantF_fr n ops f o hall.2
        have hcl' : Closed .any ops (listed.setIfInBounds k true) := by
          obtain ⟨_, o', ho', hall'⟩ := mem_ready.1 hr
          exact hcl.set ho' hall'
        have key : ∀ f w, wsB P ops qs B (fun f w => wt t (K f w) (wrB P ops qs B K t f w)) sch f w → wpAnyE P .any ops (fun e a w => e = .normal ∧ At n K a w) (EB B) qs m (listed.setIfInBounds k true) (fr n f) w := fun f w hw => by
          have := wpAnyE_of_wseB (K0 := K) (m := t.len) hok hns (fun listed f w hcl2 hf hk2 => by
            cases t with
            | fin =>
              simp only [Tr.isFin, if_true] at hf
              rw [List.isEmpty_iff] at hf
              exact ⟨hf, rfl, At.mk hk2⟩
            | br i2 sch2 t2 rest2 =>
              simp only [Tr.isFin, Bool.false_eq_true, if_false, Bool.and_eq_true] at hf
              obtain ⟨hrd, hok2⟩ := hf
              have hrd' : Region.ready .any ops listed = (Tr.br i2 sch2 t2 rest2).roots := by simpa using hrd
              have ih := tree_okB hok hns (.br i2 sch2 t2 rest2) (t2.len + sch2.length) listed f w hcl2 hok2 hk2
              show wpAnyE P .any ops _ (EB B) qs (t2.len + sch2.length + 1) listed (fr n f) w
              refine ⟨fun h0 => ?_, fun j hj => ih j (by rw [← hrd']; exact hj) hj⟩
              rw [hrd'] at h0
              simp [Tr.roots] at h0) sch (listed.setIfInBounds k true) f w hcl' hsch hw
          rwa [hl'] at this
        by_cases hw : wantF ops f o = true
        · rw [if_pos hw] at h1
          rw [if_pos (hwant.trans hw)]
          exact .inl (Stp.wp hall.1 h1 fun v w' hv => ⟨hv.1, key _ _ hv.2⟩)
        · rw [if_neg hw] at h1
          have hwf : Region.wanted o (yielded ops (fr n f).tmps) = false := hwant.trans (by simpa using hw)
          rw [if_neg (by rw [hwf]; simp)]
          rw [fr_put _ _ _ _ (okOp.dst hall.1)]
          exact ⟨.inl (EB.refl w), key _ _ h1⟩
    · exact tree_okB hok hns rest m listed f w hcl hrest h.2 k hk hr

theorem wrB_mono {P : Program} {ops : Array Oper} {qs : List Nat} {K K' : (Nat → Value) → World → Prop} (hk : ∀ f w, K f w → K' f w) : ∀ (t : Tr) (f : Nat → Value) (w : World), wrB P ops qs B K t f w → wrB P ops qs B K' t f w
  | .fin, _, _, _ => trivial
  | .br i sch t rest, f, w, h => by
    unfold wrB at h ⊢
    refine ⟨?_, wrB_mono hk rest f w h.2⟩
    have h1 := h.1
    have key : ∀ f w, wsB P ops qs B (fun f w => wt t (K f w) (wrB P ops qs B K t f w)) sch f w → wsB P ops qs B (fun f w => wt t (K' f w) (wrB P ops qs B K' t f w)) sch f w :=
      wsB_mono (fun f w h2 => by
        cases t with
        | fin => exact hk f w h2
        | br i2 sch2 t2 rest2 => exact wrB_mono hk (.br i2 sch2 t2 rest2) f w h2) sch
    unfold stepB at h1 ⊢
    cases ho : ops[i]? with
    | none => rw [ho] at h1; exact h1
    | some o =>
      rw [ho] at h1
      dsimp only at h1 ⊢
      by_cases hw : wantF ops f o = true
      · rw [if_pos hw] at h1 ⊢
        exact Stp.mono h1 fun v w' h' => ⟨h'.1, key _ _ h'.2⟩
      · rw [if_neg hw] at h1 ⊢
        exact key _ _ h1
section
variable {P : Program} {ro : Option Nat} {n : Nat} {Q : Exit → (Nat → Value) → World → Prop} {f : Nat → Value} {w : World}
theorem W_drawTB {id : Nat} {l : List Oper} (qs : List Nat) (sch : List (Nat × Nat)) (t : Tr) (hm : P.follows .mixedOrders = true) (hok : okRegion n l.toArray = true) (hns : Region.noSelect l.toArray = true)
    (hlen : Nat.beq (t.len + sch.length) l.toArray.size = true) (hs : schOKe l.toArray qs (schT l.toArray qs t) sch (Array.replicate l.toArray.size false) = true)
    (h : wsB P l.toArray qs B (fun f w => wrB P l.toArray qs B (Q .normal) t f w) sch f w.drew) : W (ro := ro) P n (.region id l.toArray true) Q f w := by
  have h0 : wsB P l.toArray qs B (fun f w => wrB P l.toArray qs B (fun f w => ∃ f', fr n f = fr n f' ∧ Q .normal f' w) t f w) sch f w.drew := wsB_mono (fun f w q => wrB_mono (fun f _ q => ⟨f, rfl, q⟩) t f w q) _ _ _ h
  have h1 := wpAnyE_of_wseB (K0 := fun f w => ∃ f', fr n f = fr n f' ∧ Q .normal f' w) (m := t.len) hok hns (fun listed f w hcl hf hk => by
    simp only [schT, Bool.and_eq_true] at hf
    obtain ⟨hrd, hok2, hnf⟩ := hf
    have hrd' : Region.ready .any l.toArray listed = t.roots := by simpa using hrd
    cases t with
    | fin => simp [Tr.isFin] at hnf
    | br i2 sch2 t2 rest2 =>
      have ih := tree_okB hok hns (.br i2 sch2 t2 rest2) (t2.len + sch2.length) listed f w hcl hok2 hk
      show wpAnyE P .any l.toArray _ (EB B) qs (t2.len + sch2.length + 1) listed (fr n f) w
      refine ⟨fun h0 => ?_, fun j hj => ih j (by rw [← hrd']; exact hj) hj⟩
      rw [hrd'] at h0
      simp [Tr.roots] at h0) sch _ f _ (Closed.none _ _ _) hs h0
  rw [Nat.eq_of_beq_eq_true hlen] at h1
  have h2 := any_in (ro := ro) (m := 0) no_out (okRegion.noDefer hok) _ _ _ _ (wpAny_of_E _ _ _ _ h1)
  refine Code.wpIn_mono ?_ (wpIn_region_any (id := id) hm h2)
  rintro e a w' ⟨rfl, f', rfl, f'', he, hk⟩
  exact ⟨f'', he, hk⟩
theorem wrB_br {ops : Array Oper} {qs : List Nat} {K : (Nat → Value) → World → Prop} {i : Nat} {sch : List (Nat × Nat)} {t rest : Tr}
    (h1 : wsB P ops qs B (fun f w => wt t (K f w) (wrB P ops qs B K t f w)) ((i, 2) :: sch) f w) (h2 : wrB P ops qs B K rest f w) : wrB P ops qs B K (.br i sch t rest) f w := by
  unfold wrB
  exact ⟨stepB_of_ws (fun _ _ h => h) h1, h2⟩
end
section
variable {P : Program} {ops : Array Oper} {qs : List Nat} {K : (Nat → Value) → World → Prop} {r : List (Nat × Nat)} {i : Nat} {o : Oper} {f : Nat → Value} {w : World}
theorem wsB_nil (h : K f w) : wsB P ops qs B K [] f w := h
theorem wsB_a {v : Value} (ho : ops[i]? = some o) (hw : wantF ops f o = true) (hq : Qa P o f v) (h : wsB P ops qs B K r (updO f o.dst v) w) : wsB P ops qs B K ((i, 0) :: r) f w := by
  unfold wsB; rw [ho]; dsimp only; rw [if_pos hw]; exact ⟨v, hq, h⟩
theorem wsB_q {v : Value} (ho : ops[i]? = some o) (hw : wantF ops f o = true) (hq : Qb P o f B w v) (h : wsB P ops qs B K r (updO f o.dst v) w) : wsB P ops qs B K ((i, 1) :: r) f w := by
  unfold wsB; rw [ho]; dsimp only; rw [if_pos hw]; exact ⟨v, hq, h⟩
theorem wsB_stp (ho : ops[i]? = some o) (hw : wantF ops f o = true) (h : Stp P o f w fun v w' => (EB B w w' ∨ clearOf .any ops qs i = true) ∧ wsB P ops qs B K r (updO f o.dst v) w') : wsB P ops qs B K ((i, 2) :: r) f w := by
  unfold wsB; rw [ho]; dsimp only; rw [if_pos hw]; exact h
theorem wsB_skip {t : Nat} (ho : ops[i]? = some o) (hw : wantF ops f o = false) (h : wsB P ops qs B K r (updO f o.dst undef) w) : wsB P ops qs B K ((i, t) :: r) f w := by
  unfold wsB; rw [ho]; dsimp only; rw [if_neg (by rw [hw]; simp)]; exact h
end
section
variable {P : Program} {ops : Array Oper} {qs : List Nat} {K : (Nat → Value) → World → Prop} {r : List (Nat × Nat)} {i : Nat} {o : Oper} {f : Nat → Value} {w : World} {d : Nat} {v : Value}
theorem wba (ho : ops[i]? = some o) (hw : wantF ops f o = true) (hd : o.dst = some d) (hq : Qa P o f v) (h : wsB P ops qs B K r (upd f d v) w) : wsB P ops qs B K ((i, 0) :: r) f w :=
  wsB_a ho hw hq (by rw [hd]; exact h)
theorem wbq (ho : ops[i]? = some o) (hw : wantF ops f o = true) (hd : o.dst = some d) (hq : Qb P o f B w v) (h : wsB P ops qs B K r (upd f d v) w) : wsB P ops qs B K ((i, 1) :: r) f w :=
  wsB_q ho hw hq (by rw [hd]; exact h)
/-- What is carried out leaves this world and more. -/
theorem wbs (ho : ops[i]? = some o) (hw : wantF ops f o = true) (hd : o.dst = some d) (h : Stp P o f w (fun v w' => EB B w w' ∧ wsB P ops qs B K r (upd f d v) w')) : wsB P ops qs B K ((i, 2) :: r) f w :=
  wsB_stp ho hw (h.mono fun v w' h => ⟨.inl h.1, by rw [hd]; exact h.2⟩)
/-- No load stands beside it. -/
theorem wbc (ho : ops[i]? = some o) (hc : clearOf .any ops qs i = true) (hw : wantF ops f o = true) (hd : o.dst = some d) (h : Stp P o f w (fun v w' => wsB P ops qs B K r (upd f d v) w')) : wsB P ops qs B K ((i, 2) :: r) f w :=
  wsB_stp ho hw (h.mono fun v w' h => ⟨.inr hc, by rw [hd]; exact h⟩)
theorem wbn (ho : ops[i]? = some o) (hc : clearOf .any ops qs i = true) (hw : wantF ops f o = true) (hd : o.dst = none) (h : Stp P o f w (fun _ w' => wsB P ops qs B K r f w')) : wsB P ops qs B K ((i, 2) :: r) f w :=
  wsB_stp ho hw (h.mono fun v w' h => ⟨.inr hc, by rw [hd]; exact h⟩)
theorem wbk {t : Nat} (ho : ops[i]? = some o) (hw : wantF ops f o = false) (hd : o.dst = some d) (h : wsB P ops qs B K r (upd f d undef) w) : wsB P ops qs B K ((i, t) :: r) f w :=
  wsB_skip ho hw (by rw [hd]; exact h)
theorem wbb {b : Bool} (ho : ops[i]? = some o) (hw : wantF ops f o = true) (hd : o.dst = some d) (hq : Qa P o f (.bool b)) (ht : b = true → wsB P ops qs B K r (upd f d (.bool true)) w) (hf : b = false → wsB P ops qs B K r (upd f d (.bool false)) w) : wsB P ops qs B K ((i, 0) :: r) f w := by
  refine wba ho hw hd hq ?_
  cases b
  · exact hf rfl
  · exact ht rfl
end
theorem Qb.of {P : Program} {o : Oper} {f : Nat → Value} {w : World} {v : Value} (h : ∀ w', EB B w w' → Qt P o f w' v) : Qb P o f B w v := fun w' h' => h w' h' w' (Ext.refl w')
theorem Blk.ebs {w w' : World} {g : Nat} {T : TypeId} {cs : Array Value} (h : Blk w g T cs) (x : EB w.heap.size w w') : Blk w' g T cs := by
  unfold Blk; rw [x.2 g h.lt]; exact h
theorem Lift.ebs {w w' : World} {L : List Value} (x : EB w.heap.size w w') : Lift w w' L [] := ⟨fun k o ho _ _ => (x.2 k (lt_of_get ho)).trans ho, fun _ _ _ => trivial⟩
theorem wbm {P : Program} {ops : Array Oper} {qs : List Nat} {K : (Nat → Value) → World → Prop} {r : List (Nat × Nat)} {i : Nat} {o : Oper} {f : Nat → Value} {w : World} (ho : ops[i]? = some o) (hw : wantF ops f o = true) (hd : o.dst = none) (h : Stp P o f w (fun _ w' => EB B w w' ∧ wsB P ops qs B K r f w')) : wsB P ops qs B K ((i, 2) :: r) f w := by
  refine wsB_stp ho hw (h.mono fun v w' h' => ⟨.inl h'.1, ?_⟩)
  rw [hd]; exact h'.2
end
end Gk

/- slices.Clone walks, over bytes and over numbers. No condition but the length. -/


set_option linter.unusedVariables false
set_option linter.unusedSimpArgs false
namespace Gk
open Go Go.Proofs

def slices_Clone_sbytebyte (a0 : List UInt8) : Option (List UInt8) := appL [] a0
set_option maxRecDepth 100000 in
set_option maxHeartbeats 8000000 in
theorem slices_Clone_sbytebyte_calls (a0 : List UInt8) (p0 : Value) (r : List UInt8) (w0 : World) (hp0 : By w0 [] p0 a0) (H : slices_Clone_sbytebyte a0 = some r) :
    Calls Try.prog 46 [p0].toArray w0 (fun e w' => ∃ u0 : Value, e = .returned u0 ∧ Ext w0 w' ∧ Nw w0 u0 ∧ OwK (Sc u8) w' [] 5 u0 r) := by
  unfold slices_Clone_sbytebyte at H
  have hE : Ext w0 w0 := Ext.refl w0
  obtain ⟨pp, cap, rfl, hcap⟩ := SlK.shape hp0
  refine calls_W (n := 8) Try.func46 rfl rfl rfl ?_
  refine W_seq ?_
  refine W_reg (by kernel_rfl) ?_
  refine wla rfl rfl (q_assign (v := .slice none 0 0) rfl rfl) ?_
  refine wl_nil ?_
  refine W_th ?_
  refine W_seq ?_
  refine W_seq ?_
  refine W_reg (by kernel_rfl) ?_
  refine wla rfl rfl (q_move (v := .slice pp a0.length cap) rfl rfl) ?_
  refine wla rfl rfl (q_eqSl rfl T22.sl rfl rfl) ?_
  refine wl_nil ?_
  refine W_th ?_
  refine W_cond _ rfl rfl (fun hb => ?_) (fun hb => ?_)
  · have h0 : a0 = [] := by
      obtain ⟨us, ⟨p, cap', hv, _, hne⟩, hl, _⟩ := hp0
      cases us with
      | nil => exact List.eq_nil_of_length_eq_zero hl.symm
      | cons u us =>
        obtain ⟨b, off, rfl, _⟩ := hne (by simp)
        simp only [Value.slice.injEq] at hv
        rw [hv.1] at hb; cases hb
    subst h0
    obtain rfl : r = [] := by simpa [appL] using H.symm
    refine W_seq ?_
    refine W_reg (by kernel_rfl) ?_
    refine wla rfl rfl (q_assign (v := .slice none 0 0) rfl rfl) ?_
    refine wl_nil ?_
    refine W_th ?_
    refine W_ret ?_
    refine rt1 (.slice none 0 0) rfl rfl rfl rfl ?_
    exact ⟨_, rfl, hE, Nw.nil _, OwK.nil _ _ _ _⟩
  · refine W_skip ?_
    refine W_th ?_
    refine W_seq ?_
    refine W_reg (by kernel_rfl) ?_
    refine wls rfl rfl (stp_lit (L := []) (R := (Sc u8)) [] ([] : List UInt8) rfl T22 rfl (by exact trivial) rfl (litC u8 oneC_u8 (us := []) (l := ([] : List UInt8)) rfl) rfl (litS u8 (us := []) (l := ([] : List UInt8)) rfl) ?_)
    intro v1 w1 o1 n1 g1 l1
    have e1 := hE.trans (grown_ext g1)
    refine wla rfl rfl (q_move (v := .slice pp a0.length cap) rfl rfl) ?_
    refine wls rfl rfl (stp_append (R := (Sc u8)) (v := v1) (u := .slice pp a0.length cap) (Sc.stab _) [] [] rfl T22 rfl rfl o1 (hp0.lift (Lift.ext e1 _)) (fun _ _ h => h) H oc_u8 ?_)
    intro v2 w2 o2 g2 nx2 l2
    refine wla rfl rfl (q_assign (v := v2) rfl rfl) ?_
    refine wl_nil ?_
    refine W_th ?_
    refine W_ret ?_
    refine rt1 v2 rfl rfl rfl rfl ?_
    exact ⟨v2, rfl, e1.grown g2 n1, Nw.nxt e1 n1 nx2, o2.weak (Sc.stab _) (fun _ _ => trivial)⟩

end Gk

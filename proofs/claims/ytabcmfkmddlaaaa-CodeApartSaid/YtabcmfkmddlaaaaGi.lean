/- Blocks of cells that something points to: a box, its cells read and written. No condition. -/
import Derived.Test.YtabcmfkmddlaaaaGh
set_option linter.unusedVariables false
set_option linter.unusedSimpArgs false
namespace Gk
open Go

theorem Blk.cell {w : World} {g : Nat} {T : TypeId} {cs : Array Value} (h : Blk w g T cs) (m : Nat) : w.cell? ⟨g, m, none⟩ = cs[m]? := cell_of_row w g m _ _ _ h
theorem Blk.set {w : World} {g : Nat} {T : TypeId} {cs : Array Value} (h : Blk w g T cs) (m : Nat) (u : Value) :
    Blk (w.setCell ⟨g, m, none⟩ u) g T (cs.setIfInBounds m u) ∧ w.grownBy (w.setCell ⟨g, m, none⟩ u) (some g) :=
  ⟨heap_setCell_same w g m cs T u h, ⟨rfl, rfl, rfl, by simp, fun k _ hk => heap_setCell_other w ⟨g, m, none⟩ k u (fun e => hk (by simp [e]))⟩⟩
theorem Ext.grownB {w0 w w' : World} {g : Nat} (h : Ext w0 w) (hg : w.grownBy w' (some g)) (hn : w0.heap.size ≤ g) : Ext w0 w' :=
  ⟨hg.os.trans h.os, hg.output.trans h.output, Nat.le_trans h.size hg.size, fun k hk =>
    (hg.block k (Nat.lt_of_lt_of_le hk h.size) (fun e => by have := Option.some.inj e; omega)).trans (h.blk k hk)⟩

section
variable {P : Program} {o : Oper} {f : Nat → Value} {w : World} {x y : Operand} {t e T : TypeId} {g m : Nat} {cs : Array Value} {u v : Value}
/-- A pointer to something new. -/
theorem stp_box (ho : o.op = .box t x) (hx : ev f x = v) {K : Value → World → Prop}
    (hk : ∀ w', Blk w' w.heap.size t v.cells → w.grownBy w' none → K (.pointer (some ⟨w.heap.size, 0, none⟩)) w') : Stp P o f w K := by
  refine stp_of_run (w' := w.alloc (.cells v.cells t)) (v := .pointer (some ⟨w.heap.size, 0, none⟩)) ?_ (hk _ (alloc_new w _) (World.grownBy_alloc w _ none))
  simp [execOp, ho, hx, Instr.box, newVar, newRow, newObj, Sem.run]
theorem stp_storeB (ho : o.op = .store e x y) (hs : ∀ w, (Go.sizeOf e).run P w = .ok 1 w) (hx : ev f x = .pointer (some ⟨g, m, none⟩)) (hy : ev f y = u) (h : Blk w g T cs) (hm : m < cs.size) (hc : u.oneCell' = true)
    {K : Value → World → Prop} (hk : ∀ w', Blk w' g T (cs.setIfInBounds m u) → w.grownBy w' (some g) → K undef w') : Stp P o f w K := by
  obtain ⟨h1, h2⟩ := h.set m u
  refine stp_of_skip (w' := w.setCell ⟨g, m, none⟩ u) ?_ (hk _ h1 h2)
  have hcs : u.cells = #[u] := by cases u <;> simp_all [Value.cells, Value.oneCell']
  have hcl : w.cell? ⟨g, m, none⟩ = some cs[m] := by rw [h.cell m]; simp [hm]
  have hfr : w.frozen? ⟨g, m, none⟩ = false := frozen_of_row w g m cs T h
  simp only [execOp, ho, hx, hy, Instr.storeAt, Instr.sureAddr, storeVar, hcs, add_off, Sem.run_bind, Sem.run_pure, Result.andThen_ok, hs]
  simp [storeCells, add_off, store, Addr.add]
  cases u <;> simp_all [Sem.run, Value.oneCell']
theorem q_loadB (ho : o.op = .load e x) (ha : ∀ w, (isAgg e).run P w = .ok false w) (hx : ev f x = .pointer (some ⟨g, m, none⟩)) (h : Blk w g T cs) (hc : cs[m]? = some u) : Qt P o f w u := by
  intro w' hE
  have hcell : w'.cell? ⟨g, m, none⟩ = some u := by rw [(h.ext hE).cell m, hc]
  simp [execOp, ho, hx, Instr.loadAt, Instr.sureAddr, loadVar, ha, add_off, load, Sem.run, hcell]
theorem q_nilP (ho : o.op = .nilCheck x) (hx : ev f x = .pointer (some ⟨g, m, none⟩)) : Qa P o f (.pointer (some ⟨g, m, none⟩)) := by
  intro w'; simp [execOp, ho, hx]
theorem q_fldP {i k : Nat} (ho : o.op = .fieldAddr T x i) (hp : ∀ a w, (Instr.fieldAt T (.pointer (some a)) i).run P w = .ok (.pointer (some (a.add k))) w) (hx : ev f x = .pointer (some ⟨g, m, none⟩)) : Qa P o f (.pointer (some ⟨g, m + k, none⟩)) := by
  intro w'; simp [execOp, ho, hx, hp, Addr.add]
theorem q_ixP {kk : IntKind} {i : Nat} {n : Nat} (ho : o.op = .indexAddr t x y) (ht : P.underlying t = some (.array n e)) (hs : ∀ w, (Go.sizeOf e).run P w = .ok 1 w) (hx : ev f x = .pointer (some ⟨g, m, none⟩)) (hy : ev f y = .int kk (i : Int)) (hi : i < n) :
    Qa P o f (.pointer (some ⟨g, m + i, none⟩)) := by
  intro w'
  have h3 : (i : Int) < (n : Int) := by omega
  simp [execOp, ho, hx, hy, Instr.indexAt, asIntOf, run_underlying ht, Instr.sureAddr, h3, hs, add_off, Addr.add, hi]
end
end Gk

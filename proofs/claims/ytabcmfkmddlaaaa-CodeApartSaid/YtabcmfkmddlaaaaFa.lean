/- The field's memory: its pointer, its tables, and how they are read. No condition. -/
import Derived.Test.YtabcmfkmddlaaaaS
import Derived.Test.YtabcmfkmddlaaaaMa
set_option linter.unusedVariables false
set_option linter.unusedSimpArgs false
namespace Gk
open Go Go.Proofs

/-- v points to the field (b), or is nil. -/
def Fd (w : World) (L : List Value) (v : Value) (b : Bool) : Prop := FdT Gf.pwT Gf.lgT 69 w L v b
theorem Fd.lift {w w' : World} {L L' : List Value} {v : Value} {b : Bool} (h : Fd w L v b) (g : Lift w w' L L') : Fd w' L' v b := FdT.lift h g
theorem Fd.nil (w : World) (L : List Value) : Fd w L (.pointer none) false := .inl ⟨rfl, rfl⟩

def padd (v : Value) (n : Nat) : Value := match v with | .pointer (some a) => .pointer (some (a.add n)) | v => v
def grd (b : Bool) : Option Unit := if b then some () else none
theorem grd_eq {b : Bool} {u : Unit} (h : grd b = some u) : b = true := by cases b <;> simp_all [grd]

theorem fieldAt0 (a : Addr) (w : World) : (Instr.fieldAt 69 (.pointer (some a)) 0).run Try.prog w = .ok (.pointer (some (a.add 0))) w := by
  simp [Instr.fieldAt, Instr.sureAddr, fieldPlace]
theorem fieldAt1 (a : Addr) (w : World) : (Instr.fieldAt 69 (.pointer (some a)) 1).run Try.prog w = .ok (.pointer (some (a.add 510))) w := by
  simp [Instr.fieldAt, Instr.sureAddr, fieldPlace]

section
variable {o : Oper} {f : Nat → Value} {w : World} {L : List Value} {v : Value} {b : Bool} {x y : Operand} {t e : TypeId}
theorem q_nilF (ho : o.op = .nilCheck x) (hx : ev f x = v) (h : Fd w L v b) (hb : b = true) : Qa Try.prog o f v := by
  intro w'
  rcases h with ⟨h1, _⟩ | ⟨_, g, rfl, _⟩
  · rw [hb] at h1; cases h1
  · simp [execOp, ho, hx]
theorem q_fld0 (ho : o.op = .fieldAddr 69 x 0) (hx : ev f x = v) (h : Fd w L v b) (hb : b = true) : Qa Try.prog o f (padd v 0) := by
  intro w'
  rcases h with ⟨h1, _⟩ | ⟨_, g, rfl, _⟩
  · rw [hb] at h1; cases h1
  · simp [execOp, ho, hx, fieldAt0, padd]
theorem q_fld1 (ho : o.op = .fieldAddr 69 x 1) (hx : ev f x = v) (h : Fd w L v b) (hb : b = true) : Qa Try.prog o f (padd v 510) := by
  intro w'
  rcases h with ⟨h1, _⟩ | ⟨_, g, rfl, _⟩
  · rw [hb] at h1; cases h1
  · simp [execOp, ho, hx, fieldAt1, padd]
theorem q_fix {k : IntKind} {i : Int} {n off : Nat} {α : Type} {l : List α} {c : α} (ho : o.op = .indexAddr t x y) (ht : Try.prog.underlying t = some (.array n e)) (hs : ∀ w, (Go.sizeOf e).run Try.prog w = .ok 1 w) (hl : l.length = n)
    (hx : ev f x = padd v off) (hy : ev f y = .int k i) (h : Fd w L v b) (hb : b = true) (hi : idx l i = some c) : Qa Try.prog o f (padd v (off + i.toNat)) := by
  intro w'
  obtain ⟨h0, h1, _⟩ := idx_some.1 hi
  rcases h with ⟨h2, _⟩ | ⟨_, g, rfl, _⟩
  · rw [hb] at h2; cases h2
  · have h3 : i < (n : Int) := by omega
    simp [execOp, ho, hx, hy, Instr.indexAt, asIntOf, run_underlying ht, Instr.sureAddr, padd, h0, h3, hs, add_off]
theorem fieldCells_pw (pw : List UInt8) (lg : List Int) (i : Nat) (c : UInt8) (h : pw[i]? = some c) : (fieldCells pw lg)[i]? = some (u8 c) := by
  have hi : i < pw.length := (List.getElem?_eq_some_iff.1 h).1
  simp [fieldCells, List.getElem?_append, hi]
  rw [(List.getElem?_eq_some_iff.1 h).2]
theorem fieldCells_lg (pw : List UInt8) (lg : List Int) (i : Nat) (c : Int) (h : lg[i]? = some c) : (fieldCells pw lg)[pw.length + i]? = some (i64 c) := by
  simp [fieldCells, List.getElem?_append, h]
theorem q_fload (u : Value) (m : Nat) (ho : o.op = .load e x) (ha : ∀ w, (isAgg e).run Try.prog w = .ok false w) (hx : ev f x = padd v m) (h : Fd w L v b) (hb : b = true) (hc : (fieldCells Gf.pwT Gf.lgT)[m]? = some u) : Qt Try.prog o f w u := by
  intro w' hE
  rcases h with ⟨h2, _⟩ | ⟨_, g, rfl, _, hg⟩
  · rw [hb] at h2; cases h2
  · have hlt : g < w.heap.size := (Array.getElem?_eq_some_iff.1 hg).1
    have hg' : w'.heap[g]? = some (.cells (fieldCells Gf.pwT Gf.lgT) 69 (0, 0)) := by rw [hE.blk g hlt]; exact hg
    have hcell : w'.cell? ⟨g, m, none⟩ = some u := by rw [cell_of_row w' g m _ _ _ hg', hc]
    simp [execOp, ho, hx, padd, Instr.loadAt, Instr.sureAddr, loadVar, ha, add_off, load, Sem.run, hcell]
theorem q_fload0 {i : Int} {c : UInt8} (ho : o.op = .load 5 x) (hx : ev f x = padd v (0 + i.toNat)) (h : Fd w L v b) (hb : b = true) (hi : idx Gf.pwT i = some c) : Qt Try.prog o f w (u8 c) := by
  obtain ⟨h0, h1, h2⟩ := idx_some.1 hi
  exact q_fload _ _ ho Try.isAgg5 hx h hb (by rw [Nat.zero_add]; exact fieldCells_pw _ _ _ _ (List.getElem?_eq_some_iff.2 ⟨h1, h2⟩))
theorem q_fload1 {i : Int} {c : Int} (ho : o.op = .load 3 x) (hx : ev f x = padd v (510 + i.toNat)) (h : Fd w L v b) (hb : b = true) (hi : idx Gf.lgT i = some c) : Qt Try.prog o f w (i64 c) := by
  obtain ⟨h0, h1, h2⟩ := idx_some.1 hi
  refine q_fload _ _ ho Try.isAgg3 hx h hb ?_
  have := fieldCells_lg Gf.pwT Gf.lgT i.toNat c (List.getElem?_eq_some_iff.2 ⟨h1, h2⟩)
  rw [Gf.pwT_len] at this
  exact this
theorem q_fix0 {k : IntKind} {i : Int} {c : UInt8} (ho : o.op = .indexAddr 66 x y) (hx : ev f x = padd v 0) (hy : ev f y = .int k i) (h : Fd w L v b) (hb : b = true) (hi : idx Gf.pwT i = some c) : Qa Try.prog o f (padd v (0 + i.toNat)) :=
  q_fix ho Try.underlying66 Try.sizeOf5 Gf.pwT_len hx hy h hb hi
theorem q_fix1 {k : IntKind} {i : Int} {c : Int} (ho : o.op = .indexAddr 67 x y) (hx : ev f x = padd v 510) (hy : ev f y = .int k i) (h : Fd w L v b) (hb : b = true) (hi : idx Gf.lgT i = some c) : Qa Try.prog o f (padd v (510 + i.toNat)) :=
  q_fix ho Try.underlying67 Try.sizeOf3 Gf.lgT_len hx hy h hb hi
end
end Gk

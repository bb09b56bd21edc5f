/- Matrices of this seat's program: the struct, its field, its building. No condition. -/
import Derived.Test.YteinpdignnpbgaaS
import Derived.Test.YteinpdignnpbgaaGn
set_option linter.unusedVariables false
set_option linter.unusedSimpArgs false
namespace Gk
open Go Go.Proofs
/-- v points to a matrix of these rows, or is nil. -/
def Mx (w : World) (L : List Value) (v : Value) (m : Option (List (List UInt8))) : Prop := MxT 94 w L v m
theorem Mx.lift {w w' : World} {L L' : List Value} {v : Value} {m : Option (List (List UInt8))} (h : Mx w L v m) (g : Lift w w' L L') : Mx w' L' v m := MxT.lift h g
theorem Mx.nil (w : World) (L : List Value) : Mx w L (.pointer none) none := MxT.nil _ _ _
theorem Mx.mk {w : World} {L : List Value} {g : Nat} {u : Value} {l : List (List UInt8)} (hB : Blk w g 94 #[u]) (ha : Av L g) (hR : Rw w L u l) : Mx w L (bp g) (some l) := .inr ⟨l, g, u, rfl, rfl, ha, hB, hR⟩
/-- v points to a matrix that is new, with all that lies in it. -/
def MxO (w0 w : World) (v : Value) (l : List (List UInt8)) : Prop := ∃ g u G, v = bp g ∧ Nw w0 (bp g) ∧ Blk w g 94 #[u] ∧ Nw w0 G ∧ OwD w 22 5 G u l ∧ Nq (bp g) G
theorem fieldAtM (a : Addr) (w : World) : (Instr.fieldAt 94 (.pointer (some a)) 0).run Try.prog w = .ok (.pointer (some (a.add 0))) w := by
  simp [Instr.fieldAt, Instr.sureAddr, fieldPlace]
theorem buildM (v : Value) (hv : ∃ p n c, v = .slice p n c) (w : World) : (Instr.build 94 #[(0, v)]).run Try.prog w = .ok (.agg #[v]) w := by
  obtain ⟨p, n, c, rfl⟩ := hv
  simp [Instr.build, Try.zeroValue94, Try.underlying94, run_underlying Try.underlying94, Try.sizeOf46, Instr.fill, Value.cells]
section
variable {o : Oper} {f : Nat → Value} {w : World} {x : Operand} {v : Value}
theorem q_buildM (ho : o.op = .build 94 #[(0, x)]) (hx : ev f x = v) (hv : ∃ p n c, v = .slice p n c) : Qa Try.prog o f (.agg #[v]) := by
  intro w
  simp [execOp, ho, hx, buildM v hv]
end
end Gk

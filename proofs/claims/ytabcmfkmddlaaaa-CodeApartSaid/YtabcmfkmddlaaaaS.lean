/- Facts of this seat's program: its element types; the field's type. No condition. -/
import Derived.Test.YtabcmfkmddlaaaaGh
import Derived.Test.YtabcmfkmddlaaaaProg
set_option linter.unusedVariables false
namespace Gk
open Go Go.Proofs
theorem mixed : Try.prog.follows .mixedOrders = true := by kernel_rfl
theorem T22 : TyS Try.prog 22 5 (u8 0) 1 := ⟨Try.underlying22, by kernel_rfl, rfl, Try.isAgg5, by decide⟩
theorem T58 : TyS Try.prog 58 3 (i64 0) 8 := ⟨Try.underlying58, by kernel_rfl, rfl, Try.isAgg3, by decide⟩
theorem T23 : TyS Try.prog 23 22 (.slice none 0 0) 24 := ⟨Try.underlying23, by kernel_rfl, rfl, Try.isAgg22, by decide⟩
end Gk

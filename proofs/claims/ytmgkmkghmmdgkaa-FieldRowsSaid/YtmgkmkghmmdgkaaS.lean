/- Facts of this seat's program: its element types; the field's type. No condition. -/
import Derived.Test.YtmgkmkghmmdgkaaGh
import Derived.Test.YtmgkmkghmmdgkaaProg
set_option linter.unusedVariables false
namespace Gk
open Go Go.Proofs
theorem mixed : Try.prog.follows .mixedOrders = true := by kernel_rfl
theorem T37 : TyS Try.prog 37 5 (u8 0) 1 := ⟨Try.underlying37, by kernel_rfl, rfl, Try.isAgg5, by decide⟩
theorem T59 : TyS Try.prog 59 3 (i64 0) 8 := ⟨Try.underlying59, by kernel_rfl, rfl, Try.isAgg3, by decide⟩
theorem T58 : TyS Try.prog 58 37 (.slice none 0 0) 24 := ⟨Try.underlying58, by kernel_rfl, rfl, Try.isAgg37, by decide⟩
end Gk

/- A part of the evaluator, or one closed fact about it. Conditions: none beyond what each theorem states. -/
import Derived.Test.YtohliokdpiafbaaGreatDoorDetT
import Derived.Test.YtohliokdpiafbaaGreatDoorDetKnd
import Derived.KernelRfl
set_option linter.unusedVariables false
set_option maxRecDepth 100000
namespace Go.Det
open Go.Proofs
theorem can21_ok : canOk Tryz.prog tbl (canSp in21 (sp43 Tryz.prog tbl 183 193 ⟨231, 309, 310, 1000000⟩)) 1000000 can21 = true := by kernel_rfl
end Go.Det

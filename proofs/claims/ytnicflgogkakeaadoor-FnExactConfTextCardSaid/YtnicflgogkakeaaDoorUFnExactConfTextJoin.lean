/-
Plain law: what the printed functions answer (Join).
-/
import Derived.Test.YtnicflgogkakeaaDoorQFnExactConfTextx7
import Derived.Test.YtnicflgogkakeaaDoorK
set_option linter.unusedVariables false
set_option linter.unusedSimpArgs false
namespace Go.Proofs.YtnicflgogkakeaaDoor.QFnExactConfText
open Go.RowKit Go.Proofs.YtnicflgogkakeaaDoorW.PrintWords Go.Proofs.YtnicflgogkakeaaDoorW.PrintLast Go.Proofs.YtnicflgogkakeaaDoorW.PrintMore Go.Proofs.YtnicflgogkakeaaDoor.K
theorem strings_Join_eq {xs : List ByteArray} {sep : ByteArray} (h : (joinB xs sep).size ≤ 140737488355328) (hl : xs.length ≤ 140737488355328) : strings_Join.f xs sep = some (joinB xs sep) := by
  unfold strings_Join.f
  rw [if_pos ⟨by rw [join_len]; exact h, hl⟩]
  rfl
end Go.Proofs.YtnicflgogkakeaaDoor.QFnExactConfText

/-
Plain law: what the printed functions answer (VecText).
-/
import Derived.Test.YtnicflgogkakeaaDoorQFnExactConfTextx2
import Derived.Test.YtnicflgogkakeaaDoorQFnExactConfTextx7
import Derived.Test.YtnicflgogkakeaaDoorK
import Derived.Test.YtnicflgogkakeaaDoorUFnExactConfTextNumText
set_option linter.unusedVariables false
set_option linter.unusedSimpArgs false
namespace Go.Proofs.YtnicflgogkakeaaDoor.QFnExactConfText
open Go.RowKit Go.Proofs.YtnicflgogkakeaaDoorW.PrintWords Go.Proofs.YtnicflgogkakeaaDoorW.PrintLast Go.Proofs.YtnicflgogkakeaaDoorW.PrintMore Go.Proofs.YtnicflgogkakeaaDoor.K
def vecB (a b c : Int) : ByteArray := (((numB a ++ (⟨#[47]⟩ : ByteArray)) ++ numB b) ++ (⟨#[47]⟩ : ByteArray)) ++ numB c
theorem vecB_size {a b c : Int} (ha : -9223372036854775808 ≤ a ∧ a ≤ 9223372036854775807) (hb : -9223372036854775808 ≤ b ∧ b ≤ 9223372036854775807) (hc : -9223372036854775808 ≤ c ∧ c ≤ 9223372036854775807) : (vecB a b c).size ≤ 65 := by
  have h1 := numB_size ha.1 ha.2
  have h2 := numB_size hb.1 hb.2
  have h3 := numB_size hc.1 hc.2
  unfold vecB
  simp only [size_append]
  show (numB a).size + 1 + (numB b).size + 1 + (numB c).size ≤ 65
  omega
theorem spec_VecText_ev {a b c : Int} (ha : -9223372036854775808 ≤ a ∧ a ≤ 9223372036854775807) (hb : -9223372036854775808 ≤ b ∧ b ≤ 9223372036854775807) (hc : -9223372036854775808 ≤ c ∧ c ≤ 9223372036854775807) : Ev (fun k => spec_VecText.f k a b c) (vecB a b c) := by
  have h1 := numB_size ha.1 ha.2
  have h2 := numB_size hb.1 hb.2
  have h3 := numB_size hc.1 hc.2
  unfold spec_VecText.f
  exact Ev.bind (spec_NumText_ev ha.1 ha.2) (ev_pos (by omega) (Ev.bind (spec_NumText_ev hb.1 hb.2) (ev_pos (by omega) (ev_pos (by omega) (Ev.bind (spec_NumText_ev hc.1 hc.2) (ev_pos (by omega) (ev_some _)))))))
theorem impl_VecText_eq {a b c : Int} (ha : -9223372036854775808 ≤ a ∧ a ≤ 9223372036854775807) (hb : -9223372036854775808 ≤ b ∧ b ≤ 9223372036854775807) (hc : -9223372036854775808 ≤ c ∧ c ≤ 9223372036854775807) : impl_VecText.f a b c = some (vecB a b c) := by
  have h1 := numB_size ha.1 ha.2
  have h2 := numB_size hb.1 hb.2
  have h3 := numB_size hc.1 hc.2
  unfold impl_VecText.f
  rw [impl_NumText_eq ha.1 ha.2, impl_NumText_eq hb.1 hb.2, impl_NumText_eq hc.1 hc.2]
  simp only [Option.bind_some]
  rw [if_pos (by omega), if_pos (by omega), if_pos (by omega), if_pos (by omega)]
  rfl
end Go.Proofs.YtnicflgogkakeaaDoor.QFnExactConfText

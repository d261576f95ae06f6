/-
Plain law: what the printed functions answer (LawConfText).
-/
import Derived.Test.YtnicflgogkakeaaDoorQFnExactConfTextx10
import Derived.Test.YtnicflgogkakeaaDoorQFnExactConfTextx11
import Derived.Test.YtnicflgogkakeaaDoorQFnExactConfTextx2
import Derived.Test.YtnicflgogkakeaaDoorQFnExactConfTextx7
import Derived.Test.YtnicflgogkakeaaDoorK
import Derived.Test.YtnicflgogkakeaaDoorUFnExactConfTextConfText
import Derived.Test.YtnicflgogkakeaaDoorUFnExactConfTextProfS
set_option linter.unusedVariables false
set_option linter.unusedSimpArgs false
namespace Go.Proofs.YtnicflgogkakeaaDoor.QFnExactConfText
open Go.RowKit Go.Proofs.YtnicflgogkakeaaDoorW.PrintWords Go.Proofs.YtnicflgogkakeaaDoorW.PrintLast Go.Proofs.YtnicflgogkakeaaDoorW.PrintMore Go.Proofs.YtnicflgogkakeaaDoor.K
theorem laws_toConf_ev (s n c d i a b e m : Int) (t : Bool) {l : List S118} (hl : l.length ≤ 1048576) : Ev (fun k => laws_toConf.f k s n c d i a b e m t l) (s, n, c, d, i, a, b, e, m, t, l.map convP) := by
  unfold laws_toConf.f laws_toLimits.f
  exact ev_let (Ev.bind (laws_toProfS_ev hl) (ev_some _))
theorem laws_eqConf_ev (s n c d i a b e m : Int) (t : Bool) {l : List S87} (hl : l.length ≤ 1048576) : Ev (fun k => laws_eqConf.f k s n c d i a b e m t l s n c d i a b e m t l) true := by
  unfold laws_eqConf.f
  have e1 : laws_eqLimits.f a b e m t a b e m t = some true := by simp [laws_eqLimits.f]
  exact ev_pos rfl (ev_pos rfl (ev_pos rfl (ev_pos rfl (ev_pos rfl (ev_bindc e1 (ev_pos rfl (Ev.bind (laws_eqProfS_ev hl) (ev_pos rfl (ev_some _)))))))))
theorem law_ev {s n c d i a b e m : Int} {t : Bool} {l : List S118} (hl : l.length ≤ 9223372036854775807) : Ev (fun k => laws_FnExactConfText.f k s n c d i a b e m t l) true := by
  unfold laws_FnExactConfText.f laws_szConf.f laws_szProfS.f
  rw [wrap_id (n := 1048576 - (l.length : Int)) (by omega) (by omega)]
  by_cases h : 1048576 - (l.length : Int) < 0
  · rw [if_pos h]
    simp only [Option.bind_some, show ((-1 : Int) < 0) = True from eq_true (by decide), if_true]
    exact ev_some _
  · rw [if_neg h]
    simp only [Option.bind_some]
    rw [if_neg h]
    refine ev_let (ev_neg h ?_)
    have h1 : l.length ≤ 1048576 := by omega
    refine Ev.bind (laws_toConf_ev s n c d i a b e m t h1) (Ev.bind (spec_ConfText_ev s n c d i a b e m t _) (Ev.bind (laws_toConf_ev s n c d i a b e m t h1) (Ev.bind (impl_ConfText_ev s n c d i a b e m t _) (ev_pos rfl ?_))))
    exact Ev.bind (laws_toConf_ev s n c d i a b e m t h1) (Ev.bind (laws_eqConf_ev s n c d i a b e m t (by rw [List.length_map]; exact h1)) (ev_pos rfl (ev_some _)))
end Go.Proofs.YtnicflgogkakeaaDoor.QFnExactConfText

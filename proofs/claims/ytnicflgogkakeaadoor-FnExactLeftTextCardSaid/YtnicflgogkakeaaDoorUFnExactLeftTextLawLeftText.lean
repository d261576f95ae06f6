/-
Plain law: what the printed functions answer (LawLeftText).
-/
import Derived.Test.YtnicflgogkakeaaDoorQFnExactLeftTextx1
import Derived.Test.YtnicflgogkakeaaDoorQFnExactLeftTextx2
import Derived.Test.YtnicflgogkakeaaDoorQFnExactLeftTextx3
import Derived.Test.YtnicflgogkakeaaDoorQFnExactLeftTextx4
import Derived.Test.YtnicflgogkakeaaDoorK
import Derived.Test.YtnicflgogkakeaaDoorUFnExactLeftTextLeftText
import Derived.Test.YtnicflgogkakeaaDoorUFnExactLeftTextCopyI
set_option linter.unusedVariables false
set_option linter.unusedSimpArgs false
namespace Go.Proofs.YtnicflgogkakeaaDoor.QFnExactLeftText
open Go.RowKit Go.Proofs.YtnicflgogkakeaaDoorW.PrintWords Go.Proofs.YtnicflgogkakeaaDoorW.PrintLast Go.Proofs.YtnicflgogkakeaaDoorW.PrintMore Go.Proofs.YtnicflgogkakeaaDoor.K
theorem laws_szLeft_ev (n s t : Int) (q a : List Int) (m : Int) (h0 : 0 ≤ m) (h1 : m ≤ 1048576) (hq : q.length ≤ 9223372036854775807) (ha : a.length ≤ 9223372036854775807) :
    ∃ r, laws_szLeft.f n q a s t m = some r ∧ (r < 0 ∨ (q.length : Int) + (a.length : Int) + r = m) := by
  unfold laws_szLeft.f laws_szIntS.f
  rw [wrap_id (n := m - (q.length : Int)) (by omega) (by omega)]
  by_cases h : m - (q.length : Int) < 0
  · rw [if_pos h]; exact ⟨-1, by simp, .inl (by omega)⟩
  · rw [if_neg h]
    simp only [Option.bind_some]
    rw [if_neg h, wrap_id (n := m - (q.length : Int) - (a.length : Int)) (by omega) (by omega)]
    by_cases h' : m - (q.length : Int) - (a.length : Int) < 0
    · rw [if_pos h']; exact ⟨-1, by simp, .inl (by omega)⟩
    · rw [if_neg h']
      simp only [Option.bind_some]
      rw [if_neg h']
      exact ⟨_, rfl, .inr (by omega)⟩
theorem laws_toLeft_ev {n s t : Int} {q a : List Int} (hq : q.length ≤ 1048576) (ha : a.length ≤ 1048576) : Ev (fun k => laws_toLeft.f k n q a s t) (n, q, a, s, t) := by
  unfold laws_toLeft.f
  exact Ev.bind (laws_toIntS_ev hq) (Ev.bind (laws_toIntS_ev ha) (ev_some _))
theorem laws_eqLeft_ev {n s t : Int} {q a : List Int} (hq : q.length ≤ 1048576) (ha : a.length ≤ 1048576) : Ev (fun k => laws_eqLeft.f k n q a s t n q a s t) true := by
  unfold laws_eqLeft.f
  exact ev_pos rfl (Ev.bind (laws_eqIntS_ev (by omega)) (ev_pos rfl (Ev.bind (laws_eqIntS_ev (by omega)) (ev_pos rfl (ev_pos rfl (ev_pos rfl (ev_some _)))))))
theorem law_ev {n s t : Int} {q a : List Int} (hn : -9223372036854775808 ≤ n ∧ n ≤ 9223372036854775807) (hs : -9223372036854775808 ≤ s ∧ s ≤ 9223372036854775807) (ht : -9223372036854775808 ≤ t ∧ t ≤ 9223372036854775807)
    (hq : ∀ x ∈ q, -9223372036854775808 ≤ x ∧ x ≤ 9223372036854775807) (ha : ∀ x ∈ a, -9223372036854775808 ≤ x ∧ x ≤ 9223372036854775807) (hql : q.length ≤ 9223372036854775807) (hal : a.length ≤ 9223372036854775807) :
    Ev (fun k => laws_FnExactLeftText.f k n q a s t) true := by
  unfold laws_FnExactLeftText.f
  obtain ⟨r, hr, hsz⟩ := laws_szLeft_ev n s t q a 1048576 (by omega) (by omega) hql hal
  refine ev_bindc hr ?_
  by_cases h : r < 0
  · exact ev_pos h (ev_some _)
  · have h1 : q.length ≤ 1048576 ∧ a.length ≤ 1048576 := by omega
    refine ev_neg h (Ev.bind (laws_toLeft_ev h1.1 h1.2) (Ev.bind (spec_LeftText_ev hn hs ht hq ha) (Ev.bind (laws_toLeft_ev h1.1 h1.2) (Ev.bind (impl_LeftText_ev hn hs ht hq ha) (ev_pos rfl ?_)))))
    exact Ev.bind (laws_toLeft_ev h1.1 h1.2) (Ev.bind (laws_eqLeft_ev h1.1 h1.2) (ev_pos rfl (ev_some _)))
end Go.Proofs.YtnicflgogkakeaaDoor.QFnExactLeftText

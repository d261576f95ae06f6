/-
Plain law: what the printed functions answer (LawEventText).
-/
import Derived.Test.YtnicflgogkakeaaDoorQFnExactEventTextx2
import Derived.Test.YtnicflgogkakeaaDoorQFnExactEventTextx5
import Derived.Test.YtnicflgogkakeaaDoorQFnExactEventTextx7
import Derived.Test.YtnicflgogkakeaaDoorK
import Derived.Test.YtnicflgogkakeaaDoorUFnExactEventTextEventText
import Derived.Test.YtnicflgogkakeaaDoorUFnExactEventTextCopyB
set_option linter.unusedVariables false
set_option linter.unusedSimpArgs false
namespace Go.Proofs.YtnicflgogkakeaaDoor.QFnExactEventText
open Go.RowKit Go.Proofs.YtnicflgogkakeaaDoorW.PrintWords Go.Proofs.YtnicflgogkakeaaDoorW.PrintLast Go.Proofs.YtnicflgogkakeaaDoorW.PrintMore Go.Proofs.YtnicflgogkakeaaDoor.K
theorem laws_szEvent_ev (kd n a b c : Int) (e : List Int) (m : Int) (h0 : 0 ≤ m) (h1 : m ≤ 1048576) (he : e.length ≤ 9223372036854775807) :
    ∃ r, laws_szEvent.f kd n e a b c m = some r ∧ (r < 0 ∨ (e.length : Int) + r = m) := by
  unfold laws_szEvent.f laws_szByteS.f
  rw [wrap_id (n := m - (e.length : Int)) (by omega) (by omega)]
  by_cases h : m - (e.length : Int) < 0
  · rw [if_pos h]; exact ⟨-1, by simp, .inl (by omega)⟩
  · rw [if_neg h]
    simp only [Option.bind_some]
    rw [if_neg h]
    exact ⟨_, rfl, .inr (by omega)⟩
theorem laws_toEvent_ev {kd n a b c : Int} {e : List Int} (he : e.length ≤ 1048576) : Ev (fun k => laws_toEvent.f k kd n e a b c) (kd, n, e, a, b, c) := by
  unfold laws_toEvent.f
  exact Ev.bind (laws_toByteS_ev he) (ev_some _)
theorem laws_eqEvent_ev {kd n a b c : Int} {e : List Int} (he : e.length ≤ 1048576) : Ev (fun k => laws_eqEvent.f k kd n e a b c kd n e a b c) true := by
  unfold laws_eqEvent.f
  refine ev_pos rfl (ev_pos rfl (Ev.bind (laws_eqByteS_ev (by omega)) (ev_pos rfl (ev_bindc (a := true) ?_ (ev_pos rfl (ev_some _))))))
  unfold laws_eqVec.f
  rw [if_pos rfl, if_pos rfl, if_pos rfl]
theorem law_ev {kd n a b c : Int} {e : List Int} (hn : -9223372036854775808 ≤ n ∧ n ≤ 9223372036854775807) (ha : -9223372036854775808 ≤ a ∧ a ≤ 9223372036854775807) (hb : -9223372036854775808 ≤ b ∧ b ≤ 9223372036854775807) (hc : -9223372036854775808 ≤ c ∧ c ≤ 9223372036854775807) (hd : ∀ x ∈ e, 0 ≤ x ∧ x ≤ 255) (hl : e.length ≤ 9223372036854775807) :
    Ev (fun k => laws_FnExactEventText.f k kd n e a b c) true := by
  unfold laws_FnExactEventText.f
  obtain ⟨r, hr, hsz⟩ := laws_szEvent_ev kd n a b c e 1048576 (by omega) (by omega) hl
  refine ev_bindc hr ?_
  by_cases h : r < 0
  · exact ev_pos h (ev_some _)
  · have h1 : e.length ≤ 1048576 := by omega
    refine ev_neg h (Ev.bind (laws_toEvent_ev h1) (Ev.bind (spec_EventText_ev hn hd ha hb hc) (Ev.bind (laws_toEvent_ev h1) (Ev.bind (impl_EventText_ev hn hd ha hb hc) (ev_pos rfl ?_)))))
    exact Ev.bind (laws_toEvent_ev h1) (Ev.bind (laws_eqEvent_ev h1) (ev_pos rfl (ev_some _)))
end Go.Proofs.YtnicflgogkakeaaDoor.QFnExactEventText

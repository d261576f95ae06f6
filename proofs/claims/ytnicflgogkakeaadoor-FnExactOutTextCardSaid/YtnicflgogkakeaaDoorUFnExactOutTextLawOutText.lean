/-
Plain law: what the printed functions answer (LawOutText).
-/
import Derived.Test.YtnicflgogkakeaaDoorQFnExactOutTextx1
import Derived.Test.YtnicflgogkakeaaDoorQFnExactOutTextx3
import Derived.Test.YtnicflgogkakeaaDoorQFnExactOutTextx5
import Derived.Test.YtnicflgogkakeaaDoorK
import Derived.Test.YtnicflgogkakeaaDoorUFnExactOutTextOutText
import Derived.Test.YtnicflgogkakeaaDoorUFnExactOutTextCopies
set_option linter.unusedVariables false
set_option linter.unusedSimpArgs false
namespace Go.Proofs.YtnicflgogkakeaaDoor.QFnExactOutText
open Go.RowKit Go.Proofs.YtnicflgogkakeaaDoorW.PrintWords Go.Proofs.YtnicflgogkakeaaDoorW.PrintLast Go.Proofs.YtnicflgogkakeaaDoorW.PrintMore Go.Proofs.YtnicflgogkakeaaDoor.K
theorem sz_small {n : Nat} {m : Int} (h0 : 0 ≤ m) (h : ¬ m - (n : Int) < 0) : (n : Int) ≤ m := by omega
/-- What a size guard tells: false means that all is small. -/
theorem laws_szOut_ev (a b c : Int) (e l : List Int) (m : Int) (h0 : 0 ≤ m) (h1 : m ≤ 1048576) (he : e.length ≤ 9223372036854775807) (hl : l.length ≤ 9223372036854775807) :
    ∃ r, laws_szOut.f a b c e l m = some r ∧ (r < 0 ∨ (e.length : Int) + (l.length : Int) + r = m) := by
  unfold laws_szOut.f laws_szByteS.f laws_szIntS.f
  rw [wrap_id (n := m - (e.length : Int)) (by omega) (by omega)]
  by_cases h : m - (e.length : Int) < 0
  · rw [if_pos h]; exact ⟨-1, by simp, .inl (by omega)⟩
  · rw [if_neg h]
    simp only [Option.bind_some]
    rw [if_neg h, wrap_id (n := m - (e.length : Int) - (l.length : Int)) (by omega) (by omega)]
    by_cases h' : m - (e.length : Int) - (l.length : Int) < 0
    · rw [if_pos h']; exact ⟨-1, by simp, .inl (by omega)⟩
    · rw [if_neg h']
      simp only [Option.bind_some]
      rw [if_neg h']
      exact ⟨_, rfl, .inr (by omega)⟩
theorem laws_toOut_ev {a b c : Int} {e l : List Int} (he : e.length ≤ 1048576) (hl : l.length ≤ 1048576) : Ev (fun k => laws_toOut.f k a b c e l) (a, b, c, e, l) := by
  unfold laws_toOut.f
  exact Ev.bind (laws_toByteS_ev he) (Ev.bind (laws_toIntS_ev hl) (ev_some _))
theorem laws_eqOut_ev {a b c : Int} {e l : List Int} (he : e.length ≤ 1048576) (hl : l.length ≤ 1048576) : Ev (fun k => laws_eqOut.f k a b c e l a b c e l) true := by
  unfold laws_eqOut.f
  exact ev_pos rfl (ev_pos rfl (ev_pos rfl (Ev.bind (laws_eqByteS_ev (by omega)) (ev_pos rfl (Ev.bind (laws_eqIntS_ev (by omega)) (ev_pos rfl (ev_some _)))))))
theorem law_ev {a b c : Int} {e l : List Int} (hb : -9223372036854775808 ≤ b ∧ b ≤ 9223372036854775807) (hc : -9223372036854775808 ≤ c ∧ c ≤ 9223372036854775807) (he : ∀ x ∈ e, 0 ≤ x ∧ x ≤ 255) (hw : ∀ x ∈ l, -9223372036854775808 ≤ x ∧ x ≤ 9223372036854775807)
    (hel : e.length ≤ 9223372036854775807) (hll : l.length ≤ 9223372036854775807) : Ev (fun k => laws_FnExactOutText.f k a b c e l) true := by
  unfold laws_FnExactOutText.f
  obtain ⟨r, hr, hs⟩ := laws_szOut_ev a b c e l 1048576 (by omega) (by omega) hel hll
  refine ev_bindc hr ?_
  by_cases h : r < 0
  · exact ev_pos h (ev_some _)
  · have hsz : e.length ≤ 1048576 ∧ l.length ≤ 1048576 := by omega
    refine ev_neg h (Ev.bind (laws_toOut_ev hsz.1 hsz.2) (Ev.bind (spec_OutText_ev hb hc he hw) (Ev.bind (laws_toOut_ev hsz.1 hsz.2) (Ev.bind (impl_OutText_ev hb hc he hw) (ev_pos rfl ?_)))))
    exact Ev.bind (laws_toOut_ev hsz.1 hsz.2) (Ev.bind (laws_eqOut_ev hsz.1 hsz.2) (ev_pos rfl (ev_some _)))
end Go.Proofs.YtnicflgogkakeaaDoor.QFnExactOutText

/-
Plain law: what the printed functions answer (LawLedger).
-/
import Derived.Test.YtnicflgogkakeaaQFnExactLedgerx1
import Derived.Test.YtnicflgogkakeaaQFnExactLedgerx3
import Derived.Test.YtnicflgogkakeaaQFnExactLedgerx5
import Derived.Test.YtnicflgogkakeaaQFnExactLedgerx6
import Derived.Test.YtnicflgogkakeaaK
import Derived.Test.YtnicflgogkakeaaUFnExactLedgerLedger
import Derived.Test.YtnicflgogkakeaaUFnExactLedgerOutS
import Derived.Test.YtnicflgogkakeaaUFnExactLedgerCopyI
set_option linter.unusedVariables false
set_option linter.unusedSimpArgs false
namespace Go.Proofs.Ytnicflgogkakeaa.QFnExactLedger
open Go.RowKit Go.Proofs.YtnicflgogkakeaaW.PrintWords Go.Proofs.YtnicflgogkakeaaW.PrintLast Go.Proofs.YtnicflgogkakeaaW.PrintMore Go.Proofs.Ytnicflgogkakeaa.K
theorem laws_szLeft_ev (n s t : Int) (q a : List Int) (m : Int) (h0 : 0 ≤ m) (h1 : m ≤ 1048576) (hq : q.length ≤ 9223372036854775807) (ha : a.length ≤ 9223372036854775807) :
    ∃ r, laws_szLeft.f n q a s t m = some r ∧ (r < 0 ∨ (q.length : Int) + (a.length : Int) + r = m) := by
  unfold laws_szLeft.f laws_szIntS.f
  rw [wrap_id (n := m - (q.length : Int)) (by omega) (by omega)]
  by_cases h : m - (q.length : Int) < 0
  · rw [if_pos h]; exact ⟨-1, by simp, .inl (by omega)⟩
  · rw [if_neg h]
    simp only [Option.bind_some]
    rw [if_neg h, wrap_id (n := m - (q.length : Int) - (a.length : Int)) (by omega) (by omega)]
    by_cases h' : m - (q.length : Int) - (a.length : Int) < 0
    · rw [if_pos h']; exact ⟨-1, by simp, .inl (by omega)⟩
    · rw [if_neg h']
      simp only [Option.bind_some]
      rw [if_neg h']
      exact ⟨_, rfl, .inr (by omega)⟩
theorem laws_toLeft_ev {n s t : Int} {q a : List Int} (hq : q.length ≤ 1048576) (ha : a.length ≤ 1048576) : Ev (fun k => laws_toLeft.f k n q a s t) (n, q, a, s, t) := by
  unfold laws_toLeft.f
  exact Ev.bind (laws_toIntS_ev hq) (Ev.bind (laws_toIntS_ev ha) (ev_some _))
theorem laws_eqLeft_ev {n s t : Int} {q a : List Int} (hq : q.length ≤ 1048576) (ha : a.length ≤ 1048576) : Ev (fun k => laws_eqLeft.f k n q a s t n q a s t) true := by
  unfold laws_eqLeft.f
  exact ev_pos rfl (Ev.bind (laws_eqIntS_ev (by omega)) (ev_pos rfl (Ev.bind (laws_eqIntS_ev (by omega)) (ev_pos rfl (ev_pos rfl (ev_pos rfl (ev_some _)))))))
theorem law_ev {x : Int} {l : List S39} {n s t : Int} {q a : List Int} (hl : l.length ≤ 9223372036854775807) (hx : ∀ y ∈ l, y.f3.length ≤ 9223372036854775807 ∧ y.f4.length ≤ 9223372036854775807)
    (hql : q.length ≤ 9223372036854775807) (hal : a.length ≤ 9223372036854775807) :
    Ev (fun k => laws_FnExactLedger.f k x l n q a s t) true := by
  unfold laws_FnExactLedger.f
  obtain ⟨m, hm, hms⟩ := laws_szOutS_ev l 1048576 (by omega) (by omega) hl hx
  refine Ev.bind hm ?_
  by_cases h0 : m < 0
  · exact ev_pos h0 (ev_some _)
  refine ev_neg h0 ?_
  obtain ⟨h1, h2, h3, h4⟩ := hms.resolve_left h0
  obtain ⟨r, hr, hsz⟩ := laws_szLeft_ev n s t q a m h1 h2 hql hal
  refine ev_bindc hr ?_
  by_cases h : r < 0
  · exact ev_pos h (ev_some _)
  refine ev_neg h ?_
  have h5 : q.length ≤ 1048576 ∧ a.length ≤ 1048576 := by omega
  obtain ⟨z, hz, hz'⟩ := Ledger_same x (l.map convO) n s t q a
  refine Ev.bind (laws_toOutS_ev h3 h4) (Ev.bind (laws_toLeft_ev h5.1 h5.2) (Ev.bind hz (Ev.bind (laws_toOutS_ev h3 h4) (Ev.bind (laws_toLeft_ev h5.1 h5.2) (Ev.bind hz' (ev_pos rfl (Ev.bind (laws_toOutS_ev h3 h4) ?_)))))))
  refine Ev.bind (laws_eqOutS_ev (by rw [List.length_map]; exact h3) fun y hy => ?_) (ev_pos rfl (Ev.bind (laws_toLeft_ev h5.1 h5.2) (Ev.bind (laws_eqLeft_ev h5.1 h5.2) (ev_pos rfl (ev_some _)))))
  obtain ⟨w, hw, rfl⟩ := List.mem_map.1 hy
  exact h4 w hw
end Go.Proofs.Ytnicflgogkakeaa.QFnExactLedger

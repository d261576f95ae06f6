/-
Plain law: what the printed functions answer (CopyI).
-/
import Derived.Test.YtnicflgogkakeaaQFnExactLedgerx3
import Derived.Test.YtnicflgogkakeaaQFnExactLedgerx4
import Derived.Test.YtnicflgogkakeaaK
set_option linter.unusedVariables false
set_option linter.unusedSimpArgs false
namespace Go.Proofs.Ytnicflgogkakeaa.QFnExactLedger
open Go.RowKit Go.Proofs.YtnicflgogkakeaaW.PrintWords Go.Proofs.YtnicflgogkakeaaW.PrintLast Go.Proofs.YtnicflgogkakeaaW.PrintMore Go.Proofs.Ytnicflgogkakeaa.K
theorem laws_toIntS_l0_ev (l : List Int) (hn : l.length ≤ 1048576) : ∀ (d i : Nat) (y : List Int), l.length - i = d → i ≤ l.length → Same 0 l y i →
    Ev (fun k => laws_toIntS.l0 k l y (i : Int)) l := by
  intro d
  induction d with
  | zero =>
    intro i y hd hi hs
    refine Ev.step (fun k => by rw [laws_toIntS.l0]) ?_
    refine ev_neg (by omega) ?_
    rw [hs.done (by omega)]; exact ev_some _
  | succ d ih =>
    intro i y hd hi hs
    have := hs.1
    refine Ev.step (fun k => by rw [laws_toIntS.l0]) ?_
    refine ev_pos (by omega) (ev_pos (by omega) (ev_pos (by omega) ?_))
    rw [wrap_succ (n := l.length) (by omega) (by omega) (by omega)]
    exact ih (i + 1) _ (by omega) (by omega) (hs.step (by omega))
theorem laws_toIntS_ev {l : List Int} (hn : l.length ≤ 1048576) : Ev (fun k => laws_toIntS.f k l) l := by
  unfold laws_toIntS.f
  refine ev_pos (by omega) (ev_pos (by omega) ?_)
  exact laws_toIntS_l0_ev l hn l.length 0 _ (by omega) (by omega) (Same.start (by simp))
theorem laws_eqIntS_l0_ev (l : List Int) (hn : l.length ≤ 281474976710656) : ∀ (d i : Nat), l.length - i = d → i ≤ l.length → Ev (fun k => laws_eqIntS.l0 k l l (i : Int)) true := by
  intro d
  induction d with
  | zero =>
    intro i hd hi
    refine Ev.step (fun k => by rw [laws_eqIntS.l0]) ?_
    exact ev_neg (by omega) (ev_some _)
  | succ d ih =>
    intro i hd hi
    refine Ev.step (fun k => by rw [laws_eqIntS.l0]) ?_
    refine ev_pos (by omega) (ev_pos (by omega) (ev_pos (by omega) (ev_pos rfl ?_)))
    rw [wrap_succ (n := l.length) (by omega) (by omega) (by omega)]
    exact ih (i + 1) (by omega) (by omega)
theorem laws_eqIntS_ev {l : List Int} (hn : l.length ≤ 281474976710656) : Ev (fun k => laws_eqIntS.f k l l) true := by
  unfold laws_eqIntS.f
  exact ev_pos rfl (laws_eqIntS_l0_ev l hn l.length 0 (by omega) (by omega))
end Go.Proofs.Ytnicflgogkakeaa.QFnExactLedger

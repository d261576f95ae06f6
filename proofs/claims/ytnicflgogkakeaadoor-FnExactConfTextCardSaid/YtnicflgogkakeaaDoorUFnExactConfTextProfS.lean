/-
Plain law: what the printed functions answer (ProfS).
-/
import Derived.Test.YtnicflgogkakeaaDoorQFnExactConfTextx10
import Derived.Test.YtnicflgogkakeaaDoorQFnExactConfTextx7
import Derived.Test.YtnicflgogkakeaaDoorK
set_option linter.unusedVariables false
set_option linter.unusedSimpArgs false
namespace Go.Proofs.YtnicflgogkakeaaDoor.QFnExactConfText
open Go.RowKit Go.Proofs.YtnicflgogkakeaaDoorW.PrintWords Go.Proofs.YtnicflgogkakeaaDoorW.PrintLast Go.Proofs.YtnicflgogkakeaaDoorW.PrintMore Go.Proofs.YtnicflgogkakeaaDoor.K
def convP (x : S118) : S87 := ⟨⟨x.f0.f0, x.f0.f1, x.f0.f2⟩, ⟨x.f1.f0, x.f1.f1, x.f1.f2⟩⟩
def SameP (x : List S118) (y : List S87) (i : Nat) : Prop := y.length = x.length ∧ ∀ j, j < i → j < x.length → y.getD j z87 = convP (x.getD j z118)
theorem laws_toProfS_l0_ev (l : List S118) (hn : l.length ≤ 1048576) : ∀ (d i : Nat) (y : List S87), l.length - i = d → i ≤ l.length → SameP l y i →
    Ev (fun k => laws_toProfS.l0 k l y (i : Int)) (l.map convP) := by
  intro d
  induction d with
  | zero =>
    intro i y hd hi hs
    refine Ev.step (fun k => by rw [laws_toProfS.l0]) ?_
    refine ev_neg (by omega) ?_
    have : y = l.map convP := by
      refine List.ext_getElem (by rw [List.length_map]; exact hs.1) fun j h1 h2 => ?_
      rw [List.length_map] at h2
      have := hs.2 j (by omega) h2
      rw [List.getD_eq_getElem?_getD, List.getD_eq_getElem?_getD, List.getElem?_eq_getElem h1, List.getElem?_eq_getElem h2] at this
      rw [List.getElem_map]; exact this
    rw [this]; exact ev_some _
  | succ d ih =>
    intro i y hd hi hs
    have hy := hs.1
    refine Ev.step (fun k => by rw [laws_toProfS.l0]) ?_
    unfold laws_toProf.f laws_toVec.f
    simp only [Option.bind_some]
    refine ev_pos (by omega) (ev_pos (by omega) (ev_pos (by omega) ?_))
    rw [wrap_succ (n := l.length) (by omega) (by omega) (by omega)]
    refine ih (i + 1) _ (by omega) (by omega) ⟨by rw [List.length_set]; exact hy, fun j hj hx => ?_⟩
    rw [List.getD_eq_getElem?_getD, Int.toNat_natCast, List.getElem?_set]
    by_cases e : i = j
    · subst e
      rw [if_pos rfl, if_pos (by omega)]; rfl
    · rw [if_neg e, ← List.getD_eq_getElem?_getD]
      exact hs.2 j (by omega) hx
theorem laws_toProfS_ev {l : List S118} (hn : l.length ≤ 1048576) : Ev (fun k => laws_toProfS.f k l) (l.map convP) := by
  unfold laws_toProfS.f
  exact ev_pos (by omega) (ev_pos (by omega) (laws_toProfS_l0_ev l hn l.length 0 _ (by omega) (by omega) ⟨by simp, fun j hj => absurd hj (by omega)⟩))
theorem laws_eqProfS_l0_ev (l : List S87) (hn : l.length ≤ 1048576) : ∀ (d i : Nat), l.length - i = d → i ≤ l.length → Ev (fun k => laws_eqProfS.l0 k l l (i : Int)) true := by
  intro d
  induction d with
  | zero =>
    intro i hd hi
    refine Ev.step (fun k => by rw [laws_eqProfS.l0]) ?_
    exact ev_neg (by omega) (ev_some _)
  | succ d ih =>
    intro i hd hi
    refine Ev.step (fun k => by rw [laws_eqProfS.l0]) ?_
    refine ev_pos (by omega) (ev_pos (by omega) (ev_pos (by omega) (ev_bindc (a := true) (by simp [laws_eqProf.f, laws_eqVec.f]) (ev_pos rfl ?_))))
    rw [wrap_succ (n := l.length) (by omega) (by omega) (by omega)]
    exact ih (i + 1) (by omega) (by omega)
theorem laws_eqProfS_ev {l : List S87} (hn : l.length ≤ 1048576) : Ev (fun k => laws_eqProfS.f k l l) true := by
  unfold laws_eqProfS.f
  exact ev_pos rfl (laws_eqProfS_l0_ev l hn l.length 0 (by omega) (by omega))
end Go.Proofs.YtnicflgogkakeaaDoor.QFnExactConfText

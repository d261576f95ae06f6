/-
Plain law: what the printed functions answer (NumText).
-/
import Derived.Test.YtnicflgogkakeaaDoorQFnExactConfTextx2
import Derived.Test.YtnicflgogkakeaaDoorQFnExactConfTextx7
import Derived.Test.YtnicflgogkakeaaDoorK
set_option linter.unusedVariables false
set_option linter.unusedSimpArgs false
namespace Go.Proofs.YtnicflgogkakeaaDoor.QFnExactConfText
open Go.RowKit Go.Proofs.YtnicflgogkakeaaDoorW.PrintWords Go.Proofs.YtnicflgogkakeaaDoorW.PrintLast Go.Proofs.YtnicflgogkakeaaDoorW.PrintMore Go.Proofs.YtnicflgogkakeaaDoor.K
theorem spec_NumText_l0_ev (x0 : Int) : ∀ (u : Nat) (acc : List Int) (m : Int), m.natAbs = u → m.natAbs ≤ 9223372036854775808 → -9223372036854775808 ≤ m → m ≤ 9223372036854775807 → acc.length + (digs u).length ≤ 1000 →
    Ev (fun k => spec_NumText.l0 k x0 acc m) (strOfNums ((if x0 < 0 then [45] else []) ++ digs u ++ acc)) := by
  intro u
  induction u using Nat.strongRecOn with
  | _ u ih =>
    intro acc m hm hb h0 h1 hl
    refine Ev.step (fun k => by rw [spec_NumText.l0]) ?_
    by_cases hz : m = 0
    · refine ev_pos hz ?_
      have hu : u = 0 := by omega
      subst hu
      rw [digs_zero] at hl ⊢
      simp only [List.length_nil, Nat.add_zero] at hl
      by_cases hx : x0 < 0
      · refine ev_pos hx (ev_let (ev_pos ?_ ?_))
        · simp only [List.length_cons, List.length_nil]; omega
        · rw [if_pos hx]; exact ev_some _
      · refine ev_neg hx ?_
        rw [if_neg hx]; exact ev_some _
    · refine ev_neg hz ?_
      have hu : u ≠ 0 := by omega
      rw [digs_succ hu] at hl ⊢
      simp only [List.length_append, List.length_cons, List.length_nil] at hl
      have hqr : (Int.tdiv m 10).natAbs = u / 10 ∧ -9223372036854775808 ≤ Int.tdiv m 10 ∧ Int.tdiv m 10 ≤ 9223372036854775807 := by
        by_cases hs : 0 ≤ m
        · rw [tdiv_pos hs]; omega
        · rw [tdiv_neg' (by omega)]; omega
      obtain ⟨hqn, hq0, hq1⟩ := hqr
      have hq : wrap64 (Int.tdiv m 10) = Int.tdiv m 10 := wrap_id hq0 hq1
      have key : ∀ y : Int, y = ((48 + u % 10 : Nat) : Int) → Ev (fun k => (some ([y] : List Int)).bind fun y113 => if y113.length + acc.length < 140737488355328 then spec_NumText.l0 k x0 (y113 ++ acc) (wrap64 (Int.tdiv m 10)) else none) (strOfNums ((if x0 < 0 then [45] else []) ++ (digs (u / 10) ++ [((48 + u % 10 : Nat) : Int)]) ++ acc)) := by
        intro y hy
        subst hy
        refine ev_let (ev_pos (by simp only [List.length_cons, List.length_nil]; omega) ?_)
        rw [hq]
        refine ev_eq (ih (u / 10) (by omega) _ _ hqn (by omega) (by omega) (by omega) (by simp only [List.length_append, List.length_cons, List.length_nil]; omega)) ?_
        simp
      by_cases hn : Int.tmod m 10 < 0
      · refine ev_pos hn (key _ ?_)
        have e : Int.tmod m 10 = -((u % 10 : Nat) : Int) := by
          have hs : m < 0 := by
            rcases Int.lt_or_le m 0 with h | h
            · exact h
            · rw [tmod_pos h] at hn; omega
          rw [tmod_neg' hs]; omega
        rw [e, wrap_id (n := - -((u % 10 : Nat) : Int)) (by omega) (by omega), wrap_id (by omega) (by omega)]
        omega
      · refine ev_neg hn (key _ ?_)
        have e : Int.tmod m 10 = ((u % 10 : Nat) : Int) := by
          rcases Int.lt_or_le m 0 with h | h
          · rw [tmod_neg' h] at hn ⊢; omega
          · rw [tmod_pos h]; omega
        rw [e, wrap_id (by omega) (by omega)]
        omega
theorem spec_NumText_ev {n : Int} (h0 : -9223372036854775808 ≤ n) (h1 : n ≤ 9223372036854775807) : Ev (fun k => spec_NumText.f k n) (numB n) := by
  unfold spec_NumText.f
  by_cases h : n = 0
  · refine ev_pos h ?_
    subst h; rw [numB_zero]; exact ev_some _
  · refine ev_neg h ?_
    have hd := digs_length (u := n.natAbs) (j := 20) (by omega)
    refine ev_eq (spec_NumText_l0_ev n n.natAbs [] n rfl (by omega) h0 h1 (by simp only [List.length_nil]; omega)) ?_
    rw [numB_eq n h, List.append_nil]
theorem impl_NumText_eq {n : Int} (h0 : -9223372036854775808 ≤ n) (h1 : n ≤ 9223372036854775807) : impl_NumText.f n = some (numB n) := by
  unfold impl_NumText.f strconv_Itoa.f
  rw [if_pos ⟨h0, h1⟩]; rfl
end Go.Proofs.YtnicflgogkakeaaDoor.QFnExactConfText

/-
Plain law: what the printed functions answer (OutS).
-/
import Derived.Test.YtnicflgogkakeaaQFnExactLedgerx1
import Derived.Test.YtnicflgogkakeaaQFnExactLedgerx3
import Derived.Test.YtnicflgogkakeaaQFnExactLedgerx5
import Derived.Test.YtnicflgogkakeaaK
import Derived.Test.YtnicflgogkakeaaUFnExactLedgerCopyB
import Derived.Test.YtnicflgogkakeaaUFnExactLedgerCopyI
set_option linter.unusedVariables false
set_option linter.unusedSimpArgs false
namespace Go.Proofs.Ytnicflgogkakeaa.QFnExactLedger
open Go.RowKit Go.Proofs.YtnicflgogkakeaaW.PrintWords Go.Proofs.YtnicflgogkakeaaW.PrintLast Go.Proofs.YtnicflgogkakeaaW.PrintMore Go.Proofs.Ytnicflgogkakeaa.K
def convO (x : S39) : S42 := ⟨x.f0, x.f1, x.f2, x.f3, x.f4⟩
theorem laws_szOut_ev (x : S39) (m : Int) (h0 : 0 ≤ m) (h1 : m ≤ 1048576) (hq : x.f3.length ≤ 9223372036854775807) (ha : x.f4.length ≤ 9223372036854775807) :
    ∃ r, laws_szOut.f x.f0 x.f1 x.f2 x.f3 x.f4 m = some r ∧ (r < 0 ∨ (0 ≤ r ∧ (x.f3.length : Int) + (x.f4.length : Int) + r = m)) := by
  unfold laws_szOut.f laws_szByteS.f laws_szIntS.f
  rw [wrap_id (n := m - (x.f3.length : Int)) (by omega) (by omega)]
  by_cases h : m - (x.f3.length : Int) < 0
  · rw [if_pos h]; exact ⟨-1, by simp, .inl (by omega)⟩
  · rw [if_neg h]
    simp only [Option.bind_some]
    rw [if_neg h, wrap_id (n := m - (x.f3.length : Int) - (x.f4.length : Int)) (by omega) (by omega)]
    by_cases h' : m - (x.f3.length : Int) - (x.f4.length : Int) < 0
    · rw [if_pos h']; exact ⟨-1, by simp, .inl (by omega)⟩
    · rw [if_neg h']
      simp only [Option.bind_some]
      rw [if_neg h']
      exact ⟨_, rfl, .inr ⟨by omega, by omega⟩⟩
/-- The rows inside an element are of the sizes that were let in. -/
def FitO (x : S39) : Prop := x.f3.length ≤ 1048576 ∧ x.f4.length ≤ 1048576
theorem laws_szOutS_l0_ev (l : List S39) (hn : l.length ≤ 1048576) (hl : ∀ x ∈ l, x.f3.length ≤ 9223372036854775807 ∧ x.f4.length ≤ 9223372036854775807) : ∀ (d i : Nat) (m : Int), l.length - i = d → i ≤ l.length → 0 ≤ m → m ≤ 1048576 →
    (∀ j, j < i → FitO (l.getD j z39)) →
    ∃ r, Ev (fun k => laws_szOutS.l0 k l m (i : Int)) r ∧ (r < 0 ∨ (0 ≤ r ∧ r ≤ 1048576 ∧ ∀ x ∈ l, FitO x)) := by
  intro d
  induction d with
  | zero =>
    intro i m hd hi h0 h1 hf
    refine ⟨m, ?_, .inr ⟨h0, h1, fun x hx => ?_⟩⟩
    · refine Ev.step (fun k => by rw [laws_szOutS.l0]) ?_
      exact ev_neg (by omega) (ev_some _)
    obtain ⟨j, hj, rfl⟩ := List.mem_iff_getElem.1 hx
    have := hf j (by omega)
    rwa [List.getD_eq_getElem?_getD, List.getElem?_eq_getElem hj] at this
  | succ d ih =>
    intro i m hd hi h0 h1 hf
    have hm := getD_mem z39 (show i < l.length by omega)
    obtain ⟨r, hr, hs⟩ := laws_szOut_ev (l.getD i z39) m h0 h1 (hl _ hm).1 (hl _ hm).2
    by_cases h : r < 0
    · refine ⟨-1, ?_, .inl (by omega)⟩
      refine Ev.step (fun k => by rw [laws_szOutS.l0]) ?_
      refine ev_pos (by omega) (ev_pos (by omega) (ev_bindc hr ?_))
      exact ev_pos h (ev_some _)
    · obtain ⟨r', hr', hs'⟩ := ih (i + 1) r (by omega) (by omega) (by omega) (by omega) fun j hj => by
        rcases Nat.lt_or_ge j i with h2 | h2
        · exact hf j h2
        · obtain rfl : j = i := by omega
          unfold FitO; omega
      refine ⟨r', ?_, hs'⟩
      refine Ev.step (fun k => by rw [laws_szOutS.l0]) ?_
      refine ev_pos (by omega) (ev_pos (by omega) (ev_bindc hr ?_))
      refine ev_neg h ?_
      rw [wrap_succ (n := l.length) (by omega) (by omega) (by omega)]
      exact hr'
theorem laws_szOutS_ev (l : List S39) (m : Int) (h0 : 0 ≤ m) (h1 : m ≤ 1048576) (hn : l.length ≤ 9223372036854775807) (hl : ∀ x ∈ l, x.f3.length ≤ 9223372036854775807 ∧ x.f4.length ≤ 9223372036854775807) :
    ∃ r, Ev (fun k => laws_szOutS.f k l m) r ∧ (r < 0 ∨ (0 ≤ r ∧ r ≤ 1048576 ∧ l.length ≤ 1048576 ∧ ∀ x ∈ l, FitO x)) := by
  unfold laws_szOutS.f
  rw [wrap_id (n := m - (l.length : Int)) (by omega) (by omega)]
  by_cases h : m - (l.length : Int) < 0
  · exact ⟨-1, ev_pos h (ev_some _), .inl (by omega)⟩
  · obtain ⟨r, hr, hs⟩ := laws_szOutS_l0_ev l (by omega) hl l.length 0 (m - (l.length : Int)) (by omega) (by omega) (by omega) (by omega) (fun j hj => absurd hj (by omega))
    exact ⟨r, ev_neg h hr, hs.imp id fun z => ⟨z.1, z.2.1, by omega, z.2.2⟩⟩
theorem laws_toOut_ev {x : S39} (h : FitO x) : Ev (fun k => laws_toOut.f k x.f0 x.f1 x.f2 x.f3 x.f4) (x.f0, x.f1, x.f2, x.f3, x.f4) := by
  unfold laws_toOut.f
  exact Ev.bind (laws_toByteS_ev h.1) (Ev.bind (laws_toIntS_ev h.2) (ev_some _))
def SameO (x : List S39) (y : List S42) (i : Nat) : Prop := y.length = x.length ∧ ∀ j, j < i → j < x.length → y.getD j z42 = convO (x.getD j z39)
theorem laws_toOutS_l0_ev (l : List S39) (hn : l.length ≤ 1048576) (hl : ∀ x ∈ l, FitO x) : ∀ (d i : Nat) (y : List S42), l.length - i = d → i ≤ l.length → SameO l y i →
    Ev (fun k => laws_toOutS.l0 k l y (i : Int)) (l.map convO) := by
  intro d
  induction d with
  | zero =>
    intro i y hd hi hs
    refine Ev.step (fun k => by rw [laws_toOutS.l0]) ?_
    refine ev_neg (by omega) ?_
    have : y = l.map convO := by
      refine List.ext_getElem (by rw [List.length_map]; exact hs.1) fun j h1 h2 => ?_
      rw [List.length_map] at h2
      have := hs.2 j (by omega) h2
      rw [List.getD_eq_getElem?_getD, List.getD_eq_getElem?_getD, List.getElem?_eq_getElem h1, List.getElem?_eq_getElem h2] at this
      rw [List.getElem_map]; exact this
    rw [this]; exact ev_some _
  | succ d ih =>
    intro i y hd hi hs
    have hy := hs.1
    refine Ev.step (fun k => by rw [laws_toOutS.l0]) ?_
    have hm := getD_mem z39 (show i < l.length by omega)
    refine ev_pos (by omega) (ev_pos (by omega) (Ev.bind (laws_toOut_ev (x := l.getD i z39) (hl _ hm)) (ev_pos (by omega) ?_)))
    rw [wrap_succ (n := l.length) (by omega) (by omega) (by omega)]
    refine ih (i + 1) _ (by omega) (by omega) ⟨by rw [List.length_set]; exact hy, fun j hj hx => ?_⟩
    rw [List.getD_eq_getElem?_getD, Int.toNat_natCast, List.getElem?_set]
    by_cases e : i = j
    · subst e
      rw [if_pos rfl, if_pos (by omega)]; rfl
    · rw [if_neg e, ← List.getD_eq_getElem?_getD]
      exact hs.2 j (by omega) hx
theorem laws_toOutS_ev {l : List S39} (hn : l.length ≤ 1048576) (hl : ∀ x ∈ l, FitO x) : Ev (fun k => laws_toOutS.f k l) (l.map convO) := by
  unfold laws_toOutS.f
  exact ev_pos (by omega) (ev_pos (by omega) (laws_toOutS_l0_ev l hn hl l.length 0 _ (by omega) (by omega) ⟨by simp, fun j hj => absurd hj (by omega)⟩))
theorem laws_eqOutS_l0_ev (l : List S42) (hn : l.length ≤ 1048576) (hl : ∀ x ∈ l, x.f3.length ≤ 1048576 ∧ x.f4.length ≤ 1048576) : ∀ (d i : Nat), l.length - i = d → i ≤ l.length → Ev (fun k => laws_eqOutS.l0 k l l (i : Int)) true := by
  intro d
  induction d with
  | zero =>
    intro i hd hi
    refine Ev.step (fun k => by rw [laws_eqOutS.l0]) ?_
    exact ev_neg (by omega) (ev_some _)
  | succ d ih =>
    intro i hd hi
    refine Ev.step (fun k => by rw [laws_eqOutS.l0]) ?_
    have hm := hl _ (getD_mem z42 (show i < l.length by omega))
    refine ev_pos (by omega) (ev_pos (by omega) (ev_pos (by omega) (Ev.bind (a := true) ?_ (ev_pos rfl ?_))))
    · unfold laws_eqOut.f
      exact ev_pos rfl (ev_pos rfl (ev_pos rfl (Ev.bind (laws_eqByteS_ev (by exact Nat.le_trans hm.1 (by omega))) (ev_pos rfl (Ev.bind (laws_eqIntS_ev (by exact Nat.le_trans hm.2 (by omega))) (ev_pos rfl (ev_some _)))))))
    · rw [wrap_succ (n := l.length) (by omega) (by omega) (by omega)]
      exact ih (i + 1) (by omega) (by omega)
theorem laws_eqOutS_ev {l : List S42} (hn : l.length ≤ 1048576) (hl : ∀ x ∈ l, x.f3.length ≤ 1048576 ∧ x.f4.length ≤ 1048576) : Ev (fun k => laws_eqOutS.f k l l) true := by
  unfold laws_eqOutS.f
  exact ev_pos rfl (laws_eqOutS_l0_ev l hn hl l.length 0 (by omega) (by omega))
end Go.Proofs.Ytnicflgogkakeaa.QFnExactLedger

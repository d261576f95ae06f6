/-
Plain law: what the printed functions answer (EventsOk).
-/
import Derived.Test.YtnicflgogkakeaaDoorQFnExactEventTextx3
import Derived.Test.YtnicflgogkakeaaDoorQFnExactEventTextx5
import Derived.Test.YtnicflgogkakeaaDoorK
set_option linter.unusedVariables false
set_option linter.unusedSimpArgs false
namespace Go.Proofs.YtnicflgogkakeaaDoor.QFnExactEventText
open Go.RowKit Go.Proofs.YtnicflgogkakeaaDoorW.PrintWords Go.Proofs.YtnicflgogkakeaaDoorW.PrintLast Go.Proofs.YtnicflgogkakeaaDoorW.PrintMore Go.Proofs.YtnicflgogkakeaaDoor.K
/-- May an event be in a script, whatever stands before it? -/
def evOk (e : S48) : Bool :=
  let z := decide (e.f3.f0 = 0 ∧ e.f3.f1 = 0 ∧ e.f3.f2 = 0)
  if e.f0 = 1 then decide (e.f1 = 0 ∧ e.f2.length ≤ 2000)
  else if e.f0 = 3 then decide (e.f1 = 0 ∧ e.f2.length ≤ 2000) && z
  else if e.f0 = 2 then decide (1 ≤ e.f1 ∧ e.f1 ≤ 4000 ∧ e.f2.length = 0) && z
  else if e.f0 = 4 then decide (e.f1 = 0 ∧ e.f2.length = 0) && z
  else false
def okFrom : List (S48) → Int → Bool
  | [], _ => true
  | e :: r, left => evOk e && decide (e.f1 ≤ left) && okFrom r (left - e.f1)
def eventsOk (l : List (S48)) : Bool := decide (l.length ≤ 200) && okFrom l 4000
def sumN (l : List (S48)) : Int := l.foldr (fun e s => e.f1 + s) 0
theorem evOk_range {e : S48} (h : evOk e = true) : 0 ≤ e.f1 ∧ e.f1 ≤ 4000 := by
  unfold evOk at h
  split at h
  · simp at h; omega
  · split at h
    · simp at h; omega
    · split at h
      · simp at h; omega
      · split at h
        · simp at h; omega
        · cases h
theorem sumN_nonneg {r : List (S48)} (h : r.all evOk = true) : 0 ≤ sumN r := by
  induction r with
  | nil => exact Int.le_refl _
  | cons e r ih =>
    simp only [List.all_cons, Bool.and_eq_true] at h
    have := ih h.2
    have := evOk_range h.1
    simp only [sumN, List.foldr_cons] at *
    omega
theorem all_sum (r : List (S48)) : ∀ s : Int, 0 ≤ s → s ≤ 4000 → (r.all evOk && decide (s + sumN r ≤ 4000)) = okFrom r (4000 - s) := by
  induction r with
  | nil =>
    intro s h0 h1
    simp [okFrom, sumN]; omega
  | cons e r ih =>
    intro s h0 h1
    have hs : sumN (e :: r) = e.f1 + sumN r := rfl
    rw [List.all_cons, okFrom, hs]
    by_cases he : evOk e = true
    · have hr := evOk_range he
      rw [he]
      by_cases hl : e.f1 ≤ 4000 - s
      · have := ih (s + e.f1) (by omega) (by omega)
        rw [show 4000 - s - e.f1 = 4000 - (s + e.f1) by omega, ← this, show s + (e.f1 + sumN r) = s + e.f1 + sumN r by omega]
        simp [hl]
      · by_cases ha : r.all evOk = true
        · have := sumN_nonneg ha
          simp [hl, ha]; omega
        · simp [hl, ha]
    · simp [he]
theorem impl_within_eq (n lo hi : Int) : impl_within.f n lo hi = some (decide (lo ≤ n ∧ n ≤ hi)) := by
  unfold impl_within.f
  by_cases h : n ≥ lo
  · rw [if_pos h]; simp; omega
  · rw [if_neg h]; simp; omega
theorem impl_eventOk_eq (a0 a1 : Int) (l2 : List Int) (a3 a4 a5 : Int) : impl_eventOk.f a0 a1 l2 a3 a4 a5 = some (evOk ⟨a0, a1, l2, ⟨a3, a4, a5⟩⟩) := by
  unfold impl_eventOk.f evOk
  simp only [impl_within_eq, Option.bind_some]
  have ez : (a3 == 0 && (a4 == 0 && (a5 == 0))) = decide (a3 = 0 ∧ a4 = 0 ∧ a5 = 0) := by
    by_cases h3 : a3 = 0 <;> by_cases h4 : a4 = 0 <;> by_cases h5 : a5 = 0 <;> simp [h3, h4, h5]
  rw [ez]
  by_cases h1 : a0 = 1
  · rw [if_pos h1, if_pos h1]
    by_cases h : a1 = 0
    · rw [if_pos h]; congr 1; simp [h]; omega
    · rw [if_neg h]; simp [h]
  · rw [if_neg h1, if_neg h1]
    by_cases h3 : a0 = 3
    · rw [if_pos h3, if_pos h3]
      by_cases h : a1 = 0
      · rw [if_pos h]
        by_cases hl : (l2.length : Int) ≤ 2000
        · rw [if_pos hl]; simp [h, show l2.length ≤ 2000 by omega]
        · rw [if_neg hl]; simp [show ¬ l2.length ≤ 2000 by omega]
      · rw [if_neg h]; simp [h]
    · rw [if_neg h3, if_neg h3]
      by_cases h2 : a0 = 2
      · rw [if_pos h2, if_pos h2]
        by_cases hn : 1 ≤ a1 ∧ a1 ≤ 4000
        · rw [if_pos (by simpa using hn)]
          by_cases hl : (l2.length : Int) = 0
          · rw [if_pos hl]; congr 1; simp [hn, show l2 = [] from List.length_eq_zero_iff.1 (by omega)]
          · rw [if_neg hl]; congr 1; have : ¬ l2 = [] := fun e => hl (by rw [e]; rfl)
            simp [hn, this]
        · rw [if_neg (by simpa using hn)]; congr 1
          have : ¬ (1 ≤ a1 ∧ a1 ≤ 4000 ∧ l2.length = 0) := fun h => hn ⟨h.1, h.2.1⟩
          rw [decide_eq_false this]; rfl
      · rw [if_neg h2, if_neg h2]
        by_cases h4 : a0 = 4
        · rw [if_pos h4, if_pos h4]
          by_cases h : a1 = 0
          · rw [if_pos h]
            by_cases hl : (l2.length : Int) = 0
            · rw [if_pos hl]; simp [h, show l2 = [] from List.length_eq_zero_iff.1 (by omega)]
            · rw [if_neg hl]; have : ¬ l2 = [] := fun e => hl (by rw [e]; rfl)
              simp [h, this]
          · rw [if_neg h]; simp [h]
        · rw [if_neg h4, if_neg h4]
theorem impl_EventsOk_l0_ev (l : List (S48)) (hn : l.length ≤ 1048576) : ∀ (d i : Nat) (s : Int), l.length - i = d → i ≤ l.length → 0 ≤ s → s + 4000 * d ≤ 9223372036854775807 →
    Ev (fun k => impl_EventsOk.l0 k l s l (l.length : Int) (i : Int)) ((l.drop i).all evOk && decide (l.length ≤ 200) && decide (s + sumN (l.drop i) ≤ 4000)) := by
  intro d
  induction d with
  | zero =>
    intro i s hd hi _ _
    refine Ev.step (fun k => by rw [impl_EventsOk.l0]) ?_
    refine ev_neg (by omega) ?_
    rw [List.drop_of_length_le (by omega)]
    simp only [List.all_nil, Bool.true_and, sumN, List.foldr_nil, Int.add_zero]
    by_cases h : (l.length : Int) ≤ 200
    · refine ev_pos h ?_
      rw [decide_eq_true (show l.length ≤ 200 by omega), Bool.true_and]; exact ev_some _
    · refine ev_neg h ?_
      rw [decide_eq_false (show ¬ l.length ≤ 200 by omega), Bool.false_and]; exact ev_some _
  | succ d ih =>
    intro i s hd hi hs hb
    refine Ev.step (fun k => by rw [impl_EventsOk.l0]) ?_
    refine ev_pos (by omega) (ev_pos (by omega) (ev_pos (by omega) (ev_bindc (impl_eventOk_eq _ _ _ _ _ _) ?_)))
    rw [drop_getD z48 (show i < l.length by omega)]
    have er : rd_T48 l (i : Int) = l.getD i z48 := rfl
    rw [er]
    generalize l.getD i z48 = e
    rw [List.all_cons, show sumN (e :: l.drop (i + 1)) = e.f1 + sumN (l.drop (i + 1)) from rfl]
    have ee : evOk ⟨e.f0, e.f1, e.f2, ⟨e.f3.f0, e.f3.f1, e.f3.f2⟩⟩ = evOk e := rfl
    rw [ee]
    by_cases he : evOk e = true
    · have hr := evOk_range he
      refine ev_pos he ?_
      rw [wrap_succ (n := l.length) (by omega) (by omega) (by omega), wrap_id (n := s + e.f1) (by omega) (by omega), he, Bool.true_and]
      refine ev_eq (ih (i + 1) _ (by omega) (by omega) (by omega) (by omega)) ?_
      rw [show s + (e.f1 + sumN (l.drop (i + 1))) = s + e.f1 + sumN (l.drop (i + 1)) by omega]
    · refine ev_neg he ?_
      rw [Bool.not_eq_true] at he
      rw [he]; exact ev_some _
theorem impl_EventsOk_ev {l : List (S48)} (hn : l.length ≤ 1048576) : Ev (fun k => impl_EventsOk.f k l) (eventsOk l) := by
  unfold impl_EventsOk.f
  refine ev_eq (impl_EventsOk_l0_ev l hn l.length 0 0 (by omega) (by omega) (by omega) (by omega)) ?_
  rw [List.drop_zero]
  have := all_sum l 0 (by omega) (by omega)
  unfold eventsOk
  rw [show (4000 : Int) = 4000 - 0 by omega, ← this]
  cases l.all evOk <;> cases decide (l.length ≤ 200) <;> rfl
theorem spec_EventsOk_j2_ev (l : List (S48)) (left i : Int) (x : Bool) (kd n : Int) (data : List Int) (a b c : Int) (rest : Bool) (h : Ev (fun k => spec_EventsOk.l0 k l (wrap64 (left - n)) (wrap64 (i + 1))) rest) :
    Ev (fun k => spec_EventsOk.j2 k l left i x kd n data a b c) (!x && (decide (kd = 1) || decide (a = 0 ∧ b = 0 ∧ c = 0)) && (decide (data.length = 0) || !(decide (kd = 2) || decide (kd = 4))) && rest) := by
  refine Ev.step (fun k => by rw [spec_EventsOk.j2]) ?_
  cases x with
  | true => exact ev_pos rfl (ev_some _)
  | false =>
    refine ev_neg (by simp) ?_
    have fin : ∀ z : Bool, z = true → Ev (fun k => if kd = 2 then (if (data.length : Int) > 0 then some false else spec_EventsOk.l0 k l (wrap64 (left - n)) (wrap64 (i + 1))) else (if kd = 4 then (if (data.length : Int) > 0 then some false else spec_EventsOk.l0 k l (wrap64 (left - n)) (wrap64 (i + 1))) else spec_EventsOk.l0 k l (wrap64 (left - n)) (wrap64 (i + 1))))
        (!false && z && (decide (data.length = 0) || !(decide (kd = 2) || decide (kd = 4))) && rest) := by
      intro z hz
      subst hz
      by_cases h2 : kd = 2
      · refine ev_pos h2 ?_
        by_cases hd : (data.length : Int) > 0
        · refine ev_pos hd ?_
          rw [decide_eq_true h2, decide_eq_false (show ¬ data.length = 0 by omega)]; exact ev_some _
        · refine ev_neg hd ?_
          rw [decide_eq_true (show data.length = 0 by omega)]; exact h
      · refine ev_neg h2 ?_
        by_cases h4 : kd = 4
        · refine ev_pos h4 ?_
          by_cases hd : (data.length : Int) > 0
          · refine ev_pos hd ?_
            rw [decide_eq_true h4, decide_eq_false (show ¬ data.length = 0 by omega)]; simp; exact ev_some _
          · refine ev_neg hd ?_
            rw [decide_eq_true (show data.length = 0 by omega)]; exact h
        · refine ev_neg h4 ?_
          rw [decide_eq_false h2, decide_eq_false h4]; simpa using h
    by_cases h1 : kd = 1
    · exact ev_pos h1 (fin _ (by simp [h1]))
    · refine ev_neg h1 ?_
      by_cases hz : a = 0 ∧ b = 0 ∧ c = 0
      · refine ev_neg (by obtain ⟨rfl, rfl, rfl⟩ := hz; simp) (fin _ (by simp [hz]))
      · refine ev_pos ?_ ?_
        · by_cases ha : a = 0 <;> by_cases hb : b = 0 <;> by_cases hc : c = 0 <;> simp_all
        · rw [decide_eq_false h1, decide_eq_false hz]; simp; exact ev_some _
theorem spec_EventsOk_j1_ev (l : List (S48)) (left i : Int) (x : Bool) (kd n : Int) (data : List Int) (a b c : Int) (rest : Bool) (h : Ev (fun k => spec_EventsOk.l0 k l (wrap64 (left - n)) (wrap64 (i + 1))) rest) :
    Ev (fun k => spec_EventsOk.j1 k l left i x kd n data a b c) (!x && (if kd = 2 then decide (1 ≤ n ∧ n ≤ left) else decide (n = 0)) && (decide (kd = 1) || decide (a = 0 ∧ b = 0 ∧ c = 0)) && (decide (data.length = 0) || !(decide (kd = 2) || decide (kd = 4))) && rest) := by
  refine Ev.step (fun k => by rw [spec_EventsOk.j1]) ?_
  cases x with
  | true => exact ev_pos rfl (ev_some _)
  | false =>
    refine ev_neg (by simp) ?_
    by_cases h2 : kd = 2
    · refine ev_pos h2 ?_
      rw [if_pos h2]
      by_cases hn : n < 1
      · refine ev_pos hn (ev_eq (spec_EventsOk_j2_ev l left i _ kd n data a b c rest h) ?_)
        rw [decide_eq_false (show ¬ (1 ≤ n ∧ n ≤ left) by omega)]; rfl
      · refine ev_neg hn (ev_eq (spec_EventsOk_j2_ev l left i _ kd n data a b c rest h) ?_)
        congr 4
        by_cases hl : n > left
        · rw [decide_eq_true hl, decide_eq_false (by omega)]; rfl
        · rw [decide_eq_false hl, decide_eq_true (by omega)]; rfl
    · refine ev_neg h2 ?_
      rw [if_neg h2]
      by_cases hn : n = 0
      · refine ev_pos hn (ev_eq (spec_EventsOk_j2_ev l left i _ kd n data a b c rest h) ?_)
        rw [decide_eq_true hn]; rfl
      · refine ev_neg hn (ev_eq (spec_EventsOk_j2_ev l left i _ kd n data a b c rest h) ?_)
        rw [decide_eq_false hn]; rfl
theorem spec_EventsOk_j2_bad (l : List (S48)) (left i : Int) (x : Bool) (kd n : Int) (data : List Int) (a b c : Int) (h : (!x && (decide (kd = 1) || decide (a = 0 ∧ b = 0 ∧ c = 0)) && (decide (data.length = 0) || !(decide (kd = 2) || decide (kd = 4)))) = false) :
    Ev (fun k => spec_EventsOk.j2 k l left i x kd n data a b c) false := by
  refine Ev.step (fun k => by rw [spec_EventsOk.j2]) ?_
  cases x with
  | true => exact ev_pos rfl (ev_some _)
  | false =>
    refine ev_neg (by simp) ?_
    have fin : (decide (data.length = 0) || !(decide (kd = 2) || decide (kd = 4))) = false → Ev (fun k => if kd = 2 then (if (data.length : Int) > 0 then some false else spec_EventsOk.l0 k l (wrap64 (left - n)) (wrap64 (i + 1))) else (if kd = 4 then (if (data.length : Int) > 0 then some false else spec_EventsOk.l0 k l (wrap64 (left - n)) (wrap64 (i + 1))) else spec_EventsOk.l0 k l (wrap64 (left - n)) (wrap64 (i + 1)))) false := by
      intro hf
      simp only [Bool.or_eq_false_iff, decide_eq_false_iff_not, Bool.not_eq_false', Bool.or_eq_true, decide_eq_true_eq] at hf
      by_cases h2 : kd = 2
      · exact ev_pos h2 (ev_pos (by omega) (ev_some _))
      · exact ev_neg h2 (ev_pos (by omega) (ev_pos (by omega) (ev_some _)))
    by_cases h1 : kd = 1
    · refine ev_pos h1 (fin ?_)
      rw [decide_eq_true h1] at h; simpa using h
    · refine ev_neg h1 ?_
      by_cases hz : a = 0 ∧ b = 0 ∧ c = 0
      · refine ev_neg (by obtain ⟨rfl, rfl, rfl⟩ := hz; simp) (fin ?_)
        rw [decide_eq_true hz] at h; simpa using h
      · refine ev_pos ?_ (ev_some _)
        by_cases ha : a = 0 <;> by_cases hb : b = 0 <;> by_cases hc : c = 0 <;> simp_all
theorem spec_EventsOk_j1_bad (l : List (S48)) (left i : Int) (x : Bool) (kd n : Int) (data : List Int) (a b c : Int)
    (h : (!x && (if kd = 2 then decide (1 ≤ n ∧ n ≤ left) else decide (n = 0)) && (decide (kd = 1) || decide (a = 0 ∧ b = 0 ∧ c = 0)) && (decide (data.length = 0) || !(decide (kd = 2) || decide (kd = 4)))) = false) :
    Ev (fun k => spec_EventsOk.j1 k l left i x kd n data a b c) false := by
  refine Ev.step (fun k => by rw [spec_EventsOk.j1]) ?_
  cases x with
  | true => exact ev_pos rfl (ev_some _)
  | false =>
    refine ev_neg (by simp) ?_
    by_cases h2 : kd = 2
    · refine ev_pos h2 ?_
      rw [if_pos h2] at h
      by_cases hn : n < 1
      · exact ev_pos hn (spec_EventsOk_j2_bad l left i _ kd n data a b c rfl)
      · refine ev_neg hn (spec_EventsOk_j2_bad l left i _ kd n data a b c ?_)
        by_cases hl : n > left
        · rw [decide_eq_true hl]; rfl
        · rw [decide_eq_false hl]; rw [decide_eq_true (show 1 ≤ n ∧ n ≤ left by omega)] at h; exact h
    · refine ev_neg h2 ?_
      rw [if_neg h2] at h
      by_cases hn : n = 0
      · refine ev_pos hn (spec_EventsOk_j2_bad l left i _ kd n data a b c ?_)
        rw [decide_eq_true hn] at h; exact h
      · exact ev_neg hn (spec_EventsOk_j2_bad l left i _ kd n data a b c rfl)
theorem evOk_spec (e : S48) (left : Int) (hl : left ≤ 4000) (x : Bool) (hx : x = decide (e.f0 < 1 ∨ e.f0 > 4 ∨ e.f2.length > 2000)) :
    (!x && (if e.f0 = 2 then decide (1 ≤ e.f1 ∧ e.f1 ≤ left) else decide (e.f1 = 0)) && (decide (e.f0 = 1) || decide (e.f3.f0 = 0 ∧ e.f3.f1 = 0 ∧ e.f3.f2 = 0)) && (decide (e.f2.length = 0) || !(decide (e.f0 = 2) || decide (e.f0 = 4)))) = (evOk e && (decide (e.f1 ≤ left) || decide (e.f0 ≠ 2))) := by
  subst hx
  obtain ⟨k, n, d, ⟨a, b, c⟩⟩ := e
  unfold evOk
  simp only
  generalize decide (a = 0 ∧ b = 0 ∧ c = 0) = z
  by_cases h1 : k = 1
  · subst h1; by_cases hn : n = 0 <;> by_cases hd : d.length ≤ 2000 <;> simp [hn, hd] <;> omega
  · by_cases h3 : k = 3
    · subst h3; by_cases hn : n = 0 <;> by_cases hd : d.length ≤ 2000 <;> cases z <;> simp [hn, hd] <;> omega
    · by_cases h2 : k = 2
      · subst h2
        by_cases hn : 1 ≤ n <;> by_cases hm : n ≤ left <;> by_cases hd : d.length = 0 <;> cases z <;> simp [hn, hm, hd] <;> first | omega | (intros; omega)
      · by_cases h4 : k = 4
        · subst h4; by_cases hn : n = 0 <;> by_cases hd : d.length = 0 <;> cases z <;> simp [hn, hd] <;> omega
        · simp only [h1, h2, h3, h4, if_false]
          rw [decide_eq_true (show k < 1 ∨ k > 4 ∨ d.length > 2000 by omega)]; rfl
theorem spec_EventsOk_l0_ev (l : List (S48)) (hn : l.length ≤ 200) : ∀ (d i : Nat) (left : Int), l.length - i = d → i ≤ l.length → 0 ≤ left → left ≤ 4000 →
    Ev (fun k => spec_EventsOk.l0 k l left (i : Int)) (okFrom (l.drop i) left) := by
  intro d
  induction d with
  | zero =>
    intro i left hd hi _ _
    refine Ev.step (fun k => by rw [spec_EventsOk.l0]) ?_
    refine ev_neg (by omega) ?_
    rw [List.drop_of_length_le (by omega)]; exact ev_some _
  | succ d ih =>
    intro i left hd hi h0 h1
    refine Ev.step (fun k => by rw [spec_EventsOk.l0]) ?_
    refine ev_pos (by omega) (ev_pos (by omega) ?_)
    rw [drop_getD z48 (show i < l.length by omega)]
    have er : rd_T48 l (i : Int) = l.getD i z48 := rfl
    rw [er]
    generalize l.getD i z48 = e
    have key : ∀ x : Bool, x = decide (e.f0 < 1 ∨ e.f0 > 4 ∨ e.f2.length > 2000) → Ev (fun k => spec_EventsOk.j1 k l left (i : Int) x e.f0 e.f1 e.f2 e.f3.f0 e.f3.f1 e.f3.f2) (okFrom (e :: l.drop (i + 1)) left) := by
      intro x hx
      rw [okFrom]
      by_cases hok : (evOk e && decide (e.f1 ≤ left)) = true
      · simp only [Bool.and_eq_true, decide_eq_true_eq] at hok
        have hr := evOk_range hok.1
        have hrest : Ev (fun k => spec_EventsOk.l0 k l (wrap64 (left - e.f1)) (wrap64 ((i : Int) + 1))) (okFrom (l.drop (i + 1)) (left - e.f1)) := by
          rw [wrap_succ (n := l.length) (by omega) (by omega) (by omega), wrap_id (n := left - e.f1) (by omega) (by omega)]
          exact ih (i + 1) _ (by omega) (by omega) (by omega) (by omega)
        refine ev_eq (spec_EventsOk_j1_ev l left i x _ _ _ _ _ _ _ hrest) ?_
        rw [evOk_spec e left h1 x hx, decide_eq_true hok.2]; simp
      · refine ev_eq (spec_EventsOk_j1_bad l left i x e.f0 e.f1 e.f2 e.f3.f0 e.f3.f1 e.f3.f2 ?_) ?_
        · rw [evOk_spec e left h1 x hx]
          cases he : evOk e with
          | false => rfl
          | true =>
            have hr := evOk_range he
            rw [he] at hok
            simp only [Bool.true_and, decide_eq_true_eq] at hok ⊢
            rw [decide_eq_false hok, Bool.false_or]
            rw [decide_eq_false_iff_not]
            intro h2
            unfold evOk at he
            simp only [h2, if_false] at he
            split at he
            · simp at he; omega
            · split at he
              · simp at he; omega
              · split at he
                · simp at he; omega
                · cases he
        · rw [Bool.not_eq_true] at hok
          rw [hok]; rfl
    by_cases hk1 : e.f0 < 1
    · exact ev_pos hk1 (key true (by rw [decide_eq_true (Or.inl hk1)]))
    · refine ev_neg hk1 ?_
      by_cases hk4 : e.f0 > 4
      · exact ev_pos hk4 (key true (by rw [decide_eq_true (Or.inr (Or.inl hk4))]))
      · refine ev_neg hk4 (key _ ?_)
        by_cases hd2 : (e.f2.length : Int) > 2000
        · rw [decide_eq_true hd2, decide_eq_true (show e.f0 < 1 ∨ e.f0 > 4 ∨ e.f2.length > 2000 by omega)]
        · rw [decide_eq_false hd2, decide_eq_false (show ¬ (e.f0 < 1 ∨ e.f0 > 4 ∨ e.f2.length > 2000) by omega)]
theorem spec_EventsOk_ev (l : List (S48)) : Ev (fun k => spec_EventsOk.f k l) (eventsOk l) := by
  unfold spec_EventsOk.f eventsOk
  by_cases h : (l.length : Int) > 200
  · refine ev_pos h ?_
    rw [decide_eq_false (show ¬ l.length ≤ 200 by omega)]; exact ev_some _
  · refine ev_neg h ?_
    rw [decide_eq_true (show l.length ≤ 200 by omega), Bool.true_and]
    exact spec_EventsOk_l0_ev l (by omega) l.length 0 4000 (by omega) (by omega) (by omega) (by omega)
end Go.Proofs.YtnicflgogkakeaaDoor.QFnExactEventText

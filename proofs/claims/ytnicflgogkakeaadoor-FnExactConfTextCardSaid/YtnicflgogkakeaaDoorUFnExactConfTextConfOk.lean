/-
Plain law: what the printed functions answer (ConfOk).
-/
import Derived.Test.YtnicflgogkakeaaDoorQFnExactConfTextx2
import Derived.Test.YtnicflgogkakeaaDoorQFnExactConfTextx3
import Derived.Test.YtnicflgogkakeaaDoorQFnExactConfTextx4
import Derived.Test.YtnicflgogkakeaaDoorQFnExactConfTextx5
import Derived.Test.YtnicflgogkakeaaDoorQFnExactConfTextx7
import Derived.Test.YtnicflgogkakeaaDoorQFnExactConfTextx8
import Derived.Test.YtnicflgogkakeaaDoorK
set_option linter.unusedVariables false
set_option linter.unusedSimpArgs false
namespace Go.Proofs.YtnicflgogkakeaaDoor.QFnExactConfText
open Go.RowKit Go.Proofs.YtnicflgogkakeaaDoorW.PrintWords Go.Proofs.YtnicflgogkakeaaDoorW.PrintLast Go.Proofs.YtnicflgogkakeaaDoorW.PrintMore Go.Proofs.YtnicflgogkakeaaDoor.K
def vecP (v : S46) : Prop := (0 ≤ v.f0 ∧ v.f0 ≤ 1000) ∧ (0 ≤ v.f1 ∧ v.f1 ≤ 1000) ∧ (0 ≤ v.f2 ∧ v.f2 ≤ 1000)
instance : DecidablePred vecP := fun _ => by unfold vecP; infer_instance
def profP (p : S87) : Prop := vecP p.f0 ∧ vecP p.f1
instance : DecidablePred profP := fun _ => by unfold profP; infer_instance
def limP (a b c d : Int) : Prop := (1 ≤ a ∧ a ≤ 64) ∧ (1 ≤ b ∧ b ≤ 100000) ∧ (1 ≤ c ∧ c ≤ 1000000) ∧ (0 ≤ d ∧ d ≤ 100000)
instance (a b c d : Int) : Decidable (limP a b c d) := by unfold limP; infer_instance
def tabP (s n : Int) : Prop := (0 ≤ s ∧ s ≤ 4294967295) ∧ (n = 4 ∨ n = 8 ∨ n = 16 ∨ n = 32 ∨ n = 64)
instance (s n : Int) : Decidable (tabP s n) := by unfold tabP; infer_instance
def headP (s n c d i : Int) : Prop := tabP s n ∧ (1 ≤ c ∧ c ≤ 16) ∧ (0 ≤ d ∧ d ≤ 10000000) ∧ (1 ≤ i ∧ i ≤ 1000)
instance (s n c d i : Int) : Decidable (headP s n c d i) := by unfold headP; infer_instance
def confP (s n c d i a b e m : Int) (l : List S87) : Prop := headP s n c d i ∧ limP a b e m ∧ l.length = 7 ∧ ∀ p ∈ l, profP p
instance (s n c d i a b e m : Int) (l : List S87) : Decidable (confP s n c d i a b e m l) := by unfold confP; infer_instance
/-! ### the program -/
theorem within_eq (a b c : Int) : impl_within.f a b c = some (decide (b ≤ a ∧ a ≤ c)) := by
  unfold impl_within.f
  by_cases h : a ≥ b
  · rw [if_pos h]; congr 1; rw [decide_eq_decide]; exact ⟨fun x => ⟨h, x⟩, fun x => x.2⟩
  · rw [if_neg h]; congr 1; exact (decide_eq_false (by omega)).symm
theorem if_some_and {p : Prop} [Decidable p] {o : Option Bool} {q : Prop} [Decidable q] (h : o = some (decide q)) : (if decide p = true then o else some false) = some (decide (p ∧ q)) := by
  subst h
  by_cases hp : p
  · simp [hp]
  · simp [hp]
theorem isFrom_eq (v : S46) : impl_Vec_isFrom.f v.f0 v.f1 v.f2 0 1000 = some (decide (vecP v)) := by
  unfold impl_Vec_isFrom.f
  simp only [within_eq, Option.bind_some]
  exact if_some_and (if_some_and rfl)
theorem impl_ProfOk_eq (p : S87) : impl_ProfOk.f p.f0.f0 p.f0.f1 p.f0.f2 p.f1.f0 p.f1.f1 p.f1.f2 = some (decide (profP p)) := by
  unfold impl_ProfOk.f
  simp only [isFrom_eq, Option.bind_some]
  exact if_some_and rfl
theorem impl_areProfs_1_eq (p : S87) : impl_areProfs_1.f p.f0.f0 p.f0.f1 p.f0.f2 p.f1.f0 p.f1.f1 p.f1.f2 = some (!decide (profP p)) := by
  unfold impl_areProfs_1.f
  simp only [impl_ProfOk_eq, Option.bind_some]
theorem impl_areProfs_eq (l : List S87) : impl_areProfs.f l = some (decide (l.length = 7 ∧ ∀ p ∈ l, profP p)) := by
  unfold impl_areProfs.f impl_Prof_impl_areProfs_1.f
  simp only [impl_areProfs_1_eq]
  by_cases h : l.length = 7
  · rw [if_pos (by omega), if_pos (by simp)]
    simp only [Option.bind_some]
    congr 1
    by_cases h2 : ∀ p ∈ l, profP p
    · rw [decide_eq_true (show l.length = 7 ∧ ∀ p ∈ l, profP p from ⟨h, h2⟩)]
      rw [Bool.not_eq_true', Bool.eq_false_iff]
      intro hc
      obtain ⟨x, hx, hq⟩ := List.any_eq_true.1 hc
      simp [h2 x hx] at hq
    · rw [decide_eq_false (fun c : l.length = 7 ∧ ∀ p ∈ l, profP p => h2 c.2)]
      rw [Bool.not_eq_false', List.any_eq_true]
      refine Classical.byContradiction fun hc => h2 fun p hp => Classical.byContradiction fun hn => hc ⟨p, hp, by simp [hn]⟩
  · rw [if_neg (by omega)]; congr 1
    exact (decide_eq_false fun c => h c.1).symm
theorem isCells_eq (n : Int) : impl_isCells.f n = some (decide (n = 4 ∨ n = 8 ∨ n = 16 ∨ n = 32 ∨ n = 64)) := by
  unfold impl_isCells.f
  by_cases h1 : n = 4
  · simp [h1]
  · by_cases h2 : n = 8
    · simp [h2]
    · by_cases h3 : n = 16
      · simp [h3]
      · by_cases h4 : n = 32
        · simp [h4]
        · by_cases h5 : n = 64
          · simp [h5]
          · simp [h1, h2, h3, h4, h5]
theorem impl_ConfOk_eq (s n c d i a b e m : Int) (t : Bool) (l : List S87) : impl_ConfOk.f s n c d i a b e m t l = some (decide (confP s n c d i a b e m l)) := by
  unfold impl_ConfOk.f impl_isDelta.f impl_LimitsOk.f
  simp only [within_eq, isCells_eq, impl_areProfs_eq, Option.bind_some]
  have hL : (if decide (1 ≤ a ∧ a ≤ 64) = true then (if decide (1 ≤ b ∧ b ≤ 100000) = true then (if decide (1 ≤ e ∧ e ≤ 1000000) = true then some (decide (0 ≤ m ∧ m ≤ 100000)) else some false) else some false) else some false) = some (decide (limP a b e m)) := if_some_and (if_some_and (if_some_and rfl))
  rw [hL]
  simp only [Option.bind_some]
  refine (if_some_and (if_some_and (if_some_and (if_some_and (if_some_and (if_some_and rfl)))))).trans ?_
  congr 1
  rw [decide_eq_decide]
  unfold confP headP tabP
  constructor
  · rintro ⟨h1, h2, h3, h4, h5, h6, h7⟩
    exact ⟨⟨⟨h1, h2⟩, h3, h4, h5⟩, h6, h7⟩
  · rintro ⟨⟨⟨h1, h2⟩, h3, h4, h5⟩, h6, h7⟩
    exact ⟨h1, h2, h3, h4, h5, h6, h7⟩
/-! ### the reference -/
theorem rd_cells (n : Nat) (i : Int) : rd_T137 (List.replicate n z137) i = z137 := by
  unfold rd_T137
  rw [List.getD_eq_getElem?_getD, List.getElem?_replicate]
  split <;> rfl
theorem spec_l11Count_l0_ev (s : Int) (n : Nat) (hn : n ≤ 64) : ∀ (d i : Nat), n - i = d → i ≤ n → Ev (fun k => spec_l11Count.l0 k 0 (i : Int) s (List.replicate n z137)) 0 := by
  intro d
  induction d with
  | zero =>
    intro i hd hi
    refine Ev.step (fun k => by rw [spec_l11Count.l0]) ?_
    exact ev_neg (by rw [List.length_replicate]; omega) (ev_some _)
  | succ d ih =>
    intro i hd hi
    refine Ev.step (fun k => by rw [spec_l11Count.l0]) ?_
    refine ev_pos (by rw [List.length_replicate]; omega) (ev_pos (by omega) ?_)
    rw [rd_cells, show wrap64 ((i : Int) + 1) = ((i + 1 : Nat) : Int) by rw [wrap_succ (n := n) (by omega) (by omega) (by omega)]; omega]
    exact ev_neg (by decide) (ih (i + 1) (by omega) (by omega))
theorem spec_TableOk_l0_ev (s : Int) (n : Nat) (hn : n ≤ 64) : ∀ (d i : Nat), n - i = d → i ≤ n → Ev (fun k => spec_TableOk.l0 k (n : Int) (i : Int) s (List.replicate n z137)) true := by
  intro d
  induction d with
  | zero =>
    intro i hd hi
    refine Ev.step (fun k => by rw [spec_TableOk.l0]) ?_
    exact ev_neg (by omega) (ev_some _)
  | succ d ih =>
    intro i hd hi
    refine Ev.step (fun k => by rw [spec_TableOk.l0]) ?_
    refine ev_pos (by omega) (ev_pos (by omega) (ev_pos (by rw [List.length_replicate]; omega) ?_))
    simp only [rd_cells]
    rw [wrap_succ (n := n) (by omega) (by omega) (by omega)]
    exact ev_neg (by decide) (ih (i + 1) (by omega) (by omega))
theorem spec_TableOk_ev (s : Int) (n : Nat) (hn : 4 ≤ n ∧ n ≤ 64) : Ev (fun k => spec_TableOk.f k s (List.replicate n z137)) (decide (tabP s n)) := by
  have hF : ¬ tabP s n → ∀ m, Ev (fun k => spec_TableOk.j0 k m true s (List.replicate n z137)) (decide (tabP s n)) := fun h m => by
    rw [decide_eq_false h]
    refine Ev.step (fun k => by rw [spec_TableOk.j0]) ?_
    exact ev_pos rfl (ev_some _)
  have hT : tabP s n → Ev (fun k => spec_TableOk.j0 k (n : Int) false s (List.replicate n z137)) (decide (tabP s n)) := fun h => by
    rw [decide_eq_true h]
    refine Ev.step (fun k => by rw [spec_TableOk.j0]) ?_
    refine ev_neg (by decide) (Ev.bind (a := 0) ?_ ?_)
    · unfold spec_l11Count.f
      exact spec_l11Count_l0_ev s n hn.2 n 0 (by omega) (by omega)
    · rw [wrap_id (n := 4 * 0) (by omega) (by omega), wrap_id (n := 3 * (n : Int)) (by omega) (by omega)]
      exact ev_neg (by omega) (spec_TableOk_l0_ev s n hn.2 n 0 (by omega) (by omega))
  unfold spec_TableOk.f
  rw [List.length_replicate]
  by_cases h1 : s < 0
  · exact ev_pos h1 (hF (fun c => by unfold tabP at c; omega) _)
  refine ev_neg h1 ?_
  by_cases h2 : s > 4294967295
  · exact ev_pos h2 (hF (fun c => by unfold tabP at c; omega) _)
  refine ev_neg h2 ?_
  by_cases h4 : (n : Int) = 4
  · exact ev_pos h4 (hT (by unfold tabP; omega))
  refine ev_neg h4 ?_
  by_cases h8 : (n : Int) = 8
  · exact ev_pos h8 (hT (by unfold tabP; omega))
  refine ev_neg h8 ?_
  by_cases h16 : (n : Int) = 16
  · exact ev_pos h16 (hT (by unfold tabP; omega))
  refine ev_neg h16 ?_
  by_cases h32 : (n : Int) = 32
  · exact ev_pos h32 (hT (by unfold tabP; omega))
  refine ev_neg h32 ?_
  by_cases h64 : (n : Int) = 64
  · rw [show ((n : Int) != 64) = false by simp [h64]]
    exact hT (by unfold tabP; omega)
  · rw [show ((n : Int) != 64) = true by simp [h64]]
    exact hF (by unfold tabP; omega) _
theorem spec_TableNew_ev (s n : Int) : ∃ t, Ev (fun k => spec_TableNew.f k s n) t ∧ ((t.2.length : Int) = 0 ↔ ¬ tabP s n) := by
  have hF : ¬ tabP s n → ∃ t, Ev (fun k => spec_TableNew.j0 k s n true) t ∧ ((t.2.length : Int) = 0 ↔ ¬ tabP s n) := fun h => by
    refine ⟨(0, []), ?_, ⟨fun _ => h, fun _ => rfl⟩⟩
    refine Ev.step (fun k => by rw [spec_TableNew.j0]) ?_
    exact ev_pos rfl (ev_some _)
  unfold spec_TableNew.f
  by_cases h1 : n < 4
  · obtain ⟨t, ht, h⟩ := hF (by unfold tabP; omega)
    exact ⟨t, ev_pos h1 ht, h⟩
  · by_cases h2 : n > 64
    · obtain ⟨t, ht, h⟩ := hF (by unfold tabP; omega)
      refine ⟨t, ev_neg h1 ?_, h⟩
      rw [decide_eq_true h2]; exact ht
    · obtain ⟨m, rfl⟩ : ∃ m : Nat, n = m := ⟨n.toNat, by omega⟩
      have hk := spec_TableOk_ev s m ⟨by omega, by omega⟩
      by_cases hp : tabP s m
      · rw [decide_eq_true hp] at hk
        refine ⟨(s, List.replicate m z137), ev_neg h1 ?_, ⟨fun c => absurd c (by rw [List.length_replicate]; omega), fun c => absurd hp c⟩⟩
        rw [decide_eq_false h2]
        refine Ev.step (fun k => by rw [spec_TableNew.j0]) ?_
        exact ev_neg (by decide) (ev_pos (by omega) (ev_pos (by omega) (ev_let (Ev.bind hk (ev_pos rfl (ev_some _))))))
      · rw [decide_eq_false hp] at hk
        refine ⟨(0, []), ev_neg h1 ?_, ⟨fun _ => hp, fun _ => rfl⟩⟩
        rw [decide_eq_false h2]
        refine Ev.step (fun k => by rw [spec_TableNew.j0]) ?_
        exact ev_neg (by decide) (ev_pos (by omega) (ev_pos (by omega) (ev_let (Ev.bind hk (ev_neg (by decide) (ev_some _))))))
theorem spec_LineNew_ev (c : Int) : ∃ t, Ev (fun k => spec_LineNew.f k c) t ∧ (t.1 = 0 ↔ ¬ (1 ≤ c ∧ c ≤ 16)) := by
  unfold spec_LineNew.f
  have hF : ¬ (1 ≤ c ∧ c ≤ 16) → Ev (fun k => spec_LineOk.f k c [] [] []) false → ∃ t, Ev (fun k => (spec_LineOk.f k c [] [] []).bind fun t269 => if t269 = true then some (c, ([] : List S142), ([] : List S142), ([] : List S142)) else some (0, [], [], [])) t ∧ (t.1 = 0 ↔ ¬ (1 ≤ c ∧ c ≤ 16)) := fun h hk =>
    ⟨(0, [], [], []), Ev.bind hk (ev_neg (by decide) (ev_some _)), ⟨fun _ => h, fun _ => rfl⟩⟩
  have hj : Ev (fun k => spec_LineOk.j0 k true c [] [] []) false := by
    refine Ev.step (fun k => by rw [spec_LineOk.j0]) ?_
    exact ev_pos rfl (ev_some _)
  by_cases h1 : c < 1
  · exact hF (by omega) (by unfold spec_LineOk.f; exact ev_pos h1 hj)
  · by_cases h2 : c > 16
    · exact hF (by omega) (by unfold spec_LineOk.f; exact ev_neg h1 (ev_pos h2 hj))
    · refine ⟨(c, [], [], []), Ev.bind (a := true) ?_ (ev_pos rfl (ev_some _)), ⟨fun e => absurd e (show ¬ c = 0 by omega), fun e => absurd e (by omega)⟩⟩
      unfold spec_LineOk.f
      have hz : ¬ ((([] : List S142).length : Int) > c) := by simp only [List.length_nil]; omega
      refine ev_neg h1 (ev_neg h2 (ev_neg hz (ev_neg hz ?_)))
      rw [decide_eq_false hz]
      refine Ev.step (fun k => by rw [spec_LineOk.j0]) ?_
      have e : spec_l21All.f c [] [] [] = some [] := by
        unfold spec_l21All.f
        simp
      refine ev_neg (by decide) (ev_bindc e (ev_neg hz ?_))
      refine Ev.step (fun k => by rw [spec_LineOk.l0]) ?_
      exact ev_neg (by simp) (ev_some _)
theorem sd_f {p : Prop} [Decidable p] (h : ¬ p) : some false = some (decide p) := by rw [decide_eq_false h]
theorem sd_i {p q : Prop} [Decidable p] [Decidable q] (h : p ↔ q) : some (decide p) = some (decide q) := by rw [decide_eq_decide.2 h]
theorem spec_LimitsOk_eq (a b e m : Int) (t : Bool) : spec_LimitsOk.f a b e m t = some (decide (limP a b e m)) := by
  unfold spec_LimitsOk.f
  by_cases h1 : a < 1
  · rw [if_pos h1]; exact sd_f (by unfold limP; omega)
  rw [if_neg h1]
  by_cases h2 : a > 64
  · rw [if_pos h2]; exact sd_f (by unfold limP; omega)
  rw [if_neg h2]
  by_cases h3 : b < 1
  · rw [if_pos h3]; exact sd_f (by unfold limP; omega)
  rw [if_neg h3]
  by_cases h4 : b > 100000
  · rw [if_pos h4]; exact sd_f (by unfold limP; omega)
  rw [if_neg h4]
  by_cases h5 : e ≥ 1
  · rw [if_pos h5]
    by_cases h6 : e ≤ 1000000
    · rw [if_pos h6]
      by_cases h7 : m ≥ 0
      · rw [if_pos h7]; exact sd_i (by unfold limP; omega)
      · rw [if_neg h7]; exact sd_f (by unfold limP; omega)
    · rw [if_neg h6]; exact sd_f (by unfold limP; omega)
  · rw [if_neg h5]; exact sd_f (by unfold limP; omega)
theorem spec_l13All_eq (v : S46) : spec_l13All.f v.f0 v.f1 v.f2 0 1000 = some (decide (vecP v)) := by
  unfold spec_l13All.f
  by_cases h1 : v.f0 ≥ 0
  · rw [if_pos h1]
    by_cases h2 : v.f0 ≤ 1000
    · rw [if_pos h2]
      by_cases h3 : v.f1 ≥ 0
      · rw [if_pos h3]
        by_cases h4 : v.f1 ≤ 1000
        · rw [if_pos h4]
          by_cases h5 : v.f2 ≥ 0
          · rw [if_pos h5]; exact sd_i (by unfold vecP; omega)
          · rw [if_neg h5]; exact sd_f (by unfold vecP; omega)
        · rw [if_neg h4]; exact sd_f (by unfold vecP; omega)
      · rw [if_neg h3]; exact sd_f (by unfold vecP; omega)
    · rw [if_neg h2]; exact sd_f (by unfold vecP; omega)
  · rw [if_neg h1]; exact sd_f (by unfold vecP; omega)
theorem spec_ProfOk_eq (p : S87) : spec_ProfOk.f p.f0.f0 p.f0.f1 p.f0.f2 p.f1.f0 p.f1.f1 p.f1.f2 = some (decide (profP p)) := by
  unfold spec_ProfOk.f
  simp only [spec_l13All_eq, Option.bind_some]
  exact if_some_and rfl
theorem spec_ConfOk_l0_ev (s n c d i a b e m : Int) (t : Bool) (l : List S87) (hl : l.length = 7) : ∀ (q j : Nat), 7 - j = q → j ≤ 7 → (∀ u, u < j → profP (l.getD u z87)) →
    Ev (fun k => spec_ConfOk.l0 k (j : Int) s n c d i a b e m t l) (decide (∀ p ∈ l, profP p)) := by
  intro q
  induction q with
  | zero =>
    intro j hq hj hu
    refine Ev.step (fun k => by rw [spec_ConfOk.l0]) ?_
    rw [decide_eq_true (show ∀ p ∈ l, profP p from fun p hp => by
      obtain ⟨u, hu', rfl⟩ := List.mem_iff_getElem.1 hp
      have := hu u (by omega)
      rwa [List.getD_eq_getElem?_getD, List.getElem?_eq_getElem hu'] at this)]
    exact ev_neg (by omega) (ev_some _)
  | succ q ih =>
    intro j hq hj hu
    refine Ev.step (fun k => by rw [spec_ConfOk.l0]) ?_
    have hk := spec_ProfOk_eq (l.getD j z87)
    by_cases hp : profP (l.getD j z87)
    · rw [decide_eq_true hp] at hk
      refine ev_pos (by omega) (ev_pos (by omega) (ev_pos (by omega) (ev_bindc hk ?_)))
      refine ev_pos rfl ?_
      rw [wrap_succ (n := 7) (by omega) (by omega) (by omega)]
      exact ih (j + 1) (by omega) (by omega) fun u h => by
        rcases Nat.lt_or_ge u j with h2 | h2
        · exact hu u h2
        · obtain rfl : u = j := by omega
          exact hp
    · rw [decide_eq_false hp] at hk
      rw [decide_eq_false (fun c' : ∀ p ∈ l, profP p => hp (c' _ (getD_mem z87 (by omega))))]
      refine ev_pos (by omega) (ev_pos (by omega) (ev_pos (by omega) (ev_bindc hk ?_)))
      exact ev_neg (by decide) (ev_some _)
theorem spec_ConfOk_ev (s n c d i a b e m : Int) (t : Bool) (l : List S87) : Ev (fun k => spec_ConfOk.f k s n c d i a b e m t l) (decide (confP s n c d i a b e m l)) := by
  have hF : ¬ headP s n c d i → Ev (fun k => spec_ConfOk.j0 k true s n c d i a b e m t l) (decide (confP s n c d i a b e m l)) := fun h => by
    rw [decide_eq_false (fun x : confP s n c d i a b e m l => h x.1)]
    refine Ev.step (fun k => by rw [spec_ConfOk.j0]) ?_
    exact ev_pos rfl (ev_some _)
  have hJ : ∀ x : Bool, (x = true → ¬ confP s n c d i a b e m l) → (x = false → l.length = 7 ∧ (confP s n c d i a b e m l ↔ ∀ p ∈ l, profP p)) → Ev (fun k => spec_ConfOk.j1 k x s n c d i a b e m t l) (decide (confP s n c d i a b e m l)) := fun x h1 h2 => by
    refine Ev.step (fun k => by rw [spec_ConfOk.j1]) ?_
    cases x
    · obtain ⟨h3, h4⟩ := h2 rfl
      refine ev_neg (by decide) ?_
      rw [show decide (confP s n c d i a b e m l) = decide (∀ p ∈ l, profP p) from by rw [decide_eq_decide]; exact h4]
      exact spec_ConfOk_l0_ev s n c d i a b e m t l h3 7 0 (by omega) (by omega) (fun u h => absurd h (by omega))
    · rw [decide_eq_false (h1 rfl)]
      exact ev_pos rfl (ev_some _)
  obtain ⟨t1, ht1, hz1⟩ := spec_TableNew_ev s n
  obtain ⟨t2, ht2, hz2⟩ := spec_LineNew_ev c
  unfold spec_ConfOk.f
  refine Ev.bind ht1 ?_
  by_cases h1 : (t1.2.length : Int) = 0
  · exact ev_pos h1 (hF fun x => hz1.1 h1 x.1)
  refine ev_neg h1 (Ev.bind ht2 ?_)
  by_cases h2 : t2.1 = 0
  · exact ev_pos h2 (hF fun x => hz2.1 h2 x.2.1)
  refine ev_neg h2 ?_
  have g1 : tabP s n := Classical.byContradiction fun x => h1 (hz1.2 x)
  have g2 : 1 ≤ c ∧ c ≤ 16 := Classical.byContradiction fun x => h2 (hz2.2 x)
  have hd : spec_l13Delta.f d = some (decide (0 ≤ d ∧ d ≤ 10000000)) := by
    unfold spec_l13Delta.f
    by_cases h : d ≥ 0
    · rw [if_pos h]; congr 1; rw [decide_eq_decide]; omega
    · rw [if_neg h, decide_eq_false (by omega)]
  by_cases g3 : 0 ≤ d ∧ d ≤ 10000000
  · rw [decide_eq_true g3] at hd
    refine ev_bindc hd ?_
    refine ev_pos rfl ?_
    by_cases g4 : i < 1
    · exact ev_pos g4 (hF fun x => by unfold headP at x; omega)
    refine ev_neg g4 ?_
    by_cases g5 : i > 1000
    · rw [decide_eq_true g5]
      exact hF fun x => by unfold headP at x; omega
    rw [decide_eq_false g5]
    have hH : headP s n c d i := ⟨g1, g2, g3, by omega⟩
    refine Ev.step (fun k => by rw [spec_ConfOk.j0]) ?_
    refine ev_neg (by decide) ?_
    have hl := spec_LimitsOk_eq a b e m t
    by_cases g6 : limP a b e m
    · rw [decide_eq_true g6] at hl
      refine ev_bindc hl (ev_pos rfl (hJ _ (fun hx hc => ?_) (fun hx => ?_)))
      · have := hc.2.2.1
        simp [this] at hx
      · have h7 : l.length = 7 := by simp at hx; omega
        exact ⟨h7, ⟨fun hc => hc.2.2.2, fun hc => ⟨hH, g6, h7, hc⟩⟩⟩
    · rw [decide_eq_false g6] at hl
      exact ev_bindc hl (ev_neg (by decide) (hJ _ (fun _ hc => g6 hc.2.1) (fun hx => by cases hx)))
  · rw [decide_eq_false g3] at hd
    refine ev_bindc hd ?_
    exact ev_neg (by decide) (hF fun x => g3 x.2.2.1)
end Go.Proofs.YtnicflgogkakeaaDoor.QFnExactConfText

/-
Plain law: what the printed functions answer (Ledger).
-/
import Derived.Test.YtnicflgogkakeaaQFnExactLedgerx1
import Derived.Test.YtnicflgogkakeaaQFnExactLedgerx2
import Derived.Test.YtnicflgogkakeaaQFnExactLedgerx3
import Derived.Test.YtnicflgogkakeaaQFnExactLedgerx4
import Derived.Test.YtnicflgogkakeaaK
import Derived.Test.YtnicflgogkakeaaUFnExactLedgerLedgerCore
set_option linter.unusedVariables false
set_option linter.unusedSimpArgs false
namespace Go.Proofs.Ytnicflgogkakeaa.QFnExactLedger
open Go.RowKit Go.Proofs.YtnicflgogkakeaaW.PrintWords Go.Proofs.YtnicflgogkakeaaW.PrintLast Go.Proofs.YtnicflgogkakeaaW.PrintMore Go.Proofs.Ytnicflgogkakeaa.K
def goneOf (x : S42) : List Int := if x.f0 = 1 then [x.f1] else if x.f0 = 2 then [x.f1] else []
def gone (l : List S42) : List Int := l.flatMap goneOf
theorem gone_drop {l : List S42} {i : Nat} (h : i < l.length) : gone (l.drop i) = goneOf (l.getD i z42) ++ gone (l.drop (i + 1)) := by
  rw [drop_getD z42 h]; rfl
theorem gone_length : ∀ l : List S42, (gone l).length ≤ l.length
  | [] => Nat.le_refl _
  | x :: r => by
    have e : gone (x :: r) = goneOf x ++ gone r := rfl
    have := gone_length r
    rw [e, List.length_append, List.length_cons]
    unfold goneOf
    split
    · simp only [List.length_cons, List.length_nil]; omega
    · split <;> simp only [List.length_cons, List.length_nil] <;> omega
/-! ### the reference -/
theorem spec_Ledger_l3_ev (n : Nat) (L : List Int) (hn : n ≤ 2000) (hL : L.length ≤ 10000) (hg : ∀ x ∈ L, 0 ≤ x ∧ x < (n : Int)) (C : List Int) (hc : C.length = n) (hC : ∀ j : Int, 0 ≤ j → j < (n : Int) → rd C j = (L.count j : Int)) :
    ∀ (d i : Nat) (f : Int), n - i = d → i ≤ n → (∀ j : Int, 0 ≤ j → j < (i : Int) → L.count j ≤ 1) → ((f = 3 ∧ ∃ j : Int, 0 ≤ j ∧ j < (n : Int) ∧ L.count j = 0) ∨ (f = 0 ∧ ∀ j : Int, 0 ≤ j → j < (i : Int) → L.count j ≠ 0)) →
    ∃ r, Ev (fun k => spec_Ledger.l3 k (n : Int) C f (i : Int)) r ∧ LedgerIs n L r := by
  intro d
  induction d with
  | zero =>
    intro i f hd hi h1 h2
    refine ⟨f, ?_, ?_⟩
    · refine Ev.step (fun k => by rw [spec_Ledger.l3]) ?_
      exact ev_neg (by omega) (ev_some _)
    · obtain rfl : i = n := by omega
      exact LedgerIs.of_counts hg (.inr ⟨h1, h2.elim (fun a => .inl ⟨a.2, a.1⟩) (fun a => .inr ⟨a.2, a.1⟩)⟩)
  | succ d ih =>
    intro i f hd hi h1 h2
    have hr := hC i (by omega) (by omega)
    by_cases hgt : rd C (i : Int) > 1
    · refine ⟨2, ?_, LedgerIs.of_counts hg (.inl ⟨⟨i, by omega, by omega, by omega⟩, rfl⟩)⟩
      refine Ev.step (fun k => by rw [spec_Ledger.l3]) ?_
      exact ev_pos (by omega) (ev_pos (by omega) (ev_pos (by omega) (ev_pos hgt (ev_some _))))
    · have h1' : ∀ j : Int, 0 ≤ j → j < ((i + 1 : Nat) : Int) → L.count j ≤ 1 := fun j h0 hj => by
        by_cases e : j = (i : Int)
        · subst e; omega
        · exact h1 j h0 (by omega)
      by_cases hz : rd C (i : Int) = 0
      · obtain ⟨r, hr', hl⟩ := ih (i + 1) 3 (by clear h2; omega) (by clear h2; omega) h1' (.inl ⟨rfl, i, by omega, by omega, by omega⟩)
        refine ⟨r, ?_, hl⟩
        refine Ev.step (fun k => by rw [spec_Ledger.l3]) ?_
        refine ev_pos (by omega) (ev_pos (by omega) (ev_pos (by omega) (ev_neg hgt (ev_pos hz ?_))))
        rw [wrap_succ (n := n) (by omega) (by omega) (by omega)]
        exact hr'
      · obtain ⟨r, hr', hl⟩ := ih (i + 1) f (by clear h2; omega) (by clear h2; omega) h1' (h2.imp id fun a => ⟨a.1, fun j h0 hj => by
          by_cases e : j = (i : Int)
          · subst e; omega
          · exact a.2 j h0 (by omega)⟩)
        refine ⟨r, ?_, hl⟩
        refine Ev.step (fun k => by rw [spec_Ledger.l3]) ?_
        refine ev_pos (by omega) (ev_pos (by omega) (ev_pos (by omega) (ev_neg hgt (ev_neg hz ?_))))
        rw [wrap_succ (n := n) (by omega) (by omega) (by omega)]
        exact hr'
theorem spec_Ledger_l2_ev (n : Nat) (L : List Int) (hn : n ≤ 2000) (hL : L.length ≤ 10000) (hg : ∀ x ∈ L, 0 ≤ x ∧ x < (n : Int)) :
    ∀ (d i : Nat) (C : List Int), L.length - i = d → i ≤ L.length → C.length = n → (∀ j : Int, 0 ≤ j → j < (n : Int) → rd C j = ((L.take i).count j : Int)) →
    ∃ r, Ev (fun k => spec_Ledger.l2 k (n : Int) L C (i : Int)) r ∧ LedgerIs n L r := by
  intro d
  induction d with
  | zero =>
    intro i C hd hi hc hC
    rw [List.take_of_length_le (by omega)] at hC
    obtain ⟨r, hr, hl⟩ := spec_Ledger_l3_ev n L hn hL hg C hc hC n 0 0 (by omega) (by omega) (fun j h0 hj => absurd hj (by omega)) (.inr ⟨rfl, fun j h0 hj => absurd hj (by omega)⟩)
    refine ⟨r, ?_, hl⟩
    refine Ev.step (fun k => by rw [spec_Ledger.l2]) ?_
    exact ev_neg (by omega) hr
  | succ d ih =>
    intro i C hd hi hc hC
    have hm := rd_of_all hg (i := (i : Int)) (by omega) (by omega)
    have hv := hC _ hm.1 hm.2
    have hcl : (L.take i).count (rd L (i : Int)) ≤ L.length := Nat.le_trans List.count_le_length (by rw [List.length_take]; omega)
    have ht : L.take (i + 1) = L.take i ++ [rd L (i : Int)] := by
      rw [List.take_succ_eq_append_getElem (show i < L.length by omega)]
      congr 1
      unfold rd
      rw [Int.toNat_natCast, List.getD_eq_getElem?_getD, List.getElem?_eq_getElem (show i < L.length by omega)]; rfl
    obtain ⟨r, hr, hl⟩ := ih (i + 1) (C.set (rd L (i : Int)).toNat (wrap64 (rd C (rd L (i : Int)) + 1))) (by omega) (by omega) (by rw [List.length_set]; exact hc) fun j h0 hj => by
      rw [ht, List.count_append, List.count_singleton]
      show (C.set (rd L (i : Int)).toNat (wrap64 (rd C (rd L (i : Int)) + 1))).getD j.toNat 0 = _
      rw [List.getD_eq_getElem?_getD, List.getElem?_set]
      by_cases e : (rd L (i : Int)).toNat = j.toNat
      · have e' : rd L (i : Int) = j := by omega
        rw [if_pos e, if_pos (by rw [e, hc]; omega)]
        have : wrap64 (rd C (rd L (i : Int)) + 1) = rd C (rd L (i : Int)) + 1 := wrap_id (by omega) (by omega)
        show (some (wrap64 (rd C (rd L (i : Int)) + 1))).getD 0 = _
        rw [this, Option.getD_some, hv]
        change (_ : Int) = ((List.count j (L.take i) + (if (rd L (i : Int) == j) = true then 1 else 0) : Nat) : Int)
        rw [e', if_pos (by simp)]
        omega
      · have e' : ¬ rd L (i : Int) = j := fun c => e (by rw [c])
        rw [if_neg e, ← List.getD_eq_getElem?_getD]
        change rd C j = ((List.count j (L.take i) + (if (rd L (i : Int) == j) = true then 1 else 0) : Nat) : Int)
        rw [if_neg (by simpa using e'), hC j h0 hj]
        omega
    refine ⟨r, ?_, hl⟩
    refine Ev.step (fun k => by rw [spec_Ledger.l2]) ?_
    refine ev_pos (by omega) (ev_pos (by omega) (ev_pos hm.1 (ev_pos (by omega) ?_)))
    rw [show wrap64 ((i : Int) + 1) = ((i + 1 : Nat) : Int) by rw [wrap_succ (n := L.length) (by omega) (by omega) (by omega)]; omega]
    exact hr
theorem spec_Ledger_l1_ev (n : Nat) (L : List Int) (hn : n ≤ 2000) (hL : L.length ≤ 10000) :
    ∀ (d i : Nat), L.length - i = d → i ≤ L.length → (∀ j, j < i → 0 ≤ rd L (j : Int) ∧ rd L (j : Int) < (n : Int)) →
    ∃ r, Ev (fun k => spec_Ledger.l1 k (n : Int) L (i : Int)) r ∧ LedgerIs n L r := by
  intro d
  induction d with
  | zero =>
    intro i hd hi hj
    have hg : ∀ x ∈ L, 0 ≤ x ∧ x < (n : Int) := fun x hx => by
      obtain ⟨j, h, rfl⟩ := List.mem_iff_getElem.1 hx
      have := hj j (by omega)
      unfold rd at this
      rwa [Int.toNat_natCast, List.getD_eq_getElem?_getD, List.getElem?_eq_getElem h] at this
    obtain ⟨r, hr, hl⟩ := spec_Ledger_l2_ev n L hn hL hg L.length 0 (List.replicate n 0) (by omega) (by omega) (by simp) (fun j h0 h1 => by
      unfold rd
      rw [List.getD_eq_getElem?_getD, List.getElem?_replicate, if_pos (by omega)]
      simp)
    refine ⟨r, ?_, hl⟩
    refine Ev.step (fun k => by rw [spec_Ledger.l1]) ?_
    exact ev_neg (by omega) (ev_pos (by omega) (ev_pos (by omega) hr))
  | succ d ih =>
    intro i hd hi hj
    have hm : rd L (i : Int) ∈ L := rd_mem (by omega)
    by_cases h0 : rd L (i : Int) < 0
    · refine ⟨1, ?_, ⟨fun _ => rfl, fun hg => absurd (hg _ hm) (by omega)⟩⟩
      refine Ev.step (fun k => by rw [spec_Ledger.l1]) ?_
      exact ev_pos (by omega) (ev_pos (by omega) (ev_pos h0 (ev_some _)))
    · by_cases h1 : rd L (i : Int) ≥ (n : Int)
      · refine ⟨1, ?_, ⟨fun _ => rfl, fun hg => absurd (hg _ hm) (by omega)⟩⟩
        refine Ev.step (fun k => by rw [spec_Ledger.l1]) ?_
        exact ev_pos (by omega) (ev_pos (by omega) (ev_neg h0 (ev_pos h1 (ev_some _))))
      · obtain ⟨r, hr, hl⟩ := ih (i + 1) (by omega) (by omega) fun j h => by
          rcases Nat.lt_or_ge j i with h2 | h2
          · exact hj j h2
          · obtain rfl : j = i := by omega
            omega
        refine ⟨r, ?_, hl⟩
        refine Ev.step (fun k => by rw [spec_Ledger.l1]) ?_
        refine ev_pos (by omega) (ev_pos (by omega) (ev_neg h0 (ev_neg h1 ?_)))
        rw [wrap_succ (n := L.length) (by omega) (by omega) (by omega)]
        exact hr
theorem spec_Ledger_l0_ev (n : Nat) (l : List S42) (hn : n ≤ 2000) (hl : l.length ≤ 2000) (a0 a3 a4 : Int) (q a : List Int) (hq : q.length ≤ 2000) (ha : a.length ≤ 2000) :
    ∀ (d i : Nat) (acc : List Int), l.length - i = d → i ≤ l.length → acc.length ≤ i →
    ∃ r, Ev (fun k => spec_Ledger.l0 k (n : Int) l acc (i : Int) a0 q a a3 a4) r ∧ LedgerIs n (acc ++ gone (l.drop i) ++ q ++ a) r := by
  intro d
  induction d with
  | zero =>
    intro i acc hd hi hac
    rw [List.drop_of_length_le (by omega), show gone [] = [] from rfl, List.append_nil]
    obtain ⟨r, hr, hs⟩ := spec_Ledger_l1_ev n (acc ++ q ++ a) hn (by simp only [List.length_append]; omega) (acc ++ q ++ a).length 0 (by omega) (by omega) (fun j h => absurd h (by omega))
    refine ⟨r, ?_, hs⟩
    refine Ev.step (fun k => by rw [spec_Ledger.l0]) ?_
    exact ev_neg (by omega) (ev_pos (by omega) (ev_let (ev_pos (by simp only [List.length_append]; omega) hr)))
  | succ d ih =>
    intro i acc hd hi hac
    rw [gone_drop (show i < l.length by omega)]
    have hw : wrap64 ((i : Int) + 1) = ((i + 1 : Nat) : Int) := by rw [wrap_succ (n := l.length) (by omega) (by omega) (by omega)]; omega
    have hx : ∀ y : Int, (acc ++ [y]).length ≤ i + 1 := fun y => by simp only [List.length_append, List.length_cons, List.length_nil]; omega
    by_cases h1 : (l.getD i z42).f0 = 1
    · obtain ⟨r, hr, hs⟩ := ih (i + 1) (acc ++ [(l.getD i z42).f1]) (by omega) (by omega) (hx _)
      refine ⟨r, ?_, ?_⟩
      · refine Ev.step (fun k => by rw [spec_Ledger.l0]) ?_
        refine ev_pos (by omega) (ev_pos (by omega) (ev_pos h1 (ev_pos (by omega) ?_)))
        rw [hw]; exact hr
      · rw [show goneOf (l.getD i z42) = [(l.getD i z42).f1] by unfold goneOf; rw [if_pos h1], ← List.append_assoc acc]
        exact hs
    · by_cases h2 : (l.getD i z42).f0 = 2
      · obtain ⟨r, hr, hs⟩ := ih (i + 1) (acc ++ [(l.getD i z42).f1]) (by omega) (by omega) (hx _)
        refine ⟨r, ?_, ?_⟩
        · refine Ev.step (fun k => by rw [spec_Ledger.l0]) ?_
          refine ev_pos (by omega) (ev_pos (by omega) (ev_neg h1 (ev_pos h2 (ev_pos (by omega) ?_))))
          rw [hw]; exact hr
        · rw [show goneOf (l.getD i z42) = [(l.getD i z42).f1] by unfold goneOf; rw [if_neg h1, if_pos h2], ← List.append_assoc acc]
          exact hs
      · obtain ⟨r, hr, hs⟩ := ih (i + 1) acc (by omega) (by omega) (by omega)
        refine ⟨r, ?_, ?_⟩
        · refine Ev.step (fun k => by rw [spec_Ledger.l0]) ?_
          refine ev_pos (by omega) (ev_pos (by omega) (ev_neg h1 (ev_neg h2 ?_)))
          rw [hw]; exact hr
        · rw [show goneOf (l.getD i z42) = [] by unfold goneOf; rw [if_neg h1, if_neg h2], List.nil_append]
          exact hs
/-! ### the program -/
theorem slices_Grow_eq {n : Int} (h0 : 0 ≤ n) (h1 : n ≤ 1000000) : slices_Grow_int_int.f ([] : List Int) n = some [] := by
  unfold slices_Grow_int_int.f
  rw [if_pos ⟨rfl, h0, by omega⟩]
theorem slices_Concat_ev {q a : List Int} (hq : q.length ≤ 2000) (ha : a.length ≤ 2000) : Ev (fun k => slices_Concat_int_int.f k [q, a]) (q ++ a) := by
  have w1 : wrap64 (0 + (q.length : Int)) = (q.length : Int) := by rw [wrap_id (by omega) (by omega)]; omega
  have w2 : wrap64 ((q.length : Int) + (a.length : Int)) = (q.length : Int) + (a.length : Int) := wrap_id (by omega) (by omega)
  unfold slices_Concat_int_int.f
  refine Ev.step (fun k => by rw [slices_Concat_int_int.l0]) ?_
  refine ev_pos (by simp) (ev_pos (by decide) (ev_pos (by simp) ?_))
  rw [show wrap64 (0 + 1) = 1 by rw [wrap_id (by omega) (by omega)]; omega]
  show Ev (fun k => if wrap64 (0 + (q.length : Int)) < 0 then none else slices_Concat_int_int.l0 k [q, a] (wrap64 (0 + (q.length : Int))) [q, a] 2 1) _
  rw [w1]
  refine ev_neg (by omega) ?_
  refine Ev.step (fun k => by rw [slices_Concat_int_int.l0]) ?_
  refine ev_pos (by simp) (ev_pos (by decide) (ev_pos (by simp) ?_))
  rw [show wrap64 (1 + 1) = 2 by rw [wrap_id (by omega) (by omega)]; omega]
  show Ev (fun k => if wrap64 ((q.length : Int) + (a.length : Int)) < 0 then none else slices_Concat_int_int.l0 k [q, a] (wrap64 ((q.length : Int) + (a.length : Int))) [q, a] 2 2) _
  rw [w2]
  refine ev_neg (by omega) ?_
  refine Ev.step (fun k => by rw [slices_Concat_int_int.l0]) ?_
  refine ev_neg (by simp) (ev_bindc (slices_Grow_eq (by omega) (by omega)) ?_)
  refine Ev.step (fun k => by rw [slices_Concat_int_int.l1]) ?_
  refine ev_pos (by simp) (ev_pos (by decide) (ev_pos (by simp) ?_))
  rw [show wrap64 (0 + 1) = 1 by rw [wrap_id (by omega) (by omega)]; omega]
  show Ev (fun k => if ([] : List Int).length + q.length < 17592186044416 then slices_Concat_int_int.l1 k ([] ++ q) [q, a] 2 1 else none) _
  rw [List.nil_append]
  refine ev_pos (by simp only [List.length_nil]; omega) ?_
  refine Ev.step (fun k => by rw [slices_Concat_int_int.l1]) ?_
  refine ev_pos (by simp) (ev_pos (by decide) (ev_pos (by simp) ?_))
  rw [show wrap64 (1 + 1) = 2 by rw [wrap_id (by omega) (by omega)]; omega]
  show Ev (fun k => if q.length + a.length < 17592186044416 then slices_Concat_int_int.l1 k (q ++ a) [q, a] 2 2 else none) _
  refine ev_pos (by omega) ?_
  refine Ev.step (fun k => by rw [slices_Concat_int_int.l1]) ?_
  exact ev_neg (by simp) (ev_some _)
theorem impl_Ledger_j2_ev (n : Int) (S : List Int) (hS : S.length ≤ 10000) (hs : S.Pairwise (· ≤ ·)) (b : Bool)
    (hb : (b = true ∧ 0 < S.length ∧ (rd S 0 < 0 ∨ n ≤ rd S ((S.length : Int) - 1))) ∨ (b = false ∧ (0 < S.length → 0 ≤ rd S 0 ∧ rd S ((S.length : Int) - 1) < n))) :
    ∃ r, Ev (fun k => impl_Ledger.j2 k n S b) r ∧ LedgerIs n S r := by
  rcases hb with ⟨rfl, h0, h1⟩ | ⟨rfl, h1⟩
  · refine ⟨1, ?_, LedgerIs.of_sorted hs (.inl ⟨h0, h1, rfl⟩)⟩
    refine Ev.step (fun k => by rw [impl_Ledger.j2]) ?_
    exact ev_pos rfl (ev_some _)
  · have hcl := (compact_length hs).1
    have e1 : slices_Clone_int_int.f S = some S := by unfold slices_Clone_int_int.f; rw [if_pos (by omega)]
    have e2 : slices_Compact_int_int.f S = some (Lib.compact S) := by unfold slices_Compact_int_int.f; rw [if_pos (by omega)]
    by_cases hc : ((Lib.compact S).length : Int) < (S.length : Int)
    · refine ⟨2, ?_, LedgerIs.of_sorted hs (.inr ⟨h1, .inl ⟨by omega, rfl⟩⟩)⟩
      refine Ev.step (fun k => by rw [impl_Ledger.j2]) ?_
      exact ev_neg (by simp) (ev_bindc e1 (ev_bindc e2 (ev_pos hc (ev_some _))))
    · by_cases hl : (S.length : Int) < n
      · refine ⟨3, ?_, LedgerIs.of_sorted hs (.inr ⟨h1, .inr ⟨by omega, .inl ⟨hl, rfl⟩⟩⟩)⟩
        refine Ev.step (fun k => by rw [impl_Ledger.j2]) ?_
        exact ev_neg (by simp) (ev_bindc e1 (ev_bindc e2 (ev_neg hc (ev_pos hl (ev_some _)))))
      · refine ⟨0, ?_, LedgerIs.of_sorted hs (.inr ⟨h1, .inr ⟨by omega, .inr ⟨hl, rfl⟩⟩⟩)⟩
        refine Ev.step (fun k => by rw [impl_Ledger.j2]) ?_
        exact ev_neg (by simp) (ev_bindc e1 (ev_bindc e2 (ev_neg hc (ev_neg hl (ev_some _)))))
theorem sortedI (M : List Int) : (M.mergeSort fun x y => decide (x ≤ y)).Pairwise (· ≤ ·) := by
  have := List.pairwise_mergeSort (le := fun (x y : Int) => decide (x ≤ y)) (fun a b c h1 h2 => by simp at *; omega) (fun a b => by simp; omega) M
  exact this.imp fun h => of_decide_eq_true h
theorem LedgerIs.of_perm {n : Int} {L M : List Int} {r : Int} (hp : L.Perm M) (h : LedgerIs n L r) : LedgerIs n M r := by
  refine ⟨fun ⟨x, hx, hc⟩ => h.1 ⟨x, hp.mem_iff.2 hx, hc⟩, fun hg => ?_⟩
  have := h.2 fun x hx => hg x (hp.mem_iff.1 hx)
  have hl := hp.length_eq
  exact ⟨fun hd => this.1 fun c => hd (hp.nodup_iff.1 c), fun hd => ⟨fun c => (this.2 (hp.nodup_iff.2 hd)).1 (by omega), fun c => (this.2 (hp.nodup_iff.2 hd)).2 (by omega)⟩⟩
theorem impl_Ledger_l0_ev (n : Int) (l : List S42) (hl : l.length ≤ 2000) : ∀ (d i : Nat) (M : List Int), l.length - i = d → i ≤ l.length → M.length ≤ 4000 + i →
    ∃ r, Ev (fun k => impl_Ledger.l0 k n M l (l.length : Int) (i : Int)) r ∧ LedgerIs n (M ++ gone (l.drop i)) r := by
  intro d
  induction d with
  | zero =>
    intro i M hd hi hM
    rw [List.drop_of_length_le (by omega), show gone [] = [] from rfl, List.append_nil]
    have hp := List.mergeSort_perm M fun x y => decide (x ≤ y)
    have hln := hp.length_eq
    have hs := sortedI M
    have e1 : slices_Sort_int_int.f M = some (M.mergeSort fun x y => decide (x ≤ y)) := by unfold slices_Sort_int_int.f; rw [if_pos (by omega)]
    generalize M.mergeSort (fun x y => decide (x ≤ y)) = S at hp hs e1 hln
    have hw : wrap64 ((M.length : Int) - 1) = (S.length : Int) - 1 := by rw [wrap_id (by omega) (by omega)]; omega
    have key : ∀ b : Bool, ((b = true ∧ 0 < S.length ∧ (rd S 0 < 0 ∨ n ≤ rd S ((S.length : Int) - 1))) ∨ (b = false ∧ (0 < S.length → 0 ≤ rd S 0 ∧ rd S ((S.length : Int) - 1) < n))) → ∃ r, Ev (fun k => impl_Ledger.j2 k n S b) r ∧ LedgerIs n M r := fun b hb => by
      obtain ⟨r, hr, h⟩ := impl_Ledger_j2_ev n S (by omega) hs b hb
      exact ⟨r, hr, h.of_perm hp⟩
    by_cases h0 : (M.length : Int) > 0
    · by_cases h1 : rd S 0 < 0
      · obtain ⟨r, hr, h⟩ := key true (.inl ⟨rfl, by omega, .inl h1⟩)
        refine ⟨r, ?_, h⟩
        refine Ev.step (fun k => by rw [impl_Ledger.l0]) ?_
        refine ev_neg (by omega) (ev_bindc e1 ?_)
        exact ev_pos h0 (ev_pos (by omega) (ev_pos h1 hr))
      · by_cases h2 : n ≤ rd S ((S.length : Int) - 1)
        · obtain ⟨r, hr, h⟩ := key true (.inl ⟨rfl, by omega, .inr h2⟩)
          refine ⟨r, ?_, h⟩
          refine Ev.step (fun k => by rw [impl_Ledger.l0]) ?_
          refine ev_neg (by omega) (ev_bindc e1 ?_)
          rw [hw]
          refine ev_pos h0 (ev_pos (by omega) (ev_neg h1 (ev_pos (by omega) (ev_pos (by omega) ?_))))
          rw [show decide (rd S ((S.length : Int) - 1) ≥ n) = true from decide_eq_true h2]
          exact hr
        · obtain ⟨r, hr, h⟩ := key false (.inr ⟨rfl, fun _ => ⟨by omega, by omega⟩⟩)
          refine ⟨r, ?_, h⟩
          refine Ev.step (fun k => by rw [impl_Ledger.l0]) ?_
          refine ev_neg (by omega) (ev_bindc e1 ?_)
          rw [hw]
          refine ev_pos h0 (ev_pos (by omega) (ev_neg h1 (ev_pos (by omega) (ev_pos (by omega) ?_))))
          rw [show decide (rd S ((S.length : Int) - 1) ≥ n) = false from decide_eq_false h2]
          exact hr
    · obtain ⟨r, hr, h⟩ := key false (.inr ⟨rfl, fun c => absurd c (by omega)⟩)
      refine ⟨r, ?_, h⟩
      refine Ev.step (fun k => by rw [impl_Ledger.l0]) ?_
      refine ev_neg (by omega) (ev_bindc e1 ?_)
      exact ev_neg h0 hr
  | succ d ih =>
    intro i M hd hi hM
    rw [gone_drop (show i < l.length by omega)]
    have hw : wrap64 ((i : Int) + 1) = ((i + 1 : Nat) : Int) := by rw [wrap_succ (n := l.length) (by omega) (by omega) (by omega)]; omega
    have hx : ∀ y : Int, (M ++ [y]).length ≤ 4000 + (i + 1) := fun y => by simp only [List.length_append, List.length_cons, List.length_nil]; omega
    by_cases h1 : (l.getD i z42).f0 = 1
    · obtain ⟨r, hr, hs⟩ := ih (i + 1) (M ++ [(l.getD i z42).f1]) (by omega) (by omega) (hx _)
      refine ⟨r, ?_, ?_⟩
      · refine Ev.step (fun k => by rw [impl_Ledger.l0]) ?_
        refine ev_pos (by omega) (ev_pos (by omega) (ev_pos (by omega) (ev_pos h1 (ev_pos (by omega) ?_))))
        rw [hw]; exact hr
      · rw [show goneOf (l.getD i z42) = [(l.getD i z42).f1] by unfold goneOf; rw [if_pos h1], ← List.append_assoc M]
        exact hs
    · by_cases h2 : (l.getD i z42).f0 = 2
      · obtain ⟨r, hr, hs⟩ := ih (i + 1) (M ++ [(l.getD i z42).f1]) (by omega) (by omega) (hx _)
        refine ⟨r, ?_, ?_⟩
        · refine Ev.step (fun k => by rw [impl_Ledger.l0]) ?_
          refine ev_pos (by omega) (ev_pos (by omega) (ev_pos (by omega) (ev_neg h1 (ev_pos h2 (ev_pos (by omega) ?_)))))
          rw [hw]; exact hr
        · rw [show goneOf (l.getD i z42) = [(l.getD i z42).f1] by unfold goneOf; rw [if_neg h1, if_pos h2], ← List.append_assoc M]
          exact hs
      · obtain ⟨r, hr, hs⟩ := ih (i + 1) M (by omega) (by omega) (by omega)
        refine ⟨r, ?_, ?_⟩
        · refine Ev.step (fun k => by rw [impl_Ledger.l0]) ?_
          refine ev_pos (by omega) (ev_pos (by omega) (ev_pos (by omega) (ev_neg h1 (ev_neg h2 ?_))))
          rw [hw]; exact hr
        · rw [show goneOf (l.getD i z42) = [] by unfold goneOf; rw [if_neg h1, if_neg h2], List.nil_append]
          exact hs
theorem perm_all (g q a : List Int) : ((q ++ a) ++ g).Perm (g ++ q ++ a) := by
  rw [List.append_assoc g]
  exact List.perm_append_comm
/-- Both sides answer alike. -/
theorem Ledger_same (n : Int) (l : List S42) (now st top : Int) (q a : List Int) :
    ∃ r, Ev (fun k => spec_Ledger.f k n l now q a st top) r ∧ Ev (fun k => impl_Ledger.f k n l now q a st top) r := by
  by_cases hfew : l.length ≤ 2000 ∧ 0 ≤ n ∧ n ≤ 2000 ∧ q.length ≤ 2000 ∧ a.length ≤ 2000
  · obtain ⟨hl, h0, h1, hq, ha⟩ := hfew
    obtain ⟨m, rfl⟩ : ∃ m : Nat, n = m := ⟨n.toNat, by omega⟩
    obtain ⟨r, hr, hs⟩ := spec_Ledger_l0_ev m l (by omega) hl now st top q a hq ha l.length 0 [] (by omega) (by omega) (by simp)
    obtain ⟨r', hr', hs'⟩ := impl_Ledger_l0_ev (m : Int) l hl l.length 0 (q ++ a) (by omega) (by omega) (by simp only [List.length_append]; omega)
    obtain rfl : r = r' := hs.perm (perm_all _ _ _).symm hs'
    refine ⟨r, ?_, ?_⟩
    · unfold spec_Ledger.f spec_l24Few.f
      refine ev_let ?_
      refine ev_pos (by simp; omega) (ev_neg (by omega) (ev_neg (by omega) (ev_neg (by omega) ?_)))
      refine Ev.step (fun k => by rw [spec_Ledger.j0]) ?_
      exact ev_neg (by simp; omega) hr
    · unfold impl_Ledger.f impl_within.f impl_areShort.f
      rw [if_pos (show (m : Int) ≥ 0 by omega), if_pos (show (l.length : Int) ≤ 2000 by omega), if_pos (show (q.length : Int) ≤ 2000 by omega)]
      refine ev_let ?_
      refine ev_pos (by simp; omega) (ev_let ?_)
      refine Ev.step (fun k => by rw [impl_Ledger.j0]) ?_
      exact ev_neg (by simp; omega) (Ev.bind (slices_Concat_ev hq ha) hr')
  · refine ⟨-1, ?_, ?_⟩
    · have hj : ∀ b, b = true → Ev (fun k => spec_Ledger.j0 k n l b now q a st top) (-1) := fun b hb => by
        subst hb
        refine Ev.step (fun k => by rw [spec_Ledger.j0]) ?_
        exact ev_pos rfl (ev_some _)
      unfold spec_Ledger.f spec_l24Few.f
      refine ev_let ?_
      by_cases c1 : l.length ≤ 2000
      · refine ev_pos (by simp; omega) ?_
        by_cases c2 : n < 0
        · exact ev_pos c2 (hj _ rfl)
        · refine ev_neg c2 ?_
          by_cases c3 : n > 2000
          · exact ev_pos c3 (hj _ rfl)
          · refine ev_neg c3 ?_
            by_cases c4 : (q.length : Int) > 2000
            · exact ev_pos c4 (hj _ rfl)
            · refine ev_neg c4 (hj _ ?_)
              exact decide_eq_true (by omega)
      · exact ev_neg (by simp; omega) (hj _ rfl)
    · have hj : ∀ b, b = true → Ev (fun k => impl_Ledger.j0 k n l b now q a st top) (-1) := fun b hb => by
        subst hb
        refine Ev.step (fun k => by rw [impl_Ledger.j0]) ?_
        exact ev_pos rfl (ev_some _)
      unfold impl_Ledger.f impl_within.f
      by_cases c2 : n ≥ 0
      · rw [if_pos c2]
        refine ev_let ?_
        by_cases c3 : n ≤ 2000
        · refine ev_pos (decide_eq_true c3) ?_
          have e : impl_areShort.f l now q a st top = some false := by
            unfold impl_areShort.f
            by_cases c4 : (l.length : Int) ≤ 2000
            · rw [if_pos c4]
              by_cases c5 : (q.length : Int) ≤ 2000
              · rw [if_pos c5, decide_eq_false (by omega)]
              · rw [if_neg c5]
            · rw [if_neg c4]
          exact ev_bindc e (hj _ rfl)
        · exact ev_neg (by simp; omega) (hj _ rfl)
      · rw [if_neg c2]
        refine ev_let ?_
        exact ev_neg (by simp) (hj _ rfl)
end Go.Proofs.Ytnicflgogkakeaa.QFnExactLedger

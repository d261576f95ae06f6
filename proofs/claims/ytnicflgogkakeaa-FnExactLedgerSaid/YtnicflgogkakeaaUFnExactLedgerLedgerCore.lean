/-
Plain law: what the printed functions answer (LedgerCore).
-/
import Derived.Test.YtnicflgogkakeaaQFnExactLedgerx3
import Derived.Test.YtnicflgogkakeaaQFnExactLedgerx4
import Derived.Test.YtnicflgogkakeaaK
set_option linter.unusedVariables false
set_option linter.unusedSimpArgs false
namespace Go.Proofs.Ytnicflgogkakeaa.QFnExactLedger
open Go.RowKit Go.Proofs.YtnicflgogkakeaaW.PrintWords Go.Proofs.YtnicflgogkakeaaW.PrintLast Go.Proofs.YtnicflgogkakeaaW.PrintMore Go.Proofs.Ytnicflgogkakeaa.K
/-- What both sides answer of the list of all numbers: 1 where one is out of range, 2 where one occurs twice, 3 where one is lacking, else 0. -/
def LedgerIs (n : Int) (M : List Int) (r : Int) : Prop :=
  ((∃ x ∈ M, x < 0 ∨ n ≤ x) → r = 1) ∧ ((∀ x ∈ M, 0 ≤ x ∧ x < n) → (¬ M.Nodup → r = 2) ∧ (M.Nodup → ((M.length : Int) < n → r = 3) ∧ (n ≤ (M.length : Int) → r = 0)))
theorem LedgerIs.perm {n : Int} {L M : List Int} {r s : Int} (hp : L.Perm M) (h : LedgerIs n L r) (k : LedgerIs n M s) : r = s := by
  by_cases hb : ∃ x ∈ M, x < 0 ∨ n ≤ x
  · obtain ⟨x, hx, hc⟩ := hb
    rw [h.1 ⟨x, hp.mem_iff.2 hx, hc⟩, k.1 ⟨x, hx, hc⟩]
  · have hg : ∀ x ∈ M, 0 ≤ x ∧ x < n := fun x hx => by
      have : ¬ (x < 0 ∨ n ≤ x) := fun c => hb ⟨x, hx, c⟩
      omega
    have h2 := h.2 fun x hx => hg x (hp.mem_iff.1 hx)
    have k2 := k.2 hg
    by_cases hd : M.Nodup
    · have h3 := h2.2 (hp.nodup_iff.2 hd)
      have k3 := k2.2 hd
      have hl := hp.length_eq
      by_cases hlt : (M.length : Int) < n
      · rw [h3.1 (by omega), k3.1 hlt]
      · rw [h3.2 (by omega), k3.2 (by omega)]
    · rw [h2.1 fun c => hd (hp.nodup_iff.1 c), k2.1 hd]
/-- The numbers below n. -/
def upto (n : Nat) : List Int := (List.range n).map fun (i : Nat) => (i : Int)
theorem upto_nodup (n : Nat) : (upto n).Nodup := by
  unfold upto List.Nodup
  rw [List.pairwise_map]
  exact List.nodup_range.imp fun h e => h (by omega)
theorem upto_mem {n : Nat} {x : Int} : x ∈ upto n ↔ 0 ≤ x ∧ x < (n : Int) := by
  unfold upto
  rw [List.mem_map]
  constructor
  · rintro ⟨i, hi, rfl⟩
    rw [List.mem_range] at hi
    omega
  · intro h
    exact ⟨x.toNat, List.mem_range.2 (by omega), by omega⟩
theorem upto_length (n : Nat) : (upto n).length = n := by unfold upto; rw [List.length_map, List.length_range]
theorem lack_iff {n : Nat} {M : List Int} (hg : ∀ x ∈ M, 0 ≤ x ∧ x < (n : Int)) (hd : M.Nodup) : M.length < n ↔ ∃ i : Int, 0 ≤ i ∧ i < (n : Int) ∧ i ∉ M := by
  constructor
  · intro hl
    refine Classical.byContradiction fun hc => ?_
    have hs : upto n ⊆ M := fun x hx => Classical.byContradiction fun hm => hc ⟨x, (upto_mem.1 hx).1, (upto_mem.1 hx).2, hm⟩
    have := (upto_nodup n).length_le_of_subset hs
    rw [upto_length] at this
    omega
  · rintro ⟨i, h0, h1, hm⟩
    have hi : i ∈ upto n := upto_mem.2 ⟨h0, h1⟩
    have hs : M ⊆ (upto n).erase i := fun x hx => (List.mem_erase_of_ne (fun (e : x = i) => hm (e ▸ hx))).2 (upto_mem.2 (hg x hx))
    have := hd.length_le_of_subset hs
    rw [List.length_erase_of_mem hi, upto_length] at this
    omega
/-- From the counts. -/
theorem LedgerIs.of_counts {n : Nat} {L : List Int} (hg : ∀ x ∈ L, 0 ≤ x ∧ x < (n : Int)) {r : Int}
    (h : ((∃ i : Int, 0 ≤ i ∧ i < (n : Int) ∧ 1 < L.count i) ∧ r = 2) ∨ ((∀ i : Int, 0 ≤ i → i < (n : Int) → L.count i ≤ 1) ∧ (((∃ i : Int, 0 ≤ i ∧ i < (n : Int) ∧ L.count i = 0) ∧ r = 3) ∨ ((∀ i : Int, 0 ≤ i → i < (n : Int) → L.count i ≠ 0) ∧ r = 0)))) :
    LedgerIs n L r := by
  refine ⟨fun ⟨x, hx, hc⟩ => absurd (hg x hx) (by omega), fun _ => ?_⟩
  rcases h with ⟨⟨i, h0, h1, h2⟩, rfl⟩ | ⟨h1, h⟩
  · have hnd : ¬ L.Nodup := fun hd => by
      have := List.nodup_iff_count.1 hd i
      omega
    exact ⟨fun _ => rfl, fun hd => absurd hd hnd⟩
  · have hd : L.Nodup := by
      rw [List.nodup_iff_count]
      intro a
      by_cases hm : a ∈ L
      · exact h1 a (hg a hm).1 (hg a hm).2
      · rw [List.count_eq_zero_of_not_mem hm]; omega
    refine ⟨fun c => absurd hd c, fun _ => ?_⟩
    have hk := lack_iff hg hd
    rcases h with ⟨⟨i, h0, h2, h3⟩, rfl⟩ | ⟨h2, rfl⟩
    · have : L.length < n := hk.2 ⟨i, h0, h2, fun hm => by
        have := List.count_pos_iff.2 hm
        omega⟩
      exact ⟨fun _ => rfl, fun hc => by omega⟩
    · refine ⟨fun hc => ?_, fun _ => rfl⟩
      obtain ⟨i, h0, h3, h4⟩ := hk.1 (by omega)
      exact absurd (List.count_eq_zero_of_not_mem h4) (h2 i h0 h3)
/-! ### in sorted order -/
theorem compact_length {S : List Int} (hs : S.Pairwise (· ≤ ·)) : (Lib.compact S).length ≤ S.length ∧ ((Lib.compact S).length < S.length ↔ ¬ S.Nodup) := by
  have e : (Lib.compact S).length = ((List.range S.length).filter (Lib.keeps S.toArray)).length := by
    unfold Lib.compact Lib.compactUpTo
    rw [List.length_map]
  have hle : ((List.range S.length).filter (Lib.keeps S.toArray)).length ≤ (List.range S.length).length := List.length_filter_le _ _
  rw [List.length_range] at hle
  have hget : ∀ i (h : i < S.length), (S.toArray)[i]! = S[i] := fun i h => by
    rw [getElem!_pos S.toArray i (by simpa using h)]; simp
  refine ⟨by omega, ?_⟩
  rw [e]
  have hx := List.length_filter_lt_length_iff_exists (p := Lib.keeps S.toArray) (l := List.range S.length)
  rw [List.length_range] at hx
  rw [hx]
  constructor
  · rintro ⟨j, hj, hk⟩ hd
    rw [List.mem_range] at hj
    have hk' : ¬ (j = 0 ∨ (S.toArray)[j]! ≠ (S.toArray)[j - 1]!) := fun c => hk (by unfold Lib.keeps; exact decide_eq_true c)
    have h0 : j ≠ 0 := fun c => hk' (.inl c)
    rw [hget j hj, hget (j - 1) (by omega)] at hk'
    have := (List.pairwise_iff_getElem.1 hd) (j - 1) j (by omega) hj (by omega)
    exact hk' (.inr fun c => this c.symm)
  · intro hnd
    refine Classical.byContradiction fun hc => hnd ?_
    have hk : ∀ j (hj : j < S.length), 0 < j → S[j - 1]'(by omega) ≠ S[j] := fun j hj h0 c => hc ⟨j, List.mem_range.2 hj, fun hk => by
      unfold Lib.keeps at hk
      have := of_decide_eq_true hk
      rw [hget j hj, hget (j - 1) (by omega)] at this
      rcases this with h | h
      · omega
      · exact h c.symm⟩
    unfold List.Nodup
    rw [List.pairwise_iff_getElem] at hs ⊢
    intro i j hi hj hij heq
    have h1 := hk j hj (by omega)
    have h2 := hs (j - 1) j (by omega) hj (by omega)
    have h3 : S[i] ≤ S[j - 1]'(by omega) := by
      rcases Nat.lt_or_ge i (j - 1) with h | h
      · exact hs i (j - 1) hi (by omega) h
      · have : i = j - 1 := by omega
        subst this; exact Int.le_refl _
    omega
/-- From the sorted list's two ends and the length without runs. -/
theorem LedgerIs.of_sorted {n : Int} {S : List Int} (hs : S.Pairwise (· ≤ ·)) {r : Int}
    (h : (0 < S.length ∧ (rd S 0 < 0 ∨ n ≤ rd S ((S.length : Int) - 1)) ∧ r = 1) ∨ ((0 < S.length → 0 ≤ rd S 0 ∧ rd S ((S.length : Int) - 1) < n) ∧ (((Lib.compact S).length < S.length ∧ r = 2) ∨ (¬ (Lib.compact S).length < S.length ∧ (((S.length : Int) < n ∧ r = 3) ∨ (¬ (S.length : Int) < n ∧ r = 0)))))) :
    LedgerIs n S r := by
  have hr : ∀ i (h : i < S.length), rd S (i : Int) = S[i] := fun i h => by
    unfold rd
    rw [Int.toNat_natCast, List.getD_eq_getElem?_getD, List.getElem?_eq_getElem h]; rfl
  have hz : ∀ (h : 0 < S.length), rd S 0 = S[0] := fun h => hr 0 h
  have hl : ∀ (h : 0 < S.length), rd S ((S.length : Int) - 1) = S[S.length - 1]'(by omega) := fun h => by
    rw [← hr (S.length - 1) (by omega), show ((S.length - 1 : Nat) : Int) = (S.length : Int) - 1 by omega]
  rw [List.pairwise_iff_getElem] at hs
  have hlo : ∀ x ∈ S, ∀ (h : 0 < S.length), S[0] ≤ x ∧ x ≤ S[S.length - 1]'(by omega) := fun x hx h => by
    obtain ⟨j, hj, rfl⟩ := List.mem_iff_getElem.1 hx
    constructor
    · rcases Nat.eq_zero_or_pos j with rfl | h0
      · exact Int.le_refl _
      · exact hs 0 j h hj h0
    · rcases Nat.lt_or_ge j (S.length - 1) with h0 | h0
      · exact hs j (S.length - 1) hj (by omega) h0
      · have : j = S.length - 1 := by omega
        subst this; exact Int.le_refl _
  have hc := (compact_length (List.pairwise_iff_getElem.2 hs)).2
  rcases h with ⟨h0, h1, rfl⟩ | ⟨h1, h2⟩
  · rw [hz h0, hl h0] at h1
    refine ⟨fun _ => rfl, fun hg => ?_⟩
    have a := hg S[0] (List.getElem_mem _)
    have b := hg (S[S.length - 1]'(by omega)) (List.getElem_mem _)
    omega
  · refine ⟨fun ⟨x, hx, hb⟩ => ?_, fun _ => ?_⟩
    · have h0 : 0 < S.length := List.length_pos_of_mem hx
      have a := h1 h0
      rw [hz h0, hl h0] at a
      have b := hlo x hx h0
      omega
    · rcases h2 with ⟨h3, rfl⟩ | ⟨h3, h4⟩
      · exact ⟨fun _ => rfl, fun hd => absurd hd (hc.1 h3)⟩
      · have hd : S.Nodup := Classical.byContradiction fun c => h3 (hc.2 c)
        refine ⟨fun c => absurd hd c, fun _ => ?_⟩
        rcases h4 with ⟨h5, rfl⟩ | ⟨h5, rfl⟩
        · exact ⟨fun _ => rfl, fun c => absurd h5 (by omega)⟩
        · exact ⟨fun c => absurd c h5, fun _ => rfl⟩
end Go.Proofs.Ytnicflgogkakeaa.QFnExactLedger

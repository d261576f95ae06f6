/-
Plain law: what the printed functions answer (HexText).
-/
import Derived.Test.YtnicflgogkakeaaDoorQFnExactEventTextx2
import Derived.Test.YtnicflgogkakeaaDoorQFnExactEventTextx5
import Derived.Test.YtnicflgogkakeaaDoorK
import Derived.Laws.BitsLemmas
set_option linter.unusedVariables false
set_option linter.unusedSimpArgs false
namespace Go.Proofs.YtnicflgogkakeaaDoor.QFnExactEventText
open Go.RowKit Go.Proofs.YtnicflgogkakeaaDoorW.PrintWords Go.Proofs.YtnicflgogkakeaaDoorW.PrintLast Go.Proofs.YtnicflgogkakeaaDoorW.PrintMore Go.Proofs.YtnicflgogkakeaaDoor.K
theorem spec_l01Digit_eq {n : Int} (h0 : 0 ≤ n) (h1 : n ≤ 15) : spec_l01Digit.f n = some (hexd n) := by
  unfold spec_l01Digit.f hexd
  split <;> (rw [wrap_id (by omega) (by omega)]; congr 1; omega)
theorem hexLit {n : Int} (h0 : 0 ≤ n) (h1 : n ≤ 15) : bt (⟨#[48, 49, 50, 51, 52, 53, 54, 55, 56, 57, 97, 98, 99, 100, 101, 102]⟩ : ByteArray) n = hexd n := by
  obtain ⟨j, rfl⟩ : ∃ j : Nat, n = j := ⟨n.toNat, by omega⟩
  have hj : j ≤ 15 := by omega
  have : ∀ j : Nat, j < 16 → bt (⟨#[48, 49, 50, 51, 52, 53, 54, 55, 56, 57, 97, 98, 99, 100, 101, 102]⟩ : ByteArray) (j : Int) = hexd (j : Int) := by decide +kernel
  exact this j (by omega)
theorem spec_HexText_l0_ev (l : List Int) (hw : ∀ x ∈ l, 0 ≤ x ∧ x ≤ 255) (hn : l.length ≤ 4000) : ∀ (d i : Nat) (acc : List Int), l.length - i = d → i ≤ l.length → acc.length + 2 * d ≤ 100000 →
    Ev (fun k => spec_HexText.l0 k l acc (i : Int)) (strOfNums (acc ++ hexL (l.drop i))) := by
  intro d
  induction d with
  | zero =>
    intro i acc hd hi _
    refine Ev.step (fun k => by rw [spec_HexText.l0]) ?_
    refine ev_neg (by omega) ?_
    rw [List.drop_of_length_le (by omega)]
    refine ev_eq (ev_some _) ?_
    simp [hexL]
  | succ d ih =>
    intro i acc hd hi hl
    refine Ev.step (fun k => by rw [spec_HexText.l0]) ?_
    refine ev_pos (by omega) (ev_pos (by omega) ?_)
    obtain ⟨r0, r1⟩ := rd_of_all hw (i := (i : Int)) (by omega) (by omega)
    rw [drop_rd (show i < l.length by omega)]
    generalize rd l (i : Int) = x at r0 r1 ⊢
    rw [wrap_id (n := x) (by omega) (by omega), tdiv_pos r0, tmod_pos r0, wrap_id (n := x / 16) (by omega) (by omega)]
    refine ev_bindc (spec_l01Digit_eq (by omega) (by omega)) (ev_bindc (spec_l01Digit_eq (by omega) (by omega)) (ev_let (ev_pos ?_ ?_)))
    · simp only [List.length_cons, List.length_nil]; omega
    · rw [wrap_succ (n := l.length) (by omega) (by omega) (by omega)]
      refine ev_eq (ih (i + 1) _ (by omega) (by omega) (by simp only [List.length_append, List.length_cons, List.length_nil]; omega)) ?_
      simp [hexL]
theorem spec_HexText_ev {l : List Int} (hw : ∀ x ∈ l, 0 ≤ x ∧ x ≤ 255) : Ev (fun k => spec_HexText.f k l) (hexB l) := by
  unfold spec_HexText.f hexB
  refine ev_ite (fun _ => ev_some _) (fun h => ?_)
  exact spec_HexText_l0_ev l hw (by omega) l.length 0 [] (by omega) (by omega) (by simp only [List.length_nil]; omega)
theorem impl_HexText_l0_ev (l : List Int) (hw : ∀ x ∈ l, 0 ≤ x ∧ x ≤ 255) (hn : l.length ≤ 4000) : ∀ (d i : Nat) (acc : List Int), l.length - i = d → i ≤ l.length → acc.length + 2 * d ≤ 100000 →
    Ev (fun k => impl_HexText.l0 k acc l (l.length : Int) (i : Int)) (strOfNums (acc ++ hexL (l.drop i))) := by
  intro d
  induction d with
  | zero =>
    intro i acc hd hi _
    refine Ev.step (fun k => by rw [impl_HexText.l0]) ?_
    refine ev_neg (by omega) ?_
    rw [List.drop_of_length_le (by omega)]
    refine ev_eq (ev_some _) ?_
    simp [hexL]
  | succ d ih =>
    intro i acc hd hi hl
    refine Ev.step (fun k => by rw [impl_HexText.l0]) ?_
    refine ev_pos (by omega) (ev_pos (by omega) (ev_pos (by omega) ?_))
    obtain ⟨r0, r1⟩ := rd_of_all hw (i := (i : Int)) (by omega) (by omega)
    rw [drop_rd (show i < l.length by omega)]
    generalize rd l (i : Int) = x at r0 r1 ⊢
    rw [u8_and15 x r0 (by omega), hexLit (n := x / 16) (by omega) (by omega), hexLit (n := x % 16) (by omega) (by omega)]
    refine ev_pos (by omega) (ev_pos (by omega) (ev_pos (by omega) (ev_pos (by omega) (ev_let (ev_pos ?_ ?_)))))
    · simp only [List.length_cons, List.length_nil]; omega
    · rw [wrap_succ (n := l.length) (by omega) (by omega) (by omega)]
      refine ev_eq (ih (i + 1) _ (by omega) (by omega) (by simp only [List.length_append, List.length_cons, List.length_nil]; omega)) ?_
      simp [hexL]
theorem impl_HexText_ev {l : List Int} (hw : ∀ x ∈ l, 0 ≤ x ∧ x ≤ 255) : Ev (fun k => impl_HexText.f k l) (hexB l) := by
  unfold impl_HexText.f hexB
  refine ev_ite (fun _ => ev_some _) (fun h => ?_)
  exact impl_HexText_l0_ev l hw (by omega) l.length 0 [] (by omega) (by omega) (by simp only [List.length_nil]; omega)
end Go.Proofs.YtnicflgogkakeaaDoor.QFnExactEventText

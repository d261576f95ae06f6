/-
Plain law: what the printed functions answer (OutText).
-/
import Derived.Test.YtnicflgogkakeaaDoorQFnExactOutTextx2
import Derived.Test.YtnicflgogkakeaaDoorQFnExactOutTextx4
import Derived.Test.YtnicflgogkakeaaDoorK
import Derived.Test.YtnicflgogkakeaaDoorUFnExactOutTextNumText
import Derived.Test.YtnicflgogkakeaaDoorUFnExactOutTextHexText
set_option linter.unusedVariables false
set_option linter.unusedSimpArgs false
namespace Go.Proofs.YtnicflgogkakeaaDoor.QFnExactOutText
open Go.RowKit Go.Proofs.YtnicflgogkakeaaDoorW.PrintWords Go.Proofs.YtnicflgogkakeaaDoorW.PrintLast Go.Proofs.YtnicflgogkakeaaDoorW.PrintMore Go.Proofs.YtnicflgogkakeaaDoor.K
/-- The numbers behind a blank each. -/
def numsB (l : List Int) : ByteArray → ByteArray
  | s => l.foldl (fun s n => s ++ (⟨#[32]⟩ : ByteArray) ++ numB n) s
def outT (kind id code : Int) (data nums : List Int) : ByteArray :=
  if (nums.length : Int) > 100 then (⟨#[]⟩ : ByteArray) else if (data.length : Int) > 4000 then (⟨#[]⟩ : ByteArray) else
  if kind = 1 then (((⟨#[115, 101, 110, 116, 32]⟩ : ByteArray) ++ numB id) ++ (⟨#[32]⟩ : ByteArray)) ++ hexB data
  else if kind = 2 then (((⟨#[100, 114, 111, 112, 32]⟩ : ByteArray) ++ numB id) ++ (⟨#[32]⟩ : ByteArray)) ++ numB code
  else if kind = 3 then (⟨#[114, 101, 112, 108, 121, 32]⟩ : ByteArray) ++ numB code
  else if kind = 4 then numsB nums (⟨#[116, 111, 108, 100]⟩ : ByteArray)
  else (⟨#[]⟩ : ByteArray)
theorem spec_OutText_l0_ev (a b c : Int) (e l : List Int) (hw : ∀ x ∈ l, -9223372036854775808 ≤ x ∧ x ≤ 9223372036854775807) (hn : l.length ≤ 1000) : ∀ (d i : Nat) (s : ByteArray), l.length - i = d → i ≤ l.length → s.size + 30 * d ≤ 1000000 →
    Ev (fun k => spec_OutText.l0 k s (i : Int) a b c e l) (numsB (l.drop i) s) := by
  intro d
  induction d with
  | zero =>
    intro i s hd hi _
    refine Ev.step (fun k => by rw [spec_OutText.l0]) ?_
    refine ev_neg (by omega) ?_
    rw [List.drop_of_length_le (by omega)]; exact ev_some _
  | succ d ih =>
    intro i s hd hi hl
    refine Ev.step (fun k => by rw [spec_OutText.l0]) ?_
    obtain ⟨r0, r1⟩ := rd_of_all hw (i := (i : Int)) (by omega) (by omega)
    have hs := numB_size r0 r1
    refine ev_pos (by omega) (ev_pos (by omega) (ev_pos (by omega) (Ev.bind (spec_NumText_ev r0 r1) (ev_pos (by omega) ?_))))
    rw [wrap_succ (n := l.length) (by omega) (by omega) (by omega), drop_rd (show i < l.length by omega)]
    exact ih (i + 1) _ (by omega) (by omega) (by rw [size_append, size_append]; show s.size + 1 + _ + _ ≤ _; omega)
theorem impl_OutText_l0_ev (l : List Int) (hw : ∀ x ∈ l, -9223372036854775808 ≤ x ∧ x ≤ 9223372036854775807) (hn : l.length ≤ 1000) : ∀ (d i : Nat) (s : ByteArray), l.length - i = d → i ≤ l.length → s.size + 30 * d ≤ 1000000 →
    Ev (fun k => impl_OutText.l0 k s l (l.length : Int) (i : Int)) (numsB (l.drop i) s) := by
  intro d
  induction d with
  | zero =>
    intro i s hd hi _
    refine Ev.step (fun k => by rw [impl_OutText.l0]) ?_
    refine ev_neg (by omega) ?_
    rw [List.drop_of_length_le (by omega)]; exact ev_some _
  | succ d ih =>
    intro i s hd hi hl
    refine Ev.step (fun k => by rw [impl_OutText.l0]) ?_
    obtain ⟨r0, r1⟩ := rd_of_all hw (i := (i : Int)) (by omega) (by omega)
    have hs := numB_size r0 r1
    refine ev_pos (by omega) (ev_pos (by omega) (ev_pos (by omega) (ev_bindc (impl_NumText_eq r0 r1) (ev_pos (by omega) (ev_pos (by omega) ?_)))))
    rw [wrap_succ (n := l.length) (by omega) (by omega) (by omega), drop_rd (show i < l.length by omega)]
    refine ev_eq (ih (i + 1) _ (by omega) (by omega) (by rw [size_append, size_append]; show s.size + (1 + _) + _ ≤ _; omega)) ?_
    rw [← ByteArray.append_assoc]
    rfl
theorem spec_OutText_ev {a b c : Int} {e l : List Int} (hb : -9223372036854775808 ≤ b ∧ b ≤ 9223372036854775807) (hc : -9223372036854775808 ≤ c ∧ c ≤ 9223372036854775807) (he : ∀ x ∈ e, 0 ≤ x ∧ x ≤ 255) (hw : ∀ x ∈ l, -9223372036854775808 ≤ x ∧ x ≤ 9223372036854775807) :
    Ev (fun k => spec_OutText.f k a b c e l) (outT a b c e l) := by
  have hb' := numB_size hb.1 hb.2
  have hc' := numB_size hc.1 hc.2
  have he' := hexB_size e
  unfold spec_OutText.f outT
  refine ev_ite (fun h => ?_) (fun h => ?_)
  · refine Ev.step (fun k => by rw [spec_OutText.j0]) ?_
    exact ev_pos rfl (ev_some _)
  · refine Ev.step (fun k => by rw [spec_OutText.j0]) ?_
    simp only [decide_eq_true_eq]
    refine ev_ite (fun _ => ev_some _) (fun h2 => ?_)
    refine ev_ite (fun _ => ?_) (fun h3 => ev_ite (fun _ => ?_) (fun h4 => ev_ite (fun _ => ?_) (fun h5 => ev_ite (fun _ => ?_) (fun _ => ev_some _))))
    · exact Ev.bind (spec_NumText_ev hb.1 hb.2) (ev_pos (by omega) (ev_pos (by omega) (Ev.bind (spec_HexText_ev he) (ev_pos (by omega) (ev_some _)))))
    · exact Ev.bind (spec_NumText_ev hb.1 hb.2) (ev_pos (by omega) (ev_pos (by omega) (Ev.bind (spec_NumText_ev hc.1 hc.2) (ev_pos (by omega) (ev_some _)))))
    · exact Ev.bind (spec_NumText_ev hc.1 hc.2) (ev_pos (by omega) (ev_some _))
    · exact spec_OutText_l0_ev a b c e l hw (by omega) l.length 0 _ (by omega) (by omega) (by show 4 + _ ≤ _; omega)
theorem impl_OutText_ev {a b c : Int} {e l : List Int} (hb : -9223372036854775808 ≤ b ∧ b ≤ 9223372036854775807) (hc : -9223372036854775808 ≤ c ∧ c ≤ 9223372036854775807) (he : ∀ x ∈ e, 0 ≤ x ∧ x ≤ 255) (hw : ∀ x ∈ l, -9223372036854775808 ≤ x ∧ x ≤ 9223372036854775807) :
    Ev (fun k => impl_OutText.f k a b c e l) (outT a b c e l) := by
  have hb' := numB_size hb.1 hb.2
  have hc' := numB_size hc.1 hc.2
  have he' := hexB_size e
  unfold impl_OutText.f outT
  refine ev_ite (fun h => ?_) (fun h => ?_)
  · refine Ev.step (fun k => by rw [impl_OutText.j0]) ?_
    exact ev_pos rfl (ev_some _)
  · refine Ev.step (fun k => by rw [impl_OutText.j0]) ?_
    simp only [decide_eq_true_eq]
    refine ev_ite (fun _ => ev_some _) (fun h2 => ?_)
    refine ev_ite (fun _ => ?_) (fun h3 => ev_ite (fun _ => ?_) (fun h4 => ev_ite (fun _ => ?_) (fun h5 => ev_ite (fun _ => ?_) (fun _ => ev_some _))))
    · exact ev_bindc (impl_NumText_eq hb.1 hb.2) (ev_pos (by omega) (ev_pos (by omega) (Ev.bind (impl_HexText_ev he) (ev_pos (by omega) (ev_some _)))))
    · exact ev_bindc (impl_NumText_eq hb.1 hb.2) (ev_pos (by omega) (ev_pos (by omega) (ev_bindc (impl_NumText_eq hc.1 hc.2) (ev_pos (by omega) (ev_some _)))))
    · exact ev_bindc (impl_NumText_eq hc.1 hc.2) (ev_pos (by omega) (ev_some _))
    · exact impl_OutText_l0_ev l hw (by omega) l.length 0 _ (by omega) (by omega) (by show 4 + _ ≤ _; omega)
end Go.Proofs.YtnicflgogkakeaaDoor.QFnExactOutText

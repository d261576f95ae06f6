/-
Plain law: what the printed functions answer (EventText).
-/
import Derived.Test.YtnicflgogkakeaaDoorQFnExactEventTextx4
import Derived.Test.YtnicflgogkakeaaDoorQFnExactEventTextx6
import Derived.Test.YtnicflgogkakeaaDoorK
import Derived.Test.YtnicflgogkakeaaDoorUFnExactEventTextVecText
import Derived.Test.YtnicflgogkakeaaDoorUFnExactEventTextHexText
import Derived.Test.YtnicflgogkakeaaDoorUFnExactEventTextEventsOk
set_option linter.unusedVariables false
set_option linter.unusedSimpArgs false
namespace Go.Proofs.YtnicflgogkakeaaDoor.QFnExactEventText
open Go.RowKit Go.Proofs.YtnicflgogkakeaaDoorW.PrintWords Go.Proofs.YtnicflgogkakeaaDoorW.PrintLast Go.Proofs.YtnicflgogkakeaaDoorW.PrintMore Go.Proofs.YtnicflgogkakeaaDoor.K
def evT (kd n : Int) (data : List Int) (a b c : Int) : ByteArray :=
  if (eventsOk [(⟨kd, n, data, ⟨a, b, c⟩⟩ : S48)] && decide (0 ≤ a ∧ a ≤ 999999999999 ∧ 0 ≤ b ∧ b ≤ 999999999999 ∧ 0 ≤ c ∧ c ≤ 999999999999)) = false then (⟨#[]⟩ : ByteArray)
  else if kd = 1 then (((⟨#[102, 114, 97, 109, 101, 32]⟩ : ByteArray) ++ vecB a b c) ++ (⟨#[32]⟩ : ByteArray)) ++ hexB data
  else if kd = 2 then (⟨#[116, 105, 99, 107, 32]⟩ : ByteArray) ++ numB n
  else if kd = 3 then (⟨#[99, 111, 109, 109, 97, 110, 100, 32]⟩ : ByteArray) ++ hexB data
  else (⟨#[97, 115, 107]⟩ : ByteArray)
theorem spec_l13All_eq (a b c lo hi : Int) : spec_l13All.f a b c lo hi = some (decide (lo ≤ a ∧ a ≤ hi ∧ lo ≤ b ∧ b ≤ hi ∧ lo ≤ c ∧ c ≤ hi)) := by
  unfold spec_l13All.f
  repeat' split
  all_goals (congr 1; first | (rw [eq_comm]; rw [decide_eq_false_iff_not]; omega) | (rw [decide_eq_decide]; omega))
theorem impl_isFrom_eq (a b c lo hi : Int) : impl_Vec_isFrom.f a b c lo hi = some (decide (lo ≤ a ∧ a ≤ hi ∧ lo ≤ b ∧ b ≤ hi ∧ lo ≤ c ∧ c ≤ hi)) := by
  unfold impl_Vec_isFrom.f
  simp only [impl_within_eq, Option.bind_some, decide_eq_true_eq]
  repeat' split
  all_goals (congr 1; first | (rw [eq_comm]; rw [decide_eq_false_iff_not]; omega) | (rw [decide_eq_decide]; omega))
theorem evT_ev {g h : Nat → Option ByteArray} {kd n : Int} {data : List Int} {a b c : Int} {x : Bool} (e : x = !(eventsOk [(⟨kd, n, data, ⟨a, b, c⟩⟩ : S48)] && decide (0 ≤ a ∧ a ≤ 999999999999 ∧ 0 ≤ b ∧ b ≤ 999999999999 ∧ 0 ≤ c ∧ c ≤ 999999999999))) {f0 f1 f2 f3 : Nat → Option ByteArray}
    (hf : ∀ k, g (k + 1) = if x = true then some (⟨#[]⟩ : ByteArray) else if kd = 1 then f1 k else if kd = 2 then f2 k else if kd = 3 then f3 k else some (⟨#[97, 115, 107]⟩ : ByteArray))
    (h1 : Ev f1 ((((⟨#[102, 114, 97, 109, 101, 32]⟩ : ByteArray) ++ vecB a b c) ++ (⟨#[32]⟩ : ByteArray)) ++ hexB data)) (h2 : Ev f2 ((⟨#[116, 105, 99, 107, 32]⟩ : ByteArray) ++ numB n)) (h3 : Ev f3 ((⟨#[99, 111, 109, 109, 97, 110, 100, 32]⟩ : ByteArray) ++ hexB data)) : Ev g (evT kd n data a b c) := by
  refine Ev.step hf ?_
  subst e
  unfold evT
  cases (eventsOk [(⟨kd, n, data, ⟨a, b, c⟩⟩ : S48)] && decide (0 ≤ a ∧ a ≤ 999999999999 ∧ 0 ≤ b ∧ b ≤ 999999999999 ∧ 0 ≤ c ∧ c ≤ 999999999999)) with
  | false => exact ev_pos rfl (ev_some _)
  | true =>
    refine ev_neg (by simp) ?_
    rw [if_neg (by simp)]
    exact ev_ite (fun _ => h1) (fun _ => ev_ite (fun _ => h2) (fun _ => ev_ite (fun _ => h3) (fun _ => ev_some _)))
theorem spec_EventText_ev {kd n : Int} {data : List Int} {a b c : Int} (hn : -9223372036854775808 ≤ n ∧ n ≤ 9223372036854775807) (hd : ∀ x ∈ data, 0 ≤ x ∧ x ≤ 255) (ha : -9223372036854775808 ≤ a ∧ a ≤ 9223372036854775807) (hb : -9223372036854775808 ≤ b ∧ b ≤ 9223372036854775807) (hc : -9223372036854775808 ≤ c ∧ c ≤ 9223372036854775807) :
    Ev (fun k => spec_EventText.f k kd n data a b c) (evT kd n data a b c) := by
  have hv := vecB_size ha hb hc
  have hx := hexB_size data
  have hm := numB_size hn.1 hn.2
  have key : ∀ x : Bool, x = !(eventsOk [(⟨kd, n, data, ⟨a, b, c⟩⟩ : S48)] && decide (0 ≤ a ∧ a ≤ 999999999999 ∧ 0 ≤ b ∧ b ≤ 999999999999 ∧ 0 ≤ c ∧ c ≤ 999999999999)) → Ev (fun k => spec_EventText.j0 k x kd n data a b c) (evT kd n data a b c) := by
    intro x hx'
    refine evT_ev (h := fun _ => none) (f0 := fun _ => none) hx' (fun k => by rw [spec_EventText.j0]) ?_ ?_ ?_
    · exact Ev.bind (spec_VecText_ev ha hb hc) (ev_pos (by omega) (ev_pos (by omega) (Ev.bind (spec_HexText_ev hd) (ev_pos (by omega) (ev_some _)))))
    · exact Ev.bind (spec_NumText_ev hn.1 hn.2) (ev_pos (by omega) (ev_some _))
    · exact Ev.bind (spec_HexText_ev hd) (ev_pos (by omega) (ev_some _))
  unfold spec_EventText.f
  refine Ev.bind (spec_EventsOk_ev _) ?_
  cases he : eventsOk [(⟨kd, n, data, ⟨a, b, c⟩⟩ : S48)] with
  | false => exact ev_neg (by simp) (key true (by rw [he]; rfl))
  | true => exact ev_pos rfl (ev_bindc (spec_l13All_eq a b c 0 999999999999) (key _ (by rw [he, Bool.true_and])))
theorem impl_EventText_ev {kd n : Int} {data : List Int} {a b c : Int} (hn : -9223372036854775808 ≤ n ∧ n ≤ 9223372036854775807) (hd : ∀ x ∈ data, 0 ≤ x ∧ x ≤ 255) (ha : -9223372036854775808 ≤ a ∧ a ≤ 9223372036854775807) (hb : -9223372036854775808 ≤ b ∧ b ≤ 9223372036854775807) (hc : -9223372036854775808 ≤ c ∧ c ≤ 9223372036854775807) :
    Ev (fun k => impl_EventText.f k kd n data a b c) (evT kd n data a b c) := by
  have hv := vecB_size ha hb hc
  have hx := hexB_size data
  have hm := numB_size hn.1 hn.2
  have key : ∀ x : Bool, x = !(eventsOk [(⟨kd, n, data, ⟨a, b, c⟩⟩ : S48)] && decide (0 ≤ a ∧ a ≤ 999999999999 ∧ 0 ≤ b ∧ b ≤ 999999999999 ∧ 0 ≤ c ∧ c ≤ 999999999999)) → Ev (fun k => impl_EventText.j0 k x kd n data a b c) (evT kd n data a b c) := by
    intro x hx'
    refine evT_ev (h := fun _ => none) (f0 := fun _ => none) hx' (fun k => by rw [impl_EventText.j0]) ?_ ?_ ?_
    · exact ev_bindc (impl_VecText_eq ha hb hc) (ev_pos (by omega) (ev_pos (by omega) (Ev.bind (impl_HexText_ev hd) (ev_pos (by omega) (ev_some _)))))
    · exact ev_bindc (impl_NumText_eq hn.1 hn.2) (ev_pos (by omega) (ev_some _))
    · exact Ev.bind (impl_HexText_ev hd) (ev_pos (by omega) (ev_some _))
  unfold impl_EventText.f
  refine Ev.bind (impl_EventsOk_ev (by simp)) ?_
  cases he : eventsOk [(⟨kd, n, data, ⟨a, b, c⟩⟩ : S48)] with
  | false => exact ev_neg (by simp) (key true (by rw [he]; rfl))
  | true => exact ev_pos rfl (ev_bindc (impl_isFrom_eq a b c 0 999999999999) (key _ (by rw [he, Bool.true_and])))
end Go.Proofs.YtnicflgogkakeaaDoor.QFnExactEventText

/-
Plain law: what the printed functions answer (LeftText).
-/
import Derived.Test.YtnicflgogkakeaaDoorQFnExactLeftTextx1
import Derived.Test.YtnicflgogkakeaaDoorQFnExactLeftTextx2
import Derived.Test.YtnicflgogkakeaaDoorQFnExactLeftTextx3
import Derived.Test.YtnicflgogkakeaaDoorK
import Derived.Test.YtnicflgogkakeaaDoorUFnExactLeftTextNumText
import Derived.Test.YtnicflgogkakeaaDoorUFnExactLeftTextJoin
set_option linter.unusedVariables false
set_option linter.unusedSimpArgs false
namespace Go.Proofs.YtnicflgogkakeaaDoor.QFnExactLeftText
open Go.RowKit Go.Proofs.YtnicflgogkakeaaDoorW.PrintWords Go.Proofs.YtnicflgogkakeaaDoorW.PrintLast Go.Proofs.YtnicflgogkakeaaDoorW.PrintMore Go.Proofs.YtnicflgogkakeaaDoor.K
def listB : List Int → ByteArray
  | [] => (⟨#[45]⟩ : ByteArray)
  | x :: r => sepB (⟨#[44]⟩ : ByteArray) (numB x) (r.map numB)
theorem listB_size {l : List Int} (hw : ∀ x ∈ l, -9223372036854775808 ≤ x ∧ x ≤ 9223372036854775807) (hn : l.length ≤ 200) : (listB l).size ≤ 6000 := by
  cases l with
  | nil => exact (by decide : (1 : Nat) ≤ 6000)
  | cons x r =>
    have h1 := hw x List.mem_cons_self
    have := sepB_size (⟨#[44]⟩ : ByteArray) 21 (r.map numB) (numB x) fun y hy => by
      obtain ⟨z, hz, rfl⟩ := List.mem_map.1 hy
      have := hw z (List.mem_cons_of_mem _ hz)
      exact numB_size this.1 this.2
    have h2 := numB_size h1.1 h1.2
    have h3 : (⟨#[44]⟩ : ByteArray).size = 1 := rfl
    rw [h3, List.length_map] at this
    simp only [List.length_cons] at hn
    show (sepB _ _ _).size ≤ 6000
    omega
theorem spec_l25List_l0_ev (l : List Int) (hw : ∀ x ∈ l, -9223372036854775808 ≤ x ∧ x ≤ 9223372036854775807) (hn : l.length ≤ 200) : ∀ (d i : Nat) (s : ByteArray), l.length - i = d → i ≤ l.length → s.size + 30 * d ≤ 1000000 →
    Ev (fun k => spec_l25List.l0 k l s (i : Int)) (sepB (⟨#[44]⟩ : ByteArray) s ((l.drop i).map numB)) := by
  intro d
  induction d with
  | zero =>
    intro i s hd hi _
    refine Ev.step (fun k => by rw [spec_l25List.l0]) ?_
    refine ev_neg (by omega) ?_
    rw [List.drop_of_length_le (by omega)]; exact ev_some _
  | succ d ih =>
    intro i s hd hi hl
    refine Ev.step (fun k => by rw [spec_l25List.l0]) ?_
    obtain ⟨r0, r1⟩ := rd_of_all hw (i := (i : Int)) (by omega) (by omega)
    have hs := numB_size r0 r1
    refine ev_pos (by omega) (ev_pos (by omega) (ev_pos (by omega) (Ev.bind (spec_NumText_ev r0 r1) (ev_pos (by omega) ?_))))
    rw [wrap_succ (n := l.length) (by omega) (by omega) (by omega), drop_rd (show i < l.length by omega)]
    exact ih (i + 1) _ (by omega) (by omega) (by rw [size_append, size_append]; show s.size + 1 + _ + _ ≤ _; omega)
theorem spec_l25List_ev {l : List Int} (hw : ∀ x ∈ l, -9223372036854775808 ≤ x ∧ x ≤ 9223372036854775807) (hn : l.length ≤ 200) : Ev (fun k => spec_l25List.f k l) (listB l) := by
  unfold spec_l25List.f
  cases l with
  | nil => exact ev_pos rfl (ev_some _)
  | cons x r =>
    have h1 := hw x List.mem_cons_self
    have h2 := numB_size h1.1 h1.2
    simp only [List.length_cons] at hn
    refine ev_neg (by simp only [List.length_cons]; omega) (ev_pos (by simp only [List.length_cons]; omega) (Ev.bind (a := numB x) (spec_NumText_ev h1.1 h1.2) ?_))
    exact spec_l25List_l0_ev (x :: r) hw (by simp only [List.length_cons]; omega) r.length 1 _ (by simp only [List.length_cons]; omega) (by simp only [List.length_cons]; omega) (by omega)
theorem impl_listText_l0_ev (l : List Int) (hw : ∀ x ∈ l, -9223372036854775808 ≤ x ∧ x ≤ 9223372036854775807) (hn : l.length ≤ 200) : ∀ (d i : Nat) (acc : List ByteArray), l.length - i = d → i ≤ l.length → acc = (l.take i).map numB →
    Ev (fun k => impl_listText.l0 k acc l (l.length : Int) (i : Int)) (listB l) := by
  intro d
  induction d with
  | zero =>
    intro i acc hd hi ha
    refine Ev.step (fun k => by rw [impl_listText.l0]) ?_
    refine ev_neg (by omega) ?_
    rw [List.take_of_length_le (by omega)] at ha
    subst ha
    cases l with
    | nil => exact ev_pos rfl (ev_some _)
    | cons x r =>
      have hs := listB_size hw hn
      have e : joinB ((x :: r).map numB) (⟨#[44]⟩ : ByteArray) = listB (x :: r) := by rw [List.map_cons, joinB_cons]; rfl
      refine ev_neg (by simp only [List.length_map, List.length_cons]; omega) (ev_bindc (strings_Join_eq (by rw [e]; omega) (by simp only [List.length_map]; omega)) ?_)
      rw [e]; exact ev_some _
  | succ d ih =>
    intro i acc hd hi ha
    refine Ev.step (fun k => by rw [impl_listText.l0]) ?_
    obtain ⟨r0, r1⟩ := rd_of_all hw (i := (i : Int)) (by omega) (by omega)
    have hal : acc.length ≤ 200 := by rw [ha, List.length_map, List.length_take]; omega
    refine ev_pos (by omega) (ev_pos (by omega) (ev_pos (by omega) (ev_bindc (impl_NumText_eq r0 r1) (ev_pos (by omega) ?_))))
    rw [wrap_succ (n := l.length) (by omega) (by omega) (by omega)]
    refine ih (i + 1) _ (by omega) (by omega) ?_
    rw [ha, List.take_succ_eq_append_getElem (show i < l.length by omega), List.map_append]
    congr 1
    unfold rd
    rw [Int.toNat_natCast, List.getD_eq_getElem?_getD, List.getElem?_eq_getElem (show i < l.length by omega)]; rfl
theorem impl_listText_ev {l : List Int} (hw : ∀ x ∈ l, -9223372036854775808 ≤ x ∧ x ≤ 9223372036854775807) (hn : l.length ≤ 200) : Ev (fun k => impl_listText.f k l) (listB l) := by
  unfold impl_listText.f
  exact impl_listText_l0_ev l hw hn l.length 0 [] (by omega) (by omega) rfl
def leftT (now : Int) (q a : List Int) (st top : Int) : ByteArray :=
  if (q.length : Int) > 200 then (⟨#[]⟩ : ByteArray) else if (a.length : Int) > 200 then (⟨#[]⟩ : ByteArray) else
  (((((((((⟨#[108, 101, 102, 116, 32]⟩ : ByteArray) ++ numB now) ++ (⟨#[32, 113, 117, 101, 117, 101, 100, 32]⟩ : ByteArray)) ++ listB q) ++ (⟨#[32, 97, 119, 97, 121, 32]⟩ : ByteArray)) ++ listB a) ++ (⟨#[32, 115, 116, 114, 101, 97, 109, 115, 32]⟩ : ByteArray)) ++ numB st) ++ (⟨#[32, 116, 111, 112, 32]⟩ : ByteArray)) ++ numB top
theorem spec_LeftText_ev {n s t : Int} {q a : List Int} (hn : -9223372036854775808 ≤ n ∧ n ≤ 9223372036854775807) (hs : -9223372036854775808 ≤ s ∧ s ≤ 9223372036854775807) (ht : -9223372036854775808 ≤ t ∧ t ≤ 9223372036854775807)
    (hq : ∀ x ∈ q, -9223372036854775808 ≤ x ∧ x ≤ 9223372036854775807) (ha : ∀ x ∈ a, -9223372036854775808 ≤ x ∧ x ≤ 9223372036854775807) : Ev (fun k => spec_LeftText.f k n q a s t) (leftT n q a s t) := by
  have hn' := numB_size hn.1 hn.2
  have hs' := numB_size hs.1 hs.2
  have ht' := numB_size ht.1 ht.2
  unfold spec_LeftText.f leftT
  refine ev_ite (fun h => ?_) (fun h => ?_)
  · refine Ev.step (fun k => by rw [spec_LeftText.j0]) ?_
    exact ev_pos rfl (ev_some _)
  · refine Ev.step (fun k => by rw [spec_LeftText.j0]) ?_
    simp only [decide_eq_true_eq]
    refine ev_ite (fun _ => ev_some _) (fun h2 => ?_)
    have hq' := listB_size hq (by omega)
    have ha' := listB_size ha (by omega)
    exact Ev.bind (spec_NumText_ev hn.1 hn.2) (ev_pos (by omega) (ev_pos (by omega) (Ev.bind (spec_l25List_ev hq (by omega)) (ev_pos (by omega) (ev_pos (by omega) (Ev.bind (spec_l25List_ev ha (by omega)) (ev_pos (by omega) (ev_pos (by omega)
      (Ev.bind (spec_NumText_ev hs.1 hs.2) (ev_pos (by omega) (ev_pos (by omega) (Ev.bind (spec_NumText_ev ht.1 ht.2) (ev_pos (by omega) (ev_some _))))))))))))))
theorem impl_LeftText_ev {n s t : Int} {q a : List Int} (hn : -9223372036854775808 ≤ n ∧ n ≤ 9223372036854775807) (hs : -9223372036854775808 ≤ s ∧ s ≤ 9223372036854775807) (ht : -9223372036854775808 ≤ t ∧ t ≤ 9223372036854775807)
    (hq : ∀ x ∈ q, -9223372036854775808 ≤ x ∧ x ≤ 9223372036854775807) (ha : ∀ x ∈ a, -9223372036854775808 ≤ x ∧ x ≤ 9223372036854775807) : Ev (fun k => impl_LeftText.f k n q a s t) (leftT n q a s t) := by
  have hn' := numB_size hn.1 hn.2
  have hs' := numB_size hs.1 hs.2
  have ht' := numB_size ht.1 ht.2
  unfold impl_LeftText.f leftT
  refine ev_ite (fun h => ?_) (fun h => ?_)
  · refine Ev.step (fun k => by rw [impl_LeftText.j0]) ?_
    exact ev_pos rfl (ev_some _)
  · refine Ev.step (fun k => by rw [impl_LeftText.j0]) ?_
    simp only [decide_eq_true_eq]
    refine ev_ite (fun _ => ev_some _) (fun h2 => ?_)
    have hq' := listB_size hq (by omega)
    have ha' := listB_size ha (by omega)
    have e : joinB [(⟨#[108, 101, 102, 116]⟩ : ByteArray), numB n, (⟨#[113, 117, 101, 117, 101, 100]⟩ : ByteArray), listB q, (⟨#[97, 119, 97, 121]⟩ : ByteArray), listB a, (⟨#[115, 116, 114, 101, 97, 109, 115]⟩ : ByteArray), numB s, (⟨#[116, 111, 112]⟩ : ByteArray), numB t] (⟨#[32]⟩ : ByteArray) =
        (((((((((⟨#[108, 101, 102, 116, 32]⟩ : ByteArray) ++ numB n) ++ (⟨#[32, 113, 117, 101, 117, 101, 100, 32]⟩ : ByteArray)) ++ listB q) ++ (⟨#[32, 97, 119, 97, 121, 32]⟩ : ByteArray)) ++ listB a) ++ (⟨#[32, 115, 116, 114, 101, 97, 109, 115, 32]⟩ : ByteArray)) ++ numB s) ++ (⟨#[32, 116, 111, 112, 32]⟩ : ByteArray)) ++ numB t := by
      rw [joinB_cons]
      apply ba_ext
      simp only [sepB, List.foldl_cons, List.foldl_nil, ba_append, List.append_assoc]
      rfl
    refine ev_bindc (impl_NumText_eq hn.1 hn.2) (Ev.bind (impl_listText_ev hq (by omega)) (Ev.bind (impl_listText_ev ha (by omega)) (ev_bindc (impl_NumText_eq hs.1 hs.2) (ev_bindc (impl_NumText_eq ht.1 ht.2) (ev_bindc (strings_Join_eq ?_ (by simp)) ?_)))))
    · rw [e]
      simp only [size_append]
      simp only [ByteArray.size, List.size_toArray, List.length_cons, List.length_nil] at *
      omega
    · rw [e]; exact ev_some _
end Go.Proofs.YtnicflgogkakeaaDoor.QFnExactLeftText

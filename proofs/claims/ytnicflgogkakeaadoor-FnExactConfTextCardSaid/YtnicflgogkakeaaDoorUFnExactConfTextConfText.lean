/-
Plain law: what the printed functions answer (ConfText).
-/
import Derived.Test.YtnicflgogkakeaaDoorQFnExactConfTextx6
import Derived.Test.YtnicflgogkakeaaDoorQFnExactConfTextx9
import Derived.Test.YtnicflgogkakeaaDoorK
import Derived.Test.YtnicflgogkakeaaDoorUFnExactConfTextConfOk
import Derived.Test.YtnicflgogkakeaaDoorUFnExactConfTextVecText
import Derived.Test.YtnicflgogkakeaaDoorUFnExactConfTextJoin
set_option linter.unusedVariables false
set_option linter.unusedSimpArgs false
namespace Go.Proofs.YtnicflgogkakeaaDoor.QFnExactConfText
open Go.RowKit Go.Proofs.YtnicflgogkakeaaDoorW.PrintWords Go.Proofs.YtnicflgogkakeaaDoorW.PrintLast Go.Proofs.YtnicflgogkakeaaDoorW.PrintMore Go.Proofs.YtnicflgogkakeaaDoor.K
def profT (x : ByteArray) (p : S87) : ByteArray := (((x ++ (⟨#[32, 112, 114, 111, 102, 32]⟩ : ByteArray)) ++ vecB p.f0.f0 p.f0.f1 p.f0.f2) ++ (⟨#[32]⟩ : ByteArray)) ++ vecB p.f1.f0 p.f1.f1 p.f1.f2
def confHead (s n c d i a b e m : Int) : ByteArray :=
  (((((((((((((((((⟨#[98, 111, 120, 32, 115, 101, 101, 100, 32]⟩ : ByteArray) ++ numB s) ++ (⟨#[32, 99, 101, 108, 108, 115, 32]⟩ : ByteArray)) ++ numB n) ++ (⟨#[32, 99, 97, 112, 32]⟩ : ByteArray)) ++ numB c) ++ (⟨#[32, 100, 101, 108, 116, 97, 32]⟩ : ByteArray)) ++ numB d) ++ (⟨#[32, 105, 100, 108, 101, 32]⟩ : ByteArray)) ++ numB i) ++ (⟨#[32, 108, 97, 110, 101, 32]⟩ : ByteArray)) ++ numB a) ++ (⟨#[32]⟩ : ByteArray)) ++ numB b) ++ (⟨#[32, 97, 108, 108, 32]⟩ : ByteArray)) ++ numB e) ++ (⟨#[32, 109, 97, 114, 107, 32]⟩ : ByteArray)) ++ numB m
def confTail (t : Bool) : ByteArray := if t = true then (⟨#[32, 108, 111, 110, 103, 101, 115, 116]⟩ : ByteArray) else (⟨#[32, 116, 97, 105, 108]⟩ : ByteArray)
def confT (s n c d i a b e m : Int) (t : Bool) (l : List S87) : ByteArray := if confP s n c d i a b e m l then l.foldl profT (confHead s n c d i a b e m ++ confTail t) else (⟨#[]⟩ : ByteArray)
theorem vec_size {v : S46} (h : vecP v) : (vecB v.f0 v.f1 v.f2).size ≤ 65 := vecB_size (by unfold vecP at h; omega) (by unfold vecP at h; omega) (by unfold vecP at h; omega)
theorem profT_size {p : S87} (h : profP p) (x : ByteArray) : (profT x p).size ≤ x.size + 150 := by
  have h1 := vec_size h.1
  have h2 := vec_size h.2
  unfold profT
  simp only [size_append]
  show x.size + 6 + _ + 1 + _ ≤ _
  omega
theorem fold_size : ∀ (l : List S87) (x : ByteArray), (∀ p ∈ l, profP p) → (l.foldl profT x).size ≤ x.size + 150 * l.length
  | [], x, _ => Nat.le_refl _
  | p :: r, x, h => by
    have h1 := profT_size (h p List.mem_cons_self) x
    have h2 := fold_size r (profT x p) fun q hq => h q (List.mem_cons_of_mem _ hq)
    rw [List.foldl_cons, List.length_cons]
    omega
theorem confP_nums {s n c d i a b e m : Int} {l : List S87} (h : confP s n c d i a b e m l) :
    (0 ≤ s ∧ s ≤ 4294967295) ∧ (4 ≤ n ∧ n ≤ 64) ∧ (1 ≤ c ∧ c ≤ 16) ∧ (0 ≤ d ∧ d ≤ 10000000) ∧ (1 ≤ i ∧ i ≤ 1000) ∧ (1 ≤ a ∧ a ≤ 64) ∧ (1 ≤ b ∧ b ≤ 100000) ∧ (1 ≤ e ∧ e ≤ 1000000) ∧ (0 ≤ m ∧ m ≤ 100000) := by
  obtain ⟨⟨⟨h1, h2⟩, h3, h4, h5⟩, ⟨h6, h7, h8, h9⟩, _⟩ := h
  exact ⟨h1, by omega, h3, h4, h5, h6, h7, h8, h9⟩
theorem head_size {s n c d i a b e m : Int} {l : List S87} (h : confP s n c d i a b e m l) : (confHead s n c d i a b e m).size ≤ 300 := by
  obtain ⟨h1, h2, h3, h4, h5, h6, h7, h8, h9⟩ := confP_nums h
  have q1 := numB_size (n := s) (by omega) (by omega)
  have q2 := numB_size (n := n) (by omega) (by omega)
  have q3 := numB_size (n := c) (by omega) (by omega)
  have q4 := numB_size (n := d) (by omega) (by omega)
  have q5 := numB_size (n := i) (by omega) (by omega)
  have q6 := numB_size (n := a) (by omega) (by omega)
  have q7 := numB_size (n := b) (by omega) (by omega)
  have q8 := numB_size (n := e) (by omega) (by omega)
  have q9 := numB_size (n := m) (by omega) (by omega)
  unfold confHead
  simp only [size_append]
  simp only [ByteArray.size, List.size_toArray, List.length_cons, List.length_nil] at *
  omega
/-! ### the reference -/
theorem spec_ConfText_l0_ev (s n c d i a b e m : Int) (t : Bool) (l : List S87) (hl : l.length = 7) (hp : ∀ p ∈ l, profP p) : ∀ (q j : Nat) (x : ByteArray), 7 - j = q → j ≤ 7 → x.size + 200 * q ≤ 1000000 →
    Ev (fun k => spec_ConfText.l0 k x (j : Int) s n c d i a b e m t l) ((l.drop j).foldl profT x) := by
  intro q
  induction q with
  | zero =>
    intro j x hq hj hx
    refine Ev.step (fun k => by rw [spec_ConfText.l0]) ?_
    rw [List.drop_of_length_le (by omega)]
    exact ev_neg (by omega) (ev_some _)
  | succ q ih =>
    intro j x hq hj hx
    refine Ev.step (fun k => by rw [spec_ConfText.l0]) ?_
    rw [drop_getD z87 (show j < l.length by omega), List.foldl_cons]
    have hpj : profP (l.getD j z87) := hp _ (getD_mem z87 (by omega))
    have h1 := vec_size hpj.1
    have h2 := vec_size hpj.2
    have h3 := profT_size hpj x
    have v1 := spec_VecText_ev (a := (l.getD j z87).f0.f0) (b := (l.getD j z87).f0.f1) (c := (l.getD j z87).f0.f2) (by have := hpj.1; unfold vecP at this; omega) (by have := hpj.1; unfold vecP at this; omega) (by have := hpj.1; unfold vecP at this; omega)
    have v2 := spec_VecText_ev (a := (l.getD j z87).f1.f0) (b := (l.getD j z87).f1.f1) (c := (l.getD j z87).f1.f2) (by have := hpj.2; unfold vecP at this; omega) (by have := hpj.2; unfold vecP at this; omega) (by have := hpj.2; unfold vecP at this; omega)
    refine ev_pos (by omega) (ev_pos (by omega) (ev_pos (by omega) (ev_pos (by omega) (Ev.bind v1 (ev_pos (by omega) (ev_pos (by omega) (Ev.bind v2 (ev_pos (by omega) ?_))))))))
    rw [wrap_succ (n := 7) (by omega) (by omega) (by omega)]
    exact ih (j + 1) _ (by omega) (by omega) (by show (profT x (l.getD j z87)).size + _ ≤ _; omega)
theorem spec_ConfText_ev (s n c d i a b e m : Int) (t : Bool) (l : List S87) : Ev (fun k => spec_ConfText.f k s n c d i a b e m t l) (confT s n c d i a b e m t l) := by
  unfold spec_ConfText.f confT
  have hok := spec_ConfOk_ev s n c d i a b e m t l
  by_cases h : confP s n c d i a b e m l
  · rw [decide_eq_true h] at hok
    rw [if_pos h]
    obtain ⟨h1, h2, h3, h4, h5, h6, h7, h8, h9⟩ := confP_nums h
    have q1 := numB_size (n := s) (by omega) (by omega)
    have q2 := numB_size (n := n) (by omega) (by omega)
    have q3 := numB_size (n := c) (by omega) (by omega)
    have q4 := numB_size (n := d) (by omega) (by omega)
    have q5 := numB_size (n := i) (by omega) (by omega)
    have q6 := numB_size (n := a) (by omega) (by omega)
    have q7 := numB_size (n := b) (by omega) (by omega)
    have q8 := numB_size (n := e) (by omega) (by omega)
    have q9 := numB_size (n := m) (by omega) (by omega)
    have hs := head_size h
    refine Ev.bind hok (ev_pos rfl ?_)
    refine Ev.bind (spec_NumText_ev (by omega) (by omega)) (ev_pos (by omega) (ev_pos (by omega) ?_))
    refine Ev.bind (spec_NumText_ev (by omega) (by omega)) (ev_pos (by omega) (ev_pos (by omega) ?_))
    refine Ev.bind (spec_NumText_ev (by omega) (by omega)) (ev_pos (by omega) (ev_pos (by omega) ?_))
    refine Ev.bind (spec_NumText_ev (by omega) (by omega)) (ev_pos (by omega) (ev_pos (by omega) ?_))
    refine Ev.bind (spec_NumText_ev (by omega) (by omega)) (ev_pos (by omega) (ev_pos (by omega) ?_))
    refine Ev.bind (spec_NumText_ev (by omega) (by omega)) (ev_pos (by omega) (ev_pos (by omega) ?_))
    refine Ev.bind (spec_NumText_ev (by omega) (by omega)) (ev_pos (by omega) (ev_pos (by omega) ?_))
    refine Ev.bind (spec_NumText_ev (by omega) (by omega)) (ev_pos (by omega) (ev_pos (by omega) ?_))
    refine Ev.bind (spec_NumText_ev (by omega) (by omega)) (ev_pos (by omega) ?_)
    have hl0 : ∀ x : ByteArray, x.size ≤ 400 → Ev (fun k => spec_ConfText.j0 k x s n c d i a b e m t l) (l.foldl profT x) := fun x hx => by
      refine Ev.step (fun k => by rw [spec_ConfText.j0]) ?_
      exact spec_ConfText_l0_ev s n c d i a b e m t l h.2.2.1 h.2.2.2 7 0 x (by omega) (by omega) (by omega)
    cases t
    · refine ev_neg (by decide) (ev_pos (by omega) ?_)
      exact hl0 _ (by show (confHead s n c d i a b e m ++ (⟨#[32, 116, 97, 105, 108]⟩ : ByteArray)).size ≤ 400; rw [size_append]; show _ + 5 ≤ 400; omega)
    · refine ev_pos rfl (ev_pos (by omega) ?_)
      exact hl0 _ (by show (confHead s n c d i a b e m ++ (⟨#[32, 108, 111, 110, 103, 101, 115, 116]⟩ : ByteArray)).size ≤ 400; rw [size_append]; show _ + 8 ≤ 400; omega)
  · rw [decide_eq_false h] at hok
    rw [if_neg h]
    exact Ev.bind hok (ev_neg (by decide) (ev_some _))
/-! ### the program -/
def wordsP (p : S87) : List ByteArray := [(⟨#[112, 114, 111, 102]⟩ : ByteArray), vecB p.f0.f0 p.f0.f1 p.f0.f2, vecB p.f1.f0 p.f1.f1 p.f1.f2]
def wordsH (s n c d i a b e m : Int) (t : Bool) : List ByteArray :=
  [(⟨#[115, 101, 101, 100]⟩ : ByteArray), numB s, (⟨#[99, 101, 108, 108, 115]⟩ : ByteArray), numB n, (⟨#[99, 97, 112]⟩ : ByteArray), numB c, (⟨#[100, 101, 108, 116, 97]⟩ : ByteArray), numB d, (⟨#[105, 100, 108, 101]⟩ : ByteArray), numB i, (⟨#[108, 97, 110, 101]⟩ : ByteArray), numB a, numB b, (⟨#[97, 108, 108]⟩ : ByteArray), numB e, (⟨#[109, 97, 114, 107]⟩ : ByteArray), numB m, if t = true then (⟨#[108, 111, 110, 103, 101, 115, 116]⟩ : ByteArray) else (⟨#[116, 97, 105, 108]⟩ : ByteArray)]
theorem sep_prof (x : ByteArray) (p : S87) : sepB (⟨#[32]⟩ : ByteArray) x (wordsP p) = profT x p := by
  apply ba_ext
  unfold wordsP profT
  simp only [sepB, List.foldl_cons, List.foldl_nil, ba_append, List.append_assoc]
  rfl
theorem sep_profs : ∀ (l : List S87) (x : ByteArray), sepB (⟨#[32]⟩ : ByteArray) x (l.flatMap wordsP) = l.foldl profT x
  | [], x => rfl
  | p :: r, x => by
    rw [List.flatMap_cons, List.foldl_cons, ← sep_prof, ← sep_profs r]
    unfold sepB
    rw [List.foldl_append]
theorem sep_head (s n c d i a b e m : Int) (t : Bool) : sepB (⟨#[32]⟩ : ByteArray) (⟨#[98, 111, 120]⟩ : ByteArray) (wordsH s n c d i a b e m t) = confHead s n c d i a b e m ++ confTail t := by
  apply ba_ext
  unfold wordsH confHead confTail
  cases t
  · simp only [sepB, List.foldl_cons, List.foldl_nil, ba_append, List.append_assoc, Bool.false_eq_true, if_false]
    rfl
  · simp only [sepB, List.foldl_cons, List.foldl_nil, ba_append, List.append_assoc, if_true]
    rfl
theorem join_conf (s n c d i a b e m : Int) (t : Bool) (l : List S87) : joinB ((⟨#[98, 111, 120]⟩ : ByteArray) :: (wordsH s n c d i a b e m t ++ l.flatMap wordsP)) (⟨#[32]⟩ : ByteArray) = l.foldl profT (confHead s n c d i a b e m ++ confTail t) := by
  rw [joinB_cons, ← sep_head, ← sep_profs]
  unfold sepB
  rw [List.foldl_append]
theorem impl_ConfText_l0_ev (W : List ByteArray) (hW : W.length ≤ 100) (l : List S87) (hl : l.length = 7) (hp : ∀ p ∈ l, profP p) (hj : (joinB (W ++ l.flatMap wordsP) (⟨#[32]⟩ : ByteArray)).size ≤ 1000000) :
    ∀ (q j : Nat) (acc : List ByteArray), 7 - j = q → j ≤ 7 → acc = W ++ (l.take j).flatMap wordsP → acc.length ≤ 100 + 3 * j →
    Ev (fun k => impl_ConfText.l0 k acc l (l.length : Int) (j : Int)) (joinB (W ++ l.flatMap wordsP) (⟨#[32]⟩ : ByteArray)) := by
  intro q
  induction q with
  | zero =>
    intro j acc hq hj' ha hlen
    refine Ev.step (fun k => by rw [impl_ConfText.l0]) ?_
    rw [List.take_of_length_le (by omega)] at ha
    subst ha
    exact ev_neg (by omega) (ev_bindc (strings_Join_eq (by omega) (by omega)) (ev_some _))
  | succ q ih =>
    intro j acc hq hj' ha hlen
    refine Ev.step (fun k => by rw [impl_ConfText.l0]) ?_
    have hpj : profP (l.getD j z87) := hp _ (getD_mem z87 (by omega))
    have v1 := impl_VecText_eq (a := (l.getD j z87).f0.f0) (b := (l.getD j z87).f0.f1) (c := (l.getD j z87).f0.f2) (by have := hpj.1; unfold vecP at this; omega) (by have := hpj.1; unfold vecP at this; omega) (by have := hpj.1; unfold vecP at this; omega)
    have v2 := impl_VecText_eq (a := (l.getD j z87).f1.f0) (b := (l.getD j z87).f1.f1) (c := (l.getD j z87).f1.f2) (by have := hpj.2; unfold vecP at this; omega) (by have := hpj.2; unfold vecP at this; omega) (by have := hpj.2; unfold vecP at this; omega)
    refine ev_pos (by omega) (ev_pos (by omega) (ev_pos (by omega) (ev_bindc v1 (ev_bindc v2 (ev_let (ev_pos ?_ ?_))))))
    · simp only [List.length_cons, List.length_nil]; omega
    · rw [wrap_succ (n := 7) (by omega) (by omega) (by omega)]
      refine ih (j + 1) _ (by omega) (by omega) ?_ ?_
      · rw [ha, List.take_succ_eq_append_getElem (show j < l.length by omega), List.flatMap_append, List.append_assoc]
        congr 2
        rw [List.flatMap_singleton]
        unfold wordsP
        rw [List.getD_eq_getElem?_getD, List.getElem?_eq_getElem (show j < l.length by omega)]
        rfl
      · simp only [List.length_append, List.length_cons, List.length_nil]; omega
theorem impl_ConfText_ev (s n c d i a b e m : Int) (t : Bool) (l : List S87) : Ev (fun k => impl_ConfText.f k s n c d i a b e m t l) (confT s n c d i a b e m t l) := by
  unfold impl_ConfText.f confT
  have hok := impl_ConfOk_eq s n c d i a b e m t l
  by_cases h : confP s n c d i a b e m l
  · rw [decide_eq_true h] at hok
    rw [if_pos h, ← join_conf]
    obtain ⟨h1, h2, h3, h4, h5, h6, h7, h8, h9⟩ := confP_nums h
    have hs := head_size h
    have hf := fold_size l (confHead s n c d i a b e m ++ confTail t) h.2.2.2
    have ht : (confTail t).size ≤ 8 := by cases t <;> decide
    rw [size_append, h.2.2.1] at hf
    have hl0 : ∀ W : List ByteArray, W = (⟨#[98, 111, 120]⟩ : ByteArray) :: wordsH s n c d i a b e m t → Ev (fun k => impl_ConfText.j0 k W s n c d i a b e m t l) (joinB ((⟨#[98, 111, 120]⟩ : ByteArray) :: (wordsH s n c d i a b e m t ++ l.flatMap wordsP)) (⟨#[32]⟩ : ByteArray)) := fun W hW => by
      subst hW
      refine Ev.step (fun k => by rw [impl_ConfText.j0]) ?_
      exact impl_ConfText_l0_ev ((⟨#[98, 111, 120]⟩ : ByteArray) :: wordsH s n c d i a b e m t) (by simp [wordsH]) l h.2.2.1 h.2.2.2 (by rw [List.cons_append, join_conf]; omega) 7 0 _ (by omega) (by omega) (by simp) (by simp [wordsH])
    refine ev_bindc hok (ev_pos rfl ?_)
    refine ev_bindc (impl_NumText_eq (by omega) (by omega)) (ev_bindc (impl_NumText_eq (by omega) (by omega)) (ev_bindc (impl_NumText_eq (by omega) (by omega)) (ev_bindc (impl_NumText_eq (by omega) (by omega)) (ev_bindc (impl_NumText_eq (by omega) (by omega)) (ev_bindc (impl_NumText_eq (by omega) (by omega)) (ev_bindc (impl_NumText_eq (by omega) (by omega)) (ev_bindc (impl_NumText_eq (by omega) (by omega)) (ev_bindc (impl_NumText_eq (by omega) (by omega)) ?_))))))))
    refine ev_let ?_
    cases t
    · exact ev_neg (by decide) (hl0 _ rfl)
    · refine ev_pos rfl ?_
      simp only [List.length_cons, List.length_nil]
      rw [show wrap64 (((0 + 1 + 1 + 1 + 1 + 1 + 1 + 1 + 1 + 1 + 1 + 1 + 1 + 1 + 1 + 1 + 1 + 1 + 1 + 1 : Nat) : Int) - 1) = 18 by rw [wrap_id (by omega) (by omega)]; omega]
      exact ev_pos (by omega) (ev_pos (by omega) (hl0 _ rfl))
  · rw [decide_eq_false h] at hok
    rw [if_neg h]
    exact ev_bindc hok (ev_neg (by decide) (ev_some _))
end Go.Proofs.YtnicflgogkakeaaDoor.QFnExactConfText

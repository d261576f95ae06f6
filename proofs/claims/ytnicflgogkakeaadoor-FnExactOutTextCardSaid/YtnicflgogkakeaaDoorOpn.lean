/-
How a value that reads as data is told by the kinds of the printed functions: from 'DataW.trod' to 'Kd.K', type by type.
-/
import Derived.Test.YtnicflgogkakeaaDoorWMore
import Derived.Deep.Slices
import Derived.DataReads
import Derived.ProofKit
import Derived.OpenShut
set_option linter.unusedVariables false
namespace Go.Proofs.YtnicflgogkakeaaDoor.Opn
open Go.RowKit Go.ChangeShapes Go.WideShapes Go.Deep Go.Proofs.YtnicflgogkakeaaDoorW.PrintWords Go.Proofs.YtnicflgogkakeaaDoorW.PrintLast Go.Proofs.YtnicflgogkakeaaDoorW.PrintMore

/-- Whatever reads as data of type t is told by the kind d, and Q holds of it. -/
def Opens {α : Type} (P : Program) (t : TypeId) (d : Kd α) (Q : α → Prop) : Prop :=
  ∀ {H : Type} {enc : TypeId × Value → H} {w : World} {base : Nat} {spare : Nat → Bool} {held : Bool} {fuel : Nat} {cs : List Value} {x : DataW H × List MemPlace},
    DataW.trod enc P w base spare held fuel t cs = some x → ∃ a, d.K w a cs ∧ Q a
theorem Opens.int {P : Program} {t : TypeId} {k : IntKind} (h : P.underlying t = some (.int k)) : Opens P t (Kd.int k) (fun n => (Lit.int k n).wf = true) := fun h' => by
  obtain ⟨n, rfl, _, hw⟩ := DataW.trod_int h h'
  exact ⟨n, rfl, hw⟩
theorem Opens.bool {P : Program} {t : TypeId} (h : P.underlying t = some .bool) : Opens P t Kd.bool (fun _ => True) := fun h' => by
  obtain ⟨n, rfl, _⟩ := DataW.trod_bool h h'
  exact ⟨n, rfl, trivial⟩
theorem Opens.string {P : Program} {t : TypeId} (h : P.underlying t = some .string) : Opens P t Kd.string (fun s => s.size ≤ maxLen) := fun h' => by
  obtain ⟨n, rfl, _, hs⟩ := DataW.trod_string h h'
  exact ⟨n, rfl, hs⟩
theorem collect {α : Type} {R : Nat → α → Prop} : ∀ n, (∀ i, i < n → ∃ a, R i a) → ∃ l : List α, l.length = n ∧ ∀ (j : Nat) p, l[j]? = some p → R j p
  | 0, _ => ⟨[], rfl, fun j p h => by simp at h⟩
  | n + 1, h => by
    obtain ⟨l, hl, hr⟩ := collect n fun i hi => h i (by omega)
    obtain ⟨a, ha⟩ := h n (by omega)
    refine ⟨l ++ [a], by simp [hl], fun j p hj => ?_⟩
    rcases Nat.lt_or_ge j n with hlt | hge
    · rw [List.getElem?_append_left (by omega)] at hj; exact hr j p hj
    · have hjn : j = n := by
        have := (List.getElem?_eq_some_iff.1 hj).1
        simp at this; omega
      subst hjn
      rw [List.getElem?_append_right (by omega), hl, Nat.sub_self] at hj
      simp at hj; subst hj; exact ha
theorem Opens.slice {α : Type} {P : Program} {t e : TypeId} {d : Kd α} {Q : α → Prop} (h : P.underlying t = some (.slice e)) (hc : P.cellsOf e = d.sz) (ho : Opens P e d Q) :
    Opens P t (Kd.slice e d) (fun l => l.length ≤ 9223372036854775807 ∧ ∀ x ∈ l, Q x) := fun {H enc w base spare held fuel cs x} h' => by
  rcases open_slice h h' with ⟨rfl, _⟩ | ⟨a, len, cap, m, n, D, Pl, rfl, _, hl, hm, hmm, _, hi⟩
  · exact ⟨[], ⟨none, 0, rfl, Nat.le_refl _, rfl, by simp, fun h0 => absurd h0 (by simp)⟩, by simp, fun _ hx => by cases hx⟩
  · have hlm : len ≤ m := by rw [hmm]; split <;> omega
    have hmx : cap ≤ 9223372036854775807 := hm
    obtain ⟨l, hll, hlr⟩ := collect (R := fun i p => (∃ c, c.length = d.sz ∧ d.K w p c ∧ ∀ j u, c[j]? = some u → w.cell? (a.add (i * d.sz + j)) = some u) ∧ Q p) len fun i hi' => by
      obtain ⟨cs', hcs, ht⟩ := hi i (by omega)
      obtain ⟨p, hk, hq⟩ := ho ht
      obtain ⟨_, hcl, hat⟩ := World.cells?_some hcs
      rw [hc] at hcl hat
      refine ⟨p, ⟨cs', hcl, hk, fun j u hj => ?_⟩, hq⟩
      have hjl := (List.getElem?_eq_some_iff.1 hj).1
      rw [← Go.Deep.add_add, hat j (by omega), hj]
    subst hll
    refine ⟨l, ⟨some a, cap, rfl, hl, rfl, by omega, fun _ => ⟨a, rfl, fun j p hj => (hlr j p hj).1⟩⟩, by omega, fun p hp => ?_⟩
    obtain ⟨j, hj⟩ := List.mem_iff_getElem?.1 hp
    exact (hlr j p hj).2
theorem seg (cs : List Value) (o n m : Nat) (h : o + n = m) : cs.drop o = (cs.drop o).take n ++ cs.drop m := by
  subst h
  rw [← List.drop_drop]
  exact (List.take_append_drop n _).symm
theorem seg_end {cs : List Value} {o n m : Nat} (h : cs.length = m) (hm : m = o + n) : (cs.drop o).take n = cs.drop o := List.take_of_length_le (by rw [List.length_drop]; omega)
theorem field {α : Type} {P : Program} {t : TypeId} {d : Kd α} {Q : α → Prop} (ho : Opens P t d Q) {n : Nat} (hn : P.cellsOf t = n) {H : Type} {enc : TypeId × Value → H} {w : World} {base : Nat} {spare : Nat → Bool} {held : Bool} {fuel : Nat} {cs : List Value}
    {ys : List (DataW H × List MemPlace)} {j : Nat} (hj : j < ys.length) (h : DataW.trod enc P w base spare held fuel t (List.take (P.cellsOf t) cs) = ys[j]?) : ∃ a, d.K w a (cs.take n) ∧ Q a := by
  rw [List.getElem?_eq_getElem hj, hn] at h
  exact ho h
end Go.Proofs.YtnicflgogkakeaaDoor.Opn

/-
How a value that reads as data is told by the kinds of the printed functions: from 'DataW.trod' to 'Kd.K', type by type.
-/
import Derived.Test.YtnicflgogkakeaaDoorWMore
import Derived.Deep.Slices
import Derived.DataReads
import Derived.ProofKit
import Derived.OpenShut
set_option linter.unusedVariables false
namespace Go.Proofs.YtnicflgogkakeaaDoor.Opn
open Go.RowKit Go.ChangeShapes Go.WideShapes Go.Deep Go.Proofs.YtnicflgogkakeaaDoorW.PrintWords Go.Proofs.YtnicflgogkakeaaDoorW.PrintLast Go.Proofs.YtnicflgogkakeaaDoorW.PrintMore

/-- Whatever reads as data of type t is told by the kind d, and Q holds of it. -/
def Opens {α : Type} (P : Program) (t : TypeId) (d : Kd α) (Q : α → Prop) : Prop :=
  ∀ {H : Type} {enc : TypeId × Value → H} {w : World} {base : Nat} {spare : Nat → Bool} {held : Bool} {fuel : Nat} {cs : List Value} {x : DataW H × List MemPlace},
    DataW.trod enc P w base spare held fuel t cs = some x → ∃ a, d.K w a cs ∧ Q a
theorem Opens.int {P : Program} {t : TypeId} {k : IntKind} (h : P.underlying t = some (.int k)) : Opens P t (Kd.int k) (fun n => (Lit.int k n).wf = true) := fun h' => by
  obtain ⟨n, rfl, _, hw⟩ := DataW.trod_int h h'
  exact ⟨n, rfl, hw⟩
theorem Opens.bool {P : Program} {t : TypeId} (h : P.underlying t = some .bool) : Opens P t Kd.bool (fun _ => True) := fun h' => by
  obtain ⟨n, rfl, _⟩ := DataW.trod_bool h h'
  exact ⟨n, rfl, trivial⟩
theorem Opens.string {P : Program} {t : TypeId} (h : P.underlying t = some .string) : Opens P t Kd.string (fun s => s.size ≤ maxLen) := fun h' => by
  obtain ⟨n, rfl, _, hs⟩ := DataW.trod_string h h'
  exact ⟨n, rfl, hs⟩
theorem collect {α : Type} {R : Nat → α → Prop} : ∀ n, (∀ i, i < n → ∃ a, R i a) → ∃ l : List α, l.length = n ∧ ∀ (j : Nat) p, l[j]? = some p → R j p
  | 0, _ => ⟨[], rfl, fun j p h => by simp at h⟩
  | n + 1, h => by
    obtain ⟨l, hl, hr⟩ := collect n fun i hi => h i (by omega)
    obtain ⟨a, ha⟩ := h n (by omega)
    refine ⟨l ++ [a], by simp [hl], fun j p hj => ?_⟩
    rcases Nat.lt_or_ge j n with hlt | hge
    · rw [List.getElem?_append_left (by omega)] at hj; exact hr j p hj
    · have hjn : j = n := by
        have := (List.getElem?_eq_some_iff.1 hj).1
        simp at this; omega
      subst hjn
      rw [List.getElem?_append_right (by omega), hl, Nat.sub_self] at hj
      simp at hj; subst hj; exact ha
theorem Opens.slice {α : Type} {P : Program} {t e : TypeId} {d : Kd α} {Q : α → Prop} (h : P.underlying t = some (.slice e)) (hc : P.cellsOf e = d.sz) (ho : Opens P e d Q) :
    Opens P t (Kd.slice e d) (fun l => l.length ≤ 9223372036854775807 ∧ ∀ x ∈ l, Q x) := fun {H enc w base spare held fuel cs x} h' => by
  rcases open_slice h h' with ⟨rfl, _⟩ | ⟨a, len, cap, m, n, D, Pl, rfl, _, hl, hm, hmm, _, hi⟩
  · exact ⟨[], ⟨none, 0, rfl, Nat.le_refl _, rfl, by simp, fun h0 => absurd h0 (by simp)⟩, by simp, fun _ hx => by cases hx⟩
  · have hlm : len ≤ m := by rw [hmm]; split <;> omega
    have hmx : cap ≤ 9223372036854775807 := hm
    obtain ⟨l, hll, hlr⟩ := collect (R := fun i p => (∃ c, c.length = d.sz ∧ d.K w p c ∧ ∀ j u, c[j]? = some u → w.cell? (a.add (i * d.sz + j)) = some u) ∧ Q p) len fun i hi' => by
      obtain ⟨cs', hcs, ht⟩ := hi i (by omega)
      obtain ⟨p, hk, hq⟩ := ho ht
      obtain ⟨_, hcl, hat⟩ := World.cells?_some hcs
      rw [hc] at hcl hat
      refine ⟨p, ⟨cs', hcl, hk, fun j u hj => ?_⟩, hq⟩
      have hjl := (List.getElem?_eq_some_iff.1 hj).1
      rw [← Go.Deep.add_add, hat j (by omega), hj]
    subst hll
    refine ⟨l, ⟨some a, cap, rfl, hl, rfl, by omega, fun _ => ⟨a, rfl, fun j p hj => (hlr j p hj).1⟩⟩, by omega, fun p hp => ?_⟩
    obtain ⟨j, hj⟩ := List.mem_iff_getElem?.1 hp
    exact (hlr j p hj).2
theorem seg (cs : List Value) (o n m : Nat) (h : o + n = m) : cs.drop o = (cs.drop o).take n ++ cs.drop m := by
  subst h
  rw [← List.drop_drop]
  exact (List.take_append_drop n _).symm
theorem seg_end {cs : List Value} {o n m : Nat} (h : cs.length = m) (hm : m = o + n) : (cs.drop o).take n = cs.drop o := List.take_of_length_le (by rw [List.length_drop]; omega)
theorem field {α : Type} {P : Program} {t : TypeId} {d : Kd α} {Q : α → Prop} (ho : Opens P t d Q) {n : Nat} (hn : P.cellsOf t = n) {H : Type} {enc : TypeId × Value → H} {w : World} {base : Nat} {spare : Nat → Bool} {held : Bool} {fuel : Nat} {cs : List Value}
    {ys : List (DataW H × List MemPlace)} {j : Nat} (hj : j < ys.length) (h : DataW.trod enc P w base spare held fuel t (List.take (P.cellsOf t) cs) = ys[j]?) : ∃ a, d.K w a (cs.take n) ∧ Q a := by
  rw [List.getElem?_eq_getElem hj, hn] at h
  exact ho h
/-- A row that is read and is not empty lies at a plain address, below the heap's end. -/
theorem C_plain {α : Type} {d : Kd α} {w : World} {A : Option Addr} {n : Nat} {xs : List α} (h : Kd.C d w A n xs) (hn : 0 < n) (hs : 0 < d.sz) :
    ∃ bk o, A = some ⟨bk, o, none⟩ ∧ bk < w.heap.size ∧ ∀ (j : Nat) p, xs[j]? = some p → ∃ c, c.length = d.sz ∧ d.K w p c ∧ ∀ (i : Nat) u, c[i]? = some u → w.cell? ⟨bk, o + (j * d.sz + i), none⟩ = some u := by
  obtain ⟨hl, hm, hc⟩ := h
  obtain ⟨ad, rfl, hcell⟩ := hc hn
  obtain ⟨bk, o, sp⟩ := ad
  have h0 : xs[0]? = some (xs[0]'(by omega)) := List.getElem?_eq_getElem _
  obtain ⟨c, hcl, hk, hu⟩ := hcell 0 _ h0
  have hu0 := hu 0 _ (List.getElem?_eq_getElem (by omega))
  have ea : (⟨bk, o, sp⟩ : Addr).add (0 * d.sz + 0) = ⟨bk, o, sp⟩ := by simp [Addr.add]
  rw [ea] at hu0
  have hlt := World.block_lt_of_cell? w _ hu0
  have hsp : sp = none := by
    unfold World.cell? at hu0
    cases sp with
    | none => rfl
    | some x =>
      simp only at hu0
      split at hu0 <;> simp at hu0
  subst hsp
  refine ⟨bk, o, rfl, hlt, fun j p hj => ?_⟩
  obtain ⟨c, hcl, hk, hu⟩ := hcell j p hj
  refine ⟨c, hcl, hk, fun i u hi => ?_⟩
  have := hu i u hi
  have ea : ∀ m, (⟨bk, o, none⟩ : Addr).add m = ⟨bk, o + m, none⟩ := fun m => by unfold Addr.add; split <;> simp_all
  rw [ea] at this
  exact this
/-- The same where an element is one cell. -/
theorem C_plain1 {α : Type} {enc : α → Value} {h1 : ∀ x, (enc x).oneCell' = true} {w : World} {A : Option Addr} {n : Nat} {xs : List α} (h : Kd.C (Kd.scalar enc h1) w A n xs) (hn : 0 < n) :
    ∃ bk o, A = some ⟨bk, o, none⟩ ∧ bk < w.heap.size ∧ ∀ (j : Nat) p, xs[j]? = some p → w.cell? ⟨bk, o + j, none⟩ = some (enc p) := by
  obtain ⟨bk, o, e, hb, hc⟩ := C_plain h hn (by exact Nat.one_pos)
  refine ⟨bk, o, e, hb, fun j p hj => ?_⟩
  obtain ⟨c, hcl, hk, hu⟩ := hc j p hj
  have hk' : c = [enc p] := hk
  subst hk'
  have := hu 0 _ rfl
  rw [show j * (Kd.scalar enc h1).sz + 0 = j from by show j * 1 + 0 = j; omega] at this
  exact this
end Go.Proofs.YtnicflgogkakeaaDoor.Opn

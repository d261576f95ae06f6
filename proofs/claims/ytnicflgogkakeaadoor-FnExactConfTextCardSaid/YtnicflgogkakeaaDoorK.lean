/-
Small plain lemmas on 'from some number of rounds on' (Ev), lists and numbers, for the pure laws of this seat.
-/
import Derived.Test.YtnicflgogkakeaaDoorWMore
import Derived.Lib.ItoaNum
import Derived.Lib.Join
set_option linter.unusedVariables false
set_option linter.unusedSimpArgs false
namespace Go.Proofs.YtnicflgogkakeaaDoor.K
open Go.RowKit Go.Proofs.YtnicflgogkakeaaDoorW.PrintWords Go.Proofs.YtnicflgogkakeaaDoorW.PrintLast Go.Proofs.YtnicflgogkakeaaDoorW.PrintMore

section
variable {α β : Type}
theorem ev_some (r : α) : Ev (fun _ => some r) r := ⟨0, fun _ _ => rfl⟩
theorem ev_const {o : Option α} {r : α} (h : o = some r) : Ev (fun _ => o) r := ⟨0, fun _ _ => h⟩
theorem ev_pos {c : Prop} [Decidable c] (h : c) {g f : Nat → Option α} {r : α} (hg : Ev g r) : Ev (fun k => if c then g k else f k) r := by
  simpa only [if_pos h] using hg
theorem ev_neg {c : Prop} [Decidable c] (h : ¬ c) {g f : Nat → Option α} {r : α} (hf : Ev f r) : Ev (fun k => if c then g k else f k) r := by
  simpa only [if_neg h] using hf
theorem ev_ite {c : Prop} [Decidable c] {g f : Nat → Option α} {r s : α} (hg : c → Ev g r) (hf : ¬ c → Ev f s) : Ev (fun k => if c then g k else f k) (if c then r else s) := by
  by_cases h : c
  · simpa only [if_pos h] using hg h
  · simpa only [if_neg h] using hf h
theorem ev_let {a : α} {f : Nat → α → Option β} {r : β} (h : Ev (fun n => f n a) r) : Ev (fun n => (some a).bind (f n)) r := h
theorem ev_bindc {o : Option α} {a : α} {f : Nat → α → Option β} {r : β} (ho : o = some a) (h : Ev (fun n => f n a) r) : Ev (fun n => o.bind (f n)) r := by
  subst ho; exact h
theorem ev_eq {g : Nat → Option α} {r s : α} (h : Ev g r) (e : r = s) : Ev g s := e ▸ h
theorem ev_map {g : Nat → Option α} {r s : α} (h : Ev g r) (e : r = s) : Ev g s := e ▸ h
/-- Two things that both end, ended together. -/
theorem ev_unique {g : Nat → Option α} {r s : α} (h : Ev g r) (k : Ev g s) : r = s := by
  obtain ⟨K, h⟩ := h
  obtain ⟨K', k⟩ := k
  have h1 := h (max K K') (by omega)
  have h2 := k (max K K') (by omega)
  rw [h1] at h2
  exact Option.some.inj h2
end

/-! ### numbers -/
theorem wrap_id {n : Int} (h0 : -9223372036854775808 ≤ n) (h1 : n ≤ 9223372036854775807) : wrap64 n = n := by unfold wrap64; omega
theorem wrap_succ {i : Int} {n : Nat} (h0 : 0 ≤ i) (h : i < (n : Int)) (hn : n ≤ 281474976710656) : wrap64 (i + 1) = i + 1 := by unfold wrap64; omega
theorem wf64 {n : Int} (h : (Lit.int .i64 n).wf = true) : -9223372036854775808 ≤ n ∧ n ≤ 9223372036854775807 := by
  simp [Lit.wf] at h
  first | exact h | exact ⟨h.1, h.2⟩ | (simp_all; omega)
theorem wf8 {n : Int} (h : (Lit.int .u8 n).wf = true) : 0 ≤ n ∧ n ≤ 255 := by
  simp [Lit.wf] at h
  first | exact h | exact ⟨h.1, h.2⟩ | (simp_all; omega)

theorem tdiv_pos {m : Int} (h : 0 ≤ m) (b : Int) : Int.tdiv m b = m / b := Int.tdiv_eq_ediv_of_nonneg h
theorem tmod_pos {m : Int} (h : 0 ≤ m) (b : Int) : Int.tmod m b = m % b := Int.tmod_eq_emod_of_nonneg h
theorem tdiv_neg' {m : Int} (h : m < 0) (b : Int) : Int.tdiv m b = -((-m) / b) := by
  rw [← tdiv_pos (m := -m) (by omega), Int.neg_tdiv, Int.neg_neg]
theorem tmod_neg' {m : Int} (h : m < 0) (b : Int) : Int.tmod m b = -((-m) % b) := by
  rw [← tmod_pos (m := -m) (by omega), Int.neg_tmod, Int.neg_neg]

/-! ### reads -/
theorem rd_cast (xs : List Int) (i : Nat) : rd xs (i : Int) = xs.getD i 0 := rfl
theorem rd_mem {xs : List Int} {i : Int} (h : i.toNat < xs.length) : rd xs i ∈ xs := by
  unfold rd
  rw [List.getD_eq_getElem?_getD, List.getElem?_eq_getElem h]
  exact List.getElem_mem h
theorem rd_of_all {P : Int → Prop} {xs : List Int} (h : ∀ x ∈ xs, P x) {i : Int} (h0 : 0 ≤ i) (h1 : i < (xs.length : Int)) : P (rd xs i) := h _ (rd_mem (by omega))

/-! ### a copy, element by element: 'y' holds x's elements up to i -/
def Same {α : Type} (d : α) (x y : List α) (i : Nat) : Prop := y.length = x.length ∧ ∀ j, j < i → j < x.length → y.getD j d = x.getD j d
theorem Same.start {α : Type} {d : α} {x y : List α} (h : y.length = x.length) : Same d x y 0 := ⟨h, fun _ hj => absurd hj (by omega)⟩
theorem Same.step {α : Type} {d : α} {x y : List α} {i : Nat} (h : Same d x y i) (hi : i < x.length) : Same d x (y.set i (x.getD i d)) (i + 1) := by
  refine ⟨by rw [List.length_set]; exact h.1, fun j hj hx => ?_⟩
  rw [List.getD_eq_getElem?_getD, List.getElem?_set]
  by_cases e : i = j
  · subst e
    rw [if_pos rfl, if_pos (by rw [h.1]; exact hi)]
    rfl
  · rw [if_neg e, ← List.getD_eq_getElem?_getD]
    exact h.2 j (by omega) hx
theorem Same.done {α : Type} {d : α} {x y : List α} {i : Nat} (h : Same d x y i) (hi : x.length ≤ i) : y = x := by
  refine List.ext_getElem h.1 fun j h1 h2 => ?_
  have := h.2 j (by omega) h2
  rw [List.getD_eq_getElem?_getD, List.getD_eq_getElem?_getD, List.getElem?_eq_getElem h1, List.getElem?_eq_getElem h2] at this
  exact this

/-! ### decimal numerals -/
/-- The decimal numeral of a number, as bytes. -/
def numB (n : Int) : ByteArray := ⟨(Lib.itoa n).toArray⟩
/-- The digits of u, none for 0. -/
def digs (u : Nat) : List Int := if h : u = 0 then [] else digs (u / 10) ++ [((48 + u % 10 : Nat) : Int)]
termination_by u
decreasing_by omega
theorem digs_zero : digs 0 = [] := by rw [digs, dif_pos rfl]
theorem digs_succ {u : Nat} (h : u ≠ 0) : digs u = digs (u / 10) ++ [((48 + u % 10 : Nat) : Int)] := by rw [digs, dif_neg h]
theorem digs_range {u : Nat} : ∀ x ∈ digs u, 48 ≤ x ∧ x ≤ 57 := by
  induction u using Nat.strongRecOn with
  | _ u ih =>
    intro x hx
    by_cases h : u = 0
    · subst h; rw [digs_zero] at hx; cases hx
    · rw [digs_succ h, List.mem_append] at hx
      rcases hx with hx | hx
      · exact ih _ (by omega) x hx
      · rw [List.mem_singleton] at hx; subst hx; omega
theorem decDigits_digs {u : Nat} (h : u ≠ 0) : Lib.decDigits u = (digs u).map fun x => UInt8.ofNat x.toNat := by
  induction u using Nat.strongRecOn with
  | _ u ih =>
    rw [digs_succ h, List.map_append, List.map_cons, List.map_nil, Lib.decDigits]
    by_cases h10 : u < 10
    · rw [dif_pos h10, show u / 10 = 0 by omega, digs_zero]
      rw [Nat.mod_eq_of_lt h10]; rfl
    · rw [dif_neg h10, ih (u / 10) (by omega) (by omega)]
      rfl
theorem digs_length {u j : Nat} (h : u < 10 ^ j) : (digs u).length ≤ j := by
  induction j generalizing u with
  | zero => rw [show u = 0 by simpa using h, digs_zero]; exact Nat.le_refl _
  | succ j ih =>
    by_cases e : u = 0
    · subst e; rw [digs_zero]; exact Nat.zero_le _
    · rw [digs_succ e, List.length_append]
      have := ih (u := u / 10) (by rw [Nat.pow_succ] at h; omega)
      simp only [List.length_cons, List.length_nil]
      omega
theorem size_strOfNums (l : List Int) : (strOfNums l).size = l.length := by simp [strOfNums, ByteArray.size]
theorem numB_eq (n : Int) (h : n ≠ 0) : numB n = strOfNums ((if n < 0 then [45] else []) ++ digs n.natAbs) := by
  unfold numB Lib.itoa strOfNums
  by_cases hn : n < 0
  · rw [if_pos hn, if_pos hn, decDigits_digs (by omega)]
    simp
  · rw [if_neg hn, if_neg hn, show n.toNat = n.natAbs by omega, decDigits_digs (by omega)]
    simp
theorem numB_zero : numB 0 = (⟨#[48]⟩ : ByteArray) := by
  unfold numB Lib.itoa
  rw [if_neg (by omega), Lib.decDigits, dif_pos (by decide)]
  rfl
theorem numB_size {n : Int} (h0 : -9223372036854775808 ≤ n) (h1 : n ≤ 9223372036854775807) : (numB n).size ≤ 21 := by
  by_cases h : n = 0
  · subst h; rw [numB_zero]; decide
  · rw [numB_eq n h, size_strOfNums, List.length_append]
    have := digs_length (u := n.natAbs) (j := 20) (by omega)
    split <;> simp only [List.length_cons, List.length_nil] <;> omega
/-! ### hexadecimal -/
def hexd (n : Int) : Int := if n < 10 then 48 + n else 87 + n
/-- Two digits a byte. -/
def hexL (l : List Int) : List Int := l.flatMap fun b => [hexd (b / 16), hexd (b % 16)]
def hexB (l : List Int) : ByteArray := if (l.length : Int) > 4000 then (⟨#[]⟩ : ByteArray) else strOfNums (hexL l)
theorem hexL_length (l : List Int) : (hexL l).length = 2 * l.length := by
  induction l with
  | nil => rfl
  | cons x r ih =>
    have : hexL (x :: r) = [hexd (x / 16), hexd (x % 16)] ++ hexL r := rfl
    rw [this, List.length_append, ih]; simp only [List.length_cons, List.length_nil]; omega
theorem hexB_size (l : List Int) : (hexB l).size ≤ 8000 := by
  unfold hexB
  split
  · exact Nat.zero_le _
  · rw [size_strOfNums, hexL_length]; omega
theorem drop_getD {α : Type} {l : List α} {i : Nat} (d : α) (h : i < l.length) : l.drop i = l.getD i d :: l.drop (i + 1) := by
  rw [List.drop_eq_getElem_cons h]
  congr 1
  rw [List.getD_eq_getElem?_getD, List.getElem?_eq_getElem h]; rfl
theorem getD_mem {α : Type} {l : List α} {i : Nat} (d : α) (h : i < l.length) : l.getD i d ∈ l := by
  rw [List.getD_eq_getElem?_getD, List.getElem?_eq_getElem h]
  exact List.getElem_mem h
theorem drop_rd {l : List Int} {i : Nat} (h : i < l.length) : l.drop i = rd l (i : Int) :: l.drop (i + 1) := by
  rw [List.drop_eq_getElem_cons h]
  congr 1
  unfold rd
  rw [Int.toNat_natCast, List.getD_eq_getElem?_getD, List.getElem?_eq_getElem h]; rfl
theorem toList_inj {a b : ByteArray} (h : a = b) : a.toList = b.toList := by rw [h]
theorem size_append (a b : ByteArray) : (a ++ b).size = a.size + b.size := ByteArray.size_append

/-! ### texts put together -/
theorem ba_ext {a b : ByteArray} (h : a.data.toList = b.data.toList) : a = b := by
  cases a; cases b
  simp only [ByteArray.mk.injEq]
  exact Array.toList_inj.1 h
theorem ba_append (a b : ByteArray) : (a ++ b).data.toList = a.data.toList ++ b.data.toList := by simp
theorem ba_size (a : ByteArray) : a.data.toList.length = a.size := Array.length_toList
/-- strings.Join. -/
def joinB (xs : List ByteArray) (sep : ByteArray) : ByteArray := ⟨(Lib.join (xs.map (·.data.toList)) sep.data.toList).toArray⟩
/-- The first text, and each further one behind a separator. -/
def sepB (sep : ByteArray) (x : ByteArray) (r : List ByteArray) : ByteArray := r.foldl (fun s y => s ++ sep ++ y) x
theorem sepB_data (sep : ByteArray) : ∀ (r : List ByteArray) (x : ByteArray), (sepB sep x r).data.toList = x.data.toList ++ Lib.joinTail sep.data.toList (r.map (·.data.toList))
  | [], x => by simp [sepB, Lib.joinTail]
  | y :: r, x => by
    have := sepB_data sep r (x ++ sep ++ y)
    unfold sepB at this ⊢
    rw [List.foldl_cons, this, ba_append, ba_append]
    simp [Lib.joinTail]
theorem joinB_cons (x : ByteArray) (r : List ByteArray) (sep : ByteArray) : joinB (x :: r) sep = sepB sep x r := by
  apply ba_ext
  rw [sepB_data]
  unfold joinB
  simp [Lib.join_cons]
theorem joinB_nil (sep : ByteArray) : joinB [] sep = (⟨#[]⟩ : ByteArray) := rfl
theorem sepB_size (sep : ByteArray) (c : Nat) : ∀ (r : List ByteArray) (x : ByteArray), (∀ y ∈ r, y.size ≤ c) → (sepB sep x r).size ≤ x.size + r.length * (sep.size + c)
  | [], x, _ => by simp [sepB]
  | y :: r, x, h => by
    have := sepB_size sep c r (x ++ sep ++ y) fun z hz => h z (List.mem_cons_of_mem _ hz)
    unfold sepB at this ⊢
    rw [List.foldl_cons]
    refine Nat.le_trans this ?_
    rw [size_append, size_append, List.length_cons, Nat.succ_mul]
    have := h y List.mem_cons_self
    omega
theorem join_len (xs : List ByteArray) (sep : ByteArray) : (Lib.join (xs.map (·.data.toList)) sep.data.toList).length = (joinB xs sep).size := by simp [joinB, ByteArray.size]
end Go.Proofs.YtnicflgogkakeaaDoor.K

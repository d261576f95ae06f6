/-
The law FnExactConfText of this program: for every input that reads as data the call returns true, and each argument reads afterwards as it read before; conditions: the listed package-level variables hold what the program's text lays.
-/
import Derived.Test.YtnicflgogkakeaaDoorRows
import Derived.Test.YtnicflgogkakeaaDoorCards
import Derived.Test.YtnicflgogkakeaaDoorTie
import Derived.Test.YtnicflgogkakeaaDoorQFnExactConfTextx
import Derived.Test.YtnicflgogkakeaaDoorOpn
import Derived.Test.YtnicflgogkakeaaDoorSh
import Derived.Test.YtnicflgogkakeaaDoorUFnExactConfTextLawConfText
import Derived.WalkKit
import Derived.ProofKit
import Derived.OpenShut
import Derived.ShutString
import Derived.ChangeOld
import Derived.Below
import Derived.SizedLaws
import Derived.Deep.DeepHandedRow
import Derived.Lib.LaidTab
import Derived.Stop.LaidErr
set_option linter.unusedVariables false
namespace Go.Proofs.YtnicflgogkakeaaDoor.QFnExactConfText
open Go.ChangeShapes Go.WideShapes Go.ChangeAt Go.RowKit Go.Proofs.YtnicflgogkakeaaDoor.Opn Go.Proofs.YtnicflgogkakeaaDoor.K Go.Proofs.YtnicflgogkakeaaDoorW.PrintWords Go.Proofs.YtnicflgogkakeaaDoorW.PrintLast Go.Proofs.YtnicflgogkakeaaDoorW.PrintMore
/-- What a value of type 53 that reads as data is known to be. -/
def Q53 (x : S53) : Prop := (Lit.int .i64 x.f0).wf = true ∧ (Lit.int .i64 x.f1).wf = true ∧ (Lit.int .i64 x.f2).wf = true ∧ (Lit.int .i64 x.f3).wf = true ∧ True
theorem opens_T53 : Opens Tryd.prog 53 k53 Q53 := fun {H enc w base spare held fuel cs x} h => by
  obtain ⟨ys, n, rfl, _, hlen, hyl, hg⟩ := DataW.trod_struct Tryd.underlying53 h
  rw [show Tryd.prog.cellsOf 53 = 5 from by kernel_rfl] at hlen
  replace hyl : ys.length = 5 := hyl
  have g0 : DataW.trod enc Tryd.prog w base spare held n 3 (List.take (Tryd.prog.cellsOf 3) (List.drop 0 cs)) = ys[0]? := hg 0 _ rfl
  obtain ⟨a0, k0, q0⟩ := field (Opens.int (k := .i64) Tryd.underlying3) (n := 1) (by kernel_rfl) (by omega) g0
  have g1 : DataW.trod enc Tryd.prog w base spare held n 3 (List.take (Tryd.prog.cellsOf 3) (List.drop 1 cs)) = ys[1]? := hg 1 _ rfl
  obtain ⟨a1, k1, q1⟩ := field (Opens.int (k := .i64) Tryd.underlying3) (n := 1) (by kernel_rfl) (by omega) g1
  have g2 : DataW.trod enc Tryd.prog w base spare held n 3 (List.take (Tryd.prog.cellsOf 3) (List.drop 2 cs)) = ys[2]? := hg 2 _ rfl
  obtain ⟨a2, k2, q2⟩ := field (Opens.int (k := .i64) Tryd.underlying3) (n := 1) (by kernel_rfl) (by omega) g2
  have g3 : DataW.trod enc Tryd.prog w base spare held n 3 (List.take (Tryd.prog.cellsOf 3) (List.drop 3 cs)) = ys[3]? := hg 3 _ rfl
  obtain ⟨a3, k3, q3⟩ := field (Opens.int (k := .i64) Tryd.underlying3) (n := 1) (by kernel_rfl) (by omega) g3
  have g4 : DataW.trod enc Tryd.prog w base spare held n 4 (List.take (Tryd.prog.cellsOf 4) (List.drop 4 cs)) = ys[4]? := hg 4 _ rfl
  obtain ⟨a4, k4, q4⟩ := field (Opens.bool Tryd.underlying4) (n := 1) (by kernel_rfl) (by omega) g4
  rw [seg_end (m := 5) hlen rfl] at k4
  exact ⟨⟨a0, a1, a2, a3, a4⟩, ⟨_, _, seg cs 0 1 1 rfl, k0, ⟨_, _, seg cs 1 1 2 rfl, k1, ⟨_, _, seg cs 2 1 3 rfl, k2, ⟨_, _, seg cs 3 1 4 rfl, k3, k4⟩⟩⟩⟩, ⟨q0, q1, q2, q3, q4⟩⟩
/-- What a value of type 41 that reads as data is known to be. -/
def Q41 (x : S41) : Prop := (Lit.int .i64 x.f0).wf = true ∧ (Lit.int .i64 x.f1).wf = true ∧ (Lit.int .i64 x.f2).wf = true
theorem opens_T41 : Opens Tryd.prog 41 k41 Q41 := fun {H enc w base spare held fuel cs x} h => by
  obtain ⟨ys, n, rfl, _, hlen, hyl, hg⟩ := DataW.trod_struct Tryd.underlying41 h
  rw [show Tryd.prog.cellsOf 41 = 3 from by kernel_rfl] at hlen
  replace hyl : ys.length = 3 := hyl
  have g0 : DataW.trod enc Tryd.prog w base spare held n 3 (List.take (Tryd.prog.cellsOf 3) (List.drop 0 cs)) = ys[0]? := hg 0 _ rfl
  obtain ⟨a0, k0, q0⟩ := field (Opens.int (k := .i64) Tryd.underlying3) (n := 1) (by kernel_rfl) (by omega) g0
  have g1 : DataW.trod enc Tryd.prog w base spare held n 3 (List.take (Tryd.prog.cellsOf 3) (List.drop 1 cs)) = ys[1]? := hg 1 _ rfl
  obtain ⟨a1, k1, q1⟩ := field (Opens.int (k := .i64) Tryd.underlying3) (n := 1) (by kernel_rfl) (by omega) g1
  have g2 : DataW.trod enc Tryd.prog w base spare held n 3 (List.take (Tryd.prog.cellsOf 3) (List.drop 2 cs)) = ys[2]? := hg 2 _ rfl
  obtain ⟨a2, k2, q2⟩ := field (Opens.int (k := .i64) Tryd.underlying3) (n := 1) (by kernel_rfl) (by omega) g2
  rw [seg_end (m := 3) hlen rfl] at k2
  exact ⟨⟨a0, a1, a2⟩, ⟨_, _, seg cs 0 1 1 rfl, k0, ⟨_, _, seg cs 1 1 2 rfl, k1, k2⟩⟩, ⟨q0, q1, q2⟩⟩
/-- What a value of type 118 that reads as data is known to be. -/
def Q118 (x : S118) : Prop := Q41 x.f0 ∧ Q41 x.f1
theorem opens_T118 : Opens Tryd.prog 118 k118 Q118 := fun {H enc w base spare held fuel cs x} h => by
  obtain ⟨ys, n, rfl, _, hlen, hyl, hg⟩ := DataW.trod_struct Tryd.underlying118 h
  rw [show Tryd.prog.cellsOf 118 = 6 from by kernel_rfl] at hlen
  replace hyl : ys.length = 2 := hyl
  have g0 : DataW.trod enc Tryd.prog w base spare held n 41 (List.take (Tryd.prog.cellsOf 41) (List.drop 0 cs)) = ys[0]? := hg 0 _ rfl
  obtain ⟨a0, k0, q0⟩ := field opens_T41 (n := 3) (by kernel_rfl) (by omega) g0
  have g1 : DataW.trod enc Tryd.prog w base spare held n 41 (List.take (Tryd.prog.cellsOf 41) (List.drop 3 cs)) = ys[1]? := hg 1 _ rfl
  obtain ⟨a1, k1, q1⟩ := field opens_T41 (n := 3) (by kernel_rfl) (by omega) g1
  rw [seg_end (m := 6) hlen rfl] at k1
  exact ⟨⟨a0, a1⟩, ⟨_, _, seg cs 0 3 3 rfl, k0, k1⟩, ⟨q0, q1⟩⟩
/-- What a value of type 56 that reads as data is known to be. -/
def Q56 (x : S56) : Prop := (Lit.int .i64 x.f0).wf = true ∧ (Lit.int .i64 x.f1).wf = true ∧ (Lit.int .i64 x.f2).wf = true ∧ (Lit.int .i64 x.f3).wf = true ∧ (Lit.int .i64 x.f4).wf = true ∧ Q53 x.f5 ∧ (x.f6.length ≤ 9223372036854775807 ∧ ∀ y ∈ x.f6, Q118 y)
theorem opens_T56 : Opens Tryd.prog 56 k56 Q56 := fun {H enc w base spare held fuel cs x} h => by
  obtain ⟨ys, n, rfl, _, hlen, hyl, hg⟩ := DataW.trod_struct Tryd.underlying56 h
  rw [show Tryd.prog.cellsOf 56 = 11 from by kernel_rfl] at hlen
  replace hyl : ys.length = 7 := hyl
  have g0 : DataW.trod enc Tryd.prog w base spare held n 3 (List.take (Tryd.prog.cellsOf 3) (List.drop 0 cs)) = ys[0]? := hg 0 _ rfl
  obtain ⟨a0, k0, q0⟩ := field (Opens.int (k := .i64) Tryd.underlying3) (n := 1) (by kernel_rfl) (by omega) g0
  have g1 : DataW.trod enc Tryd.prog w base spare held n 3 (List.take (Tryd.prog.cellsOf 3) (List.drop 1 cs)) = ys[1]? := hg 1 _ rfl
  obtain ⟨a1, k1, q1⟩ := field (Opens.int (k := .i64) Tryd.underlying3) (n := 1) (by kernel_rfl) (by omega) g1
  have g2 : DataW.trod enc Tryd.prog w base spare held n 3 (List.take (Tryd.prog.cellsOf 3) (List.drop 2 cs)) = ys[2]? := hg 2 _ rfl
  obtain ⟨a2, k2, q2⟩ := field (Opens.int (k := .i64) Tryd.underlying3) (n := 1) (by kernel_rfl) (by omega) g2
  have g3 : DataW.trod enc Tryd.prog w base spare held n 3 (List.take (Tryd.prog.cellsOf 3) (List.drop 3 cs)) = ys[3]? := hg 3 _ rfl
  obtain ⟨a3, k3, q3⟩ := field (Opens.int (k := .i64) Tryd.underlying3) (n := 1) (by kernel_rfl) (by omega) g3
  have g4 : DataW.trod enc Tryd.prog w base spare held n 3 (List.take (Tryd.prog.cellsOf 3) (List.drop 4 cs)) = ys[4]? := hg 4 _ rfl
  obtain ⟨a4, k4, q4⟩ := field (Opens.int (k := .i64) Tryd.underlying3) (n := 1) (by kernel_rfl) (by omega) g4
  have g5 : DataW.trod enc Tryd.prog w base spare held n 53 (List.take (Tryd.prog.cellsOf 53) (List.drop 5 cs)) = ys[5]? := hg 5 _ rfl
  obtain ⟨a5, k5, q5⟩ := field opens_T53 (n := 5) (by kernel_rfl) (by omega) g5
  have g6 : DataW.trod enc Tryd.prog w base spare held n 54 (List.take (Tryd.prog.cellsOf 54) (List.drop 10 cs)) = ys[6]? := hg 6 _ rfl
  obtain ⟨a6, k6, q6⟩ := field (Opens.slice Tryd.underlying54 (by kernel_rfl) opens_T118) (n := 1) (by kernel_rfl) (by omega) g6
  rw [seg_end (m := 11) hlen rfl] at k6
  exact ⟨⟨a0, a1, a2, a3, a4, a5, a6⟩, ⟨_, _, seg cs 0 1 1 rfl, k0, ⟨_, _, seg cs 1 1 2 rfl, k1, ⟨_, _, seg cs 2 1 3 rfl, k2, ⟨_, _, seg cs 3 1 4 rfl, k3, ⟨_, _, seg cs 4 1 5 rfl, k4, ⟨_, _, seg cs 5 5 10 rfl, k5, k6⟩⟩⟩⟩⟩⟩, ⟨q0, q1, q2, q3, q4, q5, q6⟩⟩
theorem own : ownKnob Tryd.prog.godebug = none := by kernel_rfl
theorem laidOut : laidOutB Tryd.prog = true := by kernel_rfl
theorem laid_is : Rows.fnExactConfTextRow.laid = [("math/bits.deBruijn32tab", Rows.laid_math_bits_deBruijn32tab), ("math/bits.deBruijn64tab", Rows.laid_math_bits_deBruijn64tab), ("internal/strconv.uint64pow10", Rows.laid_internal_strconv_uint64pow10)] := rfl
theorem tab_pow {W : World} (h : laidMetH Tryd.prog Rows.fnExactConfTextRow.laid W) : Lib.TabIs Tryd.prog W "internal/strconv.uint64pow10" .u64 Lib.pow10Tab := by
  have h0 : laidMet Tryd.prog [("math/bits.deBruijn32tab", Rows.laid_math_bits_deBruijn32tab), ("math/bits.deBruijn64tab", Rows.laid_math_bits_deBruijn64tab), ("internal/strconv.uint64pow10", Rows.laid_internal_strconv_uint64pow10)] W := h
  have h1 : laidMet Tryd.prog (("internal/strconv.uint64pow10", Lib.tabData .u64 Lib.pow10Tab) :: []) W := h0.tail.tail
  exact Lib.tabIs_of_head g_pow (by kernel_rfl : (Tryd.prog.globals[1]?).map (·.type) = some 154) Tryd.underlying154 Tryd.underlying145 (by kernel_rfl) (by kernel_rfl) h1
theorem tab_of {W : World} (h : laidMetH Tryd.prog Rows.fnExactConfTextRow.laid W) : Tab W where
  pow := tab_pow h
/-- A world for the witness: the settled one, the tables as their initialisers lay them. -/
noncomputable def laidWorld (os : Os) : World :=
  { World.holding Tryd.prog os ⟨#[], #[], []⟩ with heap := ((((World.holding Tryd.prog os ⟨#[], #[], []⟩).heap.modify 2 (fun | .cells _ t frozen => .cells #[.int .u8 0, .int .u8 1, .int .u8 28, .int .u8 2, .int .u8 29, .int .u8 14, .int .u8 24, .int .u8 3, .int .u8 30, .int .u8 22, .int .u8 20, .int .u8 15, .int .u8 25, .int .u8 17, .int .u8 4, .int .u8 8, .int .u8 31, .int .u8 27, .int .u8 13, .int .u8 23, .int .u8 21, .int .u8 19, .int .u8 16, .int .u8 7, .int .u8 26, .int .u8 12, .int .u8 18, .int .u8 6, .int .u8 11, .int .u8 5, .int .u8 10, .int .u8 9] t frozen | o => o)).modify 3 (fun | .cells _ t frozen => .cells #[.int .u8 0, .int .u8 1, .int .u8 56, .int .u8 2, .int .u8 57, .int .u8 49, .int .u8 28, .int .u8 3, .int .u8 61, .int .u8 58, .int .u8 42, .int .u8 50, .int .u8 38, .int .u8 29, .int .u8 17, .int .u8 4, .int .u8 62, .int .u8 47, .int .u8 59, .int .u8 36, .int .u8 45, .int .u8 43, .int .u8 51, .int .u8 22, .int .u8 53, .int .u8 39, .int .u8 33, .int .u8 30, .int .u8 24, .int .u8 18, .int .u8 12, .int .u8 5, .int .u8 63, .int .u8 55, .int .u8 48, .int .u8 27, .int .u8 60, .int .u8 41, .int .u8 37, .int .u8 16, .int .u8 46, .int .u8 35, .int .u8 44, .int .u8 21, .int .u8 52, .int .u8 32, .int .u8 23, .int .u8 11, .int .u8 54, .int .u8 26, .int .u8 40, .int .u8 15, .int .u8 34, .int .u8 20, .int .u8 31, .int .u8 10, .int .u8 25, .int .u8 14, .int .u8 19, .int .u8 9, .int .u8 13, .int .u8 8, .int .u8 7, .int .u8 6] t frozen | o => o)).modify 1 (fun | .cells _ t frozen => .cells #[.int .u64 1, .int .u64 10, .int .u64 100, .int .u64 1000, .int .u64 10000, .int .u64 100000, .int .u64 1000000, .int .u64 10000000, .int .u64 100000000, .int .u64 1000000000, .int .u64 10000000000, .int .u64 100000000000, .int .u64 1000000000000, .int .u64 10000000000000, .int .u64 100000000000000, .int .u64 1000000000000000, .int .u64 10000000000000000, .int .u64 100000000000000000, .int .u64 1000000000000000000, .int .u64 10000000000000000000] t frozen | o => o)) }
theorem laid_met (os : Os) : laidMet Tryd.prog Rows.fnExactConfTextRow.laid ((laidWorld os).forCall (fun _ _ => 0) ⟨#[], #[.agg #[.int .i64 0, .int .i64 0, .int .i64 0, .int .i64 0, .int .i64 0, .int .i64 0, .int .i64 0, .int .i64 0, .int .i64 0, .bool false, .slice none 0 0]], []⟩).memory :=
  laidMet_of_run' 8 (by kernel_rfl) (by kernel_rfl)
theorem reads (os : Os) {H : Type} (enc : TypeId × Value → H) : ∃ places, DataW.whole enc Tryd.prog ((laidWorld os).forCall (fun _ _ => 0) ⟨#[], #[.agg #[.int .i64 0, .int .i64 0, .int .i64 0, .int .i64 0, .int .i64 0, .int .i64 0, .int .i64 0, .int .i64 0, .int .i64 0, .bool false, .slice none 0 0]], []⟩).memory Tryd.f6.params.toList Rows.fnExactConfTextSpec.vars false (#[.agg #[.int .i64 0, .int .i64 0, .int .i64 0, .int .i64 0, .int .i64 0, .int .i64 0, .int .i64 0, .int .i64 0, .int .i64 0, .bool false, .slice none 0 0]] : Array Value).toList 8 = some ([.agg [.lit (.int .i64 0), .lit (.int .i64 0), .lit (.int .i64 0), .lit (.int .i64 0), .lit (.int .i64 0), .agg [.lit (.int .i64 0), .lit (.int .i64 0), .lit (.int .i64 0), .lit (.int .i64 0), .lit (.bool false)], .nil]], [], places) :=
  ⟨[], by kernel_rfl⟩
set_option maxRecDepth 100000 in
theorem contract (H : Type) (enc : TypeId × Value → H) (W : World) (base : Nat) (args : Array Value) (ds gs : List (DataW H)) (before : List MemPlace)
    (hval : ∀ (j : Nat) t v, Tryd.f6.params[j]? = some t → args[j]? = some v → Value.okWide Tryd.prog W .any base t v)
    (hsz : (DataW.weightsEach Tryd.prog (Tryd.f6.params.toList ++ Rows.fnExactConfTextSpec.plain.varTypes Tryd.prog) (ds ++ gs)).all (· ≤ reachBytes) = true)
    (hW : DataW.Whole enc Tryd.prog Tryd.f6.params.toList Rows.fnExactConfTextSpec.vars false W args.toList ds gs before) (hL : laidMetH Tryd.prog Rows.fnExactConfTextRow.laid W) :
    Calls Tryd.prog 6 args W fun e W' => ∃ v, e = .returned v ∧ Rows.fnExactConfTextSpec.post enc Tryd.prog Tryd.f6 false true false false W args v W' := by
  have hW' := hW
  obtain ⟨p, q, hA0, hV, rfl, hfz, hnd⟩ := hW
  have hA : DataW.TrodAll enc Tryd.prog W 0 (fun _ => true) true Tryd.f6.params.toList args.toList ds p := hA0
  rw [Tryd.params6] at hA hval
  obtain ⟨v0, vs0, d0, ds0, p0, q0, hargs, rfl, rfl, h0, r0⟩ := trodAll_cons hA
  obtain ⟨rfl, rfl, rfl⟩ := trodAll_nil r0
  obtain rfl : args = #[v0] := by cases args; simp_all
  obtain ⟨rfl, rfl⟩ := trodVars_none hV
  have k0 := h0
  have lt0 : ∀ x ∈ p0, x.block < W.heap.size := by obtain ⟨m, hm⟩ := k0; exact DataW.trod_lt m _ _ _ hm
  obtain ⟨fuel0, hf0⟩ := h0
  obtain ⟨cs0, rfl, _⟩ := okWide_struct Tryd.underlying56 (hval 0 56 v0 rfl rfl)
  obtain ⟨x0, hK0, hQ0⟩ := opens_T56 hf0
  obtain ⟨lc0⟩ := cs0
  obtain ⟨a0_0, a0_1, a0_2, a0_3, a0_4, ⟨a0_5_0, a0_5_1, a0_5_2, a0_5_3, a0_5_4⟩, l0_6⟩ := x0
  have hK0' : k56.K W _ lc0 := hK0
  clear hK0
  obtain ⟨_, _, e0, rfl, ⟨_, _, rfl, rfl, ⟨_, _, rfl, rfl, ⟨_, _, rfl, rfl, ⟨_, _, rfl, rfl, ⟨_, _, rfl, ⟨_, _, rfl, rfl, ⟨_, _, rfl, rfl, ⟨_, _, rfl, rfl, ⟨_, _, rfl, rfl, rfl⟩⟩⟩⟩, ⟨A0_6, c0_6, rfl, hc0_6, hr0_6⟩⟩⟩⟩⟩⟩⟩ := hK0'
  subst e0
  obtain ⟨hw0_0, hw0_1, hw0_2, hw0_3, hw0_4, ⟨hw0_5_0, hw0_5_1, hw0_5_2, hw0_5_3, -⟩, ⟨hm0_6, hw0_6⟩⟩ := hQ0
  clear hA0 hval
  obtain ⟨k, hpure⟩ := Ev.rounds (law_ev hm0_6)
  have htab : Tab W := tab_of hL
  refine ((laws_FnExactConfText.calls k a0_0 a0_1 a0_2 a0_3 a0_4 a0_5_0 a0_5_1 a0_5_2 a0_5_3 a0_5_4 _ _ l0_6 true W hr0_6 hc0_6 htab hpure).mono fun e W' ⟨he, bel0⟩ => ?_)
  have bel : Below W.heap.size W W' := bel0
  subst he
  exact ⟨_, rfl, _, _, _, [], _, [], hW', trodAll_mk1 (shut_bool Tryd.underlying4 _), (trodAll_cons_mk (Below.trod laidOut (by kernel_rfl) (of_decide_eq_true (by kernel_rfl)) k0 bel lt0) trodAll_mk0), rfl, bel.frame _, fun h => by cases h⟩
set_option maxRecDepth 100000 in
theorem lifted (os : Os) (started : os.Started) (H : Type) (enc : TypeId × Value → H) (F : Stop.Interp) :
    ReturnsInHanded {} Tryd.checked os 6 .any ((OpenSpec.ofChange Rows.fnExactConfTextSpec).preRow enc Tryd.prog Tryd.f6 Rows.fnExactConfTextRow.domain false Rows.fnExactConfTextRow.laid) (((OpenSpec.ofChange Rows.fnExactConfTextSpec).at F).post enc Tryd.prog Tryd.f6 false true false false) := by
  obtain ⟨places, hx⟩ := reads os enc
  refine returnsInHanded_of_row (C := Tryd.checked) (s := OpenSpec.ofChange Rows.fnExactConfTextSpec) own started (by kernel_rfl) Tryd.func6
    (witness_row_at (enc := enc) (C := Tryd.checked) false (laidWorld os) #[.agg #[.int .i64 0, .int .i64 0, .int .i64 0, .int .i64 0, .int .i64 0, .int .i64 0, .int .i64 0, .int .i64 0, .int .i64 0, .bool false, .slice none 0 0]] rfl (by kernel_rfl) (by kernel_rfl) (by kernel_rfl)
      (OpenSpec.preRow_of_cond 8 hx (by kernel_rfl) (fun k hk => by cases hk) (by kernel_rfl) (laid_met os))) ?_
  intro W base args ds gs before hval hW _ _ hsz hL _ _
  exact contract H enc W base args ds gs before hval hsz hW hL
theorem said : Rows.FnExactConfTextSaid :=
  OpenClaim.holds_of_cond 6 Tryd.f6 rfl rfl rfl rfl rfl rfl rfl ⟨rfl, rfl, rfl, rfl, rfl⟩ rfl rfl rfl rfl rfl (by kernel_rfl) Tryd.func6 (by kernel_rfl)
    (of_decide_eq_true (by kernel_rfl)) (by unfold Func.isWrapper; first | (rw [if_pos (by decide +kernel)]; kernel_rfl) | (rw [if_neg (by decide +kernel)]; exact ⟨rfl, rfl⟩))
    (fun os started H enc _ F => by rw [OpenClaim.pre_eq_preRow]; exact lifted os started H enc F)
theorem plain (f : FuncId) (fn : Func) (hf : Tryd.pinned.checked.prog.funcNamed "loop.example/g00655/laws.FnExactConfText" = some f) (hfn : Tryd.pinned.checked.prog.funcs[f]? = some fn) :
    false = Tryd.pinned.checked.prog.looks [] ∧ ∀ (j : Nat) t, fn.params[j]? = some t → Tryd.pinned.checked.prog.wantsStandIn t = false := by
  obtain rfl : f = 6 := Option.some.inj ((show Tryd.prog.funcNamed "loop.example/g00655/laws.FnExactConfText" = some 6 by kernel_rfl).symm.trans hf) |>.symm
  obtain rfl : fn = Tryd.f6 := (Option.some.inj (Tryd.func6.symm.trans hfn)).symm
  refine ⟨by kernel_rfl, fun j t ht => ?_⟩
  rw [Tryd.params6] at ht
  have hm : t ∈ (#[56] : Array TypeId) := Array.mem_of_getElem? ht
  simp at hm
  subst hm
  exact (show Tryd.prog.wantsStandIn 56 = false by kernel_rfl)
theorem card : Rows.FnExactConfTextCardSaid :=
  Claim7.holds_tied_plain_at .later [] _ _ _ _ said (fun _ h => by cases h) (by kernel_rfl) (fun _ h => by cases h) fnExactConfText_row_tie rfl ⟨rfl, rfl⟩ (by kernel_rfl) rfl plain (by kernel_rfl)
end Go.Proofs.YtnicflgogkakeaaDoor.QFnExactConfText
namespace Go.Proofs.YtnicflgogkakeaaDoor
/-- The statement, under a short name, for the claim. -/
theorem fnExactConfText_holds : Rows.FnExactConfTextCardSaid := QFnExactConfText.card
#print axioms fnExactConfText_holds
end Go.Proofs.YtnicflgogkakeaaDoor

/-
The law FnExactLedger of this program: for every input that reads as data the call returns true, and each argument reads afterwards as it read before.
-/
import Derived.Test.YtnicflgogkakeaaRows
import Derived.Test.YtnicflgogkakeaaQFnExactLedgerx
import Derived.Test.YtnicflgogkakeaaOpn
import Derived.Test.YtnicflgogkakeaaSh
import Derived.Test.YtnicflgogkakeaaUFnExactLedgerLawLedger
import Derived.WalkKit
import Derived.ProofKit
import Derived.OpenShut
import Derived.ShutString
import Derived.ChangeOld
import Derived.Below
import Derived.SizedLaws
import Derived.Deep.DeepHandedRow
import Derived.Lib.LaidTab
import Derived.Stop.LaidErr
set_option linter.unusedVariables false
namespace Go.Proofs.Ytnicflgogkakeaa.QFnExactLedger
open Go.ChangeShapes Go.WideShapes Go.ChangeAt Go.RowKit Go.Proofs.Ytnicflgogkakeaa.Opn Go.Proofs.Ytnicflgogkakeaa.K Go.Proofs.YtnicflgogkakeaaW.PrintWords Go.Proofs.YtnicflgogkakeaaW.PrintLast Go.Proofs.YtnicflgogkakeaaW.PrintMore
/-- What a value of type 39 that reads as data is known to be. -/
def Q39 (x : S39) : Prop := (Lit.int .i64 x.f0).wf = true ∧ (Lit.int .i64 x.f1).wf = true ∧ (Lit.int .i64 x.f2).wf = true ∧ (x.f3.length ≤ 9223372036854775807 ∧ ∀ y ∈ x.f3, (Lit.int .u8 y).wf = true) ∧ (x.f4.length ≤ 9223372036854775807 ∧ ∀ y ∈ x.f4, (Lit.int .i64 y).wf = true)
theorem opens_T39 : Opens Try.prog 39 k39 Q39 := fun {H enc w base spare held fuel cs x} h => by
  obtain ⟨ys, n, rfl, _, hlen, hyl, hg⟩ := DataW.trod_struct Try.underlying39 h
  rw [show Try.prog.cellsOf 39 = 5 from by kernel_rfl] at hlen
  replace hyl : ys.length = 5 := hyl
  have g0 : DataW.trod enc Try.prog w base spare held n 3 (List.take (Try.prog.cellsOf 3) (List.drop 0 cs)) = ys[0]? := hg 0 _ rfl
  obtain ⟨a0, k0, q0⟩ := field (Opens.int (k := .i64) Try.underlying3) (n := 1) (by kernel_rfl) (by omega) g0
  have g1 : DataW.trod enc Try.prog w base spare held n 3 (List.take (Try.prog.cellsOf 3) (List.drop 1 cs)) = ys[1]? := hg 1 _ rfl
  obtain ⟨a1, k1, q1⟩ := field (Opens.int (k := .i64) Try.underlying3) (n := 1) (by kernel_rfl) (by omega) g1
  have g2 : DataW.trod enc Try.prog w base spare held n 3 (List.take (Try.prog.cellsOf 3) (List.drop 2 cs)) = ys[2]? := hg 2 _ rfl
  obtain ⟨a2, k2, q2⟩ := field (Opens.int (k := .i64) Try.underlying3) (n := 1) (by kernel_rfl) (by omega) g2
  have g3 : DataW.trod enc Try.prog w base spare held n 37 (List.take (Try.prog.cellsOf 37) (List.drop 3 cs)) = ys[3]? := hg 3 _ rfl
  obtain ⟨a3, k3, q3⟩ := field (Opens.slice Try.underlying37 (by kernel_rfl) (Opens.int (k := .u8) Try.underlying5)) (n := 1) (by kernel_rfl) (by omega) g3
  have g4 : DataW.trod enc Try.prog w base spare held n 23 (List.take (Try.prog.cellsOf 23) (List.drop 4 cs)) = ys[4]? := hg 4 _ rfl
  obtain ⟨a4, k4, q4⟩ := field (Opens.slice Try.underlying23 (by kernel_rfl) (Opens.int (k := .i64) Try.underlying3)) (n := 1) (by kernel_rfl) (by omega) g4
  rw [seg_end (m := 5) hlen rfl] at k4
  exact ⟨⟨a0, a1, a2, a3, a4⟩, ⟨_, _, seg cs 0 1 1 rfl, k0, ⟨_, _, seg cs 1 1 2 rfl, k1, ⟨_, _, seg cs 2 1 3 rfl, k2, ⟨_, _, seg cs 3 1 4 rfl, k3, k4⟩⟩⟩⟩, ⟨q0, q1, q2, q3, q4⟩⟩
/-- What a value of type 25 that reads as data is known to be. -/
def Q25 (x : S25) : Prop := (Lit.int .i64 x.f0).wf = true ∧ (x.f1.length ≤ 9223372036854775807 ∧ ∀ y ∈ x.f1, (Lit.int .i64 y).wf = true) ∧ (x.f2.length ≤ 9223372036854775807 ∧ ∀ y ∈ x.f2, (Lit.int .i64 y).wf = true) ∧ (Lit.int .i64 x.f3).wf = true ∧ (Lit.int .i64 x.f4).wf = true
theorem opens_T25 : Opens Try.prog 25 k25 Q25 := fun {H enc w base spare held fuel cs x} h => by
  obtain ⟨ys, n, rfl, _, hlen, hyl, hg⟩ := DataW.trod_struct Try.underlying25 h
  rw [show Try.prog.cellsOf 25 = 5 from by kernel_rfl] at hlen
  replace hyl : ys.length = 5 := hyl
  have g0 : DataW.trod enc Try.prog w base spare held n 3 (List.take (Try.prog.cellsOf 3) (List.drop 0 cs)) = ys[0]? := hg 0 _ rfl
  obtain ⟨a0, k0, q0⟩ := field (Opens.int (k := .i64) Try.underlying3) (n := 1) (by kernel_rfl) (by omega) g0
  have g1 : DataW.trod enc Try.prog w base spare held n 23 (List.take (Try.prog.cellsOf 23) (List.drop 1 cs)) = ys[1]? := hg 1 _ rfl
  obtain ⟨a1, k1, q1⟩ := field (Opens.slice Try.underlying23 (by kernel_rfl) (Opens.int (k := .i64) Try.underlying3)) (n := 1) (by kernel_rfl) (by omega) g1
  have g2 : DataW.trod enc Try.prog w base spare held n 23 (List.take (Try.prog.cellsOf 23) (List.drop 2 cs)) = ys[2]? := hg 2 _ rfl
  obtain ⟨a2, k2, q2⟩ := field (Opens.slice Try.underlying23 (by kernel_rfl) (Opens.int (k := .i64) Try.underlying3)) (n := 1) (by kernel_rfl) (by omega) g2
  have g3 : DataW.trod enc Try.prog w base spare held n 3 (List.take (Try.prog.cellsOf 3) (List.drop 3 cs)) = ys[3]? := hg 3 _ rfl
  obtain ⟨a3, k3, q3⟩ := field (Opens.int (k := .i64) Try.underlying3) (n := 1) (by kernel_rfl) (by omega) g3
  have g4 : DataW.trod enc Try.prog w base spare held n 3 (List.take (Try.prog.cellsOf 3) (List.drop 4 cs)) = ys[4]? := hg 4 _ rfl
  obtain ⟨a4, k4, q4⟩ := field (Opens.int (k := .i64) Try.underlying3) (n := 1) (by kernel_rfl) (by omega) g4
  rw [seg_end (m := 5) hlen rfl] at k4
  exact ⟨⟨a0, a1, a2, a3, a4⟩, ⟨_, _, seg cs 0 1 1 rfl, k0, ⟨_, _, seg cs 1 1 2 rfl, k1, ⟨_, _, seg cs 2 1 3 rfl, k2, ⟨_, _, seg cs 3 1 4 rfl, k3, k4⟩⟩⟩⟩, ⟨q0, q1, q2, q3, q4⟩⟩
theorem own : ownKnob Try.prog.godebug = none := by kernel_rfl
theorem laidOut : laidOutB Try.prog = true := by kernel_rfl
noncomputable def laidWorld (os : Os) : World := World.holding Try.prog os ⟨#[], #[], []⟩
theorem laid_met (os : Os) : laidMet Try.prog Rows.fnExactLedgerRow.laid ((laidWorld os).forCall (fun _ _ => 0) ⟨#[], #[.int .i64 0, .slice none 0 0, .agg #[.int .i64 0, .slice none 0 0, .slice none 0 0, .int .i64 0, .int .i64 0]], []⟩).memory :=
  laidMet_of_run' 8 (by kernel_rfl) (by kernel_rfl)
theorem reads (os : Os) {H : Type} (enc : TypeId × Value → H) : ∃ places, DataW.whole enc Try.prog ((laidWorld os).forCall (fun _ _ => 0) ⟨#[], #[.int .i64 0, .slice none 0 0, .agg #[.int .i64 0, .slice none 0 0, .slice none 0 0, .int .i64 0, .int .i64 0]], []⟩).memory Try.f3.params.toList Rows.fnExactLedgerSpec.vars false (#[.int .i64 0, .slice none 0 0, .agg #[.int .i64 0, .slice none 0 0, .slice none 0 0, .int .i64 0, .int .i64 0]] : Array Value).toList 8 = some ([.lit (.int .i64 0), .nil, .agg [.lit (.int .i64 0), .nil, .nil, .lit (.int .i64 0), .lit (.int .i64 0)]], [], places) :=
  ⟨[], by kernel_rfl⟩
set_option maxRecDepth 100000 in
theorem contract (H : Type) (enc : TypeId × Value → H) (W : World) (base : Nat) (args : Array Value) (ds gs : List (DataW H)) (before : List MemPlace)
    (hval : ∀ (j : Nat) t v, Try.f3.params[j]? = some t → args[j]? = some v → Value.okWide Try.prog W .any base t v)
    (hsz : (DataW.weightsEach Try.prog (Try.f3.params.toList ++ Rows.fnExactLedgerSpec.plain.varTypes Try.prog) (ds ++ gs)).all (· ≤ reachBytes) = true)
    (hW : DataW.Whole enc Try.prog Try.f3.params.toList Rows.fnExactLedgerSpec.vars false W args.toList ds gs before) (hL : laidMetH Try.prog Rows.fnExactLedgerRow.laid W) :
    Calls Try.prog 3 args W fun e W' => ∃ v, e = .returned v ∧ Rows.fnExactLedgerSpec.post enc Try.prog Try.f3 false true false false W args v W' := by
  have hW' := hW
  obtain ⟨p, q, hA0, hV, rfl, hfz, hnd⟩ := hW
  have hA : DataW.TrodAll enc Try.prog W 0 (fun _ => true) true Try.f3.params.toList args.toList ds p := hA0
  rw [Try.params3] at hA hval
  obtain ⟨v0, vs0, d0, ds0, p0, q0, hargs, rfl, rfl, h0, r0⟩ := trodAll_cons hA
  obtain ⟨v1, vs1, d1, ds1, p1, q1, rfl, rfl, rfl, h1, r1⟩ := trodAll_cons r0
  obtain ⟨v2, vs2, d2, ds2, p2, q2, rfl, rfl, rfl, h2, r2⟩ := trodAll_cons r1
  obtain ⟨rfl, rfl, rfl⟩ := trodAll_nil r2
  obtain rfl : args = #[v0, v1, v2] := by cases args; simp_all
  obtain ⟨rfl, rfl⟩ := trodVars_none hV
  have k0 := h0
  have lt0 : ∀ x ∈ p0, x.block < W.heap.size := by obtain ⟨m, hm⟩ := k0; exact DataW.trod_lt m _ _ _ hm
  obtain ⟨a0, rfl, rfl, rfl, hw0⟩ := open_int Try.underlying3 (hval 0 3 v0 rfl rfl) h0
  have k1 := h1
  have lt1 : ∀ x ∈ p1, x.block < W.heap.size := by obtain ⟨m, hm⟩ := k1; exact DataW.trod_lt m _ _ _ hm
  obtain ⟨fuel1, hf1⟩ := h1
  obtain ⟨A1', n1', c1', rfl⟩ := okWide_slice Try.underlying22 (hval 1 22 v1 rfl rfl)
  obtain ⟨l1, hK1, hm1, hw1⟩ := (Opens.slice Try.underlying22 (by kernel_rfl) opens_T39) hf1
  obtain ⟨A1, c1, e1, hc1, hr1⟩ := hK1
  simp only [Value.cells, List.cons.injEq, Value.slice.injEq, and_true] at e1
  obtain ⟨rfl, rfl, rfl⟩ := e1
  have k2 := h2
  have lt2 : ∀ x ∈ p2, x.block < W.heap.size := by obtain ⟨m, hm⟩ := k2; exact DataW.trod_lt m _ _ _ hm
  obtain ⟨fuel2, hf2⟩ := h2
  obtain ⟨cs2, rfl, _⟩ := okWide_struct Try.underlying25 (hval 2 25 v2 rfl rfl)
  obtain ⟨x2, hK2, hQ2⟩ := opens_T25 hf2
  obtain ⟨lc2⟩ := cs2
  obtain ⟨a2_0, l2_1, l2_2, a2_3, a2_4⟩ := x2
  have hK2' : k25.K W _ lc2 := hK2
  clear hK2
  obtain ⟨_, _, e2, rfl, ⟨_, _, rfl, ⟨A2_1, c2_1, rfl, hc2_1, hr2_1⟩, ⟨_, _, rfl, ⟨A2_2, c2_2, rfl, hc2_2, hr2_2⟩, ⟨_, _, rfl, rfl, rfl⟩⟩⟩⟩ := hK2'
  subst e2
  obtain ⟨hw2_0, ⟨hm2_1, hw2_1⟩, ⟨hm2_2, hw2_2⟩, hw2_3, hw2_4⟩ := hQ2
  clear hA0 hval
  obtain ⟨k, hpure⟩ := Ev.rounds (law_ev hm1 (fun y hy => ⟨(hw1 y hy).2.2.2.1.1, (hw1 y hy).2.2.2.2.1⟩) hm2_1 hm2_2)
  refine ((laws_FnExactLedger.calls k a0 _ _ l1 a2_0 _ _ l2_1 _ _ l2_2 a2_3 a2_4 true W hr1 hc1 hr2_1 hc2_1 hr2_2 hc2_2 hpure).mono fun e W' ⟨he, bel0⟩ => ?_)
  have bel : Below W.heap.size W W' := bel0
  subst he
  exact ⟨_, rfl, _, _, _, [], _, [], hW', trodAll_mk1 (shut_bool Try.underlying4 _), (trodAll_cons_mk (Below.trod laidOut (by kernel_rfl) (of_decide_eq_true (by kernel_rfl)) k0 bel lt0) (trodAll_cons_mk (Below.trod laidOut (by kernel_rfl) (of_decide_eq_true (by kernel_rfl)) k1 bel lt1) (trodAll_cons_mk (Below.trod laidOut (by kernel_rfl) (of_decide_eq_true (by kernel_rfl)) k2 bel lt2) trodAll_mk0))), rfl, bel.frame _, fun h => by cases h⟩
set_option maxRecDepth 100000 in
theorem lifted (os : Os) (started : os.Started) (H : Type) (enc : TypeId × Value → H) (F : Stop.Interp) :
    ReturnsInHanded {} Try.checked os 3 .any ((OpenSpec.ofChange Rows.fnExactLedgerSpec).preRow enc Try.prog Try.f3 Rows.fnExactLedgerRow.domain false Rows.fnExactLedgerRow.laid) (((OpenSpec.ofChange Rows.fnExactLedgerSpec).at F).post enc Try.prog Try.f3 false true false false) := by
  obtain ⟨places, hx⟩ := reads os enc
  refine returnsInHanded_of_row (C := Try.checked) (s := OpenSpec.ofChange Rows.fnExactLedgerSpec) own started (by kernel_rfl) Try.func3
    (witness_row_at (enc := enc) (C := Try.checked) false (laidWorld os) #[.int .i64 0, .slice none 0 0, .agg #[.int .i64 0, .slice none 0 0, .slice none 0 0, .int .i64 0, .int .i64 0]] rfl (by kernel_rfl) (by kernel_rfl) (by kernel_rfl)
      (OpenSpec.preRow_of_cond 8 hx (by kernel_rfl) (fun k hk => by cases hk) (by kernel_rfl) (laid_met os))) ?_
  intro W base args ds gs before hval hW _ _ hsz hL _ _
  exact contract H enc W base args ds gs before hval hsz hW hL
theorem said : Rows.FnExactLedgerSaid :=
  OpenClaim.holds_of_cond 3 Try.f3 rfl rfl rfl rfl rfl rfl rfl ⟨rfl, rfl, rfl, rfl, rfl⟩ rfl rfl rfl rfl rfl (by kernel_rfl) Try.func3 (by kernel_rfl)
    (of_decide_eq_true (by kernel_rfl)) (by unfold Func.isWrapper; first | (rw [if_pos (by decide +kernel)]; kernel_rfl) | (rw [if_neg (by decide +kernel)]; exact ⟨rfl, rfl⟩))
    (fun os started H enc _ F => by rw [OpenClaim.pre_eq_preRow]; exact lifted os started H enc F)
end Go.Proofs.Ytnicflgogkakeaa.QFnExactLedger
namespace Go.Proofs.Ytnicflgogkakeaa
/-- The statement, under a short name, for the claim. -/
theorem fnExactLedger_holds : Rows.FnExactLedgerSaid := QFnExactLedger.said
#print axioms fnExactLedger_holds
end Go.Proofs.Ytnicflgogkakeaa

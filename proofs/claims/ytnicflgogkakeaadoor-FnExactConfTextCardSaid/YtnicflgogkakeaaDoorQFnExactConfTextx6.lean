-- made by this session's own printer (mkprint.py: the kit's printer with given contracts)
import Derived.Test.YtnicflgogkakeaaDoorQFnExactConfTextx0
import Derived.Test.YtnicflgogkakeaaDoorQFnExactConfTextx2
import Derived.Test.YtnicflgogkakeaaDoorQFnExactConfTextx5
namespace Go.Proofs.YtnicflgogkakeaaDoor.QFnExactConfText
open Go.RowKit Go.Proofs.YtnicflgogkakeaaDoorW.PrintWords Go.Proofs.YtnicflgogkakeaaDoorW.PrintLast Go.Proofs.YtnicflgogkakeaaDoorW.PrintMore
attribute [local go_sem] max2_int min2_int max_two min_two max_three min_three max_four min_four   -- for this text's walks alone
set_option linter.unusedVariables false
set_option linter.unusedSimpArgs false

/-! ### spec_ConfText: function 23 -/
mutual
def spec_ConfText.j0 : Nat → ByteArray → Int → Int → Int → Int → Int → Int → Int → Int → Int → Bool → List (S87) → Option (ByteArray)
  | 0, _, _, _, _, _, _, _, _, _, _, _, _ => none
  | k + 1, x3, x184000, x184001, x184002, x184003, x184004, x184005, x184006, x184007, x184008, x184009, x184010 => spec_ConfText.l0 k x3 0 x184000 x184001 x184002 x184003 x184004 x184005 x184006 x184007 x184008 x184009 x184010
def spec_ConfText.l0 : Nat → ByteArray → Int → Int → Int → Int → Int → Int → Int → Int → Int → Int → Bool → List (S87) → Option (ByteArray)
  | 0, _, _, _, _, _, _, _, _, _, _, _, _, _ => none
  | k + 1, x3, x5, x184000, x184001, x184002, x184003, x184004, x184005, x184006, x184007, x184008, x184009, x184010 => if x5 < 7 then (if x3.size + 6 ≤ 9223372036854775807 then (if 0 ≤ x5 then (if x5 < (x184010.length : Int) then ((spec_VecText.f k ((rd_T87 x184010 x5).f0.f0) ((rd_T87 x184010 x5).f0.f1) ((rd_T87 x184010 x5).f0.f2)).bind fun t196 => (if x3.size + 6 + t196.size ≤ 9223372036854775807 then (if x3.size + 6 + t196.size + 1 ≤ 9223372036854775807 then ((spec_VecText.f k ((rd_T87 x184010 x5).f1.f0) ((rd_T87 x184010 x5).f1.f1) ((rd_T87 x184010 x5).f1.f2)).bind fun t198 => (if x3.size + 6 + t196.size + 1 + t198.size ≤ 9223372036854775807 then (spec_ConfText.l0 k ((((x3 ++ (⟨#[32, 112, 114, 111, 102, 32]⟩ : ByteArray)) ++ t196) ++ (⟨#[32]⟩ : ByteArray)) ++ t198) (wrap64 (x5 + 1)) x184000 x184001 x184002 x184003 x184004 x184005 x184006 x184007 x184008 x184009 x184010) else (none))) else (none)) else (none))) else (none)) else (none)) else (none)) else (some x3)
end
def spec_ConfText.f (k : Nat) (a0_0 : Int) (a0_1 : Int) (a0_2 : Int) (a0_3 : Int) (a0_4 : Int) (a0_5 : Int) (a0_6 : Int) (a0_7 : Int) (a0_8 : Int) (a0_9 : Bool) (l0_10 : List (S87)) : Option (ByteArray) := (spec_ConfOk.f k a0_0 a0_1 a0_2 a0_3 a0_4 a0_5 a0_6 a0_7 a0_8 a0_9 l0_10).bind fun t184 => (if t184 = true then ((spec_NumText.f k a0_0).bind fun t185 => (if 9 + t185.size ≤ 9223372036854775807 then (if 9 + t185.size + 7 ≤ 9223372036854775807 then ((spec_NumText.f k a0_1).bind fun t186 => (if 9 + t185.size + 7 + t186.size ≤ 9223372036854775807 then (if 9 + t185.size + 7 + t186.size + 5 ≤ 9223372036854775807 then ((spec_NumText.f k a0_2).bind fun t187 => (if 9 + t185.size + 7 + t186.size + 5 + t187.size ≤ 9223372036854775807 then (if 9 + t185.size + 7 + t186.size + 5 + t187.size + 7 ≤ 9223372036854775807 then ((spec_NumText.f k a0_3).bind fun t188 => (if 9 + t185.size + 7 + t186.size + 5 + t187.size + 7 + t188.size ≤ 9223372036854775807 then (if 9 + t185.size + 7 + t186.size + 5 + t187.size + 7 + t188.size + 6 ≤ 9223372036854775807 then ((spec_NumText.f k a0_4).bind fun t189 => (if 9 + t185.size + 7 + t186.size + 5 + t187.size + 7 + t188.size + 6 + t189.size ≤ 9223372036854775807 then (if 9 + t185.size + 7 + t186.size + 5 + t187.size + 7 + t188.size + 6 + t189.size + 6 ≤ 9223372036854775807 then ((spec_NumText.f k a0_5).bind fun t191 => (if 9 + t185.size + 7 + t186.size + 5 + t187.size + 7 + t188.size + 6 + t189.size + 6 + t191.size ≤ 9223372036854775807 then (if 9 + t185.size + 7 + t186.size + 5 + t187.size + 7 + t188.size + 6 + t189.size + 6 + t191.size + 1 ≤ 9223372036854775807 then ((spec_NumText.f k a0_6).bind fun t192 => (if 9 + t185.size + 7 + t186.size + 5 + t187.size + 7 + t188.size + 6 + t189.size + 6 + t191.size + 1 + t192.size ≤ 9223372036854775807 then (if 9 + t185.size + 7 + t186.size + 5 + t187.size + 7 + t188.size + 6 + t189.size + 6 + t191.size + 1 + t192.size + 5 ≤ 9223372036854775807 then ((spec_NumText.f k a0_7).bind fun t193 => (if 9 + t185.size + 7 + t186.size + 5 + t187.size + 7 + t188.size + 6 + t189.size + 6 + t191.size + 1 + t192.size + 5 + t193.size ≤ 9223372036854775807 then (if 9 + t185.size + 7 + t186.size + 5 + t187.size + 7 + t188.size + 6 + t189.size + 6 + t191.size + 1 + t192.size + 5 + t193.size + 6 ≤ 9223372036854775807 then ((spec_NumText.f k a0_8).bind fun t194 => (if 9 + t185.size + 7 + t186.size + 5 + t187.size + 7 + t188.size + 6 + t189.size + 6 + t191.size + 1 + t192.size + 5 + t193.size + 6 + t194.size ≤ 9223372036854775807 then (if a0_9 = true then (if 9 + t185.size + 7 + t186.size + 5 + t187.size + 7 + t188.size + 6 + t189.size + 6 + t191.size + 1 + t192.size + 5 + t193.size + 6 + t194.size + 8 ≤ 9223372036854775807 then (spec_ConfText.j0 k (((((((((((((((((((⟨#[98, 111, 120, 32, 115, 101, 101, 100, 32]⟩ : ByteArray) ++ t185) ++ (⟨#[32, 99, 101, 108, 108, 115, 32]⟩ : ByteArray)) ++ t186) ++ (⟨#[32, 99, 97, 112, 32]⟩ : ByteArray)) ++ t187) ++ (⟨#[32, 100, 101, 108, 116, 97, 32]⟩ : ByteArray)) ++ t188) ++ (⟨#[32, 105, 100, 108, 101, 32]⟩ : ByteArray)) ++ t189) ++ (⟨#[32, 108, 97, 110, 101, 32]⟩ : ByteArray)) ++ t191) ++ (⟨#[32]⟩ : ByteArray)) ++ t192) ++ (⟨#[32, 97, 108, 108, 32]⟩ : ByteArray)) ++ t193) ++ (⟨#[32, 109, 97, 114, 107, 32]⟩ : ByteArray)) ++ t194) ++ (⟨#[32, 108, 111, 110, 103, 101, 115, 116]⟩ : ByteArray)) a0_0 a0_1 a0_2 a0_3 a0_4 a0_5 a0_6 a0_7 a0_8 a0_9 l0_10) else (none)) else (if 9 + t185.size + 7 + t186.size + 5 + t187.size + 7 + t188.size + 6 + t189.size + 6 + t191.size + 1 + t192.size + 5 + t193.size + 6 + t194.size + 5 ≤ 9223372036854775807 then (spec_ConfText.j0 k (((((((((((((((((((⟨#[98, 111, 120, 32, 115, 101, 101, 100, 32]⟩ : ByteArray) ++ t185) ++ (⟨#[32, 99, 101, 108, 108, 115, 32]⟩ : ByteArray)) ++ t186) ++ (⟨#[32, 99, 97, 112, 32]⟩ : ByteArray)) ++ t187) ++ (⟨#[32, 100, 101, 108, 116, 97, 32]⟩ : ByteArray)) ++ t188) ++ (⟨#[32, 105, 100, 108, 101, 32]⟩ : ByteArray)) ++ t189) ++ (⟨#[32, 108, 97, 110, 101, 32]⟩ : ByteArray)) ++ t191) ++ (⟨#[32]⟩ : ByteArray)) ++ t192) ++ (⟨#[32, 97, 108, 108, 32]⟩ : ByteArray)) ++ t193) ++ (⟨#[32, 109, 97, 114, 107, 32]⟩ : ByteArray)) ++ t194) ++ (⟨#[32, 116, 97, 105, 108]⟩ : ByteArray)) a0_0 a0_1 a0_2 a0_3 a0_4 a0_5 a0_6 a0_7 a0_8 a0_9 l0_10) else (none))) else (none))) else (none)) else (none))) else (none)) else (none))) else (none)) else (none))) else (none)) else (none))) else (none)) else (none))) else (none)) else (none))) else (none)) else (none))) else (none)) else (none))) else (some (⟨#[]⟩ : ByteArray)))
theorem spec_ConfText.mono_l : ∀ k, (∀ y0 y1 y2 y3 y4 y5 y6 y7 y8 y9 y10 y11, LeO (spec_ConfText.j0 k y0 y1 y2 y3 y4 y5 y6 y7 y8 y9 y10 y11) (spec_ConfText.j0 (k + 1) y0 y1 y2 y3 y4 y5 y6 y7 y8 y9 y10 y11)) ∧ (∀ y0 y1 y2 y3 y4 y5 y6 y7 y8 y9 y10 y11 y12, LeO (spec_ConfText.l0 k y0 y1 y2 y3 y4 y5 y6 y7 y8 y9 y10 y11 y12) (spec_ConfText.l0 (k + 1) y0 y1 y2 y3 y4 y5 y6 y7 y8 y9 y10 y11 y12))
  | 0 => ⟨fun _ _ _ _ _ _ _ _ _ _ _ _ r h => by simp [spec_ConfText.j0] at h, fun _ _ _ _ _ _ _ _ _ _ _ _ _ r h => by simp [spec_ConfText.l0] at h⟩
  | k + 1 => by
    obtain ⟨ih0, ih1⟩ := spec_ConfText.mono_l k
    refine ⟨?_, ?_⟩
    · intro y0 y1 y2 y3 y4 y5 y6 y7 y8 y9 y10 y11
      unfold spec_ConfText.j0
      repeat' first
      | (with_reducible exact ih0 _ _ _ _ _ _ _ _ _ _ _ _)
      | (with_reducible exact ih1 _ _ _ _ _ _ _ _ _ _ _ _ _)
      | (with_reducible exact spec_ConfOk.mono _ _ _ _ _ _ _ _ _ _ _ _)
      | (with_reducible exact spec_NumText.mono _ _)
      | (with_reducible exact spec_VecText.mono _ _ _ _)
      | (with_reducible exact LeO.refl _)
      | (with_reducible exact LeO.none _)
      | (with_reducible refine LeO.ite ?_ ?_)
      | (with_reducible refine LeO.bind ?_ (fun _ => ?_))
      | exact ih0 _ _ _ _ _ _ _ _ _ _ _ _
      | exact ih1 _ _ _ _ _ _ _ _ _ _ _ _ _
      | exact spec_ConfOk.mono _ _ _ _ _ _ _ _ _ _ _ _
      | exact spec_NumText.mono _ _
      | exact spec_VecText.mono _ _ _ _
      | exact LeO.none _
      | refine LeO.ite ?_ ?_
      | refine LeO.bind ?_ (fun _ => ?_)
    · intro y0 y1 y2 y3 y4 y5 y6 y7 y8 y9 y10 y11 y12
      unfold spec_ConfText.l0
      repeat' first
      | (with_reducible exact ih0 _ _ _ _ _ _ _ _ _ _ _ _)
      | (with_reducible exact ih1 _ _ _ _ _ _ _ _ _ _ _ _ _)
      | (with_reducible exact spec_ConfOk.mono _ _ _ _ _ _ _ _ _ _ _ _)
      | (with_reducible exact spec_NumText.mono _ _)
      | (with_reducible exact spec_VecText.mono _ _ _ _)
      | (with_reducible exact LeO.refl _)
      | (with_reducible exact LeO.none _)
      | (with_reducible refine LeO.ite ?_ ?_)
      | (with_reducible refine LeO.bind ?_ (fun _ => ?_))
      | exact ih0 _ _ _ _ _ _ _ _ _ _ _ _
      | exact ih1 _ _ _ _ _ _ _ _ _ _ _ _ _
      | exact spec_ConfOk.mono _ _ _ _ _ _ _ _ _ _ _ _
      | exact spec_NumText.mono _ _
      | exact spec_VecText.mono _ _ _ _
      | exact LeO.none _
      | refine LeO.ite ?_ ?_
      | refine LeO.bind ?_ (fun _ => ?_)
theorem spec_ConfText.mono : ∀ a0 a1 a2 a3 a4 a5 a6 a7 a8 a9 a10 k, LeO (spec_ConfText.f k a0 a1 a2 a3 a4 a5 a6 a7 a8 a9 a10) (spec_ConfText.f (k + 1) a0 a1 a2 a3 a4 a5 a6 a7 a8 a9 a10) := by
  intro a0 a1 a2 a3 a4 a5 a6 a7 a8 a9 a10 k
  obtain ⟨ih0, ih1⟩ := spec_ConfText.mono_l k
  unfold spec_ConfText.f
  repeat' first
      | (with_reducible exact ih0 _ _ _ _ _ _ _ _ _ _ _ _)
      | (with_reducible exact ih1 _ _ _ _ _ _ _ _ _ _ _ _ _)
      | (with_reducible exact spec_ConfOk.mono _ _ _ _ _ _ _ _ _ _ _ _)
      | (with_reducible exact spec_NumText.mono _ _)
      | (with_reducible exact spec_VecText.mono _ _ _ _)
      | (with_reducible exact LeO.refl _)
      | (with_reducible exact LeO.none _)
      | (with_reducible refine LeO.ite ?_ ?_)
      | (with_reducible refine LeO.bind ?_ (fun _ => ?_))
      | exact ih0 _ _ _ _ _ _ _ _ _ _ _ _
      | exact ih1 _ _ _ _ _ _ _ _ _ _ _ _ _
      | exact spec_ConfOk.mono _ _ _ _ _ _ _ _ _ _ _ _
      | exact spec_NumText.mono _ _
      | exact spec_VecText.mono _ _ _ _
      | exact LeO.none _
      | refine LeO.ite ?_ ?_
      | refine LeO.bind ?_ (fun _ => ?_)
def spec_ConfText.T3 : Bool × List (List Nat × List Nat) := (true, [([], []), ([0], [0]), ([1], [1]), ([2], [2]), ([3], [3]), ([], []), ([5], [5]), ([6, 2], [6]), ([4, 7], [4, 7]), ([8], [8]), ([], []), ([10], [10]), ([11, 7], [11]), ([9, 12], [9, 12]), ([13], [13]), ([], []), ([15], [15]), ([16, 12], [16]), ([14, 17], [14, 17]), ([18], [18]), ([], []), ([20], [20]), ([21, 17], [21]), ([19, 22], [19, 22]), ([23, 22, 0, 1, 2, 3, 4, 5, 6, 7, 8, 9, 10, 11, 12, 13, 14, 15, 16, 17, 18, 19, 20, 21, 22, 23], [23])])
def spec_ConfText.B3 : List Nat := [0, 1, 3, 7, 15, 0, 32, 103, 255, 511, 0, 1024, 3303, 8191, 16383, 0, 32768, 105703, 262143, 524287, 0, 1048576, 3382503, 8388607, 16777215]
theorem spec_ConfText.tab3 : rtab .any (opsOf Tryd.f23 3) = spec_ConfText.T3 := by kernel_rfl
theorem spec_ConfText.bits3 : waitsOk spec_ConfText.T3.2 spec_ConfText.B3 = true := by kernel_rfl
def spec_ConfText.T5 : Bool × List (List Nat × List Nat) := (true, [([], []), ([0], [0]), ([], []), ([2], [2]), ([3], [3]), ([1, 4], [1, 4]), ([5], [5]), ([], []), ([7], [7]), ([8, 4], [8]), ([6, 9], [6, 9]), ([10], [10]), ([], []), ([12], [12]), ([13, 9], [13]), ([11, 14], [11, 14]), ([15], [15]), ([], []), ([17], [17]), ([18, 14], [18]), ([16, 19], [16, 19]), ([20, 19, 0, 1, 2, 3, 4, 5, 6, 7, 8, 9, 10, 11, 12, 13, 14, 15, 16, 17, 18, 19, 20], [0, 20])])
def spec_ConfText.B5 : List Nat := [0, 1, 0, 4, 12, 31, 63, 0, 128, 412, 1023, 2047, 0, 4096, 13212, 32767, 65535, 0, 131072, 422812, 1048575, 2097151]
theorem spec_ConfText.tab5 : rtab .any (opsOf Tryd.f23 5) = spec_ConfText.T5 := by kernel_rfl
theorem spec_ConfText.bits5 : waitsOk spec_ConfText.T5.2 spec_ConfText.B5 = true := by kernel_rfl
def spec_ConfText.T12 : Bool × List (List Nat × List Nat) := (true, [([], []), ([0], [0]), ([], []), ([2], [2]), ([], []), ([3, 4], [3, 4]), ([5], [5]), ([6], [6]), ([7], [7]), ([1, 8], [1, 8]), ([9], [9]), ([], []), ([11], [11]), ([], []), ([12, 13], [12, 13]), ([14], [14]), ([15], [15]), ([16, 8], [16]), ([10, 17], [10, 17]), ([18, 17, 0, 1, 2, 3, 4, 5, 6, 7, 8, 9, 10, 11, 12, 13, 14, 15, 16, 17, 18], [0, 18])])
def spec_ConfText.B12 : List Nat := [0, 1, 0, 4, 0, 28, 60, 124, 252, 511, 1023, 0, 2048, 0, 14336, 30720, 63488, 129532, 262143, 524287]
theorem spec_ConfText.tab12 : rtab .any (opsOf Tryd.f23 12) = spec_ConfText.T12 := by kernel_rfl
theorem spec_ConfText.bits12 : waitsOk spec_ConfText.T12.2 spec_ConfText.B12 = true := by kernel_rfl
set_option maxHeartbeats 8000000 in
set_option maxRecDepth 100000 in
theorem spec_ConfText.calls (k : Nat) (a0_0 : Int) (a0_1 : Int) (a0_2 : Int) (a0_3 : Int) (a0_4 : Int) (a0_5 : Int) (a0_6 : Int) (a0_7 : Int) (a0_8 : Int) (a0_9 : Bool) (A0_10 : Option Addr) (c0_10 : Nat) (l0_10 : List (S87)) (r : ByteArray) (w : World) (hr0_10 : Kd.C k87 w A0_10 l0_10.length l0_10) (hc0_10 : l0_10.length ≤ c0_10) (h : spec_ConfText.f k a0_0 a0_1 a0_2 a0_3 a0_4 a0_5 a0_6 a0_7 a0_8 a0_9 l0_10 = some r) :
    Calls Tryd.prog 23 #[.agg #[.int .i64 a0_0, .int .i64 a0_1, .int .i64 a0_2, .int .i64 a0_3, .int .i64 a0_4, .int .i64 a0_5, .int .i64 a0_6, .int .i64 a0_7, .int .i64 a0_8, .bool a0_9, .slice A0_10 l0_10.length c0_10]] w fun e w' => e = .returned (.string r) ∧ Below w.heap.size w w' := by
  have hu62 := Tryd.underlying62
  have hu59 := Tryd.underlying59
  have hu46 := Tryd.underlying46
  have HR0_10 := Aside0.mk hr0_10
  have HC0_10 := Aside0.mk hc0_10
  clear hr0_10 hc0_10
  have HB := Aside0.mk (Below.refl w.heap.size w)
  have H : ((spec_ConfOk.f k a0_0 a0_1 a0_2 a0_3 a0_4 a0_5 a0_6 a0_7 a0_8 a0_9 l0_10).bind fun t184 => (if t184 = true then ((spec_NumText.f k a0_0).bind fun t185 => (if 9 + t185.size ≤ 9223372036854775807 then (if 9 + t185.size + 7 ≤ 9223372036854775807 then ((spec_NumText.f k a0_1).bind fun t186 => (if 9 + t185.size + 7 + t186.size ≤ 9223372036854775807 then (if 9 + t185.size + 7 + t186.size + 5 ≤ 9223372036854775807 then ((spec_NumText.f k a0_2).bind fun t187 => (if 9 + t185.size + 7 + t186.size + 5 + t187.size ≤ 9223372036854775807 then (if 9 + t185.size + 7 + t186.size + 5 + t187.size + 7 ≤ 9223372036854775807 then ((spec_NumText.f k a0_3).bind fun t188 => (if 9 + t185.size + 7 + t186.size + 5 + t187.size + 7 + t188.size ≤ 9223372036854775807 then (if 9 + t185.size + 7 + t186.size + 5 + t187.size + 7 + t188.size + 6 ≤ 9223372036854775807 then ((spec_NumText.f k a0_4).bind fun t189 => (if 9 + t185.size + 7 + t186.size + 5 + t187.size + 7 + t188.size + 6 + t189.size ≤ 9223372036854775807 then (if 9 + t185.size + 7 + t186.size + 5 + t187.size + 7 + t188.size + 6 + t189.size + 6 ≤ 9223372036854775807 then ((spec_NumText.f k a0_5).bind fun t191 => (if 9 + t185.size + 7 + t186.size + 5 + t187.size + 7 + t188.size + 6 + t189.size + 6 + t191.size ≤ 9223372036854775807 then (if 9 + t185.size + 7 + t186.size + 5 + t187.size + 7 + t188.size + 6 + t189.size + 6 + t191.size + 1 ≤ 9223372036854775807 then ((spec_NumText.f k a0_6).bind fun t192 => (if 9 + t185.size + 7 + t186.size + 5 + t187.size + 7 + t188.size + 6 + t189.size + 6 + t191.size + 1 + t192.size ≤ 9223372036854775807 then (if 9 + t185.size + 7 + t186.size + 5 + t187.size + 7 + t188.size + 6 + t189.size + 6 + t191.size + 1 + t192.size + 5 ≤ 9223372036854775807 then ((spec_NumText.f k a0_7).bind fun t193 => (if 9 + t185.size + 7 + t186.size + 5 + t187.size + 7 + t188.size + 6 + t189.size + 6 + t191.size + 1 + t192.size + 5 + t193.size ≤ 9223372036854775807 then (if 9 + t185.size + 7 + t186.size + 5 + t187.size + 7 + t188.size + 6 + t189.size + 6 + t191.size + 1 + t192.size + 5 + t193.size + 6 ≤ 9223372036854775807 then ((spec_NumText.f k a0_8).bind fun t194 => (if 9 + t185.size + 7 + t186.size + 5 + t187.size + 7 + t188.size + 6 + t189.size + 6 + t191.size + 1 + t192.size + 5 + t193.size + 6 + t194.size ≤ 9223372036854775807 then (if a0_9 = true then (if 9 + t185.size + 7 + t186.size + 5 + t187.size + 7 + t188.size + 6 + t189.size + 6 + t191.size + 1 + t192.size + 5 + t193.size + 6 + t194.size + 8 ≤ 9223372036854775807 then (spec_ConfText.j0 k (((((((((((((((((((⟨#[98, 111, 120, 32, 115, 101, 101, 100, 32]⟩ : ByteArray) ++ t185) ++ (⟨#[32, 99, 101, 108, 108, 115, 32]⟩ : ByteArray)) ++ t186) ++ (⟨#[32, 99, 97, 112, 32]⟩ : ByteArray)) ++ t187) ++ (⟨#[32, 100, 101, 108, 116, 97, 32]⟩ : ByteArray)) ++ t188) ++ (⟨#[32, 105, 100, 108, 101, 32]⟩ : ByteArray)) ++ t189) ++ (⟨#[32, 108, 97, 110, 101, 32]⟩ : ByteArray)) ++ t191) ++ (⟨#[32]⟩ : ByteArray)) ++ t192) ++ (⟨#[32, 97, 108, 108, 32]⟩ : ByteArray)) ++ t193) ++ (⟨#[32, 109, 97, 114, 107, 32]⟩ : ByteArray)) ++ t194) ++ (⟨#[32, 108, 111, 110, 103, 101, 115, 116]⟩ : ByteArray)) a0_0 a0_1 a0_2 a0_3 a0_4 a0_5 a0_6 a0_7 a0_8 a0_9 l0_10) else (none)) else (if 9 + t185.size + 7 + t186.size + 5 + t187.size + 7 + t188.size + 6 + t189.size + 6 + t191.size + 1 + t192.size + 5 + t193.size + 6 + t194.size + 5 ≤ 9223372036854775807 then (spec_ConfText.j0 k (((((((((((((((((((⟨#[98, 111, 120, 32, 115, 101, 101, 100, 32]⟩ : ByteArray) ++ t185) ++ (⟨#[32, 99, 101, 108, 108, 115, 32]⟩ : ByteArray)) ++ t186) ++ (⟨#[32, 99, 97, 112, 32]⟩ : ByteArray)) ++ t187) ++ (⟨#[32, 100, 101, 108, 116, 97, 32]⟩ : ByteArray)) ++ t188) ++ (⟨#[32, 105, 100, 108, 101, 32]⟩ : ByteArray)) ++ t189) ++ (⟨#[32, 108, 97, 110, 101, 32]⟩ : ByteArray)) ++ t191) ++ (⟨#[32]⟩ : ByteArray)) ++ t192) ++ (⟨#[32, 97, 108, 108, 32]⟩ : ByteArray)) ++ t193) ++ (⟨#[32, 109, 97, 114, 107, 32]⟩ : ByteArray)) ++ t194) ++ (⟨#[32, 116, 97, 105, 108]⟩ : ByteArray)) a0_0 a0_1 a0_2 a0_3 a0_4 a0_5 a0_6 a0_7 a0_8 a0_9 l0_10) else (none))) else (none))) else (none)) else (none))) else (none)) else (none))) else (none)) else (none))) else (none)) else (none))) else (none)) else (none))) else (none)) else (none))) else (none)) else (none))) else (none)) else (none))) else (some (⟨#[]⟩ : ByteArray)))) = some r := h
  clear h
  replace H := Option.bind_eq_some_iff.mp H
  obtain ⟨t184, A20, H⟩ := H
  (try dsimp -simprocs only at H)
  have A2 := Aside0.mk A20
  clear A20
  by_cases c3 : t184 = true
  · subst c3
    have H1 := H; rw [if_pos rfl] at H1
    clear H
    have H := H1
    clear H1
    replace H := Option.bind_eq_some_iff.mp H
    obtain ⟨t185, A40, H⟩ := H
    (try dsimp -simprocs only at H)
    have A4 := Aside0.mk A40
    clear A40
    by_cases c5 : 9 + t185.size ≤ 9223372036854775807
    · rw [if_pos c5] at H
      have c5b0 := eq_true c5
      have c5b1 : decide (9 + t185.size ≤ 9223372036854775807) = true := decide_eq_true c5
      try have c5b2 : (9223372036854775807 < 9 + t185.size) = False := eq_false (Nat.not_lt.2 c5)
      by_cases c6 : 9 + t185.size + 7 ≤ 9223372036854775807
      · rw [if_pos c6] at H
        have c6b0 := eq_true c6
        have c6b1 : decide (9 + t185.size + 7 ≤ 9223372036854775807) = true := decide_eq_true c6
        try have c6b2 : (9223372036854775807 < 9 + t185.size + 7) = False := eq_false (Nat.not_lt.2 c6)
        replace H := Option.bind_eq_some_iff.mp H
        obtain ⟨t186, A70, H⟩ := H
        (try dsimp -simprocs only at H)
        have A7 := Aside0.mk A70
        clear A70
        by_cases c8 : 9 + t185.size + 7 + t186.size ≤ 9223372036854775807
        · rw [if_pos c8] at H
          have c8b0 := eq_true c8
          have c8b1 : decide (9 + t185.size + 7 + t186.size ≤ 9223372036854775807) = true := decide_eq_true c8
          try have c8b2 : (9223372036854775807 < 9 + t185.size + 7 + t186.size) = False := eq_false (Nat.not_lt.2 c8)
          by_cases c9 : 9 + t185.size + 7 + t186.size + 5 ≤ 9223372036854775807
          · rw [if_pos c9] at H
            have c9b0 := eq_true c9
            have c9b1 : decide (9 + t185.size + 7 + t186.size + 5 ≤ 9223372036854775807) = true := decide_eq_true c9
            try have c9b2 : (9223372036854775807 < 9 + t185.size + 7 + t186.size + 5) = False := eq_false (Nat.not_lt.2 c9)
            replace H := Option.bind_eq_some_iff.mp H
            obtain ⟨t187, A100, H⟩ := H
            (try dsimp -simprocs only at H)
            have A10 := Aside0.mk A100
            clear A100
            by_cases c11 : 9 + t185.size + 7 + t186.size + 5 + t187.size ≤ 9223372036854775807
            · rw [if_pos c11] at H
              have c11b0 := eq_true c11
              have c11b1 : decide (9 + t185.size + 7 + t186.size + 5 + t187.size ≤ 9223372036854775807) = true := decide_eq_true c11
              try have c11b2 : (9223372036854775807 < 9 + t185.size + 7 + t186.size + 5 + t187.size) = False := eq_false (Nat.not_lt.2 c11)
              by_cases c12 : 9 + t185.size + 7 + t186.size + 5 + t187.size + 7 ≤ 9223372036854775807
              · rw [if_pos c12] at H
                have c12b0 := eq_true c12
                have c12b1 : decide (9 + t185.size + 7 + t186.size + 5 + t187.size + 7 ≤ 9223372036854775807) = true := decide_eq_true c12
                try have c12b2 : (9223372036854775807 < 9 + t185.size + 7 + t186.size + 5 + t187.size + 7) = False := eq_false (Nat.not_lt.2 c12)
                replace H := Option.bind_eq_some_iff.mp H
                obtain ⟨t188, A130, H⟩ := H
                (try dsimp -simprocs only at H)
                have A13 := Aside0.mk A130
                clear A130
                by_cases c14 : 9 + t185.size + 7 + t186.size + 5 + t187.size + 7 + t188.size ≤ 9223372036854775807
                · rw [if_pos c14] at H
                  have c14b0 := eq_true c14
                  have c14b1 : decide (9 + t185.size + 7 + t186.size + 5 + t187.size + 7 + t188.size ≤ 9223372036854775807) = true := decide_eq_true c14
                  try have c14b2 : (9223372036854775807 < 9 + t185.size + 7 + t186.size + 5 + t187.size + 7 + t188.size) = False := eq_false (Nat.not_lt.2 c14)
                  by_cases c15 : 9 + t185.size + 7 + t186.size + 5 + t187.size + 7 + t188.size + 6 ≤ 9223372036854775807
                  · rw [if_pos c15] at H
                    have c15b0 := eq_true c15
                    have c15b1 : decide (9 + t185.size + 7 + t186.size + 5 + t187.size + 7 + t188.size + 6 ≤ 9223372036854775807) = true := decide_eq_true c15
                    try have c15b2 : (9223372036854775807 < 9 + t185.size + 7 + t186.size + 5 + t187.size + 7 + t188.size + 6) = False := eq_false (Nat.not_lt.2 c15)
                    replace H := Option.bind_eq_some_iff.mp H
                    obtain ⟨t189, A160, H⟩ := H
                    (try dsimp -simprocs only at H)
                    have A16 := Aside0.mk A160
                    clear A160
                    by_cases c17 : 9 + t185.size + 7 + t186.size + 5 + t187.size + 7 + t188.size + 6 + t189.size ≤ 9223372036854775807
                    · rw [if_pos c17] at H
                      have c17b0 := eq_true c17
                      have c17b1 : decide (9 + t185.size + 7 + t186.size + 5 + t187.size + 7 + t188.size + 6 + t189.size ≤ 9223372036854775807) = true := decide_eq_true c17
                      try have c17b2 : (9223372036854775807 < 9 + t185.size + 7 + t186.size + 5 + t187.size + 7 + t188.size + 6 + t189.size) = False := eq_false (Nat.not_lt.2 c17)
                      by_cases c18 : 9 + t185.size + 7 + t186.size + 5 + t187.size + 7 + t188.size + 6 + t189.size + 6 ≤ 9223372036854775807
                      · rw [if_pos c18] at H
                        have c18b0 := eq_true c18
                        have c18b1 : decide (9 + t185.size + 7 + t186.size + 5 + t187.size + 7 + t188.size + 6 + t189.size + 6 ≤ 9223372036854775807) = true := decide_eq_true c18
                        try have c18b2 : (9223372036854775807 < 9 + t185.size + 7 + t186.size + 5 + t187.size + 7 + t188.size + 6 + t189.size + 6) = False := eq_false (Nat.not_lt.2 c18)
                        replace H := Option.bind_eq_some_iff.mp H
                        obtain ⟨t191, A190, H⟩ := H
                        (try dsimp -simprocs only at H)
                        have A19 := Aside0.mk A190
                        clear A190
                        by_cases c20 : 9 + t185.size + 7 + t186.size + 5 + t187.size + 7 + t188.size + 6 + t189.size + 6 + t191.size ≤ 9223372036854775807
                        · rw [if_pos c20] at H
                          have c20b0 := eq_true c20
                          have c20b1 : decide (9 + t185.size + 7 + t186.size + 5 + t187.size + 7 + t188.size + 6 + t189.size + 6 + t191.size ≤ 9223372036854775807) = true := decide_eq_true c20
                          try have c20b2 : (9223372036854775807 < 9 + t185.size + 7 + t186.size + 5 + t187.size + 7 + t188.size + 6 + t189.size + 6 + t191.size) = False := eq_false (Nat.not_lt.2 c20)
                          by_cases c21 : 9 + t185.size + 7 + t186.size + 5 + t187.size + 7 + t188.size + 6 + t189.size + 6 + t191.size + 1 ≤ 9223372036854775807
                          · rw [if_pos c21] at H
                            have c21b0 := eq_true c21
                            have c21b1 : decide (9 + t185.size + 7 + t186.size + 5 + t187.size + 7 + t188.size + 6 + t189.size + 6 + t191.size + 1 ≤ 9223372036854775807) = true := decide_eq_true c21
                            try have c21b2 : (9223372036854775807 < 9 + t185.size + 7 + t186.size + 5 + t187.size + 7 + t188.size + 6 + t189.size + 6 + t191.size + 1) = False := eq_false (Nat.not_lt.2 c21)
                            replace H := Option.bind_eq_some_iff.mp H
                            obtain ⟨t192, A220, H⟩ := H
                            (try dsimp -simprocs only at H)
                            have A22 := Aside0.mk A220
                            clear A220
                            by_cases c23 : 9 + t185.size + 7 + t186.size + 5 + t187.size + 7 + t188.size + 6 + t189.size + 6 + t191.size + 1 + t192.size ≤ 9223372036854775807
                            · rw [if_pos c23] at H
                              have c23b0 := eq_true c23
                              have c23b1 : decide (9 + t185.size + 7 + t186.size + 5 + t187.size + 7 + t188.size + 6 + t189.size + 6 + t191.size + 1 + t192.size ≤ 9223372036854775807) = true := decide_eq_true c23
                              try have c23b2 : (9223372036854775807 < 9 + t185.size + 7 + t186.size + 5 + t187.size + 7 + t188.size + 6 + t189.size + 6 + t191.size + 1 + t192.size) = False := eq_false (Nat.not_lt.2 c23)
                              by_cases c24 : 9 + t185.size + 7 + t186.size + 5 + t187.size + 7 + t188.size + 6 + t189.size + 6 + t191.size + 1 + t192.size + 5 ≤ 9223372036854775807
                              · rw [if_pos c24] at H
                                have c24b0 := eq_true c24
                                have c24b1 : decide (9 + t185.size + 7 + t186.size + 5 + t187.size + 7 + t188.size + 6 + t189.size + 6 + t191.size + 1 + t192.size + 5 ≤ 9223372036854775807) = true := decide_eq_true c24
                                try have c24b2 : (9223372036854775807 < 9 + t185.size + 7 + t186.size + 5 + t187.size + 7 + t188.size + 6 + t189.size + 6 + t191.size + 1 + t192.size + 5) = False := eq_false (Nat.not_lt.2 c24)
                                replace H := Option.bind_eq_some_iff.mp H
                                obtain ⟨t193, A250, H⟩ := H
                                (try dsimp -simprocs only at H)
                                have A25 := Aside0.mk A250
                                clear A250
                                by_cases c26 : 9 + t185.size + 7 + t186.size + 5 + t187.size + 7 + t188.size + 6 + t189.size + 6 + t191.size + 1 + t192.size + 5 + t193.size ≤ 9223372036854775807
                                · rw [if_pos c26] at H
                                  have c26b0 := eq_true c26
                                  have c26b1 : decide (9 + t185.size + 7 + t186.size + 5 + t187.size + 7 + t188.size + 6 + t189.size + 6 + t191.size + 1 + t192.size + 5 + t193.size ≤ 9223372036854775807) = true := decide_eq_true c26
                                  try have c26b2 : (9223372036854775807 < 9 + t185.size + 7 + t186.size + 5 + t187.size + 7 + t188.size + 6 + t189.size + 6 + t191.size + 1 + t192.size + 5 + t193.size) = False := eq_false (Nat.not_lt.2 c26)
                                  by_cases c27 : 9 + t185.size + 7 + t186.size + 5 + t187.size + 7 + t188.size + 6 + t189.size + 6 + t191.size + 1 + t192.size + 5 + t193.size + 6 ≤ 9223372036854775807
                                  · rw [if_pos c27] at H
                                    have c27b0 := eq_true c27
                                    have c27b1 : decide (9 + t185.size + 7 + t186.size + 5 + t187.size + 7 + t188.size + 6 + t189.size + 6 + t191.size + 1 + t192.size + 5 + t193.size + 6 ≤ 9223372036854775807) = true := decide_eq_true c27
                                    try have c27b2 : (9223372036854775807 < 9 + t185.size + 7 + t186.size + 5 + t187.size + 7 + t188.size + 6 + t189.size + 6 + t191.size + 1 + t192.size + 5 + t193.size + 6) = False := eq_false (Nat.not_lt.2 c27)
                                    replace H := Option.bind_eq_some_iff.mp H
                                    obtain ⟨t194, A280, H⟩ := H
                                    (try dsimp -simprocs only at H)
                                    have A28 := Aside0.mk A280
                                    clear A280
                                    by_cases c29 : 9 + t185.size + 7 + t186.size + 5 + t187.size + 7 + t188.size + 6 + t189.size + 6 + t191.size + 1 + t192.size + 5 + t193.size + 6 + t194.size ≤ 9223372036854775807
                                    · rw [if_pos c29] at H
                                      have c29b0 := eq_true c29
                                      have c29b1 : decide (9 + t185.size + 7 + t186.size + 5 + t187.size + 7 + t188.size + 6 + t189.size + 6 + t191.size + 1 + t192.size + 5 + t193.size + 6 + t194.size ≤ 9223372036854775807) = true := decide_eq_true c29
                                      try have c29b2 : (9223372036854775807 < 9 + t185.size + 7 + t186.size + 5 + t187.size + 7 + t188.size + 6 + t189.size + 6 + t191.size + 1 + t192.size + 5 + t193.size + 6 + t194.size) = False := eq_false (Nat.not_lt.2 c29)
                                      have HC30 := Aside0.mk H
                                      clear H
                                      go_enter Tryd.func23, Tryd.ntmps23
                                      try go_wp2_with (first | ((with_reducible refine gate_dst (N := 1) rfl ?_); refine box_event ?hg (N := 1) ?hd (cs := #[.int .i64 a0_0, .int .i64 a0_1, .int .i64 a0_2, .int .i64 a0_3, .int .i64 a0_4, .int .i64 a0_5, .int .i64 a0_6, .int .i64 a0_7, .int .i64 a0_8, .bool a0_9, .slice A0_10 l0_10.length c0_10]) (t := 62) ?hr ?_; (case hd => rfl); (case hg => rfl); (case hr => first | (go_simp; done) | (go_simp; rfl)); intro gb183 hg w31 hbox hb; have n0_ := Aside0.mk (below_step zb hb); have n1_ := Aside0.mk (hbox); have n2_ := Aside0.mk ((by rw [hg]; exact (below_size zb) : w.heap.size ≤ gb183)); have n3_ := Aside0.mk ((by rw [hg]; exact (below_size zb) : w.heap.size ≤ gb183)); clear HB; have HB := n0_; have BK183 := n1_; have GW183 := n2_; have GE183 := n3_; clear n0_ n1_ n2_ n3_; clear hb hbox hg; have hcz32_0 : w31.cell? ⟨gb183, 0, none⟩ = some (.int .i64 a0_0) := (blk_cell BK183.out 0).trans rfl; have hcz32_1 : w31.cell? ⟨gb183, 1, none⟩ = some (.int .i64 a0_1) := (blk_cell BK183.out 1).trans rfl; have hcz32_2 : w31.cell? ⟨gb183, 2, none⟩ = some (.int .i64 a0_2) := (blk_cell BK183.out 2).trans rfl; have hcz32_3 : w31.cell? ⟨gb183, 3, none⟩ = some (.int .i64 a0_3) := (blk_cell BK183.out 3).trans rfl; have hcz32_4 : w31.cell? ⟨gb183, 4, none⟩ = some (.int .i64 a0_4) := (blk_cell BK183.out 4).trans rfl; have hcz32_5 : w31.cell? ⟨gb183, 5, none⟩ = some (.int .i64 a0_5) := (blk_cell BK183.out 5).trans rfl; have hcz32_6 : w31.cell? ⟨gb183, 6, none⟩ = some (.int .i64 a0_6) := (blk_cell BK183.out 6).trans rfl; have hcz32_7 : w31.cell? ⟨gb183, 7, none⟩ = some (.int .i64 a0_7) := (blk_cell BK183.out 7).trans rfl; have hcz32_8 : w31.cell? ⟨gb183, 8, none⟩ = some (.int .i64 a0_8) := (blk_cell BK183.out 8).trans rfl; have hcz32_9 : w31.cell? ⟨gb183, 9, none⟩ = some (.bool a0_9) := (blk_cell BK183.out 9).trans rfl; have hcz32_10 : w31.cell? ⟨gb183, 10, none⟩ = some (.slice A0_10 l0_10.length c0_10) := (blk_cell BK183.out 10).trans rfl; have hfz32_0 := blk_frozen BK183.out 0; have hfz32_1 := blk_frozen BK183.out 1; have hfz32_2 := blk_frozen BK183.out 2; have hfz32_3 := blk_frozen BK183.out 3; have hfz32_4 := blk_frozen BK183.out 4; have hfz32_5 := blk_frozen BK183.out 5; have hfz32_6 := blk_frozen BK183.out 6; have hfz32_7 := blk_frozen BK183.out 7; have hfz32_8 := blk_frozen BK183.out 8; have hfz32_9 := blk_frozen BK183.out 9; have hfz32_10 := blk_frozen BK183.out 10) | ((with_reducible refine gate_callee (f := 49) rfl ?_); refine goesL_ (some 7) rfl rfl Tryd.func49 (by kernel_rfl) rfl #[.agg #[.int .i64 a0_0, .int .i64 a0_1, .int .i64 a0_2, .int .i64 a0_3, .int .i64 a0_4, .int .i64 a0_5, .int .i64 a0_6, .int .i64 a0_7, .int .i64 a0_8, .bool a0_9, .slice A0_10 l0_10.length c0_10]] rfl zm ?_; (with_reducible refine (spec_ConfOk.calls k a0_0 a0_1 a0_2 a0_3 a0_4 a0_5 a0_6 a0_7 a0_8 a0_9 _ _ l0_10 true _ ?side1 ?side2 A2.out).mono ?_); (case side1 => repeat (first | exact (Kd.C_below HR0_10.out HB.out) | (with_reducible refine Kd.C_alloc ?_ _) | (with_reducible refine Kd.C_drewN ?_ _) | (with_reducible refine Kd.C_drew ?_))); (case side2 => exact HC0_10.out); rintro e w33 ⟨rfl, hb⟩; refine ⟨_, rfl, ?_⟩; have n0_ := Aside0.mk (blk_below (g := gb183) (o := .cells #[.int .i64 a0_0, .int .i64 a0_1, .int .i64 a0_2, .int .i64 a0_3, .int .i64 a0_4, .int .i64 a0_5, .int .i64 a0_6, .int .i64 a0_7, .int .i64 a0_8, .bool a0_9, .slice A0_10 l0_10.length c0_10] 62 (0, 0)) (zq BK183.out) hb); have n1_ := Aside0.mk (below_step (by repeat (first | (with_reducible first | exact HB.out | apply below_alloc | apply pw_below_drewN | apply below_drew1 | refine below_set ?_ GE183.out) | exact HB.out)) hb); clear BK183; clear HB; have BK183 := n0_; have HB := n1_; clear n0_ n1_; (try clear hb); (try clear hb2); (try clear hk); (try clear hi)))
                                      have n0_ := Aside0.mk (blk_drew BK183.out)
                                      have n1_ := Aside0.mk (below_drew1 HB.out)
                                      clear BK183
                                      clear HB
                                      have BK183 := n0_
                                      have HB := n1_
                                      clear n0_ n1_
                                      refine start_ (n := 25) (S := fun w' => w'.cell? ⟨gb183, 0, none⟩ = some (.int .i64 a0_0) ∧ w'.cell? ⟨gb183, 1, none⟩ = some (.int .i64 a0_1) ∧ w'.cell? ⟨gb183, 2, none⟩ = some (.int .i64 a0_2) ∧ w'.cell? ⟨gb183, 3, none⟩ = some (.int .i64 a0_3) ∧ w'.cell? ⟨gb183, 4, none⟩ = some (.int .i64 a0_4) ∧ w'.cell? ⟨gb183, 5, none⟩ = some (.int .i64 a0_5) ∧ w'.cell? ⟨gb183, 6, none⟩ = some (.int .i64 a0_6) ∧ w'.cell? ⟨gb183, 7, none⟩ = some (.int .i64 a0_7) ∧ w'.cell? ⟨gb183, 8, none⟩ = some (.int .i64 a0_8) ∧ w'.cell? ⟨gb183, 9, none⟩ = some (.bool a0_9) ∧ w'.cell? ⟨gb183, 10, none⟩ = some (.slice A0_10 l0_10.length c0_10)) (ds := []) #[false, false, false, false, false, false, false, false, false, false, false, false, false, false, false, false, false, false, false, false, false, false, false, false, false] (by kernel_rfl) rfl rfl ⟨(blk_cell BK183.out 0).trans rfl, (blk_cell BK183.out 1).trans rfl, (blk_cell BK183.out 2).trans rfl, (blk_cell BK183.out 3).trans rfl, (blk_cell BK183.out 4).trans rfl, (blk_cell BK183.out 5).trans rfl, (blk_cell BK183.out 6).trans rfl, (blk_cell BK183.out 7).trans rfl, (blk_cell BK183.out 8).trans rfl, (blk_cell BK183.out 9).trans rfl, (blk_cell BK183.out 10).trans rfl⟩ (fun hHeld => ?_); refine with_tabW spec_ConfText.tab3 spec_ConfText.bits3 (fun HT_ HW_ => ?_)
                                      generalize w33.drew = w34 at BK183 HB hHeld ⊢
                                      refine pure_ (i := 0) (N := some 9) (v := ?_) (a' := ?_) #[true, false, false, false, false, false, false, false, false, false, false, false, false, false, false, false, false, false, false, false, false, false, false, false, false] rfl rfl (any_of HT_.out (by kernel_rfl)) (fun _ _ _ h => h) (Or.inl ⟨by rfl, ?_⟩) ?_ ?_
                                      rotate_left
                                      · intro w'
                                        go_simp
                                        with_reducible rfl
                                      rotate_left
                                      · simp only [Act.put, List.setIfInBounds_toArray, List.set_cons_zero, List.set_cons_succ, i64_w, i32_w]
                                        rfl
                                      refine pure_ (i := 5) (N := some 14) (v := ?_) (a' := ?_) #[true, false, false, false, false, true, false, false, false, false, false, false, false, false, false, false, false, false, false, false, false, false, false, false, false] rfl rfl (any_of HT_.out (by kernel_rfl)) (fun _ _ _ h => h) (Or.inl ⟨by rfl, ?_⟩) ?_ ?_
                                      rotate_left
                                      · intro w'
                                        go_simp
                                        with_reducible rfl
                                      rotate_left
                                      · simp only [Act.put, List.setIfInBounds_toArray, List.set_cons_zero, List.set_cons_succ, i64_w, i32_w]
                                        rfl
                                      refine pure_ (i := 10) (N := some 19) (v := ?_) (a' := ?_) #[true, false, false, false, false, true, false, false, false, false, true, false, false, false, false, false, false, false, false, false, false, false, false, false, false] rfl rfl (any_of HT_.out (by kernel_rfl)) (fun _ _ _ h => h) (Or.inl ⟨by rfl, ?_⟩) ?_ ?_
                                      rotate_left
                                      · intro w'
                                        go_simp
                                        with_reducible rfl
                                      rotate_left
                                      · simp only [Act.put, List.setIfInBounds_toArray, List.set_cons_zero, List.set_cons_succ, i64_w, i32_w]
                                        rfl
                                      refine pure_ (i := 15) (N := some 24) (v := ?_) (a' := ?_) #[true, false, false, false, false, true, false, false, false, false, true, false, false, false, false, true, false, false, false, false, false, false, false, false, false] rfl rfl (any_of HT_.out (by kernel_rfl)) (fun _ _ _ h => h) (Or.inl ⟨by rfl, ?_⟩) ?_ ?_
                                      rotate_left
                                      · intro w'
                                        go_simp
                                        with_reducible rfl
                                      rotate_left
                                      · simp only [Act.put, List.setIfInBounds_toArray, List.set_cons_zero, List.set_cons_succ, i64_w, i32_w]
                                        rfl
                                      refine pure_ (i := 20) (N := some 29) (v := ?_) (a' := ?_) #[true, false, false, false, false, true, false, false, false, false, true, false, false, false, false, true, false, false, false, false, true, false, false, false, false] rfl rfl (any_of HT_.out (by kernel_rfl)) (fun _ _ _ h => h) (Or.inl ⟨by rfl, ?_⟩) ?_ ?_
                                      rotate_left
                                      · intro w'
                                        go_simp
                                        with_reducible rfl
                                      rotate_left
                                      · simp only [Act.put, List.setIfInBounds_toArray, List.set_cons_zero, List.set_cons_succ, i64_w, i32_w]
                                        rfl
                                      refine take_ (i := 1) (N := some 10) (v := ?_) (a' := ?_) #[true, true, false, false, false, true, false, false, false, false, true, false, false, false, false, true, false, false, false, false, true, false, false, false, false] rfl rfl (take_ofW HT_.out HW_.out (by kernel_rfl)) (fun _ _ _ h => h) (Or.inl ⟨by rfl, ?_⟩) hHeld ?_ ?_
                                      rotate_left
                                      · rintro w' ⟨s0, s1, s2, s3, s4, s5, s6, s7, s8, s9, s10⟩
                                        go_simp
                                        with_reducible rfl
                                      rotate_left
                                      · simp only [Act.put, List.setIfInBounds_toArray, List.set_cons_zero, List.set_cons_succ, i64_w, i32_w]
                                        rfl
                                      refine take_ (i := 6) (N := some 15) (v := ?_) (a' := ?_) #[true, true, false, false, false, true, true, false, false, false, true, false, false, false, false, true, false, false, false, false, true, false, false, false, false] rfl rfl (take_ofW HT_.out HW_.out (by kernel_rfl)) (fun _ _ _ h => h) (Or.inl ⟨by rfl, ?_⟩) hHeld ?_ ?_
                                      rotate_left
                                      · rintro w' ⟨s0, s1, s2, s3, s4, s5, s6, s7, s8, s9, s10⟩
                                        go_simp
                                        with_reducible rfl
                                      rotate_left
                                      · simp only [Act.put, List.setIfInBounds_toArray, List.set_cons_zero, List.set_cons_succ, i64_w, i32_w]
                                        rfl
                                      refine take_ (i := 11) (N := some 20) (v := ?_) (a' := ?_) #[true, true, false, false, false, true, true, false, false, false, true, true, false, false, false, true, false, false, false, false, true, false, false, false, false] rfl rfl (take_ofW HT_.out HW_.out (by kernel_rfl)) (fun _ _ _ h => h) (Or.inl ⟨by rfl, ?_⟩) hHeld ?_ ?_
                                      rotate_left
                                      · rintro w' ⟨s0, s1, s2, s3, s4, s5, s6, s7, s8, s9, s10⟩
                                        go_simp
                                        with_reducible rfl
                                      rotate_left
                                      · simp only [Act.put, List.setIfInBounds_toArray, List.set_cons_zero, List.set_cons_succ, i64_w, i32_w]
                                        rfl
                                      refine take_ (i := 16) (N := some 25) (v := ?_) (a' := ?_) #[true, true, false, false, false, true, true, false, false, false, true, true, false, false, false, true, true, false, false, false, true, false, false, false, false] rfl rfl (take_ofW HT_.out HW_.out (by kernel_rfl)) (fun _ _ _ h => h) (Or.inl ⟨by rfl, ?_⟩) hHeld ?_ ?_
                                      rotate_left
                                      · rintro w' ⟨s0, s1, s2, s3, s4, s5, s6, s7, s8, s9, s10⟩
                                        go_simp
                                        with_reducible rfl
                                      rotate_left
                                      · simp only [Act.put, List.setIfInBounds_toArray, List.set_cons_zero, List.set_cons_succ, i64_w, i32_w]
                                        rfl
                                      refine take_ (i := 21) (N := some 30) (v := ?_) (a' := ?_) #[true, true, false, false, false, true, true, false, false, false, true, true, false, false, false, true, true, false, false, false, true, true, false, false, false] rfl rfl (take_ofW HT_.out HW_.out (by kernel_rfl)) (fun _ _ _ h => h) (Or.inl ⟨by rfl, ?_⟩) hHeld ?_ ?_
                                      rotate_left
                                      · rintro w' ⟨s0, s1, s2, s3, s4, s5, s6, s7, s8, s9, s10⟩
                                        go_simp
                                        with_reducible rfl
                                      rotate_left
                                      · simp only [Act.put, List.setIfInBounds_toArray, List.set_cons_zero, List.set_cons_succ, i64_w, i32_w]
                                        rfl
                                      refine one_ (i := 2) (N := some 11) #[true, true, true, false, false, true, true, false, false, false, true, true, false, false, false, true, true, false, false, false, true, true, false, false, false] rfl rfl (one_of HT_.out (by kernel_rfl)) (by decide) (fun K hK => ?_)
                                      refine goes_ Tryd.func29 (by kernel_rfl) rfl #[.int .i64 a0_0] (by rfl) rfl rfl zm ?_
                                      with_reducible refine (spec_NumText.calls k a0_0 t185 _ A4.out).mono ?_
                                      rintro e w35 ⟨rfl, hb⟩
                                      refine ⟨_, rfl, ?_⟩
                                      have n0_ := Aside0.mk (blk_below (g := gb183) (o := .cells #[.int .i64 a0_0, .int .i64 a0_1, .int .i64 a0_2, .int .i64 a0_3, .int .i64 a0_4, .int .i64 a0_5, .int .i64 a0_6, .int .i64 a0_7, .int .i64 a0_8, .bool a0_9, .slice A0_10 l0_10.length c0_10] 62 (0, 0)) (zq BK183.out) hb)
                                      have n1_ := Aside0.mk (below_step (by repeat (first | (with_reducible first | exact HB.out | apply below_alloc | apply pw_below_drewN | apply below_drew1 | refine below_set ?_ GE183.out) | exact HB.out)) hb)
                                      clear BK183
                                      clear HB
                                      have BK183 := n0_
                                      have HB := n1_
                                      clear n0_ n1_
                                      (try clear hb)
                                      (try clear hb2)
                                      (try clear hk)
                                      (try clear hi)
                                      refine hK.out _ _ ⟨(blk_cell BK183.out 0).trans rfl, (blk_cell BK183.out 1).trans rfl, (blk_cell BK183.out 2).trans rfl, (blk_cell BK183.out 3).trans rfl, (blk_cell BK183.out 4).trans rfl, (blk_cell BK183.out 5).trans rfl, (blk_cell BK183.out 6).trans rfl, (blk_cell BK183.out 7).trans rfl, (blk_cell BK183.out 8).trans rfl, (blk_cell BK183.out 9).trans rfl, (blk_cell BK183.out 10).trans rfl⟩ (fun hHeld => ?_)
                                      clear hK K
                                      refine norm_ (a' := ?_) ?_ ?_
                                      rotate_left
                                      · show Act.put _ (some 11) _ = _
                                        simp only [Act.put, List.setIfInBounds_toArray, List.set_cons_zero, List.set_cons_succ, i64_w, i32_w]
                                        rfl
                                      refine pure_ (i := 3) (N := some 12) (v := ?_) (a' := ?_) #[true, true, true, true, false, true, true, false, false, false, true, true, false, false, false, true, true, false, false, false, true, true, false, false, false] rfl rfl (any_of HT_.out (by kernel_rfl)) (fun _ _ _ h => h) (Or.inl ⟨by rfl, ?_⟩) ?_ ?_
                                      rotate_left
                                      · intro w'
                                        go_simp
                                        with_reducible rfl
                                      rotate_left
                                      · simp only [Act.put, List.setIfInBounds_toArray, List.set_cons_zero, List.set_cons_succ, i64_w, i32_w]
                                        rfl
                                      refine pure_ (i := 4) (N := some 13) (v := ?_) (a' := ?_) #[true, true, true, true, true, true, true, false, false, false, true, true, false, false, false, true, true, false, false, false, true, true, false, false, false] rfl rfl (any_of HT_.out (by kernel_rfl)) (fun _ _ _ h => h) (Or.inl ⟨by rfl, ?_⟩) ?_ ?_
                                      rotate_left
                                      · intro w'
                                        go_simp
                                        with_reducible rfl
                                      rotate_left
                                      · simp only [Act.put, List.setIfInBounds_toArray, List.set_cons_zero, List.set_cons_succ, i64_w, i32_w]
                                        rfl
                                      refine one_ (i := 7) (N := some 16) #[true, true, true, true, true, true, true, true, false, false, true, true, false, false, false, true, true, false, false, false, true, true, false, false, false] rfl rfl (one_of HT_.out (by kernel_rfl)) (by decide) (fun K hK => ?_)
                                      refine goes_ Tryd.func29 (by kernel_rfl) rfl #[.int .i64 a0_1] (by rfl) rfl rfl zm ?_
                                      with_reducible refine (spec_NumText.calls k a0_1 t186 _ A7.out).mono ?_
                                      rintro e w36 ⟨rfl, hb⟩
                                      refine ⟨_, rfl, ?_⟩
                                      have n0_ := Aside0.mk (blk_below (g := gb183) (o := .cells #[.int .i64 a0_0, .int .i64 a0_1, .int .i64 a0_2, .int .i64 a0_3, .int .i64 a0_4, .int .i64 a0_5, .int .i64 a0_6, .int .i64 a0_7, .int .i64 a0_8, .bool a0_9, .slice A0_10 l0_10.length c0_10] 62 (0, 0)) (zq BK183.out) hb)
                                      have n1_ := Aside0.mk (below_step (by repeat (first | (with_reducible first | exact HB.out | apply below_alloc | apply pw_below_drewN | apply below_drew1 | refine below_set ?_ GE183.out) | exact HB.out)) hb)
                                      clear BK183
                                      clear HB
                                      have BK183 := n0_
                                      have HB := n1_
                                      clear n0_ n1_
                                      (try clear hb)
                                      (try clear hb2)
                                      (try clear hk)
                                      (try clear hi)
                                      refine hK.out _ _ ⟨(blk_cell BK183.out 0).trans rfl, (blk_cell BK183.out 1).trans rfl, (blk_cell BK183.out 2).trans rfl, (blk_cell BK183.out 3).trans rfl, (blk_cell BK183.out 4).trans rfl, (blk_cell BK183.out 5).trans rfl, (blk_cell BK183.out 6).trans rfl, (blk_cell BK183.out 7).trans rfl, (blk_cell BK183.out 8).trans rfl, (blk_cell BK183.out 9).trans rfl, (blk_cell BK183.out 10).trans rfl⟩ (fun hHeld => ?_)
                                      clear hK K
                                      refine norm_ (a' := ?_) ?_ ?_
                                      rotate_left
                                      · show Act.put _ (some 16) _ = _
                                        simp only [Act.put, List.setIfInBounds_toArray, List.set_cons_zero, List.set_cons_succ, i64_w, i32_w]
                                        rfl
                                      refine pure_ (i := 8) (N := some 17) (v := ?_) (a' := ?_) #[true, true, true, true, true, true, true, true, true, false, true, true, false, false, false, true, true, false, false, false, true, true, false, false, false] rfl rfl (any_of HT_.out (by kernel_rfl)) (fun _ _ _ h => h) (Or.inl ⟨by rfl, ?_⟩) ?_ ?_
                                      rotate_left
                                      · intro w'
                                        go_simp
                                        with_reducible rfl
                                      rotate_left
                                      · simp only [Act.put, List.setIfInBounds_toArray, List.set_cons_zero, List.set_cons_succ, i64_w, i32_w]
                                        rfl
                                      refine pure_ (i := 9) (N := some 18) (v := ?_) (a' := ?_) #[true, true, true, true, true, true, true, true, true, true, true, true, false, false, false, true, true, false, false, false, true, true, false, false, false] rfl rfl (any_of HT_.out (by kernel_rfl)) (fun _ _ _ h => h) (Or.inl ⟨by rfl, ?_⟩) ?_ ?_
                                      rotate_left
                                      · intro w'
                                        go_simp
                                        with_reducible rfl
                                      rotate_left
                                      · simp only [Act.put, List.setIfInBounds_toArray, List.set_cons_zero, List.set_cons_succ, i64_w, i32_w]
                                        rfl
                                      refine one_ (i := 12) (N := some 21) #[true, true, true, true, true, true, true, true, true, true, true, true, true, false, false, true, true, false, false, false, true, true, false, false, false] rfl rfl (one_of HT_.out (by kernel_rfl)) (by decide) (fun K hK => ?_)
                                      refine goes_ Tryd.func29 (by kernel_rfl) rfl #[.int .i64 a0_2] (by rfl) rfl rfl zm ?_
                                      with_reducible refine (spec_NumText.calls k a0_2 t187 _ A10.out).mono ?_
                                      rintro e w37 ⟨rfl, hb⟩
                                      refine ⟨_, rfl, ?_⟩
                                      have n0_ := Aside0.mk (blk_below (g := gb183) (o := .cells #[.int .i64 a0_0, .int .i64 a0_1, .int .i64 a0_2, .int .i64 a0_3, .int .i64 a0_4, .int .i64 a0_5, .int .i64 a0_6, .int .i64 a0_7, .int .i64 a0_8, .bool a0_9, .slice A0_10 l0_10.length c0_10] 62 (0, 0)) (zq BK183.out) hb)
                                      have n1_ := Aside0.mk (below_step (by repeat (first | (with_reducible first | exact HB.out | apply below_alloc | apply pw_below_drewN | apply below_drew1 | refine below_set ?_ GE183.out) | exact HB.out)) hb)
                                      clear BK183
                                      clear HB
                                      have BK183 := n0_
                                      have HB := n1_
                                      clear n0_ n1_
                                      (try clear hb)
                                      (try clear hb2)
                                      (try clear hk)
                                      (try clear hi)
                                      refine hK.out _ _ ⟨(blk_cell BK183.out 0).trans rfl, (blk_cell BK183.out 1).trans rfl, (blk_cell BK183.out 2).trans rfl, (blk_cell BK183.out 3).trans rfl, (blk_cell BK183.out 4).trans rfl, (blk_cell BK183.out 5).trans rfl, (blk_cell BK183.out 6).trans rfl, (blk_cell BK183.out 7).trans rfl, (blk_cell BK183.out 8).trans rfl, (blk_cell BK183.out 9).trans rfl, (blk_cell BK183.out 10).trans rfl⟩ (fun hHeld => ?_)
                                      clear hK K
                                      refine norm_ (a' := ?_) ?_ ?_
                                      rotate_left
                                      · show Act.put _ (some 21) _ = _
                                        simp only [Act.put, List.setIfInBounds_toArray, List.set_cons_zero, List.set_cons_succ, i64_w, i32_w]
                                        rfl
                                      refine pure_ (i := 13) (N := some 22) (v := ?_) (a' := ?_) #[true, true, true, true, true, true, true, true, true, true, true, true, true, true, false, true, true, false, false, false, true, true, false, false, false] rfl rfl (any_of HT_.out (by kernel_rfl)) (fun _ _ _ h => h) (Or.inl ⟨by rfl, ?_⟩) ?_ ?_
                                      rotate_left
                                      · intro w'
                                        go_simp
                                        with_reducible rfl
                                      rotate_left
                                      · simp only [Act.put, List.setIfInBounds_toArray, List.set_cons_zero, List.set_cons_succ, i64_w, i32_w]
                                        rfl
                                      refine pure_ (i := 14) (N := some 23) (v := ?_) (a' := ?_) #[true, true, true, true, true, true, true, true, true, true, true, true, true, true, true, true, true, false, false, false, true, true, false, false, false] rfl rfl (any_of HT_.out (by kernel_rfl)) (fun _ _ _ h => h) (Or.inl ⟨by rfl, ?_⟩) ?_ ?_
                                      rotate_left
                                      · intro w'
                                        go_simp
                                        with_reducible rfl
                                      rotate_left
                                      · simp only [Act.put, List.setIfInBounds_toArray, List.set_cons_zero, List.set_cons_succ, i64_w, i32_w]
                                        rfl
                                      refine one_ (i := 17) (N := some 26) #[true, true, true, true, true, true, true, true, true, true, true, true, true, true, true, true, true, true, false, false, true, true, false, false, false] rfl rfl (one_of HT_.out (by kernel_rfl)) (by decide) (fun K hK => ?_)
                                      refine goes_ Tryd.func29 (by kernel_rfl) rfl #[.int .i64 a0_3] (by rfl) rfl rfl zm ?_
                                      with_reducible refine (spec_NumText.calls k a0_3 t188 _ A13.out).mono ?_
                                      rintro e w38 ⟨rfl, hb⟩
                                      refine ⟨_, rfl, ?_⟩
                                      have n0_ := Aside0.mk (blk_below (g := gb183) (o := .cells #[.int .i64 a0_0, .int .i64 a0_1, .int .i64 a0_2, .int .i64 a0_3, .int .i64 a0_4, .int .i64 a0_5, .int .i64 a0_6, .int .i64 a0_7, .int .i64 a0_8, .bool a0_9, .slice A0_10 l0_10.length c0_10] 62 (0, 0)) (zq BK183.out) hb)
                                      have n1_ := Aside0.mk (below_step (by repeat (first | (with_reducible first | exact HB.out | apply below_alloc | apply pw_below_drewN | apply below_drew1 | refine below_set ?_ GE183.out) | exact HB.out)) hb)
                                      clear BK183
                                      clear HB
                                      have BK183 := n0_
                                      have HB := n1_
                                      clear n0_ n1_
                                      (try clear hb)
                                      (try clear hb2)
                                      (try clear hk)
                                      (try clear hi)
                                      refine hK.out _ _ ⟨(blk_cell BK183.out 0).trans rfl, (blk_cell BK183.out 1).trans rfl, (blk_cell BK183.out 2).trans rfl, (blk_cell BK183.out 3).trans rfl, (blk_cell BK183.out 4).trans rfl, (blk_cell BK183.out 5).trans rfl, (blk_cell BK183.out 6).trans rfl, (blk_cell BK183.out 7).trans rfl, (blk_cell BK183.out 8).trans rfl, (blk_cell BK183.out 9).trans rfl, (blk_cell BK183.out 10).trans rfl⟩ (fun hHeld => ?_)
                                      clear hK K
                                      refine norm_ (a' := ?_) ?_ ?_
                                      rotate_left
                                      · show Act.put _ (some 26) _ = _
                                        simp only [Act.put, List.setIfInBounds_toArray, List.set_cons_zero, List.set_cons_succ, i64_w, i32_w]
                                        rfl
                                      refine pure_ (i := 18) (N := some 27) (v := ?_) (a' := ?_) #[true, true, true, true, true, true, true, true, true, true, true, true, true, true, true, true, true, true, true, false, true, true, false, false, false] rfl rfl (any_of HT_.out (by kernel_rfl)) (fun _ _ _ h => h) (Or.inl ⟨by rfl, ?_⟩) ?_ ?_
                                      rotate_left
                                      · intro w'
                                        go_simp
                                        with_reducible rfl
                                      rotate_left
                                      · simp only [Act.put, List.setIfInBounds_toArray, List.set_cons_zero, List.set_cons_succ, i64_w, i32_w]
                                        rfl
                                      refine pure_ (i := 19) (N := some 28) (v := ?_) (a' := ?_) #[true, true, true, true, true, true, true, true, true, true, true, true, true, true, true, true, true, true, true, true, true, true, false, false, false] rfl rfl (any_of HT_.out (by kernel_rfl)) (fun _ _ _ h => h) (Or.inl ⟨by rfl, ?_⟩) ?_ ?_
                                      rotate_left
                                      · intro w'
                                        go_simp
                                        with_reducible rfl
                                      rotate_left
                                      · simp only [Act.put, List.setIfInBounds_toArray, List.set_cons_zero, List.set_cons_succ, i64_w, i32_w]
                                        rfl
                                      refine one_ (i := 22) (N := some 31) #[true, true, true, true, true, true, true, true, true, true, true, true, true, true, true, true, true, true, true, true, true, true, true, false, false] rfl rfl (one_of HT_.out (by kernel_rfl)) (by decide) (fun K hK => ?_)
                                      refine goes_ Tryd.func29 (by kernel_rfl) rfl #[.int .i64 a0_4] (by rfl) rfl rfl zm ?_
                                      with_reducible refine (spec_NumText.calls k a0_4 t189 _ A16.out).mono ?_
                                      rintro e w39 ⟨rfl, hb⟩
                                      refine ⟨_, rfl, ?_⟩
                                      have n0_ := Aside0.mk (blk_below (g := gb183) (o := .cells #[.int .i64 a0_0, .int .i64 a0_1, .int .i64 a0_2, .int .i64 a0_3, .int .i64 a0_4, .int .i64 a0_5, .int .i64 a0_6, .int .i64 a0_7, .int .i64 a0_8, .bool a0_9, .slice A0_10 l0_10.length c0_10] 62 (0, 0)) (zq BK183.out) hb)
                                      have n1_ := Aside0.mk (below_step (by repeat (first | (with_reducible first | exact HB.out | apply below_alloc | apply pw_below_drewN | apply below_drew1 | refine below_set ?_ GE183.out) | exact HB.out)) hb)
                                      clear BK183
                                      clear HB
                                      have BK183 := n0_
                                      have HB := n1_
                                      clear n0_ n1_
                                      (try clear hb)
                                      (try clear hb2)
                                      (try clear hk)
                                      (try clear hi)
                                      refine hK.out _ _ ⟨(blk_cell BK183.out 0).trans rfl, (blk_cell BK183.out 1).trans rfl, (blk_cell BK183.out 2).trans rfl, (blk_cell BK183.out 3).trans rfl, (blk_cell BK183.out 4).trans rfl, (blk_cell BK183.out 5).trans rfl, (blk_cell BK183.out 6).trans rfl, (blk_cell BK183.out 7).trans rfl, (blk_cell BK183.out 8).trans rfl, (blk_cell BK183.out 9).trans rfl, (blk_cell BK183.out 10).trans rfl⟩ (fun hHeld => ?_)
                                      clear hK K
                                      refine norm_ (a' := ?_) ?_ ?_
                                      rotate_left
                                      · show Act.put _ (some 31) _ = _
                                        simp only [Act.put, List.setIfInBounds_toArray, List.set_cons_zero, List.set_cons_succ, i64_w, i32_w]
                                        rfl
                                      refine pure_ (i := 23) (N := some 32) (v := ?_) (a' := ?_) #[true, true, true, true, true, true, true, true, true, true, true, true, true, true, true, true, true, true, true, true, true, true, true, true, false] rfl rfl (any_of HT_.out (by kernel_rfl)) (fun _ _ _ h => h) (Or.inl ⟨by rfl, ?_⟩) ?_ ?_
                                      rotate_left
                                      · intro w'
                                        go_simp
                                        with_reducible rfl
                                      rotate_left
                                      · simp only [Act.put, List.setIfInBounds_toArray, List.set_cons_zero, List.set_cons_succ, i64_w, i32_w]
                                        rfl
                                      refine pure_ (i := 24) (N := some 3) (v := ?_) (a' := ?_) #[true, true, true, true, true, true, true, true, true, true, true, true, true, true, true, true, true, true, true, true, true, true, true, true, true] rfl rfl (any_of HT_.out (by kernel_rfl)) (fun _ _ _ h => h) (Or.inl ⟨by rfl, ?_⟩) ?_ ?_
                                      rotate_left
                                      · intro w'
                                        go_simp
                                        with_reducible rfl
                                      rotate_left
                                      · simp only [Act.put, List.setIfInBounds_toArray, List.set_cons_zero, List.set_cons_succ, i64_w, i32_w]
                                        rfl
                                      refine done_ (done_of HT_.out (by kernel_rfl)) ?_
                                      have hcz40_0 : w39.cell? ⟨gb183, 0, none⟩ = some (.int .i64 a0_0) := (blk_cell BK183.out 0).trans rfl
                                      have hcz40_1 : w39.cell? ⟨gb183, 1, none⟩ = some (.int .i64 a0_1) := (blk_cell BK183.out 1).trans rfl
                                      have hcz40_2 : w39.cell? ⟨gb183, 2, none⟩ = some (.int .i64 a0_2) := (blk_cell BK183.out 2).trans rfl
                                      have hcz40_3 : w39.cell? ⟨gb183, 3, none⟩ = some (.int .i64 a0_3) := (blk_cell BK183.out 3).trans rfl
                                      have hcz40_4 : w39.cell? ⟨gb183, 4, none⟩ = some (.int .i64 a0_4) := (blk_cell BK183.out 4).trans rfl
                                      have hcz40_5 : w39.cell? ⟨gb183, 5, none⟩ = some (.int .i64 a0_5) := (blk_cell BK183.out 5).trans rfl
                                      have hcz40_6 : w39.cell? ⟨gb183, 6, none⟩ = some (.int .i64 a0_6) := (blk_cell BK183.out 6).trans rfl
                                      have hcz40_7 : w39.cell? ⟨gb183, 7, none⟩ = some (.int .i64 a0_7) := (blk_cell BK183.out 7).trans rfl
                                      have hcz40_8 : w39.cell? ⟨gb183, 8, none⟩ = some (.int .i64 a0_8) := (blk_cell BK183.out 8).trans rfl
                                      have hcz40_9 : w39.cell? ⟨gb183, 9, none⟩ = some (.bool a0_9) := (blk_cell BK183.out 9).trans rfl
                                      have hcz40_10 : w39.cell? ⟨gb183, 10, none⟩ = some (.slice A0_10 l0_10.length c0_10) := (blk_cell BK183.out 10).trans rfl
                                      have hfz40_0 := blk_frozen BK183.out 0
                                      have hfz40_1 := blk_frozen BK183.out 1
                                      have hfz40_2 := blk_frozen BK183.out 2
                                      have hfz40_3 := blk_frozen BK183.out 3
                                      have hfz40_4 := blk_frozen BK183.out 4
                                      have hfz40_5 := blk_frozen BK183.out 5
                                      have hfz40_6 := blk_frozen BK183.out 6
                                      have hfz40_7 := blk_frozen BK183.out 7
                                      have hfz40_8 := blk_frozen BK183.out 8
                                      have hfz40_9 := blk_frozen BK183.out 9
                                      have hfz40_10 := blk_frozen BK183.out 10
                                      try go_wp2_with (first | ((with_reducible refine gate_dst (N := 4) rfl ?_); refine box_event ?hg (N := 4) ?hd (cs := #[.int .i64 0, .int .i64 0, .int .i64 0, .int .i64 0, .bool false]) (t := 59) ?hr ?_; (case hd => rfl); (case hg => rfl); (case hr => first | (go_simp; done) | (go_simp; rfl)); intro gb190 hg w41 hbox hb; have n0_ := Aside0.mk (blk_below (g := gb183) (o := .cells #[.int .i64 a0_0, .int .i64 a0_1, .int .i64 a0_2, .int .i64 a0_3, .int .i64 a0_4, .int .i64 a0_5, .int .i64 a0_6, .int .i64 a0_7, .int .i64 a0_8, .bool a0_9, .slice A0_10 l0_10.length c0_10] 62 (0, 0)) (zq BK183.out) hb); have n1_ := Aside0.mk (below_step (by repeat (first | (with_reducible first | exact HB.out | apply below_alloc | apply pw_below_drewN | apply below_drew1 | refine below_set ?_ GE183.out) | exact HB.out)) hb); have n2_ := Aside0.mk (hbox); have n3_ := Aside0.mk ((by rw [hg]; exact (below_size (by repeat (first | (with_reducible first | exact HB.out | apply below_alloc | apply pw_below_drewN | apply below_drew1 | refine below_set ?_ GE183.out) | exact HB.out))) : w.heap.size ≤ gb190)); have n4_ := Aside0.mk ((by rw [hg]; exact (below_size (by repeat (first | (with_reducible first | exact HB.out | apply below_alloc | apply pw_below_drewN | apply below_drew1 | refine below_set ?_ GE183.out) | exact HB.out))) : w.heap.size ≤ gb190)); have n5_ := Aside0.mk ((by rw [hg]; exact Nat.ne_of_lt (blk_lt (g := gb183) (o := .cells #[.int .i64 a0_0, .int .i64 a0_1, .int .i64 a0_2, .int .i64 a0_3, .int .i64 a0_4, .int .i64 a0_5, .int .i64 a0_6, .int .i64 a0_7, .int .i64 a0_8, .bool a0_9, .slice A0_10 l0_10.length c0_10] 62 (0, 0)) (zq BK183.out)) : gb183 ≠ gb190)); have n6_ := Aside0.mk ((by rw [hg]; exact Nat.ne_of_gt (blk_lt (g := gb183) (o := .cells #[.int .i64 a0_0, .int .i64 a0_1, .int .i64 a0_2, .int .i64 a0_3, .int .i64 a0_4, .int .i64 a0_5, .int .i64 a0_6, .int .i64 a0_7, .int .i64 a0_8, .bool a0_9, .slice A0_10 l0_10.length c0_10] 62 (0, 0)) (zq BK183.out)) : gb190 ≠ gb183)); clear BK183; clear HB; have BK183 := n0_; have HB := n1_; have BK190 := n2_; have GW190 := n3_; have GE190 := n4_; have NB183_190 := n5_; have NB190_183 := n6_; clear n0_ n1_ n2_ n3_ n4_ n5_ n6_; clear hb hbox hg; have hnb42 := NB190_183.out; have hnc42 := NB183_190.out; have hcz43_0 : w41.cell? ⟨gb190, 0, none⟩ = some (.int .i64 0) := (blk_cell BK190.out 0).trans rfl; have hcz43_1 : w41.cell? ⟨gb190, 1, none⟩ = some (.int .i64 0) := (blk_cell BK190.out 1).trans rfl; have hcz43_2 : w41.cell? ⟨gb190, 2, none⟩ = some (.int .i64 0) := (blk_cell BK190.out 2).trans rfl; have hcz43_3 : w41.cell? ⟨gb190, 3, none⟩ = some (.int .i64 0) := (blk_cell BK190.out 3).trans rfl; have hcz43_4 : w41.cell? ⟨gb190, 4, none⟩ = some (.bool false) := (blk_cell BK190.out 4).trans rfl; have hfz43_0 := blk_frozen BK190.out 0; have hfz43_1 := blk_frozen BK190.out 1; have hfz43_2 := blk_frozen BK190.out 2; have hfz43_3 := blk_frozen BK190.out 3; have hfz43_4 := blk_frozen BK190.out 4))
                                      have n0_ : Aside0 ((((((w41.setCell ⟨gb190, 0, none⟩ (.int .i64 a0_5)).setCell ⟨gb190, 1, none⟩ (.int .i64 a0_6)).setCell ⟨gb190, 2, none⟩ (.int .i64 a0_7)).setCell ⟨gb190, 3, none⟩ (.int .i64 a0_8)).setCell ⟨gb190, 4, none⟩ (.bool a0_9)).heap[gb183]? = some (.cells #[.int .i64 a0_0, .int .i64 a0_1, .int .i64 a0_2, .int .i64 a0_3, .int .i64 a0_4, .int .i64 a0_5, .int .i64 a0_6, .int .i64 a0_7, .int .i64 a0_8, .bool a0_9, .slice A0_10 l0_10.length c0_10] 62 (0, 0))) := ⟨by (with_reducible repeat (first | refine blk_drewN ?_ _ | refine blk_drew ?_ | refine blk_alloc ?_ _)); refine blk_far ?_ NB183_190.out _; (with_reducible repeat (first | refine blk_drewN ?_ _ | refine blk_drew ?_ | refine blk_alloc ?_ _)); refine blk_far ?_ NB183_190.out _; (with_reducible repeat (first | refine blk_drewN ?_ _ | refine blk_drew ?_ | refine blk_alloc ?_ _)); refine blk_far ?_ NB183_190.out _; (with_reducible repeat (first | refine blk_drewN ?_ _ | refine blk_drew ?_ | refine blk_alloc ?_ _)); refine blk_far ?_ NB183_190.out _; (with_reducible repeat (first | refine blk_drewN ?_ _ | refine blk_drew ?_ | refine blk_alloc ?_ _)); refine blk_far ?_ NB183_190.out _; (with_reducible repeat (first | refine blk_drewN ?_ _ | refine blk_drew ?_ | refine blk_alloc ?_ _)); exact BK183.out⟩
                                      have n1_ : Aside0 ((((((w41.setCell ⟨gb190, 0, none⟩ (.int .i64 a0_5)).setCell ⟨gb190, 1, none⟩ (.int .i64 a0_6)).setCell ⟨gb190, 2, none⟩ (.int .i64 a0_7)).setCell ⟨gb190, 3, none⟩ (.int .i64 a0_8)).setCell ⟨gb190, 4, none⟩ (.bool a0_9)).heap[gb190]? = some (.cells #[.int .i64 a0_5, .int .i64 a0_6, .int .i64 a0_7, .int .i64 a0_8, .bool a0_9] 59 (0, 0))) := ⟨by (with_reducible repeat (first | refine blk_drewN ?_ _ | refine blk_drew ?_ | refine blk_alloc ?_ _)); refine blk_put (cs := #[.int .i64 a0_5, .int .i64 a0_6, .int .i64 a0_7, .int .i64 a0_8, .bool false]) ?_ 4 _ rfl; (with_reducible repeat (first | refine blk_drewN ?_ _ | refine blk_drew ?_ | refine blk_alloc ?_ _)); refine blk_put (cs := #[.int .i64 a0_5, .int .i64 a0_6, .int .i64 a0_7, .int .i64 0, .bool false]) ?_ 3 _ rfl; (with_reducible repeat (first | refine blk_drewN ?_ _ | refine blk_drew ?_ | refine blk_alloc ?_ _)); refine blk_put (cs := #[.int .i64 a0_5, .int .i64 a0_6, .int .i64 0, .int .i64 0, .bool false]) ?_ 2 _ rfl; (with_reducible repeat (first | refine blk_drewN ?_ _ | refine blk_drew ?_ | refine blk_alloc ?_ _)); refine blk_put (cs := #[.int .i64 a0_5, .int .i64 0, .int .i64 0, .int .i64 0, .bool false]) ?_ 1 _ rfl; (with_reducible repeat (first | refine blk_drewN ?_ _ | refine blk_drew ?_ | refine blk_alloc ?_ _)); refine blk_put (cs := #[.int .i64 0, .int .i64 0, .int .i64 0, .int .i64 0, .bool false]) ?_ 0 _ rfl; (with_reducible repeat (first | refine blk_drewN ?_ _ | refine blk_drew ?_ | refine blk_alloc ?_ _)); exact BK190.out⟩
                                      have n2_ : Aside0 (Below w.heap.size w (((((w41.setCell ⟨gb190, 0, none⟩ (.int .i64 a0_5)).setCell ⟨gb190, 1, none⟩ (.int .i64 a0_6)).setCell ⟨gb190, 2, none⟩ (.int .i64 a0_7)).setCell ⟨gb190, 3, none⟩ (.int .i64 a0_8)).setCell ⟨gb190, 4, none⟩ (.bool a0_9))) := ⟨by repeat (first | (with_reducible first | exact HB.out | apply below_alloc | apply pw_below_drewN | apply below_drew1 | refine below_set ?_ GE183.out | refine below_set ?_ GE190.out) | exact HB.out)⟩
                                      (try clear BK183)
                                      (try clear BK190)
                                      (try clear HB)
                                      generalize (((((w41.setCell ⟨gb190, 0, none⟩ (.int .i64 a0_5)).setCell ⟨gb190, 1, none⟩ (.int .i64 a0_6)).setCell ⟨gb190, 2, none⟩ (.int .i64 a0_7)).setCell ⟨gb190, 3, none⟩ (.int .i64 a0_8)).setCell ⟨gb190, 4, none⟩ (.bool a0_9)) = w44 at n0_ n1_ n2_ ⊢
                                      have BK183 := n0_
                                      have BK190 := n1_
                                      have HB := n2_
                                      clear n0_ n1_ n2_
                                      have n0_ := Aside0.mk (blk_drew BK183.out)
                                      have n1_ := Aside0.mk (blk_drew BK190.out)
                                      have n2_ := Aside0.mk (below_drew1 HB.out)
                                      clear BK183
                                      clear BK190
                                      clear HB
                                      have BK183 := n0_
                                      have BK190 := n1_
                                      have HB := n2_
                                      clear n0_ n1_ n2_
                                      refine start_ (n := 22) (S := fun w' => w'.cell? ⟨gb190, 0, none⟩ = some (.int .i64 a0_5) ∧ w'.cell? ⟨gb190, 1, none⟩ = some (.int .i64 a0_6) ∧ w'.cell? ⟨gb190, 2, none⟩ = some (.int .i64 a0_7) ∧ w'.cell? ⟨gb190, 3, none⟩ = some (.int .i64 a0_8) ∧ w'.cell? ⟨gb190, 4, none⟩ = some (.bool a0_9)) (ds := []) #[false, false, false, false, false, false, false, false, false, false, false, false, false, false, false, false, false, false, false, false, false, false] (by kernel_rfl) rfl rfl ⟨(blk_cell BK190.out 0).trans rfl, (blk_cell BK190.out 1).trans rfl, (blk_cell BK190.out 2).trans rfl, (blk_cell BK190.out 3).trans rfl, (blk_cell BK190.out 4).trans rfl⟩ (fun hHeld => ?_); refine with_tabW spec_ConfText.tab5 spec_ConfText.bits5 (fun HT_ HW_ => ?_)
                                      generalize w44.drew = w45 at BK183 BK190 HB hHeld ⊢
                                      refine pure_ (i := 0) (N := some 35) (v := ?_) (a' := ?_) #[true, false, false, false, false, false, false, false, false, false, false, false, false, false, false, false, false, false, false, false, false, false] rfl rfl (any_of HT_.out (by kernel_rfl)) (fun _ _ _ h => h) (Or.inl ⟨by rfl, ?_⟩) ?_ ?_
                                      rotate_left
                                      · intro w'
                                        go_simp
                                        with_reducible rfl
                                      rotate_left
                                      · simp only [Act.put, List.setIfInBounds_toArray, List.set_cons_zero, List.set_cons_succ, i64_w, i32_w]
                                        rfl
                                      refine pure_ (i := 1) (N := some 36) (v := ?_) (a' := ?_) #[true, true, false, false, false, false, false, false, false, false, false, false, false, false, false, false, false, false, false, false, false, false] rfl rfl (any_of HT_.out (by kernel_rfl)) (fun _ _ _ h => h) (Or.inl ⟨by rfl, ?_⟩) ?_ ?_
                                      rotate_left
                                      · intro w'
                                        go_simp
                                        with_reducible rfl
                                      rotate_left
                                      · simp only [Act.put, List.setIfInBounds_toArray, List.set_cons_zero, List.set_cons_succ, i64_w, i32_w]
                                        rfl
                                      refine pure_ (i := 2) (N := some 37) (v := ?_) (a' := ?_) #[true, true, true, false, false, false, false, false, false, false, false, false, false, false, false, false, false, false, false, false, false, false] rfl rfl (any_of HT_.out (by kernel_rfl)) (fun _ _ _ h => h) (Or.inl ⟨by rfl, ?_⟩) ?_ ?_
                                      rotate_left
                                      · intro w'
                                        go_simp
                                        with_reducible rfl
                                      rotate_left
                                      · simp only [Act.put, List.setIfInBounds_toArray, List.set_cons_zero, List.set_cons_succ, i64_w, i32_w]
                                        rfl
                                      refine pure_ (i := 7) (N := some 42) (v := ?_) (a' := ?_) #[true, true, true, false, false, false, false, true, false, false, false, false, false, false, false, false, false, false, false, false, false, false] rfl rfl (any_of HT_.out (by kernel_rfl)) (fun _ _ _ h => h) (Or.inl ⟨by rfl, ?_⟩) ?_ ?_
                                      rotate_left
                                      · intro w'
                                        go_simp
                                        with_reducible rfl
                                      rotate_left
                                      · simp only [Act.put, List.setIfInBounds_toArray, List.set_cons_zero, List.set_cons_succ, i64_w, i32_w]
                                        rfl
                                      refine pure_ (i := 12) (N := some 47) (v := ?_) (a' := ?_) #[true, true, true, false, false, false, false, true, false, false, false, false, true, false, false, false, false, false, false, false, false, false] rfl rfl (any_of HT_.out (by kernel_rfl)) (fun _ _ _ h => h) (Or.inl ⟨by rfl, ?_⟩) ?_ ?_
                                      rotate_left
                                      · intro w'
                                        go_simp
                                        with_reducible rfl
                                      rotate_left
                                      · simp only [Act.put, List.setIfInBounds_toArray, List.set_cons_zero, List.set_cons_succ, i64_w, i32_w]
                                        rfl
                                      refine pure_ (i := 17) (N := some 52) (v := ?_) (a' := ?_) #[true, true, true, false, false, false, false, true, false, false, false, false, true, false, false, false, false, true, false, false, false, false] rfl rfl (any_of HT_.out (by kernel_rfl)) (fun _ _ _ h => h) (Or.inl ⟨by rfl, ?_⟩) ?_ ?_
                                      rotate_left
                                      · intro w'
                                        go_simp
                                        with_reducible rfl
                                      rotate_left
                                      · simp only [Act.put, List.setIfInBounds_toArray, List.set_cons_zero, List.set_cons_succ, i64_w, i32_w]
                                        rfl
                                      refine take_ (i := 3) (N := some 38) (v := ?_) (a' := ?_) #[true, true, true, true, false, false, false, true, false, false, false, false, true, false, false, false, false, true, false, false, false, false] rfl rfl (take_ofW HT_.out HW_.out (by kernel_rfl)) (fun _ _ _ h => h) (Or.inl ⟨by rfl, ?_⟩) hHeld ?_ ?_
                                      rotate_left
                                      · rintro w' ⟨s0, s1, s2, s3, s4⟩
                                        go_simp
                                        with_reducible rfl
                                      rotate_left
                                      · simp only [Act.put, List.setIfInBounds_toArray, List.set_cons_zero, List.set_cons_succ, i64_w, i32_w]
                                        rfl
                                      refine take_ (i := 8) (N := some 43) (v := ?_) (a' := ?_) #[true, true, true, true, false, false, false, true, true, false, false, false, true, false, false, false, false, true, false, false, false, false] rfl rfl (take_ofW HT_.out HW_.out (by kernel_rfl)) (fun _ _ _ h => h) (Or.inl ⟨by rfl, ?_⟩) hHeld ?_ ?_
                                      rotate_left
                                      · rintro w' ⟨s0, s1, s2, s3, s4⟩
                                        go_simp
                                        with_reducible rfl
                                      rotate_left
                                      · simp only [Act.put, List.setIfInBounds_toArray, List.set_cons_zero, List.set_cons_succ, i64_w, i32_w]
                                        rfl
                                      refine take_ (i := 13) (N := some 48) (v := ?_) (a' := ?_) #[true, true, true, true, false, false, false, true, true, false, false, false, true, true, false, false, false, true, false, false, false, false] rfl rfl (take_ofW HT_.out HW_.out (by kernel_rfl)) (fun _ _ _ h => h) (Or.inl ⟨by rfl, ?_⟩) hHeld ?_ ?_
                                      rotate_left
                                      · rintro w' ⟨s0, s1, s2, s3, s4⟩
                                        go_simp
                                        with_reducible rfl
                                      rotate_left
                                      · simp only [Act.put, List.setIfInBounds_toArray, List.set_cons_zero, List.set_cons_succ, i64_w, i32_w]
                                        rfl
                                      refine take_ (i := 18) (N := some 53) (v := ?_) (a' := ?_) #[true, true, true, true, false, false, false, true, true, false, false, false, true, true, false, false, false, true, true, false, false, false] rfl rfl (take_ofW HT_.out HW_.out (by kernel_rfl)) (fun _ _ _ h => h) (Or.inl ⟨by rfl, ?_⟩) hHeld ?_ ?_
                                      rotate_left
                                      · rintro w' ⟨s0, s1, s2, s3, s4⟩
                                        go_simp
                                        with_reducible rfl
                                      rotate_left
                                      · simp only [Act.put, List.setIfInBounds_toArray, List.set_cons_zero, List.set_cons_succ, i64_w, i32_w]
                                        rfl
                                      refine one_ (i := 4) (N := some 39) #[true, true, true, true, true, false, false, true, true, false, false, false, true, true, false, false, false, true, true, false, false, false] rfl rfl (one_of HT_.out (by kernel_rfl)) (by decide) (fun K hK => ?_)
                                      refine goes_ Tryd.func29 (by kernel_rfl) rfl #[.int .i64 a0_5] (by rfl) rfl rfl zm ?_
                                      with_reducible refine (spec_NumText.calls k a0_5 t191 _ A19.out).mono ?_
                                      rintro e w46 ⟨rfl, hb⟩
                                      refine ⟨_, rfl, ?_⟩
                                      have n0_ := Aside0.mk (blk_below (g := gb183) (o := .cells #[.int .i64 a0_0, .int .i64 a0_1, .int .i64 a0_2, .int .i64 a0_3, .int .i64 a0_4, .int .i64 a0_5, .int .i64 a0_6, .int .i64 a0_7, .int .i64 a0_8, .bool a0_9, .slice A0_10 l0_10.length c0_10] 62 (0, 0)) (zq BK183.out) hb)
                                      have n1_ := Aside0.mk (blk_below (g := gb190) (o := .cells #[.int .i64 a0_5, .int .i64 a0_6, .int .i64 a0_7, .int .i64 a0_8, .bool a0_9] 59 (0, 0)) (zq BK190.out) hb)
                                      have n2_ := Aside0.mk (below_step (by repeat (first | (with_reducible first | exact HB.out | apply below_alloc | apply pw_below_drewN | apply below_drew1 | refine below_set ?_ GE183.out | refine below_set ?_ GE190.out) | exact HB.out)) hb)
                                      clear BK183
                                      clear BK190
                                      clear HB
                                      have BK183 := n0_
                                      have BK190 := n1_
                                      have HB := n2_
                                      clear n0_ n1_ n2_
                                      (try clear hb)
                                      (try clear hb2)
                                      (try clear hk)
                                      (try clear hi)
                                      refine hK.out _ _ ⟨(blk_cell BK190.out 0).trans rfl, (blk_cell BK190.out 1).trans rfl, (blk_cell BK190.out 2).trans rfl, (blk_cell BK190.out 3).trans rfl, (blk_cell BK190.out 4).trans rfl⟩ (fun hHeld => ?_)
                                      clear hK K
                                      refine norm_ (a' := ?_) ?_ ?_
                                      rotate_left
                                      · show Act.put _ (some 39) _ = _
                                        simp only [Act.put, List.setIfInBounds_toArray, List.set_cons_zero, List.set_cons_succ, i64_w, i32_w]
                                        rfl
                                      refine pure_ (i := 5) (N := some 40) (v := ?_) (a' := ?_) #[true, true, true, true, true, true, false, true, true, false, false, false, true, true, false, false, false, true, true, false, false, false] rfl rfl (any_of HT_.out (by kernel_rfl)) (fun _ _ _ h => h) (Or.inl ⟨by rfl, ?_⟩) ?_ ?_
                                      rotate_left
                                      · intro w'
                                        go_simp
                                        with_reducible rfl
                                      rotate_left
                                      · simp only [Act.put, List.setIfInBounds_toArray, List.set_cons_zero, List.set_cons_succ, i64_w, i32_w]
                                        rfl
                                      refine pure_ (i := 6) (N := some 41) (v := ?_) (a' := ?_) #[true, true, true, true, true, true, true, true, true, false, false, false, true, true, false, false, false, true, true, false, false, false] rfl rfl (any_of HT_.out (by kernel_rfl)) (fun _ _ _ h => h) (Or.inl ⟨by rfl, ?_⟩) ?_ ?_
                                      rotate_left
                                      · intro w'
                                        go_simp
                                        with_reducible rfl
                                      rotate_left
                                      · simp only [Act.put, List.setIfInBounds_toArray, List.set_cons_zero, List.set_cons_succ, i64_w, i32_w]
                                        rfl
                                      refine one_ (i := 9) (N := some 44) #[true, true, true, true, true, true, true, true, true, true, false, false, true, true, false, false, false, true, true, false, false, false] rfl rfl (one_of HT_.out (by kernel_rfl)) (by decide) (fun K hK => ?_)
                                      refine goes_ Tryd.func29 (by kernel_rfl) rfl #[.int .i64 a0_6] (by rfl) rfl rfl zm ?_
                                      with_reducible refine (spec_NumText.calls k a0_6 t192 _ A22.out).mono ?_
                                      rintro e w47 ⟨rfl, hb⟩
                                      refine ⟨_, rfl, ?_⟩
                                      have n0_ := Aside0.mk (blk_below (g := gb183) (o := .cells #[.int .i64 a0_0, .int .i64 a0_1, .int .i64 a0_2, .int .i64 a0_3, .int .i64 a0_4, .int .i64 a0_5, .int .i64 a0_6, .int .i64 a0_7, .int .i64 a0_8, .bool a0_9, .slice A0_10 l0_10.length c0_10] 62 (0, 0)) (zq BK183.out) hb)
                                      have n1_ := Aside0.mk (blk_below (g := gb190) (o := .cells #[.int .i64 a0_5, .int .i64 a0_6, .int .i64 a0_7, .int .i64 a0_8, .bool a0_9] 59 (0, 0)) (zq BK190.out) hb)
                                      have n2_ := Aside0.mk (below_step (by repeat (first | (with_reducible first | exact HB.out | apply below_alloc | apply pw_below_drewN | apply below_drew1 | refine below_set ?_ GE183.out | refine below_set ?_ GE190.out) | exact HB.out)) hb)
                                      clear BK183
                                      clear BK190
                                      clear HB
                                      have BK183 := n0_
                                      have BK190 := n1_
                                      have HB := n2_
                                      clear n0_ n1_ n2_
                                      (try clear hb)
                                      (try clear hb2)
                                      (try clear hk)
                                      (try clear hi)
                                      refine hK.out _ _ ⟨(blk_cell BK190.out 0).trans rfl, (blk_cell BK190.out 1).trans rfl, (blk_cell BK190.out 2).trans rfl, (blk_cell BK190.out 3).trans rfl, (blk_cell BK190.out 4).trans rfl⟩ (fun hHeld => ?_)
                                      clear hK K
                                      refine norm_ (a' := ?_) ?_ ?_
                                      rotate_left
                                      · show Act.put _ (some 44) _ = _
                                        simp only [Act.put, List.setIfInBounds_toArray, List.set_cons_zero, List.set_cons_succ, i64_w, i32_w]
                                        rfl
                                      refine pure_ (i := 10) (N := some 45) (v := ?_) (a' := ?_) #[true, true, true, true, true, true, true, true, true, true, true, false, true, true, false, false, false, true, true, false, false, false] rfl rfl (any_of HT_.out (by kernel_rfl)) (fun _ _ _ h => h) (Or.inl ⟨by rfl, ?_⟩) ?_ ?_
                                      rotate_left
                                      · intro w'
                                        go_simp
                                        with_reducible rfl
                                      rotate_left
                                      · simp only [Act.put, List.setIfInBounds_toArray, List.set_cons_zero, List.set_cons_succ, i64_w, i32_w]
                                        rfl
                                      refine pure_ (i := 11) (N := some 46) (v := ?_) (a' := ?_) #[true, true, true, true, true, true, true, true, true, true, true, true, true, true, false, false, false, true, true, false, false, false] rfl rfl (any_of HT_.out (by kernel_rfl)) (fun _ _ _ h => h) (Or.inl ⟨by rfl, ?_⟩) ?_ ?_
                                      rotate_left
                                      · intro w'
                                        go_simp
                                        with_reducible rfl
                                      rotate_left
                                      · simp only [Act.put, List.setIfInBounds_toArray, List.set_cons_zero, List.set_cons_succ, i64_w, i32_w]
                                        rfl
                                      refine one_ (i := 14) (N := some 49) #[true, true, true, true, true, true, true, true, true, true, true, true, true, true, true, false, false, true, true, false, false, false] rfl rfl (one_of HT_.out (by kernel_rfl)) (by decide) (fun K hK => ?_)
                                      refine goes_ Tryd.func29 (by kernel_rfl) rfl #[.int .i64 a0_7] (by rfl) rfl rfl zm ?_
                                      with_reducible refine (spec_NumText.calls k a0_7 t193 _ A25.out).mono ?_
                                      rintro e w48 ⟨rfl, hb⟩
                                      refine ⟨_, rfl, ?_⟩
                                      have n0_ := Aside0.mk (blk_below (g := gb183) (o := .cells #[.int .i64 a0_0, .int .i64 a0_1, .int .i64 a0_2, .int .i64 a0_3, .int .i64 a0_4, .int .i64 a0_5, .int .i64 a0_6, .int .i64 a0_7, .int .i64 a0_8, .bool a0_9, .slice A0_10 l0_10.length c0_10] 62 (0, 0)) (zq BK183.out) hb)
                                      have n1_ := Aside0.mk (blk_below (g := gb190) (o := .cells #[.int .i64 a0_5, .int .i64 a0_6, .int .i64 a0_7, .int .i64 a0_8, .bool a0_9] 59 (0, 0)) (zq BK190.out) hb)
                                      have n2_ := Aside0.mk (below_step (by repeat (first | (with_reducible first | exact HB.out | apply below_alloc | apply pw_below_drewN | apply below_drew1 | refine below_set ?_ GE183.out | refine below_set ?_ GE190.out) | exact HB.out)) hb)
                                      clear BK183
                                      clear BK190
                                      clear HB
                                      have BK183 := n0_
                                      have BK190 := n1_
                                      have HB := n2_
                                      clear n0_ n1_ n2_
                                      (try clear hb)
                                      (try clear hb2)
                                      (try clear hk)
                                      (try clear hi)
                                      refine hK.out _ _ ⟨(blk_cell BK190.out 0).trans rfl, (blk_cell BK190.out 1).trans rfl, (blk_cell BK190.out 2).trans rfl, (blk_cell BK190.out 3).trans rfl, (blk_cell BK190.out 4).trans rfl⟩ (fun hHeld => ?_)
                                      clear hK K
                                      refine norm_ (a' := ?_) ?_ ?_
                                      rotate_left
                                      · show Act.put _ (some 49) _ = _
                                        simp only [Act.put, List.setIfInBounds_toArray, List.set_cons_zero, List.set_cons_succ, i64_w, i32_w]
                                        rfl
                                      refine pure_ (i := 15) (N := some 50) (v := ?_) (a' := ?_) #[true, true, true, true, true, true, true, true, true, true, true, true, true, true, true, true, false, true, true, false, false, false] rfl rfl (any_of HT_.out (by kernel_rfl)) (fun _ _ _ h => h) (Or.inl ⟨by rfl, ?_⟩) ?_ ?_
                                      rotate_left
                                      · intro w'
                                        go_simp
                                        with_reducible rfl
                                      rotate_left
                                      · simp only [Act.put, List.setIfInBounds_toArray, List.set_cons_zero, List.set_cons_succ, i64_w, i32_w]
                                        rfl
                                      refine pure_ (i := 16) (N := some 51) (v := ?_) (a' := ?_) #[true, true, true, true, true, true, true, true, true, true, true, true, true, true, true, true, true, true, true, false, false, false] rfl rfl (any_of HT_.out (by kernel_rfl)) (fun _ _ _ h => h) (Or.inl ⟨by rfl, ?_⟩) ?_ ?_
                                      rotate_left
                                      · intro w'
                                        go_simp
                                        with_reducible rfl
                                      rotate_left
                                      · simp only [Act.put, List.setIfInBounds_toArray, List.set_cons_zero, List.set_cons_succ, i64_w, i32_w]
                                        rfl
                                      refine one_ (i := 19) (N := some 54) #[true, true, true, true, true, true, true, true, true, true, true, true, true, true, true, true, true, true, true, true, false, false] rfl rfl (one_of HT_.out (by kernel_rfl)) (by decide) (fun K hK => ?_)
                                      refine goes_ Tryd.func29 (by kernel_rfl) rfl #[.int .i64 a0_8] (by rfl) rfl rfl zm ?_
                                      with_reducible refine (spec_NumText.calls k a0_8 t194 _ A28.out).mono ?_
                                      rintro e w49 ⟨rfl, hb⟩
                                      refine ⟨_, rfl, ?_⟩
                                      have n0_ := Aside0.mk (blk_below (g := gb183) (o := .cells #[.int .i64 a0_0, .int .i64 a0_1, .int .i64 a0_2, .int .i64 a0_3, .int .i64 a0_4, .int .i64 a0_5, .int .i64 a0_6, .int .i64 a0_7, .int .i64 a0_8, .bool a0_9, .slice A0_10 l0_10.length c0_10] 62 (0, 0)) (zq BK183.out) hb)
                                      have n1_ := Aside0.mk (blk_below (g := gb190) (o := .cells #[.int .i64 a0_5, .int .i64 a0_6, .int .i64 a0_7, .int .i64 a0_8, .bool a0_9] 59 (0, 0)) (zq BK190.out) hb)
                                      have n2_ := Aside0.mk (below_step (by repeat (first | (with_reducible first | exact HB.out | apply below_alloc | apply pw_below_drewN | apply below_drew1 | refine below_set ?_ GE183.out | refine below_set ?_ GE190.out) | exact HB.out)) hb)
                                      clear BK183
                                      clear BK190
                                      clear HB
                                      have BK183 := n0_
                                      have BK190 := n1_
                                      have HB := n2_
                                      clear n0_ n1_ n2_
                                      (try clear hb)
                                      (try clear hb2)
                                      (try clear hk)
                                      (try clear hi)
                                      refine hK.out _ _ ⟨(blk_cell BK190.out 0).trans rfl, (blk_cell BK190.out 1).trans rfl, (blk_cell BK190.out 2).trans rfl, (blk_cell BK190.out 3).trans rfl, (blk_cell BK190.out 4).trans rfl⟩ (fun hHeld => ?_)
                                      clear hK K
                                      refine norm_ (a' := ?_) ?_ ?_
                                      rotate_left
                                      · show Act.put _ (some 54) _ = _
                                        simp only [Act.put, List.setIfInBounds_toArray, List.set_cons_zero, List.set_cons_succ, i64_w, i32_w]
                                        rfl
                                      refine pure_ (i := 20) (N := some 55) (v := ?_) (a' := ?_) #[true, true, true, true, true, true, true, true, true, true, true, true, true, true, true, true, true, true, true, true, true, false] rfl rfl (any_of HT_.out (by kernel_rfl)) (fun _ _ _ h => h) (Or.inl ⟨by rfl, ?_⟩) ?_ ?_
                                      rotate_left
                                      · intro w'
                                        go_simp
                                        with_reducible rfl
                                      rotate_left
                                      · simp only [Act.put, List.setIfInBounds_toArray, List.set_cons_zero, List.set_cons_succ, i64_w, i32_w]
                                        rfl
                                      refine pure_ (i := 21) (N := some 3) (v := ?_) (a' := ?_) #[true, true, true, true, true, true, true, true, true, true, true, true, true, true, true, true, true, true, true, true, true, true] rfl rfl (any_of HT_.out (by kernel_rfl)) (fun _ _ _ h => h) (Or.inl ⟨by rfl, ?_⟩) ?_ ?_
                                      rotate_left
                                      · intro w'
                                        go_simp
                                        with_reducible rfl
                                      rotate_left
                                      · simp only [Act.put, List.setIfInBounds_toArray, List.set_cons_zero, List.set_cons_succ, i64_w, i32_w]
                                        rfl
                                      refine done_ (done_of HT_.out (by kernel_rfl)) ?_
                                      have hcz50_0 : w49.cell? ⟨gb190, 0, none⟩ = some (.int .i64 a0_5) := (blk_cell BK190.out 0).trans rfl
                                      have hcz50_1 : w49.cell? ⟨gb190, 1, none⟩ = some (.int .i64 a0_6) := (blk_cell BK190.out 1).trans rfl
                                      have hcz50_2 : w49.cell? ⟨gb190, 2, none⟩ = some (.int .i64 a0_7) := (blk_cell BK190.out 2).trans rfl
                                      have hcz50_3 : w49.cell? ⟨gb190, 3, none⟩ = some (.int .i64 a0_8) := (blk_cell BK190.out 3).trans rfl
                                      have hcz50_4 : w49.cell? ⟨gb190, 4, none⟩ = some (.bool a0_9) := (blk_cell BK190.out 4).trans rfl
                                      have hfz50_0 := blk_frozen BK190.out 0
                                      have hfz50_1 := blk_frozen BK190.out 1
                                      have hfz50_2 := blk_frozen BK190.out 2
                                      have hfz50_3 := blk_frozen BK190.out 3
                                      have hfz50_4 := blk_frozen BK190.out 4
                                      go_upto_if 57 with (fail)
                                      go_cut [3] (fun v3 wc => ∃ (kq : Nat) (x3_29 : ByteArray), v3 = .string x3_29 ∧ Aside0 (spec_ConfText.j0 kq x3_29 a0_0 a0_1 a0_2 a0_3 a0_4 a0_5 a0_6 a0_7 a0_8 a0_9 l0_10 = some r) ∧ Aside0 (kq ≤ k) ∧ Aside0 (wc.heap[gb183]? = some (.cells #[.int .i64 a0_0, .int .i64 a0_1, .int .i64 a0_2, .int .i64 a0_3, .int .i64 a0_4, .int .i64 a0_5, .int .i64 a0_6, .int .i64 a0_7, .int .i64 a0_8, .bool a0_9, (.slice A0_10 l0_10.length c0_10)] 62 (0, 0))) ∧ Aside0 (wc.heap[gb190]? = some (.cells #[.int .i64 a0_5, .int .i64 a0_6, .int .i64 a0_7, .int .i64 a0_8, .bool a0_9] 59 (0, 0))) ∧ Aside0 (Below w.heap.size w wc))
                                      case first =>
                                        have H := HC30.out
                                        clear HC30
                                        by_cases c51 : a0_9 = true
                                        · subst c51
                                          have H1 := H; rw [if_pos rfl] at H1
                                          clear H
                                          have H := H1
                                          clear H1
                                          by_cases c52 : 9 + t185.size + 7 + t186.size + 5 + t187.size + 7 + t188.size + 6 + t189.size + 6 + t191.size + 1 + t192.size + 5 + t193.size + 6 + t194.size + 8 ≤ 9223372036854775807
                                          · rw [if_pos c52] at H
                                            have c52b0 := eq_true c52
                                            have c52b1 : decide (9 + t185.size + 7 + t186.size + 5 + t187.size + 7 + t188.size + 6 + t189.size + 6 + t191.size + 1 + t192.size + 5 + t193.size + 6 + t194.size + 8 ≤ 9223372036854775807) = true := decide_eq_true c52
                                            try have c52b2 : (9223372036854775807 < 9 + t185.size + 7 + t186.size + 5 + t187.size + 7 + t188.size + 6 + t189.size + 6 + t191.size + 1 + t192.size + 5 + t193.size + 6 + t194.size + 8) = False := eq_false (Nat.not_lt.2 c52)
                                            have H' := Aside0.mk H
                                            clear H
                                            go_wp2
                                            go_meet
                                            case rel => exact ⟨_, (((((((((((((((((((⟨#[98, 111, 120, 32, 115, 101, 101, 100, 32]⟩ : ByteArray) ++ t185) ++ (⟨#[32, 99, 101, 108, 108, 115, 32]⟩ : ByteArray)) ++ t186) ++ (⟨#[32, 99, 97, 112, 32]⟩ : ByteArray)) ++ t187) ++ (⟨#[32, 100, 101, 108, 116, 97, 32]⟩ : ByteArray)) ++ t188) ++ (⟨#[32, 105, 100, 108, 101, 32]⟩ : ByteArray)) ++ t189) ++ (⟨#[32, 108, 97, 110, 101, 32]⟩ : ByteArray)) ++ t191) ++ (⟨#[32]⟩ : ByteArray)) ++ t192) ++ (⟨#[32, 97, 108, 108, 32]⟩ : ByteArray)) ++ t193) ++ (⟨#[32, 109, 97, 114, 107, 32]⟩ : ByteArray)) ++ t194) ++ (⟨#[32, 108, 111, 110, 103, 101, 115, 116]⟩ : ByteArray)), (by first | rfl | (simp; done) | (simp [*]; done)), H', ⟨by first | omega | exact Nat.le_refl _⟩, ⟨by (with_reducible repeat (first | refine blk_drewN ?_ _ | refine blk_drew ?_ | refine blk_alloc ?_ _)); exact BK183.out⟩, ⟨by (with_reducible repeat (first | refine blk_drewN ?_ _ | refine blk_drew ?_ | refine blk_alloc ?_ _)); exact BK190.out⟩, ⟨by repeat (first | (with_reducible first | exact HB.out | apply below_alloc | apply pw_below_drewN | apply below_drew1 | refine below_set ?_ GE183.out | refine below_set ?_ GE190.out) | exact HB.out)⟩⟩
                                          · rw [if_neg c52] at H
                                            exact absurd H (by simp)
                                        · replace c51 := Bool.eq_false_iff.mpr c51
                                          subst c51
                                          have H1 := H; rw [if_neg (show ¬ (false = true) by decide)] at H1
                                          clear H
                                          have H := H1
                                          clear H1
                                          by_cases c53 : 9 + t185.size + 7 + t186.size + 5 + t187.size + 7 + t188.size + 6 + t189.size + 6 + t191.size + 1 + t192.size + 5 + t193.size + 6 + t194.size + 5 ≤ 9223372036854775807
                                          · rw [if_pos c53] at H
                                            have c53b0 := eq_true c53
                                            have c53b1 : decide (9 + t185.size + 7 + t186.size + 5 + t187.size + 7 + t188.size + 6 + t189.size + 6 + t191.size + 1 + t192.size + 5 + t193.size + 6 + t194.size + 5 ≤ 9223372036854775807) = true := decide_eq_true c53
                                            try have c53b2 : (9223372036854775807 < 9 + t185.size + 7 + t186.size + 5 + t187.size + 7 + t188.size + 6 + t189.size + 6 + t191.size + 1 + t192.size + 5 + t193.size + 6 + t194.size + 5) = False := eq_false (Nat.not_lt.2 c53)
                                            have H' := Aside0.mk H
                                            clear H
                                            go_wp2
                                            go_meet
                                            case rel => exact ⟨_, (((((((((((((((((((⟨#[98, 111, 120, 32, 115, 101, 101, 100, 32]⟩ : ByteArray) ++ t185) ++ (⟨#[32, 99, 101, 108, 108, 115, 32]⟩ : ByteArray)) ++ t186) ++ (⟨#[32, 99, 97, 112, 32]⟩ : ByteArray)) ++ t187) ++ (⟨#[32, 100, 101, 108, 116, 97, 32]⟩ : ByteArray)) ++ t188) ++ (⟨#[32, 105, 100, 108, 101, 32]⟩ : ByteArray)) ++ t189) ++ (⟨#[32, 108, 97, 110, 101, 32]⟩ : ByteArray)) ++ t191) ++ (⟨#[32]⟩ : ByteArray)) ++ t192) ++ (⟨#[32, 97, 108, 108, 32]⟩ : ByteArray)) ++ t193) ++ (⟨#[32, 109, 97, 114, 107, 32]⟩ : ByteArray)) ++ t194) ++ (⟨#[32, 116, 97, 105, 108]⟩ : ByteArray)), (by first | rfl | (simp; done) | (simp [*]; done)), H', ⟨by first | omega | exact Nat.le_refl _⟩, ⟨by (with_reducible repeat (first | refine blk_drewN ?_ _ | refine blk_drew ?_ | refine blk_alloc ?_ _)); exact BK183.out⟩, ⟨by (with_reducible repeat (first | refine blk_drewN ?_ _ | refine blk_drew ?_ | refine blk_alloc ?_ _)); exact BK190.out⟩, ⟨by repeat (first | (with_reducible first | exact HB.out | apply below_alloc | apply pw_below_drewN | apply below_drew1 | refine below_set ?_ GE183.out | refine below_set ?_ GE190.out) | exact HB.out)⟩⟩
                                          · rw [if_neg c53] at H
                                            exact absurd H (by simp)
                                      case rest =>
                                        clear HC30
                                        try clear c2
                                        try clear p2
                                        try clear c4
                                        try clear c5
                                        try clear c29
                                        try clear c42
                                        try clear c51
                                        try clear c52
                                        try clear c52b0
                                        try clear c52b1
                                        try clear c52b2
                                        try clear c53
                                        try clear c53b0
                                        try clear c53b1
                                        try clear c53b2
                                        try clear hcz40_0
                                        try clear hcz40_1
                                        try clear hcz40_10
                                        try clear hcz40_2
                                        try clear hcz40_3
                                        try clear hcz40_4
                                        try clear hcz40_5
                                        try clear hcz40_6
                                        try clear hcz40_7
                                        try clear hcz40_8
                                        try clear hcz40_9
                                        try clear hcz43_0
                                        try clear hcz43_1
                                        try clear hcz43_2
                                        try clear hcz43_3
                                        try clear hcz43_4
                                        try clear hcz50_0
                                        try clear hcz50_1
                                        try clear hcz50_2
                                        try clear hcz50_3
                                        try clear hcz50_4
                                        try clear hfz40_0
                                        try clear hfz40_1
                                        try clear hfz40_10
                                        try clear hfz40_2
                                        try clear hfz40_3
                                        try clear hfz40_4
                                        try clear hfz40_5
                                        try clear hfz40_6
                                        try clear hfz40_7
                                        try clear hfz40_8
                                        try clear hfz40_9
                                        try clear hfz43_0
                                        try clear hfz43_1
                                        try clear hfz43_2
                                        try clear hfz43_3
                                        try clear hfz43_4
                                        try clear hfz50_0
                                        try clear hfz50_1
                                        try clear hfz50_2
                                        try clear hfz50_3
                                        try clear hfz50_4
                                        obtain ⟨kq, x3_29, rfl, HA, HJ29, BK183, BK190, HB⟩ := hcut
                                        cases kq with
                                        | zero => exact absurd HA.out (by simp [spec_ConfText.j0])
                                        | succ kj29 =>
                                          have H := HA.out
                                          clear HA
                                          simp only [spec_ConfText.j0] at H
                                          have H' := Aside0.mk H
                                          clear H
                                          go_wp2
                                          go_loopg [3, 5] kj29 (fun kq v3 v5 w' => ∃ (x3_2 : ByteArray) (x5_2 : Int), v3 = .string x3_2 ∧ v5 = .int .i64 x5_2 ∧ Aside0 (spec_ConfText.l0 kq x3_2 x5_2 a0_0 a0_1 a0_2 a0_3 a0_4 a0_5 a0_6 a0_7 a0_8 a0_9 l0_10 = some r) ∧ Aside0 (kq ≤ kj29) ∧ Aside0 (w'.heap[gb183]? = some (.cells #[.int .i64 a0_0, .int .i64 a0_1, .int .i64 a0_2, .int .i64 a0_3, .int .i64 a0_4, .int .i64 a0_5, .int .i64 a0_6, .int .i64 a0_7, .int .i64 a0_8, .bool a0_9, (.slice A0_10 l0_10.length c0_10)] 62 (0, 0))) ∧ Aside0 (w'.heap[gb190]? = some (.cells #[.int .i64 a0_5, .int .i64 a0_6, .int .i64 a0_7, .int .i64 a0_8, .bool a0_9] 59 (0, 0))) ∧ Aside0 (Below w.heap.size w w'))
                                          case atStart => exact ⟨(x3_29), (0), (by first | rfl | (simp; done) | (simp [*]; done)), (by first | rfl | (simp; done) | (simp [*]; done)), H', ⟨Nat.le_refl _⟩, ⟨by (with_reducible repeat (first | refine blk_drewN ?_ _ | refine blk_drew ?_ | refine blk_alloc ?_ _)); exact BK183.out⟩, ⟨by (with_reducible repeat (first | refine blk_drewN ?_ _ | refine blk_drew ?_ | refine blk_alloc ?_ _)); exact BK190.out⟩, ⟨by repeat (first | (with_reducible first | exact HB.out | apply below_alloc | apply pw_below_drewN | apply below_drew1 | refine below_set ?_ GE183.out | refine below_set ?_ GE190.out) | exact HB.out)⟩⟩
                                          case round =>
                                            clear H'
                                            try clear c2
                                            try clear p2
                                            try clear c4
                                            try clear c5
                                            try clear c29
                                            try clear c42
                                            try clear c51
                                            try clear c52
                                            try clear c52b0
                                            try clear c52b1
                                            try clear c52b2
                                            try clear c53
                                            try clear c53b0
                                            try clear c53b1
                                            try clear c53b2
                                            try clear hcz40_0
                                            try clear hcz40_1
                                            try clear hcz40_10
                                            try clear hcz40_2
                                            try clear hcz40_3
                                            try clear hcz40_4
                                            try clear hcz40_5
                                            try clear hcz40_6
                                            try clear hcz40_7
                                            try clear hcz40_8
                                            try clear hcz40_9
                                            try clear hcz43_0
                                            try clear hcz43_1
                                            try clear hcz43_2
                                            try clear hcz43_3
                                            try clear hcz43_4
                                            try clear hcz50_0
                                            try clear hcz50_1
                                            try clear hcz50_2
                                            try clear hcz50_3
                                            try clear hcz50_4
                                            try clear hfz40_0
                                            try clear hfz40_1
                                            try clear hfz40_10
                                            try clear hfz40_2
                                            try clear hfz40_3
                                            try clear hfz40_4
                                            try clear hfz40_5
                                            try clear hfz40_6
                                            try clear hfz40_7
                                            try clear hfz40_8
                                            try clear hfz40_9
                                            try clear hfz43_0
                                            try clear hfz43_1
                                            try clear hfz43_2
                                            try clear hfz43_3
                                            try clear hfz43_4
                                            try clear hfz50_0
                                            try clear hfz50_1
                                            try clear hfz50_2
                                            try clear hfz50_3
                                            try clear hfz50_4
                                            try clear p2
                                            obtain ⟨x3_2, x5_2, rfl, rfl, HA, HK2, BK183, BK190, HB⟩ := hrel
                                            cases gk with
                                            | zero => exact absurd HA.out (by simp [spec_ConfText.l0])
                                            | succ k2 =>
                                              have H := HA.out
                                              clear HA
                                              simp only [spec_ConfText.l0] at H
                                              by_cases c54 : x5_2 < 7
                                              · rw [if_pos c54] at H
                                                have c54b0 : decide (x5_2 < 7) = true := decide_eq_true c54
                                                clear c54
                                                by_cases c55 : x3_2.size + 6 ≤ 9223372036854775807
                                                · rw [if_pos c55] at H
                                                  have c55b0 := eq_true c55
                                                  have c55b1 : decide (x3_2.size + 6 ≤ 9223372036854775807) = true := decide_eq_true c55
                                                  try have c55b2 : (9223372036854775807 < x3_2.size + 6) = False := eq_false (Nat.not_lt.2 c55)
                                                  by_cases c56 : 0 ≤ x5_2
                                                  · rw [if_pos c56] at H
                                                    have c56b0 : decide (0 ≤ x5_2) = true := decide_eq_true c56
                                                    clear c56
                                                    by_cases c57 : x5_2 < (l0_10.length : Int)
                                                    · rw [if_pos c57] at H
                                                      have c57b0 : decide (x5_2 < (l0_10.length : Int)) = true := decide_eq_true c57
                                                      clear c57
                                                      replace H := Option.bind_eq_some_iff.mp H
                                                      obtain ⟨t196, A580, H⟩ := H
                                                      (try dsimp -simprocs only at H)
                                                      have A58 := Aside0.mk A580
                                                      clear A580
                                                      by_cases c59 : x3_2.size + 6 + t196.size ≤ 9223372036854775807
                                                      · rw [if_pos c59] at H
                                                        have c59b0 := eq_true c59
                                                        have c59b1 : decide (x3_2.size + 6 + t196.size ≤ 9223372036854775807) = true := decide_eq_true c59
                                                        try have c59b2 : (9223372036854775807 < x3_2.size + 6 + t196.size) = False := eq_false (Nat.not_lt.2 c59)
                                                        by_cases c60 : x3_2.size + 6 + t196.size + 1 ≤ 9223372036854775807
                                                        · rw [if_pos c60] at H
                                                          have c60b0 := eq_true c60
                                                          have c60b1 : decide (x3_2.size + 6 + t196.size + 1 ≤ 9223372036854775807) = true := decide_eq_true c60
                                                          try have c60b2 : (9223372036854775807 < x3_2.size + 6 + t196.size + 1) = False := eq_false (Nat.not_lt.2 c60)
                                                          replace H := Option.bind_eq_some_iff.mp H
                                                          obtain ⟨t198, A610, H⟩ := H
                                                          (try dsimp -simprocs only at H)
                                                          have A61 := Aside0.mk A610
                                                          clear A610
                                                          by_cases c62 : x3_2.size + 6 + t196.size + 1 + t198.size ≤ 9223372036854775807
                                                          · rw [if_pos c62] at H
                                                            have c62b0 := eq_true c62
                                                            have c62b1 : decide (x3_2.size + 6 + t196.size + 1 + t198.size ≤ 9223372036854775807) = true := decide_eq_true c62
                                                            try have c62b2 : (9223372036854775807 < x3_2.size + 6 + t196.size + 1 + t198.size) = False := eq_false (Nat.not_lt.2 c62)
                                                            have H' := Aside0.mk H
                                                            clear H
                                                            try go_wp2
                                                            have n0_ := Aside0.mk (blk_drew BK183.out)
                                                            have n1_ := Aside0.mk (blk_drew BK190.out)
                                                            have n2_ := Aside0.mk (below_drew1 HB.out)
                                                            clear BK183
                                                            clear BK190
                                                            clear HB
                                                            have BK183 := n0_
                                                            have BK190 := n1_
                                                            have HB := n2_
                                                            clear n0_ n1_ n2_
                                                            have p195 : 0 ≤ (x5_2 : Int) := zd
                                                            have q195 : x5_2 < (l0_10.length : Int) := zd
                                                            obtain ⟨ad195, e195, hx195_0, hx195_1, hx195_2, hx195_3, hx195_4, hx195_5⟩ := at_T87 HR0_10.out x5_2 p195 q195
                                                            have hw195_5 := hx195_5
                                                            have hw195_4 := hx195_4
                                                            have hw195_3 := hx195_3
                                                            have hw195_2 := hx195_2
                                                            have hw195_1 := hx195_1
                                                            have hw195_0 := hx195_0
                                                            cases e195
                                                            replace hx195_0 := (HB.out.cell (World.block_lt_of_cell? w _ hx195_0)).trans hx195_0
                                                            replace hx195_1 := (HB.out.cell (World.block_lt_of_cell? w _ hx195_1)).trans hx195_1
                                                            replace hx195_2 := (HB.out.cell (World.block_lt_of_cell? w _ hx195_2)).trans hx195_2
                                                            replace hx195_3 := (HB.out.cell (World.block_lt_of_cell? w _ hx195_3)).trans hx195_3
                                                            replace hx195_4 := (HB.out.cell (World.block_lt_of_cell? w _ hx195_4)).trans hx195_4
                                                            replace hx195_5 := (HB.out.cell (World.block_lt_of_cell? w _ hx195_5)).trans hx195_5
                                                            replace p195 := eq_true p195
                                                            replace q195 := eq_true q195
                                                            have p197 : 0 ≤ (x5_2 : Int) := zd
                                                            have q197 : x5_2 < (l0_10.length : Int) := zd
                                                            obtain ⟨ad197, e197, hx197_0, hx197_1, hx197_2, hx197_3, hx197_4, hx197_5⟩ := at_T87 HR0_10.out x5_2 p197 q197
                                                            have hw197_5 := hx197_5
                                                            have hw197_4 := hx197_4
                                                            have hw197_3 := hx197_3
                                                            have hw197_2 := hx197_2
                                                            have hw197_1 := hx197_1
                                                            have hw197_0 := hx197_0
                                                            obtain rfl : ad195 = ad197 := (by injection e197)
                                                            replace hx197_0 := (HB.out.cell (World.block_lt_of_cell? w _ hx197_0)).trans hx197_0
                                                            replace hx197_1 := (HB.out.cell (World.block_lt_of_cell? w _ hx197_1)).trans hx197_1
                                                            replace hx197_2 := (HB.out.cell (World.block_lt_of_cell? w _ hx197_2)).trans hx197_2
                                                            replace hx197_3 := (HB.out.cell (World.block_lt_of_cell? w _ hx197_3)).trans hx197_3
                                                            replace hx197_4 := (HB.out.cell (World.block_lt_of_cell? w _ hx197_4)).trans hx197_4
                                                            replace hx197_5 := (HB.out.cell (World.block_lt_of_cell? w _ hx197_5)).trans hx197_5
                                                            replace p197 := eq_true p197
                                                            replace q197 := eq_true q197
                                                            refine start_ (n := 20) (S := fun w' => w'.cell? ⟨gb183, 0, none⟩ = some (.int .i64 a0_0) ∧ w'.cell? ⟨gb183, 1, none⟩ = some (.int .i64 a0_1) ∧ w'.cell? ⟨gb183, 2, none⟩ = some (.int .i64 a0_2) ∧ w'.cell? ⟨gb183, 3, none⟩ = some (.int .i64 a0_3) ∧ w'.cell? ⟨gb183, 4, none⟩ = some (.int .i64 a0_4) ∧ w'.cell? ⟨gb183, 5, none⟩ = some (.int .i64 a0_5) ∧ w'.cell? ⟨gb183, 6, none⟩ = some (.int .i64 a0_6) ∧ w'.cell? ⟨gb183, 7, none⟩ = some (.int .i64 a0_7) ∧ w'.cell? ⟨gb183, 8, none⟩ = some (.int .i64 a0_8) ∧ w'.cell? ⟨gb183, 9, none⟩ = some (.bool a0_9) ∧ w'.cell? ⟨gb183, 10, none⟩ = some (.slice (some ad195) l0_10.length c0_10) ∧ w'.cell? (ad195.add ((x5_2).toNat * 6)) = some (.int .i64 ((rd_T87 l0_10 x5_2).f0.f0)) ∧ w'.cell? ⟨(ad195.add ((x5_2).toNat * 6)).block, (ad195.add ((x5_2).toNat * 6)).off + 1, none⟩ = some (.int .i64 ((rd_T87 l0_10 x5_2).f0.f1)) ∧ w'.cell? ⟨(ad195.add ((x5_2).toNat * 6)).block, (ad195.add ((x5_2).toNat * 6)).off + 2, none⟩ = some (.int .i64 ((rd_T87 l0_10 x5_2).f0.f2)) ∧ w'.cell? ⟨(ad195.add ((x5_2).toNat * 6)).block, (ad195.add ((x5_2).toNat * 6)).off + 3, none⟩ = some (.int .i64 ((rd_T87 l0_10 x5_2).f1.f0)) ∧ w'.cell? ⟨(ad195.add ((x5_2).toNat * 6)).block, (ad195.add ((x5_2).toNat * 6)).off + 4, none⟩ = some (.int .i64 ((rd_T87 l0_10 x5_2).f1.f1)) ∧ w'.cell? ⟨(ad195.add ((x5_2).toNat * 6)).block, (ad195.add ((x5_2).toNat * 6)).off + 5, none⟩ = some (.int .i64 ((rd_T87 l0_10 x5_2).f1.f2)) ∧ w'.cell? (ad195.add ((x5_2).toNat * 6)) = some (.int .i64 ((rd_T87 l0_10 x5_2).f0.f0)) ∧ w'.cell? ⟨(ad195.add ((x5_2).toNat * 6)).block, (ad195.add ((x5_2).toNat * 6)).off + 1, none⟩ = some (.int .i64 ((rd_T87 l0_10 x5_2).f0.f1)) ∧ w'.cell? ⟨(ad195.add ((x5_2).toNat * 6)).block, (ad195.add ((x5_2).toNat * 6)).off + 2, none⟩ = some (.int .i64 ((rd_T87 l0_10 x5_2).f0.f2)) ∧ w'.cell? ⟨(ad195.add ((x5_2).toNat * 6)).block, (ad195.add ((x5_2).toNat * 6)).off + 3, none⟩ = some (.int .i64 ((rd_T87 l0_10 x5_2).f1.f0)) ∧ w'.cell? ⟨(ad195.add ((x5_2).toNat * 6)).block, (ad195.add ((x5_2).toNat * 6)).off + 4, none⟩ = some (.int .i64 ((rd_T87 l0_10 x5_2).f1.f1)) ∧ w'.cell? ⟨(ad195.add ((x5_2).toNat * 6)).block, (ad195.add ((x5_2).toNat * 6)).off + 5, none⟩ = some (.int .i64 ((rd_T87 l0_10 x5_2).f1.f2))) (ds := []) #[false, false, false, false, false, false, false, false, false, false, false, false, false, false, false, false, false, false, false, false] (by kernel_rfl) rfl rfl ⟨(blk_cell BK183.out 0).trans rfl, (blk_cell BK183.out 1).trans rfl, (blk_cell BK183.out 2).trans rfl, (blk_cell BK183.out 3).trans rfl, (blk_cell BK183.out 4).trans rfl, (blk_cell BK183.out 5).trans rfl, (blk_cell BK183.out 6).trans rfl, (blk_cell BK183.out 7).trans rfl, (blk_cell BK183.out 8).trans rfl, (blk_cell BK183.out 9).trans rfl, (blk_cell BK183.out 10).trans rfl, ((HB.out.cell (World.block_lt_of_cell? w _ hw195_0)).trans hw195_0), ((HB.out.cell (World.block_lt_of_cell? w _ hw195_1)).trans hw195_1), ((HB.out.cell (World.block_lt_of_cell? w _ hw195_2)).trans hw195_2), ((HB.out.cell (World.block_lt_of_cell? w _ hw195_3)).trans hw195_3), ((HB.out.cell (World.block_lt_of_cell? w _ hw195_4)).trans hw195_4), ((HB.out.cell (World.block_lt_of_cell? w _ hw195_5)).trans hw195_5), ((HB.out.cell (World.block_lt_of_cell? w _ hw197_0)).trans hw197_0), ((HB.out.cell (World.block_lt_of_cell? w _ hw197_1)).trans hw197_1), ((HB.out.cell (World.block_lt_of_cell? w _ hw197_2)).trans hw197_2), ((HB.out.cell (World.block_lt_of_cell? w _ hw197_3)).trans hw197_3), ((HB.out.cell (World.block_lt_of_cell? w _ hw197_4)).trans hw197_4), ((HB.out.cell (World.block_lt_of_cell? w _ hw197_5)).trans hw197_5)⟩ (fun hHeld => ?_); refine with_tabW spec_ConfText.tab12 spec_ConfText.bits12 (fun HT_ HW_ => ?_)
                                                            generalize wr.drew = w63 at BK183 BK190 HB hx195_0 hx195_1 hx195_2 hx195_3 hx195_4 hx195_5 hx197_0 hx197_1 hx197_2 hx197_3 hx197_4 hx197_5 hHeld ⊢
                                                            refine pure_ (i := 0) (N := some 66) (v := ?_) (a' := ?_) #[true, false, false, false, false, false, false, false, false, false, false, false, false, false, false, false, false, false, false, false] rfl rfl (any_of HT_.out (by kernel_rfl)) (fun _ _ _ h => h) (Or.inl ⟨by rfl, ?_⟩) ?_ ?_
                                                            rotate_left
                                                            · intro w'
                                                              go_simp
                                                              with_reducible rfl
                                                            rotate_left
                                                            · simp only [Act.put, List.setIfInBounds_toArray, List.set_cons_zero, List.set_cons_succ, i64_w, i32_w]
                                                              rfl
                                                            refine pure_ (i := 1) (N := some 67) (v := ?_) (a' := ?_) #[true, true, false, false, false, false, false, false, false, false, false, false, false, false, false, false, false, false, false, false] rfl rfl (any_of HT_.out (by kernel_rfl)) (fun _ _ _ h => h) (Or.inl ⟨by rfl, ?_⟩) ?_ ?_
                                                            rotate_left
                                                            · intro w'
                                                              go_simp
                                                              with_reducible rfl
                                                            rotate_left
                                                            · simp only [Act.put, List.setIfInBounds_toArray, List.set_cons_zero, List.set_cons_succ, i64_w, i32_w]
                                                              rfl
                                                            refine pure_ (i := 2) (N := some 68) (v := ?_) (a' := ?_) #[true, true, true, false, false, false, false, false, false, false, false, false, false, false, false, false, false, false, false, false] rfl rfl (any_of HT_.out (by kernel_rfl)) (fun _ _ _ h => h) (Or.inl ⟨by rfl, ?_⟩) ?_ ?_
                                                            rotate_left
                                                            · intro w'
                                                              go_simp
                                                              with_reducible rfl
                                                            rotate_left
                                                            · simp only [Act.put, List.setIfInBounds_toArray, List.set_cons_zero, List.set_cons_succ, i64_w, i32_w]
                                                              rfl
                                                            refine pure_ (i := 4) (N := some 70) (v := ?_) (a' := ?_) #[true, true, true, false, true, false, false, false, false, false, false, false, false, false, false, false, false, false, false, false] rfl rfl (any_of HT_.out (by kernel_rfl)) (fun _ _ _ h => h) (Or.inl ⟨by rfl, ?_⟩) ?_ ?_
                                                            rotate_left
                                                            · intro w'
                                                              go_simp
                                                              with_reducible rfl
                                                            rotate_left
                                                            · simp only [Act.put, List.setIfInBounds_toArray, List.set_cons_zero, List.set_cons_succ, i64_w, i32_w]
                                                              rfl
                                                            refine pure_ (i := 11) (N := some 77) (v := ?_) (a' := ?_) #[true, true, true, false, true, false, false, false, false, false, false, true, false, false, false, false, false, false, false, false] rfl rfl (any_of HT_.out (by kernel_rfl)) (fun _ _ _ h => h) (Or.inl ⟨by rfl, ?_⟩) ?_ ?_
                                                            rotate_left
                                                            · intro w'
                                                              go_simp
                                                              with_reducible rfl
                                                            rotate_left
                                                            · simp only [Act.put, List.setIfInBounds_toArray, List.set_cons_zero, List.set_cons_succ, i64_w, i32_w]
                                                              rfl
                                                            refine pure_ (i := 13) (N := some 79) (v := ?_) (a' := ?_) #[true, true, true, false, true, false, false, false, false, false, false, true, false, true, false, false, false, false, false, false] rfl rfl (any_of HT_.out (by kernel_rfl)) (fun _ _ _ h => h) (Or.inl ⟨by rfl, ?_⟩) ?_ ?_
                                                            rotate_left
                                                            · intro w'
                                                              go_simp
                                                              with_reducible rfl
                                                            rotate_left
                                                            · simp only [Act.put, List.setIfInBounds_toArray, List.set_cons_zero, List.set_cons_succ, i64_w, i32_w]
                                                              rfl
                                                            refine take_ (i := 3) (N := some 69) (v := ?_) (a' := ?_) #[true, true, true, true, true, false, false, false, false, false, false, true, false, true, false, false, false, false, false, false] rfl rfl (take_ofW HT_.out HW_.out (by kernel_rfl)) (fun _ _ _ h => h) (Or.inl ⟨by rfl, ?_⟩) hHeld ?_ ?_
                                                            rotate_left
                                                            · rintro w' ⟨s0, s1, s2, s3, s4, s5, s6, s7, s8, s9, s10, s11, s12, s13, s14, s15, s16, s17, s18, s19, s20, s21, s22⟩
                                                              go_simp
                                                              with_reducible rfl
                                                            rotate_left
                                                            · simp only [Act.put, List.setIfInBounds_toArray, List.set_cons_zero, List.set_cons_succ, i64_w, i32_w]
                                                              rfl
                                                            refine pure_ (i := 5) (N := some 71) (v := ?_) (a' := ?_) #[true, true, true, true, true, true, false, false, false, false, false, true, false, true, false, false, false, false, false, false] rfl rfl (any_of HT_.out (by kernel_rfl)) (fun _ _ _ h => h) (Or.inl ⟨by rfl, ?_⟩) ?_ ?_
                                                            rotate_left
                                                            · intro w'
                                                              go_simp
                                                              with_reducible rfl
                                                            rotate_left
                                                            · simp only [Act.put, List.setIfInBounds_toArray, List.set_cons_zero, List.set_cons_succ, i64_w, i32_w]
                                                              rfl
                                                            refine pure_ (i := 6) (N := some 72) (v := ?_) (a' := ?_) #[true, true, true, true, true, true, true, false, false, false, false, true, false, true, false, false, false, false, false, false] rfl rfl (any_of HT_.out (by kernel_rfl)) (fun _ _ _ h => h) (Or.inl ⟨by rfl, ?_⟩) ?_ ?_
                                                            rotate_left
                                                            · intro w'
                                                              go_simp
                                                              with_reducible rfl
                                                            rotate_left
                                                            · simp only [Act.put, List.setIfInBounds_toArray, List.set_cons_zero, List.set_cons_succ, i64_w, i32_w]
                                                              rfl
                                                            refine take_ (i := 7) (N := some 73) (v := ?_) (a' := ?_) #[true, true, true, true, true, true, true, true, false, false, false, true, false, true, false, false, false, false, false, false] rfl rfl (take_ofW HT_.out HW_.out (by kernel_rfl)) (fun _ _ _ h => h) (Or.inl ⟨by rfl, ?_⟩) hHeld ?_ ?_
                                                            rotate_left
                                                            · rintro w' ⟨s0, s1, s2, s3, s4, s5, s6, s7, s8, s9, s10, s11, s12, s13, s14, s15, s16, s17, s18, s19, s20, s21, s22⟩
                                                              go_simp
                                                              with_reducible rfl
                                                            rotate_left
                                                            · simp only [Act.put, List.setIfInBounds_toArray, List.set_cons_zero, List.set_cons_succ, i64_w, i32_w]
                                                              rfl
                                                            refine take_ (i := 12) (N := some 78) (v := ?_) (a' := ?_) #[true, true, true, true, true, true, true, true, false, false, false, true, true, true, false, false, false, false, false, false] rfl rfl (take_ofW HT_.out HW_.out (by kernel_rfl)) (fun _ _ _ h => h) (Or.inl ⟨by rfl, ?_⟩) hHeld ?_ ?_
                                                            rotate_left
                                                            · rintro w' ⟨s0, s1, s2, s3, s4, s5, s6, s7, s8, s9, s10, s11, s12, s13, s14, s15, s16, s17, s18, s19, s20, s21, s22⟩
                                                              go_simp
                                                              with_reducible rfl
                                                            rotate_left
                                                            · simp only [Act.put, List.setIfInBounds_toArray, List.set_cons_zero, List.set_cons_succ, i64_w, i32_w]
                                                              rfl
                                                            refine pure_ (i := 14) (N := some 80) (v := ?_) (a' := ?_) #[true, true, true, true, true, true, true, true, false, false, false, true, true, true, true, false, false, false, false, false] rfl rfl (any_of HT_.out (by kernel_rfl)) (fun _ _ _ h => h) (Or.inl ⟨by rfl, ?_⟩) ?_ ?_
                                                            rotate_left
                                                            · intro w'
                                                              go_simp
                                                              with_reducible rfl
                                                            rotate_left
                                                            · simp only [Act.put, List.setIfInBounds_toArray, List.set_cons_zero, List.set_cons_succ, i64_w, i32_w]
                                                              rfl
                                                            refine pure_ (i := 15) (N := some 81) (v := ?_) (a' := ?_) #[true, true, true, true, true, true, true, true, false, false, false, true, true, true, true, true, false, false, false, false] rfl rfl (any_of HT_.out (by kernel_rfl)) (fun _ _ _ h => h) (Or.inl ⟨by rfl, ?_⟩) ?_ ?_
                                                            rotate_left
                                                            · intro w'
                                                              go_simp
                                                              with_reducible rfl
                                                            rotate_left
                                                            · simp only [Act.put, List.setIfInBounds_toArray, List.set_cons_zero, List.set_cons_succ, i64_w, i32_w]
                                                              rfl
                                                            refine take_ (i := 16) (N := some 82) (v := ?_) (a' := ?_) #[true, true, true, true, true, true, true, true, false, false, false, true, true, true, true, true, true, false, false, false] rfl rfl (take_ofW HT_.out HW_.out (by kernel_rfl)) (fun _ _ _ h => h) (Or.inl ⟨by rfl, ?_⟩) hHeld ?_ ?_
                                                            rotate_left
                                                            · rintro w' ⟨s0, s1, s2, s3, s4, s5, s6, s7, s8, s9, s10, s11, s12, s13, s14, s15, s16, s17, s18, s19, s20, s21, s22⟩
                                                              go_simp
                                                              with_reducible rfl
                                                            rotate_left
                                                            · simp only [Act.put, List.setIfInBounds_toArray, List.set_cons_zero, List.set_cons_succ, i64_w, i32_w]
                                                              rfl
                                                            refine one_ (i := 8) (N := some 74) #[true, true, true, true, true, true, true, true, true, false, false, true, true, true, true, true, true, false, false, false] rfl rfl (one_of HT_.out (by kernel_rfl)) (by decide) (fun K hK => ?_)
                                                            refine goes_ Tryd.func42 (by kernel_rfl) rfl #[.agg #[.int .i64 ((rd_T87 l0_10 x5_2).f0.f0), .int .i64 ((rd_T87 l0_10 x5_2).f0.f1), .int .i64 ((rd_T87 l0_10 x5_2).f0.f2)]] (by rfl) rfl rfl zm ?_
                                                            with_reducible refine (spec_VecText.calls k2 ((rd_T87 l0_10 x5_2).f0.f0) ((rd_T87 l0_10 x5_2).f0.f1) ((rd_T87 l0_10 x5_2).f0.f2) t196 _ A58.out).mono ?_
                                                            rintro e w64 ⟨rfl, hb⟩
                                                            refine ⟨_, rfl, ?_⟩
                                                            have n0_ := Aside0.mk (blk_below (g := gb183) (o := .cells #[.int .i64 a0_0, .int .i64 a0_1, .int .i64 a0_2, .int .i64 a0_3, .int .i64 a0_4, .int .i64 a0_5, .int .i64 a0_6, .int .i64 a0_7, .int .i64 a0_8, .bool a0_9, .slice (some ad195) l0_10.length c0_10] 62 (0, 0)) (zq BK183.out) hb)
                                                            have n1_ := Aside0.mk (blk_below (g := gb190) (o := .cells #[.int .i64 a0_5, .int .i64 a0_6, .int .i64 a0_7, .int .i64 a0_8, .bool a0_9] 59 (0, 0)) (zq BK190.out) hb)
                                                            have n2_ := Aside0.mk (below_step (by repeat (first | (with_reducible first | exact HB.out | apply below_alloc | apply pw_below_drewN | apply below_drew1 | refine below_set ?_ GE183.out | refine below_set ?_ GE190.out) | exact HB.out)) hb)
                                                            clear BK183
                                                            clear BK190
                                                            clear HB
                                                            have BK183 := n0_
                                                            have BK190 := n1_
                                                            have HB := n2_
                                                            clear n0_ n1_ n2_
                                                            (try clear hb)
                                                            (try clear hb2)
                                                            (try clear hk)
                                                            (try clear hi)
                                                            refine hK.out _ _ ⟨(blk_cell BK183.out 0).trans rfl, (blk_cell BK183.out 1).trans rfl, (blk_cell BK183.out 2).trans rfl, (blk_cell BK183.out 3).trans rfl, (blk_cell BK183.out 4).trans rfl, (blk_cell BK183.out 5).trans rfl, (blk_cell BK183.out 6).trans rfl, (blk_cell BK183.out 7).trans rfl, (blk_cell BK183.out 8).trans rfl, (blk_cell BK183.out 9).trans rfl, (blk_cell BK183.out 10).trans rfl, ((HB.out.cell (World.block_lt_of_cell? w _ hw195_0)).trans hw195_0), ((HB.out.cell (World.block_lt_of_cell? w _ hw195_1)).trans hw195_1), ((HB.out.cell (World.block_lt_of_cell? w _ hw195_2)).trans hw195_2), ((HB.out.cell (World.block_lt_of_cell? w _ hw195_3)).trans hw195_3), ((HB.out.cell (World.block_lt_of_cell? w _ hw195_4)).trans hw195_4), ((HB.out.cell (World.block_lt_of_cell? w _ hw195_5)).trans hw195_5), ((HB.out.cell (World.block_lt_of_cell? w _ hw197_0)).trans hw197_0), ((HB.out.cell (World.block_lt_of_cell? w _ hw197_1)).trans hw197_1), ((HB.out.cell (World.block_lt_of_cell? w _ hw197_2)).trans hw197_2), ((HB.out.cell (World.block_lt_of_cell? w _ hw197_3)).trans hw197_3), ((HB.out.cell (World.block_lt_of_cell? w _ hw197_4)).trans hw197_4), ((HB.out.cell (World.block_lt_of_cell? w _ hw197_5)).trans hw197_5)⟩ (fun hHeld => ?_)
                                                            clear hK K
                                                            refine norm_ (a' := ?_) ?_ ?_
                                                            rotate_left
                                                            · show Act.put _ (some 74) _ = _
                                                              simp only [Act.put, List.setIfInBounds_toArray, List.set_cons_zero, List.set_cons_succ, i64_w, i32_w]
                                                              rfl
                                                            refine pure_ (i := 9) (N := some 75) (v := ?_) (a' := ?_) #[true, true, true, true, true, true, true, true, true, true, false, true, true, true, true, true, true, false, false, false] rfl rfl (any_of HT_.out (by kernel_rfl)) (fun _ _ _ h => h) (Or.inl ⟨by rfl, ?_⟩) ?_ ?_
                                                            rotate_left
                                                            · intro w'
                                                              go_simp
                                                              with_reducible rfl
                                                            rotate_left
                                                            · simp only [Act.put, List.setIfInBounds_toArray, List.set_cons_zero, List.set_cons_succ, i64_w, i32_w]
                                                              rfl
                                                            refine pure_ (i := 10) (N := some 76) (v := ?_) (a' := ?_) #[true, true, true, true, true, true, true, true, true, true, true, true, true, true, true, true, true, false, false, false] rfl rfl (any_of HT_.out (by kernel_rfl)) (fun _ _ _ h => h) (Or.inl ⟨by rfl, ?_⟩) ?_ ?_
                                                            rotate_left
                                                            · intro w'
                                                              go_simp
                                                              with_reducible rfl
                                                            rotate_left
                                                            · simp only [Act.put, List.setIfInBounds_toArray, List.set_cons_zero, List.set_cons_succ, i64_w, i32_w]
                                                              rfl
                                                            refine one_ (i := 17) (N := some 83) #[true, true, true, true, true, true, true, true, true, true, true, true, true, true, true, true, true, true, false, false] rfl rfl (one_of HT_.out (by kernel_rfl)) (by decide) (fun K hK => ?_)
                                                            refine goes_ Tryd.func42 (by kernel_rfl) rfl #[.agg #[.int .i64 ((rd_T87 l0_10 x5_2).f1.f0), .int .i64 ((rd_T87 l0_10 x5_2).f1.f1), .int .i64 ((rd_T87 l0_10 x5_2).f1.f2)]] (by rfl) rfl rfl zm ?_
                                                            with_reducible refine (spec_VecText.calls k2 ((rd_T87 l0_10 x5_2).f1.f0) ((rd_T87 l0_10 x5_2).f1.f1) ((rd_T87 l0_10 x5_2).f1.f2) t198 _ A61.out).mono ?_
                                                            rintro e w65 ⟨rfl, hb⟩
                                                            refine ⟨_, rfl, ?_⟩
                                                            have n0_ := Aside0.mk (blk_below (g := gb183) (o := .cells #[.int .i64 a0_0, .int .i64 a0_1, .int .i64 a0_2, .int .i64 a0_3, .int .i64 a0_4, .int .i64 a0_5, .int .i64 a0_6, .int .i64 a0_7, .int .i64 a0_8, .bool a0_9, .slice (some ad195) l0_10.length c0_10] 62 (0, 0)) (zq BK183.out) hb)
                                                            have n1_ := Aside0.mk (blk_below (g := gb190) (o := .cells #[.int .i64 a0_5, .int .i64 a0_6, .int .i64 a0_7, .int .i64 a0_8, .bool a0_9] 59 (0, 0)) (zq BK190.out) hb)
                                                            have n2_ := Aside0.mk (below_step (by repeat (first | (with_reducible first | exact HB.out | apply below_alloc | apply pw_below_drewN | apply below_drew1 | refine below_set ?_ GE183.out | refine below_set ?_ GE190.out) | exact HB.out)) hb)
                                                            clear BK183
                                                            clear BK190
                                                            clear HB
                                                            have BK183 := n0_
                                                            have BK190 := n1_
                                                            have HB := n2_
                                                            clear n0_ n1_ n2_
                                                            (try clear hb)
                                                            (try clear hb2)
                                                            (try clear hk)
                                                            (try clear hi)
                                                            refine hK.out _ _ ⟨(blk_cell BK183.out 0).trans rfl, (blk_cell BK183.out 1).trans rfl, (blk_cell BK183.out 2).trans rfl, (blk_cell BK183.out 3).trans rfl, (blk_cell BK183.out 4).trans rfl, (blk_cell BK183.out 5).trans rfl, (blk_cell BK183.out 6).trans rfl, (blk_cell BK183.out 7).trans rfl, (blk_cell BK183.out 8).trans rfl, (blk_cell BK183.out 9).trans rfl, (blk_cell BK183.out 10).trans rfl, ((HB.out.cell (World.block_lt_of_cell? w _ hw195_0)).trans hw195_0), ((HB.out.cell (World.block_lt_of_cell? w _ hw195_1)).trans hw195_1), ((HB.out.cell (World.block_lt_of_cell? w _ hw195_2)).trans hw195_2), ((HB.out.cell (World.block_lt_of_cell? w _ hw195_3)).trans hw195_3), ((HB.out.cell (World.block_lt_of_cell? w _ hw195_4)).trans hw195_4), ((HB.out.cell (World.block_lt_of_cell? w _ hw195_5)).trans hw195_5), ((HB.out.cell (World.block_lt_of_cell? w _ hw197_0)).trans hw197_0), ((HB.out.cell (World.block_lt_of_cell? w _ hw197_1)).trans hw197_1), ((HB.out.cell (World.block_lt_of_cell? w _ hw197_2)).trans hw197_2), ((HB.out.cell (World.block_lt_of_cell? w _ hw197_3)).trans hw197_3), ((HB.out.cell (World.block_lt_of_cell? w _ hw197_4)).trans hw197_4), ((HB.out.cell (World.block_lt_of_cell? w _ hw197_5)).trans hw197_5)⟩ (fun hHeld => ?_)
                                                            clear hK K
                                                            refine norm_ (a' := ?_) ?_ ?_
                                                            rotate_left
                                                            · show Act.put _ (some 83) _ = _
                                                              simp only [Act.put, List.setIfInBounds_toArray, List.set_cons_zero, List.set_cons_succ, i64_w, i32_w]
                                                              rfl
                                                            refine pure_ (i := 18) (N := some 84) (v := ?_) (a' := ?_) #[true, true, true, true, true, true, true, true, true, true, true, true, true, true, true, true, true, true, true, false] rfl rfl (any_of HT_.out (by kernel_rfl)) (fun _ _ _ h => h) (Or.inl ⟨by rfl, ?_⟩) ?_ ?_
                                                            rotate_left
                                                            · intro w'
                                                              go_simp
                                                              with_reducible rfl
                                                            rotate_left
                                                            · simp only [Act.put, List.setIfInBounds_toArray, List.set_cons_zero, List.set_cons_succ, i64_w, i32_w]
                                                              rfl
                                                            refine pure_ (i := 19) (N := some 3) (v := ?_) (a' := ?_) #[true, true, true, true, true, true, true, true, true, true, true, true, true, true, true, true, true, true, true, true] rfl rfl (any_of HT_.out (by kernel_rfl)) (fun _ _ _ h => h) (Or.inl ⟨by rfl, ?_⟩) ?_ ?_
                                                            rotate_left
                                                            · intro w'
                                                              go_simp
                                                              with_reducible rfl
                                                            rotate_left
                                                            · simp only [Act.put, List.setIfInBounds_toArray, List.set_cons_zero, List.set_cons_succ, i64_w, i32_w]
                                                              rfl
                                                            refine done_ (done_of HT_.out (by kernel_rfl)) ?_
                                                            try go_wp2
                                                            go_roundg k2
                                                            case measure => have := HJ29.out; have := HK2.out; omega
                                                            case rel => exact ⟨((((x3_2 ++ (⟨#[32, 112, 114, 111, 102, 32]⟩ : ByteArray)) ++ t196) ++ (⟨#[32]⟩ : ByteArray)) ++ t198), (wrap64 (x5_2 + 1)), (by first | rfl | (simp; done) | (simp [*]; done)), (by first | rfl | (simp; done) | (simp [*]; done)), H', ⟨by have := HJ29.out; have := HK2.out; omega⟩, ⟨by (with_reducible repeat (first | refine blk_drewN ?_ _ | refine blk_drew ?_ | refine blk_alloc ?_ _)); exact BK183.out⟩, ⟨by (with_reducible repeat (first | refine blk_drewN ?_ _ | refine blk_drew ?_ | refine blk_alloc ?_ _)); exact BK190.out⟩, ⟨by repeat (first | (with_reducible first | exact HB.out | apply below_alloc | apply pw_below_drewN | apply below_drew1 | refine below_set ?_ GE183.out | refine below_set ?_ GE190.out) | exact HB.out)⟩⟩
                                                          · rw [if_neg c62] at H
                                                            exact absurd H (by simp)
                                                        · rw [if_neg c60] at H
                                                          exact absurd H (by simp)
                                                      · rw [if_neg c59] at H
                                                        exact absurd H (by simp)
                                                    · rw [if_neg c57] at H
                                                      exact absurd H (by simp)
                                                  · rw [if_neg c56] at H
                                                    exact absurd H (by simp)
                                                · rw [if_neg c55] at H
                                                  exact absurd H (by simp)
                                              · rw [if_neg c54] at H
                                                have c54b0 : decide (x5_2 < 7) = false := decide_eq_false c54
                                                clear c54
                                                obtain rfl := Option.some.inj H
                                                go_wp2
                                                go_ret
                                                exact ⟨by first | rfl | (simp [errW_none, errW_some] <;> rfl) | (simp [*, errW_none, errW_some] <;> rfl), by repeat (first | (with_reducible first | exact HB.out | apply below_alloc | apply pw_below_drewN | apply below_drew1 | refine below_set ?_ GE183.out | refine below_set ?_ GE190.out) | exact HB.out)⟩
                                    · rw [if_neg c29] at H
                                      exact absurd H (by simp)
                                  · rw [if_neg c27] at H
                                    exact absurd H (by simp)
                                · rw [if_neg c26] at H
                                  exact absurd H (by simp)
                              · rw [if_neg c24] at H
                                exact absurd H (by simp)
                            · rw [if_neg c23] at H
                              exact absurd H (by simp)
                          · rw [if_neg c21] at H
                            exact absurd H (by simp)
                        · rw [if_neg c20] at H
                          exact absurd H (by simp)
                      · rw [if_neg c18] at H
                        exact absurd H (by simp)
                    · rw [if_neg c17] at H
                      exact absurd H (by simp)
                  · rw [if_neg c15] at H
                    exact absurd H (by simp)
                · rw [if_neg c14] at H
                  exact absurd H (by simp)
              · rw [if_neg c12] at H
                exact absurd H (by simp)
            · rw [if_neg c11] at H
              exact absurd H (by simp)
          · rw [if_neg c9] at H
            exact absurd H (by simp)
        · rw [if_neg c8] at H
          exact absurd H (by simp)
      · rw [if_neg c6] at H
        exact absurd H (by simp)
    · rw [if_neg c5] at H
      exact absurd H (by simp)
  · replace c3 := Bool.eq_false_iff.mpr c3
    subst c3
    have H1 := H; rw [if_neg (show ¬ (false = true) by decide)] at H1
    clear H
    have H := H1
    clear H1
    obtain rfl := Option.some.inj H
    go_enter Tryd.func23, Tryd.ntmps23
    go_wp2_with (first | ((with_reducible refine gate_dst (N := 1) rfl ?_); refine box_event ?hg (N := 1) ?hd (cs := #[.int .i64 a0_0, .int .i64 a0_1, .int .i64 a0_2, .int .i64 a0_3, .int .i64 a0_4, .int .i64 a0_5, .int .i64 a0_6, .int .i64 a0_7, .int .i64 a0_8, .bool a0_9, .slice A0_10 l0_10.length c0_10]) (t := 62) ?hr ?_; (case hd => rfl); (case hg => rfl); (case hr => first | (go_simp; done) | (go_simp; rfl)); intro gb183 hg w66 hbox hb; have n0_ := Aside0.mk (below_step zb hb); have n1_ := Aside0.mk (hbox); have n2_ := Aside0.mk ((by rw [hg]; exact (below_size zb) : w.heap.size ≤ gb183)); have n3_ := Aside0.mk ((by rw [hg]; exact (below_size zb) : w.heap.size ≤ gb183)); clear HB; have HB := n0_; have BK183 := n1_; have GW183 := n2_; have GE183 := n3_; clear n0_ n1_ n2_ n3_; clear hb hbox hg; have hcz67_0 : w66.cell? ⟨gb183, 0, none⟩ = some (.int .i64 a0_0) := (blk_cell BK183.out 0).trans rfl; have hcz67_1 : w66.cell? ⟨gb183, 1, none⟩ = some (.int .i64 a0_1) := (blk_cell BK183.out 1).trans rfl; have hcz67_2 : w66.cell? ⟨gb183, 2, none⟩ = some (.int .i64 a0_2) := (blk_cell BK183.out 2).trans rfl; have hcz67_3 : w66.cell? ⟨gb183, 3, none⟩ = some (.int .i64 a0_3) := (blk_cell BK183.out 3).trans rfl; have hcz67_4 : w66.cell? ⟨gb183, 4, none⟩ = some (.int .i64 a0_4) := (blk_cell BK183.out 4).trans rfl; have hcz67_5 : w66.cell? ⟨gb183, 5, none⟩ = some (.int .i64 a0_5) := (blk_cell BK183.out 5).trans rfl; have hcz67_6 : w66.cell? ⟨gb183, 6, none⟩ = some (.int .i64 a0_6) := (blk_cell BK183.out 6).trans rfl; have hcz67_7 : w66.cell? ⟨gb183, 7, none⟩ = some (.int .i64 a0_7) := (blk_cell BK183.out 7).trans rfl; have hcz67_8 : w66.cell? ⟨gb183, 8, none⟩ = some (.int .i64 a0_8) := (blk_cell BK183.out 8).trans rfl; have hcz67_9 : w66.cell? ⟨gb183, 9, none⟩ = some (.bool a0_9) := (blk_cell BK183.out 9).trans rfl; have hcz67_10 : w66.cell? ⟨gb183, 10, none⟩ = some (.slice A0_10 l0_10.length c0_10) := (blk_cell BK183.out 10).trans rfl; have hfz67_0 := blk_frozen BK183.out 0; have hfz67_1 := blk_frozen BK183.out 1; have hfz67_2 := blk_frozen BK183.out 2; have hfz67_3 := blk_frozen BK183.out 3; have hfz67_4 := blk_frozen BK183.out 4; have hfz67_5 := blk_frozen BK183.out 5; have hfz67_6 := blk_frozen BK183.out 6; have hfz67_7 := blk_frozen BK183.out 7; have hfz67_8 := blk_frozen BK183.out 8; have hfz67_9 := blk_frozen BK183.out 9; have hfz67_10 := blk_frozen BK183.out 10) | ((with_reducible refine gate_callee (f := 49) rfl ?_); refine goesL_ (some 7) rfl rfl Tryd.func49 (by kernel_rfl) rfl #[.agg #[.int .i64 a0_0, .int .i64 a0_1, .int .i64 a0_2, .int .i64 a0_3, .int .i64 a0_4, .int .i64 a0_5, .int .i64 a0_6, .int .i64 a0_7, .int .i64 a0_8, .bool a0_9, .slice A0_10 l0_10.length c0_10]] rfl zm ?_; (with_reducible refine (spec_ConfOk.calls k a0_0 a0_1 a0_2 a0_3 a0_4 a0_5 a0_6 a0_7 a0_8 a0_9 _ _ l0_10 false _ ?side1 ?side2 A2.out).mono ?_); (case side1 => repeat (first | exact (Kd.C_below HR0_10.out HB.out) | (with_reducible refine Kd.C_alloc ?_ _) | (with_reducible refine Kd.C_drewN ?_ _) | (with_reducible refine Kd.C_drew ?_))); (case side2 => exact HC0_10.out); rintro e w68 ⟨rfl, hb⟩; refine ⟨_, rfl, ?_⟩; have n0_ := Aside0.mk (blk_below (g := gb183) (o := .cells #[.int .i64 a0_0, .int .i64 a0_1, .int .i64 a0_2, .int .i64 a0_3, .int .i64 a0_4, .int .i64 a0_5, .int .i64 a0_6, .int .i64 a0_7, .int .i64 a0_8, .bool a0_9, .slice A0_10 l0_10.length c0_10] 62 (0, 0)) (zq BK183.out) hb); have n1_ := Aside0.mk (below_step (by repeat (first | (with_reducible first | exact HB.out | apply below_alloc | apply pw_below_drewN | apply below_drew1 | refine below_set ?_ GE183.out) | exact HB.out)) hb); clear BK183; clear HB; have BK183 := n0_; have HB := n1_; clear n0_ n1_; (try clear hb); (try clear hb2); (try clear hk); (try clear hi)))
    go_ret
    exact ⟨by first | rfl | (simp [errW_none, errW_some] <;> rfl) | (simp [*, errW_none, errW_some] <;> rfl), by repeat (first | (with_reducible first | exact HB.out | apply below_alloc | apply pw_below_drewN | apply below_drew1 | refine below_set ?_ GE183.out) | exact HB.out)⟩

end Go.Proofs.YtnicflgogkakeaaDoor.QFnExactConfText

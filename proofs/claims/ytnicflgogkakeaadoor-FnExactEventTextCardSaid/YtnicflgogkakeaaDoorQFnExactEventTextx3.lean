-- made by this session's own printer (mkprint.py: the kit's printer with given contracts)
import Derived.Test.YtnicflgogkakeaaDoorQFnExactEventTextx0
import Derived.Test.YtnicflgogkakeaaDoorQFnExactEventTextx1
namespace Go.Proofs.YtnicflgogkakeaaDoor.QFnExactEventText
open Go.RowKit Go.Proofs.YtnicflgogkakeaaDoorW.PrintWords Go.Proofs.YtnicflgogkakeaaDoorW.PrintLast Go.Proofs.YtnicflgogkakeaaDoorW.PrintMore
attribute [local go_sem] max2_int min2_int max_two min_two max_three min_three max_four min_four   -- for this text's walks alone
set_option linter.unusedVariables false
set_option linter.unusedSimpArgs false

attribute [local go_sem high] eqA46
/-! ### spec_EventsOk: function 40 -/
mutual
def spec_EventsOk.l0 : Nat → List (S48) → Int → Int → Option (Bool)
  | 0, _, _, _ => none
  | k + 1, x0, x3, x4 => if x4 < (x0.length : Int) then (if 0 ≤ x4 then (if ((rd_T48 x0 x4).f0) < 1 then (spec_EventsOk.j1 k x0 x3 x4 true ((rd_T48 x0 x4).f0) ((rd_T48 x0 x4).f1) ((rd_T48 x0 x4).f2) ((rd_T48 x0 x4).f3.f0) ((rd_T48 x0 x4).f3.f1) ((rd_T48 x0 x4).f3.f2)) else (if ((rd_T48 x0 x4).f0) > 4 then (spec_EventsOk.j1 k x0 x3 x4 true ((rd_T48 x0 x4).f0) ((rd_T48 x0 x4).f1) ((rd_T48 x0 x4).f2) ((rd_T48 x0 x4).f3.f0) ((rd_T48 x0 x4).f3.f1) ((rd_T48 x0 x4).f3.f2)) else (spec_EventsOk.j1 k x0 x3 x4 (decide ((((rd_T48 x0 x4).f2).length : Int) > 2000)) ((rd_T48 x0 x4).f0) ((rd_T48 x0 x4).f1) ((rd_T48 x0 x4).f2) ((rd_T48 x0 x4).f3.f0) ((rd_T48 x0 x4).f3.f1) ((rd_T48 x0 x4).f3.f2)))) else (none)) else (some true)
def spec_EventsOk.j1 : Nat → List (S48) → Int → Int → Bool → Int → Int → List Int → Int → Int → Int → Option (Bool)
  | 0, _, _, _, _, _, _, _, _, _, _ => none
  | k + 1, x0, x3, x4, x32, x139000, x139001, x139002, x139003, x139004, x139005 => if x32 = true then (some false) else (if x139000 = 2 then (if x139001 < 1 then (spec_EventsOk.j2 k x0 x3 x4 true x139000 x139001 x139002 x139003 x139004 x139005) else (spec_EventsOk.j2 k x0 x3 x4 (decide (x139001 > x3)) x139000 x139001 x139002 x139003 x139004 x139005)) else (if x139001 = 0 then (spec_EventsOk.j2 k x0 x3 x4 false x139000 x139001 x139002 x139003 x139004 x139005) else (spec_EventsOk.j2 k x0 x3 x4 true x139000 x139001 x139002 x139003 x139004 x139005)))
def spec_EventsOk.j2 : Nat → List (S48) → Int → Int → Bool → Int → Int → List Int → Int → Int → Int → Option (Bool)
  | 0, _, _, _, _, _, _, _, _, _, _ => none
  | k + 1, x0, x3, x4, x56, x139000, x139001, x139002, x139003, x139004, x139005 => if x56 = true then (some false) else (if x139000 = 1 then (if x139000 = 2 then (if (x139002.length : Int) > 0 then (some false) else (spec_EventsOk.l0 k x0 (wrap64 (x3 - x139001)) (wrap64 (x4 + 1)))) else (if x139000 = 4 then (if (x139002.length : Int) > 0 then (some false) else (spec_EventsOk.l0 k x0 (wrap64 (x3 - x139001)) (wrap64 (x4 + 1)))) else (spec_EventsOk.l0 k x0 (wrap64 (x3 - x139001)) (wrap64 (x4 + 1))))) else (if (!(x139003 == 0) || (!(x139004 == 0) || (!(x139005 == 0)))) = true then (some false) else (if x139000 = 2 then (if (x139002.length : Int) > 0 then (some false) else (spec_EventsOk.l0 k x0 (wrap64 (x3 - x139001)) (wrap64 (x4 + 1)))) else (if x139000 = 4 then (if (x139002.length : Int) > 0 then (some false) else (spec_EventsOk.l0 k x0 (wrap64 (x3 - x139001)) (wrap64 (x4 + 1)))) else (spec_EventsOk.l0 k x0 (wrap64 (x3 - x139001)) (wrap64 (x4 + 1)))))))
end
def spec_EventsOk.f (k : Nat) (l0 : List (S48)) : Option (Bool) := if (l0.length : Int) > 200 then (some false) else (spec_EventsOk.l0 k l0 4000 0)
theorem spec_EventsOk.mono_l : ∀ k, (∀ y0 y1 y2, LeO (spec_EventsOk.l0 k y0 y1 y2) (spec_EventsOk.l0 (k + 1) y0 y1 y2)) ∧ (∀ y0 y1 y2 y3 y4 y5 y6 y7 y8 y9, LeO (spec_EventsOk.j1 k y0 y1 y2 y3 y4 y5 y6 y7 y8 y9) (spec_EventsOk.j1 (k + 1) y0 y1 y2 y3 y4 y5 y6 y7 y8 y9)) ∧ (∀ y0 y1 y2 y3 y4 y5 y6 y7 y8 y9, LeO (spec_EventsOk.j2 k y0 y1 y2 y3 y4 y5 y6 y7 y8 y9) (spec_EventsOk.j2 (k + 1) y0 y1 y2 y3 y4 y5 y6 y7 y8 y9))
  | 0 => ⟨fun _ _ _ r h => by simp [spec_EventsOk.l0] at h, fun _ _ _ _ _ _ _ _ _ _ r h => by simp [spec_EventsOk.j1] at h, fun _ _ _ _ _ _ _ _ _ _ r h => by simp [spec_EventsOk.j2] at h⟩
  | k + 1 => by
    obtain ⟨ih0, ih1, ih2⟩ := spec_EventsOk.mono_l k
    refine ⟨?_, ?_, ?_⟩
    · intro y0 y1 y2
      unfold spec_EventsOk.l0
      repeat' first
      | (with_reducible exact ih0 _ _ _)
      | (with_reducible exact ih1 _ _ _ _ _ _ _ _ _ _)
      | (with_reducible exact ih2 _ _ _ _ _ _ _ _ _ _)
      | (with_reducible exact LeO.refl _)
      | (with_reducible exact LeO.none _)
      | (with_reducible refine LeO.ite ?_ ?_)
      | (with_reducible refine LeO.bind ?_ (fun _ => ?_))
      | exact ih0 _ _ _
      | exact ih1 _ _ _ _ _ _ _ _ _ _
      | exact ih2 _ _ _ _ _ _ _ _ _ _
      | exact LeO.none _
      | refine LeO.ite ?_ ?_
      | refine LeO.bind ?_ (fun _ => ?_)
    · intro y0 y1 y2 y3 y4 y5 y6 y7 y8 y9
      unfold spec_EventsOk.j1
      repeat' first
      | (with_reducible exact ih0 _ _ _)
      | (with_reducible exact ih1 _ _ _ _ _ _ _ _ _ _)
      | (with_reducible exact ih2 _ _ _ _ _ _ _ _ _ _)
      | (with_reducible exact LeO.refl _)
      | (with_reducible exact LeO.none _)
      | (with_reducible refine LeO.ite ?_ ?_)
      | (with_reducible refine LeO.bind ?_ (fun _ => ?_))
      | exact ih0 _ _ _
      | exact ih1 _ _ _ _ _ _ _ _ _ _
      | exact ih2 _ _ _ _ _ _ _ _ _ _
      | exact LeO.none _
      | refine LeO.ite ?_ ?_
      | refine LeO.bind ?_ (fun _ => ?_)
    · intro y0 y1 y2 y3 y4 y5 y6 y7 y8 y9
      unfold spec_EventsOk.j2
      repeat' first
      | (with_reducible exact ih0 _ _ _)
      | (with_reducible exact ih1 _ _ _ _ _ _ _ _ _ _)
      | (with_reducible exact ih2 _ _ _ _ _ _ _ _ _ _)
      | (with_reducible exact LeO.refl _)
      | (with_reducible exact LeO.none _)
      | (with_reducible refine LeO.ite ?_ ?_)
      | (with_reducible refine LeO.bind ?_ (fun _ => ?_))
      | exact ih0 _ _ _
      | exact ih1 _ _ _ _ _ _ _ _ _ _
      | exact ih2 _ _ _ _ _ _ _ _ _ _
      | exact LeO.none _
      | refine LeO.ite ?_ ?_
      | refine LeO.bind ?_ (fun _ => ?_)
theorem spec_EventsOk.mono : ∀ a0 k, LeO (spec_EventsOk.f k a0) (spec_EventsOk.f (k + 1) a0) := by
  intro a0 k
  obtain ⟨ih0, ih1, ih2⟩ := spec_EventsOk.mono_l k
  unfold spec_EventsOk.f
  repeat' first
      | (with_reducible exact ih0 _ _ _)
      | (with_reducible exact ih1 _ _ _ _ _ _ _ _ _ _)
      | (with_reducible exact ih2 _ _ _ _ _ _ _ _ _ _)
      | (with_reducible exact LeO.refl _)
      | (with_reducible exact LeO.none _)
      | (with_reducible refine LeO.ite ?_ ?_)
      | (with_reducible refine LeO.bind ?_ (fun _ => ?_))
      | exact ih0 _ _ _
      | exact ih1 _ _ _ _ _ _ _ _ _ _
      | exact ih2 _ _ _ _ _ _ _ _ _ _
      | exact LeO.none _
      | refine LeO.ite ?_ ?_
      | refine LeO.bind ?_ (fun _ => ?_)
set_option maxHeartbeats 8000000 in
set_option maxRecDepth 100000 in
theorem spec_EventsOk.calls (k : Nat) (A0 : Option Addr) (c0 : Nat) (l0 : List (S48)) (r : Bool) (w : World) (hr0 : Kd.C k48 w A0 l0.length l0) (hc0 : l0.length ≤ c0) (h : spec_EventsOk.f k l0 = some r) :
    Calls Tryd.prog 40 #[.slice A0 l0.length c0] w fun e w' => e = .returned (.bool r) ∧ Below w.heap.size w w' := by
  have hu48 := Tryd.underlying48
  have hu46 := Tryd.underlying46
  have HR0 := Aside0.mk hr0
  have HC0 := Aside0.mk hc0
  clear hr0 hc0
  have HB := Aside0.mk (Below.refl w.heap.size w)
  have H : (if (l0.length : Int) > 200 then (some false) else (spec_EventsOk.l0 k l0 4000 0)) = some r := h
  clear h
  by_cases c2 : (l0.length : Int) > 200
  · rw [if_pos c2] at H
    have c2b0 : decide (200 < (l0.length : Int)) = true := decide_eq_true c2
    have c2b1 : decide (200 < l0.length) = true := decide_eq_true (by omega)
    clear c2
    obtain rfl := Option.some.inj H
    go_enter Tryd.func40, Tryd.ntmps40
    go_wp2
    go_ret
    exact ⟨by first | rfl | (simp [errW_none, errW_some] <;> rfl) | (simp [*, errW_none, errW_some] <;> rfl), by repeat (first | (with_reducible first | exact HB.out | apply below_alloc | apply pw_below_drewN | apply below_drew1) | exact HB.out)⟩
  · rw [if_neg c2] at H
    have c2b0 : decide (200 < (l0.length : Int)) = false := decide_eq_false c2
    have c2b1 : decide (200 < l0.length) = false := decide_eq_false (by omega)
    clear c2
    have H' := Aside0.mk H
    clear H
    go_enter Tryd.func40, Tryd.ntmps40
    go_wp2
    go_loopg [3, 4] k (fun kq v3 v4 w' => ∃ (x3_1 : Int) (x4_1 : Int), v3 = .int .i64 x3_1 ∧ v4 = .int .i64 x4_1 ∧ Aside0 (spec_EventsOk.l0 kq l0 x3_1 x4_1 = some r) ∧ Aside0 (kq ≤ k) ∧ Aside0 (Below w.heap.size w w'))
    case atStart => exact ⟨(4000), (0), (by first | rfl | (simp; done) | (simp [*]; done)), (by first | rfl | (simp; done) | (simp [*]; done)), H', ⟨Nat.le_refl _⟩, ⟨by repeat (first | (with_reducible first | exact HB.out | apply below_alloc | apply pw_below_drewN | apply below_drew1) | exact HB.out)⟩⟩
    case round =>
      clear H'
      try clear c2
      try clear c2b0
      try clear c2b1
      try clear p2
      obtain ⟨x3_1, x4_1, rfl, rfl, HA, HK1, HB⟩ := hrel
      cases gk with
      | zero => exact absurd HA.out (by simp [spec_EventsOk.l0])
      | succ k1 =>
        have H := HA.out
        clear HA
        simp only [spec_EventsOk.l0] at H
        by_cases c3 : x4_1 < (l0.length : Int)
        · rw [if_pos c3] at H
          have c3b0 : decide (x4_1 < (l0.length : Int)) = true := decide_eq_true c3
          clear c3
          by_cases c4 : 0 ≤ x4_1
          · rw [if_pos c4] at H
            have c4b0 : decide (0 ≤ x4_1) = true := decide_eq_true c4
            clear c4
            have HC5 := Aside0.mk H
            clear H
            have p137 : 0 ≤ (x4_1 : Int) := of_decide_eq_true (by first | (with_reducible assumption) | assumption)
            have q137 : x4_1 < (l0.length : Int) := of_decide_eq_true (by first | (with_reducible assumption) | assumption)
            obtain ⟨ad137, A137_2, c137_2, e137, hx137_0, hx137_1, hx137_2, hx137_3, hx137_4, hx137_5, hl137_2, hi137_2⟩ := at_T48 HR0.out x4_1 p137 q137
            cases e137
            replace hx137_0 := (HB.out.cell (World.block_lt_of_cell? w _ hx137_0)).trans hx137_0
            replace hx137_1 := (HB.out.cell (World.block_lt_of_cell? w _ hx137_1)).trans hx137_1
            replace hx137_2 := (HB.out.cell (World.block_lt_of_cell? w _ hx137_2)).trans hx137_2
            replace hx137_3 := (HB.out.cell (World.block_lt_of_cell? w _ hx137_3)).trans hx137_3
            replace hx137_4 := (HB.out.cell (World.block_lt_of_cell? w _ hx137_4)).trans hx137_4
            replace hx137_5 := (HB.out.cell (World.block_lt_of_cell? w _ hx137_5)).trans hx137_5
            have HR137_2 := Aside0.mk hi137_2
            have HC137_2 := Aside0.mk hl137_2
            clear hi137_2 hl137_2
            replace p137 := eq_true p137
            replace q137 := eq_true q137
            go_upto_region 8 with (first | ((with_reducible refine gate_dst (N := 5) rfl ?_); (try (refine gate_guard (by rfl) ?_; dsimp only)); refine box_event ?hg (N := 5) ?hd (cs := #[.int .i64 0, .int .i64 0, .slice none 0 0, .int .i64 0, .int .i64 0, .int .i64 0]) (t := 48) ?hr ?_; (case hd => rfl); (case hg => rfl); (case hr => first | (go_simp; done) | (go_simp; rfl)); intro gb138 hg w6 hbox hb; have n0_ := Aside0.mk (below_step (by repeat (first | (with_reducible first | exact HB.out | apply below_alloc | apply pw_below_drewN | apply below_drew1) | exact HB.out)) hb); have n1_ := Aside0.mk (hbox); have n2_ := Aside0.mk ((by rw [hg]; exact (below_size (by repeat (first | (with_reducible first | exact HB.out | apply below_alloc | apply pw_below_drewN | apply below_drew1) | exact HB.out))) : w.heap.size ≤ gb138)); have n3_ := Aside0.mk ((by rw [hg]; exact (below_size (by repeat (first | (with_reducible first | exact HB.out | apply below_alloc | apply pw_below_drewN | apply below_drew1) | exact HB.out))) : w.heap.size ≤ gb138)); clear HB; have HB := n0_; have BK138 := n1_; have GW138 := n2_; have GE138 := n3_; clear n0_ n1_ n2_ n3_; clear hb hbox hg; have hcz7_0 : w6.cell? ⟨gb138, 0, none⟩ = some (.int .i64 0) := (blk_cell BK138.out 0).trans rfl; have hcz7_1 : w6.cell? ⟨gb138, 1, none⟩ = some (.int .i64 0) := (blk_cell BK138.out 1).trans rfl; have hcz7_2 : w6.cell? ⟨gb138, 2, none⟩ = some (.slice none 0 0) := (blk_cell BK138.out 2).trans rfl; have hcz7_3 : w6.cell? ⟨gb138, 3, none⟩ = some (.int .i64 0) := (blk_cell BK138.out 3).trans rfl; have hcz7_4 : w6.cell? ⟨gb138, 4, none⟩ = some (.int .i64 0) := (blk_cell BK138.out 4).trans rfl; have hcz7_5 : w6.cell? ⟨gb138, 5, none⟩ = some (.int .i64 0) := (blk_cell BK138.out 5).trans rfl; have hfz7_0 := blk_frozen BK138.out 0; have hfz7_1 := blk_frozen BK138.out 1; have hfz7_2 := blk_frozen BK138.out 2; have hfz7_3 := blk_frozen BK138.out 3; have hfz7_4 := blk_frozen BK138.out 4; have hfz7_5 := blk_frozen BK138.out 5))
            (try simp only [Act.put, List.setIfInBounds_toArray, List.set_cons_zero, List.set_cons_succ])
            go_cut [32] (fun v32 wc => ∃ (kq : Nat) (x32_4 : Bool), v32 = .bool x32_4 ∧ Aside0 (spec_EventsOk.j1 kq l0 x3_1 x4_1 x32_4 ((rd_T48 l0 x4_1).f0) ((rd_T48 l0 x4_1).f1) ((rd_T48 l0 x4_1).f2) ((rd_T48 l0 x4_1).f3.f0) ((rd_T48 l0 x4_1).f3.f1) ((rd_T48 l0 x4_1).f3.f2) = some r) ∧ Aside0 (kq ≤ k1) ∧ Aside0 (wc.heap[gb138]? = some (.cells #[.int .i64 ((rd_T48 l0 x4_1).f0), .int .i64 ((rd_T48 l0 x4_1).f1), (.slice A137_2 ((rd_T48 l0 x4_1).f2).length c137_2), .int .i64 ((rd_T48 l0 x4_1).f3.f0), .int .i64 ((rd_T48 l0 x4_1).f3.f1), .int .i64 ((rd_T48 l0 x4_1).f3.f2)] 48 (0, 0))) ∧ Aside0 (Below w.heap.size w wc))
            case first =>
              have H := HC5.out
              clear HC5
              by_cases c8 : ((rd_T48 l0 x4_1).f0) < 1
              · rw [if_pos c8] at H
                have c8b0 : decide (((rd_T48 l0 x4_1).f0) < 1) = true := decide_eq_true c8
                clear c8
                (first | rw [c8b0] | (simp only [i64_w, i32_w]; rw [c8b0]) | skip)
                have H' := Aside0.mk H
                clear H
                have hcz9_0 : w6.cell? ⟨gb138, 0, none⟩ = some (.int .i64 0) := (blk_cell BK138.out 0).trans rfl
                have hcz9_1 : w6.cell? ⟨gb138, 1, none⟩ = some (.int .i64 0) := (blk_cell BK138.out 1).trans rfl
                have hcz9_2 : w6.cell? ⟨gb138, 2, none⟩ = some (.slice none 0 0) := (blk_cell BK138.out 2).trans rfl
                have hcz9_3 : w6.cell? ⟨gb138, 3, none⟩ = some (.int .i64 0) := (blk_cell BK138.out 3).trans rfl
                have hcz9_4 : w6.cell? ⟨gb138, 4, none⟩ = some (.int .i64 0) := (blk_cell BK138.out 4).trans rfl
                have hcz9_5 : w6.cell? ⟨gb138, 5, none⟩ = some (.int .i64 0) := (blk_cell BK138.out 5).trans rfl
                have hfz9_0 := blk_frozen BK138.out 0
                have hfz9_1 := blk_frozen BK138.out 1
                have hfz9_2 := blk_frozen BK138.out 2
                have hfz9_3 := blk_frozen BK138.out 3
                have hfz9_4 := blk_frozen BK138.out 4
                have hfz9_5 := blk_frozen BK138.out 5
                go_wp2
                go_meet
                case rel => exact ⟨_, (true), (by first | rfl | (simp; done) | (simp [*]; done)), H', ⟨by have := HK1.out; first | omega | exact Nat.le_refl _⟩, ⟨by (with_reducible repeat (first | refine blk_drewN ?_ _ | refine blk_drew ?_ | refine blk_alloc ?_ _)); refine blk_put (cs := #[.int .i64 ((rd_T48 l0 x4_1).f0), .int .i64 ((rd_T48 l0 x4_1).f1), .slice A137_2 ((rd_T48 l0 x4_1).f2).length c137_2, .int .i64 ((rd_T48 l0 x4_1).f3.f0), .int .i64 ((rd_T48 l0 x4_1).f3.f1), .int .i64 0]) ?_ 5 _ rfl; (with_reducible repeat (first | refine blk_drewN ?_ _ | refine blk_drew ?_ | refine blk_alloc ?_ _)); refine blk_put (cs := #[.int .i64 ((rd_T48 l0 x4_1).f0), .int .i64 ((rd_T48 l0 x4_1).f1), .slice A137_2 ((rd_T48 l0 x4_1).f2).length c137_2, .int .i64 ((rd_T48 l0 x4_1).f3.f0), .int .i64 0, .int .i64 0]) ?_ 4 _ rfl; (with_reducible repeat (first | refine blk_drewN ?_ _ | refine blk_drew ?_ | refine blk_alloc ?_ _)); refine blk_put (cs := #[.int .i64 ((rd_T48 l0 x4_1).f0), .int .i64 ((rd_T48 l0 x4_1).f1), .slice A137_2 ((rd_T48 l0 x4_1).f2).length c137_2, .int .i64 0, .int .i64 0, .int .i64 0]) ?_ 3 _ rfl; (with_reducible repeat (first | refine blk_drewN ?_ _ | refine blk_drew ?_ | refine blk_alloc ?_ _)); refine blk_put (cs := #[.int .i64 ((rd_T48 l0 x4_1).f0), .int .i64 ((rd_T48 l0 x4_1).f1), .slice none 0 0, .int .i64 0, .int .i64 0, .int .i64 0]) ?_ 2 _ rfl; (with_reducible repeat (first | refine blk_drewN ?_ _ | refine blk_drew ?_ | refine blk_alloc ?_ _)); refine blk_put (cs := #[.int .i64 ((rd_T48 l0 x4_1).f0), .int .i64 0, .slice none 0 0, .int .i64 0, .int .i64 0, .int .i64 0]) ?_ 1 _ rfl; (with_reducible repeat (first | refine blk_drewN ?_ _ | refine blk_drew ?_ | refine blk_alloc ?_ _)); refine blk_put (cs := #[.int .i64 0, .int .i64 0, .slice none 0 0, .int .i64 0, .int .i64 0, .int .i64 0]) ?_ 0 _ rfl; (with_reducible repeat (first | refine blk_drewN ?_ _ | refine blk_drew ?_ | refine blk_alloc ?_ _)); exact BK138.out⟩, ⟨by repeat (first | (with_reducible first | exact HB.out | apply below_alloc | apply pw_below_drewN | apply below_drew1 | refine below_set ?_ GE138.out) | exact HB.out)⟩⟩
              · rw [if_neg c8] at H
                have c8b0 : decide (((rd_T48 l0 x4_1).f0) < 1) = false := decide_eq_false c8
                clear c8
                (first | rw [c8b0] | (simp only [i64_w, i32_w]; rw [c8b0]) | skip)
                by_cases c10 : ((rd_T48 l0 x4_1).f0) > 4
                · rw [if_pos c10] at H
                  have c10b0 : decide (4 < ((rd_T48 l0 x4_1).f0)) = true := decide_eq_true c10
                  clear c10
                  have H' := Aside0.mk H
                  clear H
                  have hcz11_0 : w6.cell? ⟨gb138, 0, none⟩ = some (.int .i64 0) := (blk_cell BK138.out 0).trans rfl
                  have hcz11_1 : w6.cell? ⟨gb138, 1, none⟩ = some (.int .i64 0) := (blk_cell BK138.out 1).trans rfl
                  have hcz11_2 : w6.cell? ⟨gb138, 2, none⟩ = some (.slice none 0 0) := (blk_cell BK138.out 2).trans rfl
                  have hcz11_3 : w6.cell? ⟨gb138, 3, none⟩ = some (.int .i64 0) := (blk_cell BK138.out 3).trans rfl
                  have hcz11_4 : w6.cell? ⟨gb138, 4, none⟩ = some (.int .i64 0) := (blk_cell BK138.out 4).trans rfl
                  have hcz11_5 : w6.cell? ⟨gb138, 5, none⟩ = some (.int .i64 0) := (blk_cell BK138.out 5).trans rfl
                  have hfz11_0 := blk_frozen BK138.out 0
                  have hfz11_1 := blk_frozen BK138.out 1
                  have hfz11_2 := blk_frozen BK138.out 2
                  have hfz11_3 := blk_frozen BK138.out 3
                  have hfz11_4 := blk_frozen BK138.out 4
                  have hfz11_5 := blk_frozen BK138.out 5
                  go_wp2
                  go_meet
                  case rel => exact ⟨_, (true), (by first | rfl | (simp; done) | (simp [*]; done)), H', ⟨by have := HK1.out; first | omega | exact Nat.le_refl _⟩, ⟨by (with_reducible repeat (first | refine blk_drewN ?_ _ | refine blk_drew ?_ | refine blk_alloc ?_ _)); refine blk_put (cs := #[.int .i64 ((rd_T48 l0 x4_1).f0), .int .i64 ((rd_T48 l0 x4_1).f1), .slice A137_2 ((rd_T48 l0 x4_1).f2).length c137_2, .int .i64 ((rd_T48 l0 x4_1).f3.f0), .int .i64 ((rd_T48 l0 x4_1).f3.f1), .int .i64 0]) ?_ 5 _ rfl; (with_reducible repeat (first | refine blk_drewN ?_ _ | refine blk_drew ?_ | refine blk_alloc ?_ _)); refine blk_put (cs := #[.int .i64 ((rd_T48 l0 x4_1).f0), .int .i64 ((rd_T48 l0 x4_1).f1), .slice A137_2 ((rd_T48 l0 x4_1).f2).length c137_2, .int .i64 ((rd_T48 l0 x4_1).f3.f0), .int .i64 0, .int .i64 0]) ?_ 4 _ rfl; (with_reducible repeat (first | refine blk_drewN ?_ _ | refine blk_drew ?_ | refine blk_alloc ?_ _)); refine blk_put (cs := #[.int .i64 ((rd_T48 l0 x4_1).f0), .int .i64 ((rd_T48 l0 x4_1).f1), .slice A137_2 ((rd_T48 l0 x4_1).f2).length c137_2, .int .i64 0, .int .i64 0, .int .i64 0]) ?_ 3 _ rfl; (with_reducible repeat (first | refine blk_drewN ?_ _ | refine blk_drew ?_ | refine blk_alloc ?_ _)); refine blk_put (cs := #[.int .i64 ((rd_T48 l0 x4_1).f0), .int .i64 ((rd_T48 l0 x4_1).f1), .slice none 0 0, .int .i64 0, .int .i64 0, .int .i64 0]) ?_ 2 _ rfl; (with_reducible repeat (first | refine blk_drewN ?_ _ | refine blk_drew ?_ | refine blk_alloc ?_ _)); refine blk_put (cs := #[.int .i64 ((rd_T48 l0 x4_1).f0), .int .i64 0, .slice none 0 0, .int .i64 0, .int .i64 0, .int .i64 0]) ?_ 1 _ rfl; (with_reducible repeat (first | refine blk_drewN ?_ _ | refine blk_drew ?_ | refine blk_alloc ?_ _)); refine blk_put (cs := #[.int .i64 0, .int .i64 0, .slice none 0 0, .int .i64 0, .int .i64 0, .int .i64 0]) ?_ 0 _ rfl; (with_reducible repeat (first | refine blk_drewN ?_ _ | refine blk_drew ?_ | refine blk_alloc ?_ _)); exact BK138.out⟩, ⟨by repeat (first | (with_reducible first | exact HB.out | apply below_alloc | apply pw_below_drewN | apply below_drew1 | refine below_set ?_ GE138.out) | exact HB.out)⟩⟩
                · rw [if_neg c10] at H
                  have c10b0 : decide (4 < ((rd_T48 l0 x4_1).f0)) = false := decide_eq_false c10
                  clear c10
                  have H' := Aside0.mk H
                  clear H
                  have hcz12_0 : w6.cell? ⟨gb138, 0, none⟩ = some (.int .i64 0) := (blk_cell BK138.out 0).trans rfl
                  have hcz12_1 : w6.cell? ⟨gb138, 1, none⟩ = some (.int .i64 0) := (blk_cell BK138.out 1).trans rfl
                  have hcz12_2 : w6.cell? ⟨gb138, 2, none⟩ = some (.slice none 0 0) := (blk_cell BK138.out 2).trans rfl
                  have hcz12_3 : w6.cell? ⟨gb138, 3, none⟩ = some (.int .i64 0) := (blk_cell BK138.out 3).trans rfl
                  have hcz12_4 : w6.cell? ⟨gb138, 4, none⟩ = some (.int .i64 0) := (blk_cell BK138.out 4).trans rfl
                  have hcz12_5 : w6.cell? ⟨gb138, 5, none⟩ = some (.int .i64 0) := (blk_cell BK138.out 5).trans rfl
                  have hfz12_0 := blk_frozen BK138.out 0
                  have hfz12_1 := blk_frozen BK138.out 1
                  have hfz12_2 := blk_frozen BK138.out 2
                  have hfz12_3 := blk_frozen BK138.out 3
                  have hfz12_4 := blk_frozen BK138.out 4
                  have hfz12_5 := blk_frozen BK138.out 5
                  go_wp2
                  go_meet
                  case rel => exact ⟨_, (decide ((((rd_T48 l0 x4_1).f2).length : Int) > 2000)), (by first | rfl | (simp; done) | (simp [*]; done)), H', ⟨by have := HK1.out; first | omega | exact Nat.le_refl _⟩, ⟨by (with_reducible repeat (first | refine blk_drewN ?_ _ | refine blk_drew ?_ | refine blk_alloc ?_ _)); refine blk_put (cs := #[.int .i64 ((rd_T48 l0 x4_1).f0), .int .i64 ((rd_T48 l0 x4_1).f1), .slice A137_2 ((rd_T48 l0 x4_1).f2).length c137_2, .int .i64 ((rd_T48 l0 x4_1).f3.f0), .int .i64 ((rd_T48 l0 x4_1).f3.f1), .int .i64 0]) ?_ 5 _ rfl; (with_reducible repeat (first | refine blk_drewN ?_ _ | refine blk_drew ?_ | refine blk_alloc ?_ _)); refine blk_put (cs := #[.int .i64 ((rd_T48 l0 x4_1).f0), .int .i64 ((rd_T48 l0 x4_1).f1), .slice A137_2 ((rd_T48 l0 x4_1).f2).length c137_2, .int .i64 ((rd_T48 l0 x4_1).f3.f0), .int .i64 0, .int .i64 0]) ?_ 4 _ rfl; (with_reducible repeat (first | refine blk_drewN ?_ _ | refine blk_drew ?_ | refine blk_alloc ?_ _)); refine blk_put (cs := #[.int .i64 ((rd_T48 l0 x4_1).f0), .int .i64 ((rd_T48 l0 x4_1).f1), .slice A137_2 ((rd_T48 l0 x4_1).f2).length c137_2, .int .i64 0, .int .i64 0, .int .i64 0]) ?_ 3 _ rfl; (with_reducible repeat (first | refine blk_drewN ?_ _ | refine blk_drew ?_ | refine blk_alloc ?_ _)); refine blk_put (cs := #[.int .i64 ((rd_T48 l0 x4_1).f0), .int .i64 ((rd_T48 l0 x4_1).f1), .slice none 0 0, .int .i64 0, .int .i64 0, .int .i64 0]) ?_ 2 _ rfl; (with_reducible repeat (first | refine blk_drewN ?_ _ | refine blk_drew ?_ | refine blk_alloc ?_ _)); refine blk_put (cs := #[.int .i64 ((rd_T48 l0 x4_1).f0), .int .i64 0, .slice none 0 0, .int .i64 0, .int .i64 0, .int .i64 0]) ?_ 1 _ rfl; (with_reducible repeat (first | refine blk_drewN ?_ _ | refine blk_drew ?_ | refine blk_alloc ?_ _)); refine blk_put (cs := #[.int .i64 0, .int .i64 0, .slice none 0 0, .int .i64 0, .int .i64 0, .int .i64 0]) ?_ 0 _ rfl; (with_reducible repeat (first | refine blk_drewN ?_ _ | refine blk_drew ?_ | refine blk_alloc ?_ _)); exact BK138.out⟩, ⟨by repeat (first | (with_reducible first | exact HB.out | apply below_alloc | apply pw_below_drewN | apply below_drew1 | refine below_set ?_ GE138.out) | exact HB.out)⟩⟩
            case rest =>
              clear HC5
              try clear c1
              try clear p1
              try clear q1
              try clear hx1
              try clear c2
              try clear c2b0
              try clear c2b1
              try clear p2
              try clear c3
              try clear c3b0
              try clear c4
              try clear c4b0
              try clear c8
              try clear c8b0
              try clear c10
              try clear c10b0
              try clear hcz11_0
              try clear hcz11_1
              try clear hcz11_2
              try clear hcz11_3
              try clear hcz11_4
              try clear hcz11_5
              try clear hcz12_0
              try clear hcz12_1
              try clear hcz12_2
              try clear hcz12_3
              try clear hcz12_4
              try clear hcz12_5
              try clear hcz7_0
              try clear hcz7_1
              try clear hcz7_2
              try clear hcz7_3
              try clear hcz7_4
              try clear hcz7_5
              try clear hcz9_0
              try clear hcz9_1
              try clear hcz9_2
              try clear hcz9_3
              try clear hcz9_4
              try clear hcz9_5
              try clear hfz11_0
              try clear hfz11_1
              try clear hfz11_2
              try clear hfz11_3
              try clear hfz11_4
              try clear hfz11_5
              try clear hfz12_0
              try clear hfz12_1
              try clear hfz12_2
              try clear hfz12_3
              try clear hfz12_4
              try clear hfz12_5
              try clear hfz7_0
              try clear hfz7_1
              try clear hfz7_2
              try clear hfz7_3
              try clear hfz7_4
              try clear hfz7_5
              try clear hfz9_0
              try clear hfz9_1
              try clear hfz9_2
              try clear hfz9_3
              try clear hfz9_4
              try clear hfz9_5
              try clear hx137_0
              try clear hx137_1
              try clear hx137_2
              try clear hx137_3
              try clear hx137_4
              try clear hx137_5
              try clear p137
              try clear p2
              try clear q137
              obtain ⟨kq, x32_4, rfl, HA, HJ4, BK138, HB⟩ := hcut
              cases kq with
              | zero => exact absurd HA.out (by simp [spec_EventsOk.j1])
              | succ kj4 =>
                have H := HA.out
                clear HA
                simp only [spec_EventsOk.j1] at H
                by_cases c13 : x32_4 = true
                · subst c13
                  have H1 : (some false) = some r := by rw [if_pos rfl] at H; exact H
                  clear H
                  have H := H1
                  clear H1
                  obtain rfl := Option.some.inj H
                  go_wp2
                  go_ret
                  exact ⟨by first | rfl | (simp [errW_none, errW_some] <;> rfl) | (simp [*, errW_none, errW_some] <;> rfl), by repeat (first | (with_reducible first | exact HB.out | apply below_alloc | apply pw_below_drewN | apply below_drew1 | refine below_set ?_ GE138.out) | exact HB.out)⟩
                · replace c13 := Bool.eq_false_iff.mpr c13
                  subst c13
                  have H1 : (if ((rd_T48 l0 x4_1).f0) = 2 then (if ((rd_T48 l0 x4_1).f1) < 1 then (spec_EventsOk.j2 kj4 l0 x3_1 x4_1 true ((rd_T48 l0 x4_1).f0) ((rd_T48 l0 x4_1).f1) ((rd_T48 l0 x4_1).f2) ((rd_T48 l0 x4_1).f3.f0) ((rd_T48 l0 x4_1).f3.f1) ((rd_T48 l0 x4_1).f3.f2)) else (spec_EventsOk.j2 kj4 l0 x3_1 x4_1 (decide (((rd_T48 l0 x4_1).f1) > x3_1)) ((rd_T48 l0 x4_1).f0) ((rd_T48 l0 x4_1).f1) ((rd_T48 l0 x4_1).f2) ((rd_T48 l0 x4_1).f3.f0) ((rd_T48 l0 x4_1).f3.f1) ((rd_T48 l0 x4_1).f3.f2))) else (if ((rd_T48 l0 x4_1).f1) = 0 then (spec_EventsOk.j2 kj4 l0 x3_1 x4_1 false ((rd_T48 l0 x4_1).f0) ((rd_T48 l0 x4_1).f1) ((rd_T48 l0 x4_1).f2) ((rd_T48 l0 x4_1).f3.f0) ((rd_T48 l0 x4_1).f3.f1) ((rd_T48 l0 x4_1).f3.f2)) else (spec_EventsOk.j2 kj4 l0 x3_1 x4_1 true ((rd_T48 l0 x4_1).f0) ((rd_T48 l0 x4_1).f1) ((rd_T48 l0 x4_1).f2) ((rd_T48 l0 x4_1).f3.f0) ((rd_T48 l0 x4_1).f3.f1) ((rd_T48 l0 x4_1).f3.f2)))) = some r := by rw [if_neg (show ¬ (false = true) by decide)] at H; exact H
                  clear H
                  have H := H1
                  clear H1
                  have HC14 := Aside0.mk H
                  clear H
                  go_upto_region 10 with (fail)
                  go_cut [56] (fun v56 wc => ∃ (kq : Nat) (x56_13 : Bool), v56 = .bool x56_13 ∧ Aside0 (spec_EventsOk.j2 kq l0 x3_1 x4_1 x56_13 ((rd_T48 l0 x4_1).f0) ((rd_T48 l0 x4_1).f1) ((rd_T48 l0 x4_1).f2) ((rd_T48 l0 x4_1).f3.f0) ((rd_T48 l0 x4_1).f3.f1) ((rd_T48 l0 x4_1).f3.f2) = some r) ∧ Aside0 (kq ≤ kj4) ∧ Aside0 (wc.heap[gb138]? = some (.cells #[.int .i64 ((rd_T48 l0 x4_1).f0), .int .i64 ((rd_T48 l0 x4_1).f1), (.slice A137_2 ((rd_T48 l0 x4_1).f2).length c137_2), .int .i64 ((rd_T48 l0 x4_1).f3.f0), .int .i64 ((rd_T48 l0 x4_1).f3.f1), .int .i64 ((rd_T48 l0 x4_1).f3.f2)] 48 (0, 0))) ∧ Aside0 (Below w.heap.size w wc))
                  case first =>
                    have H := HC14.out
                    clear HC14
                    by_cases c15 : ((rd_T48 l0 x4_1).f0) = 2
                    · rw [if_pos c15] at H
                      have c15b0 : (((rd_T48 l0 x4_1).f0) == 2) = true := beq_iff_eq.mpr c15
                      have c15b1 : (((rd_T48 l0 x4_1).f0) != 2) = false := bne_eq_false_iff_eq.mpr c15
                      clear c15
                      (first | rw [c15b0] | (simp only [i64_w, i32_w]; rw [c15b0]) | skip)
                      by_cases c16 : ((rd_T48 l0 x4_1).f1) < 1
                      · rw [if_pos c16] at H
                        have c16b0 : decide (((rd_T48 l0 x4_1).f1) < 1) = true := decide_eq_true c16
                        clear c16
                        have H' := Aside0.mk H
                        clear H
                        have hcz17_0 : wc.cell? ⟨gb138, 0, none⟩ = some (.int .i64 ((rd_T48 l0 x4_1).f0)) := (blk_cell BK138.out 0).trans rfl
                        have hcz17_1 : wc.cell? ⟨gb138, 1, none⟩ = some (.int .i64 ((rd_T48 l0 x4_1).f1)) := (blk_cell BK138.out 1).trans rfl
                        have hcz17_2 : wc.cell? ⟨gb138, 2, none⟩ = some (.slice A137_2 ((rd_T48 l0 x4_1).f2).length c137_2) := (blk_cell BK138.out 2).trans rfl
                        have hcz17_3 : wc.cell? ⟨gb138, 3, none⟩ = some (.int .i64 ((rd_T48 l0 x4_1).f3.f0)) := (blk_cell BK138.out 3).trans rfl
                        have hcz17_4 : wc.cell? ⟨gb138, 4, none⟩ = some (.int .i64 ((rd_T48 l0 x4_1).f3.f1)) := (blk_cell BK138.out 4).trans rfl
                        have hcz17_5 : wc.cell? ⟨gb138, 5, none⟩ = some (.int .i64 ((rd_T48 l0 x4_1).f3.f2)) := (blk_cell BK138.out 5).trans rfl
                        have hfz17_0 := blk_frozen BK138.out 0
                        have hfz17_1 := blk_frozen BK138.out 1
                        have hfz17_2 := blk_frozen BK138.out 2
                        have hfz17_3 := blk_frozen BK138.out 3
                        have hfz17_4 := blk_frozen BK138.out 4
                        have hfz17_5 := blk_frozen BK138.out 5
                        go_wp2
                        go_meet
                        case rel => exact ⟨_, (true), (by first | rfl | (simp; done) | (simp [*]; done)), H', ⟨by have := HK1.out; have := HJ4.out; first | omega | exact Nat.le_refl _⟩, ⟨by (with_reducible repeat (first | refine blk_drewN ?_ _ | refine blk_drew ?_ | refine blk_alloc ?_ _)); exact BK138.out⟩, ⟨by repeat (first | (with_reducible first | exact HB.out | apply below_alloc | apply pw_below_drewN | apply below_drew1 | refine below_set ?_ GE138.out) | exact HB.out)⟩⟩
                      · rw [if_neg c16] at H
                        have c16b0 : decide (((rd_T48 l0 x4_1).f1) < 1) = false := decide_eq_false c16
                        clear c16
                        have H' := Aside0.mk H
                        clear H
                        have hcz18_0 : wc.cell? ⟨gb138, 0, none⟩ = some (.int .i64 ((rd_T48 l0 x4_1).f0)) := (blk_cell BK138.out 0).trans rfl
                        have hcz18_1 : wc.cell? ⟨gb138, 1, none⟩ = some (.int .i64 ((rd_T48 l0 x4_1).f1)) := (blk_cell BK138.out 1).trans rfl
                        have hcz18_2 : wc.cell? ⟨gb138, 2, none⟩ = some (.slice A137_2 ((rd_T48 l0 x4_1).f2).length c137_2) := (blk_cell BK138.out 2).trans rfl
                        have hcz18_3 : wc.cell? ⟨gb138, 3, none⟩ = some (.int .i64 ((rd_T48 l0 x4_1).f3.f0)) := (blk_cell BK138.out 3).trans rfl
                        have hcz18_4 : wc.cell? ⟨gb138, 4, none⟩ = some (.int .i64 ((rd_T48 l0 x4_1).f3.f1)) := (blk_cell BK138.out 4).trans rfl
                        have hcz18_5 : wc.cell? ⟨gb138, 5, none⟩ = some (.int .i64 ((rd_T48 l0 x4_1).f3.f2)) := (blk_cell BK138.out 5).trans rfl
                        have hfz18_0 := blk_frozen BK138.out 0
                        have hfz18_1 := blk_frozen BK138.out 1
                        have hfz18_2 := blk_frozen BK138.out 2
                        have hfz18_3 := blk_frozen BK138.out 3
                        have hfz18_4 := blk_frozen BK138.out 4
                        have hfz18_5 := blk_frozen BK138.out 5
                        go_wp2
                        go_meet
                        case rel => exact ⟨_, (decide (((rd_T48 l0 x4_1).f1) > x3_1)), (by first | rfl | (simp; done) | (simp [*]; done)), H', ⟨by have := HK1.out; have := HJ4.out; first | omega | exact Nat.le_refl _⟩, ⟨by (with_reducible repeat (first | refine blk_drewN ?_ _ | refine blk_drew ?_ | refine blk_alloc ?_ _)); exact BK138.out⟩, ⟨by repeat (first | (with_reducible first | exact HB.out | apply below_alloc | apply pw_below_drewN | apply below_drew1 | refine below_set ?_ GE138.out) | exact HB.out)⟩⟩
                    · rw [if_neg c15] at H
                      have c15b0 : (((rd_T48 l0 x4_1).f0) == 2) = false := beq_eq_false_iff_ne.mpr c15
                      have c15b1 : (((rd_T48 l0 x4_1).f0) != 2) = true := bne_iff_ne.mpr c15
                      (first | rw [c15b0] | (simp only [i64_w, i32_w]; rw [c15b0]) | skip)
                      by_cases c19 : ((rd_T48 l0 x4_1).f1) = 0
                      · rw [if_pos c19] at H
                        have c19b0 : (((rd_T48 l0 x4_1).f1) == 0) = true := beq_iff_eq.mpr c19
                        have c19b1 : (((rd_T48 l0 x4_1).f1) != 0) = false := bne_eq_false_iff_eq.mpr c19
                        clear c19
                        have H' := Aside0.mk H
                        clear H
                        have hcz20_0 : wc.cell? ⟨gb138, 0, none⟩ = some (.int .i64 ((rd_T48 l0 x4_1).f0)) := (blk_cell BK138.out 0).trans rfl
                        have hcz20_1 : wc.cell? ⟨gb138, 1, none⟩ = some (.int .i64 ((rd_T48 l0 x4_1).f1)) := (blk_cell BK138.out 1).trans rfl
                        have hcz20_2 : wc.cell? ⟨gb138, 2, none⟩ = some (.slice A137_2 ((rd_T48 l0 x4_1).f2).length c137_2) := (blk_cell BK138.out 2).trans rfl
                        have hcz20_3 : wc.cell? ⟨gb138, 3, none⟩ = some (.int .i64 ((rd_T48 l0 x4_1).f3.f0)) := (blk_cell BK138.out 3).trans rfl
                        have hcz20_4 : wc.cell? ⟨gb138, 4, none⟩ = some (.int .i64 ((rd_T48 l0 x4_1).f3.f1)) := (blk_cell BK138.out 4).trans rfl
                        have hcz20_5 : wc.cell? ⟨gb138, 5, none⟩ = some (.int .i64 ((rd_T48 l0 x4_1).f3.f2)) := (blk_cell BK138.out 5).trans rfl
                        have hfz20_0 := blk_frozen BK138.out 0
                        have hfz20_1 := blk_frozen BK138.out 1
                        have hfz20_2 := blk_frozen BK138.out 2
                        have hfz20_3 := blk_frozen BK138.out 3
                        have hfz20_4 := blk_frozen BK138.out 4
                        have hfz20_5 := blk_frozen BK138.out 5
                        go_wp2
                        go_meet
                        case rel => exact ⟨_, (false), (by first | rfl | (simp; done) | (simp [*]; done)), H', ⟨by have := HK1.out; have := HJ4.out; first | omega | exact Nat.le_refl _⟩, ⟨by (with_reducible repeat (first | refine blk_drewN ?_ _ | refine blk_drew ?_ | refine blk_alloc ?_ _)); exact BK138.out⟩, ⟨by repeat (first | (with_reducible first | exact HB.out | apply below_alloc | apply pw_below_drewN | apply below_drew1 | refine below_set ?_ GE138.out) | exact HB.out)⟩⟩
                      · rw [if_neg c19] at H
                        have c19b0 : (((rd_T48 l0 x4_1).f1) == 0) = false := beq_eq_false_iff_ne.mpr c19
                        have c19b1 : (((rd_T48 l0 x4_1).f1) != 0) = true := bne_iff_ne.mpr c19
                        have H' := Aside0.mk H
                        clear H
                        have hcz21_0 : wc.cell? ⟨gb138, 0, none⟩ = some (.int .i64 ((rd_T48 l0 x4_1).f0)) := (blk_cell BK138.out 0).trans rfl
                        have hcz21_1 : wc.cell? ⟨gb138, 1, none⟩ = some (.int .i64 ((rd_T48 l0 x4_1).f1)) := (blk_cell BK138.out 1).trans rfl
                        have hcz21_2 : wc.cell? ⟨gb138, 2, none⟩ = some (.slice A137_2 ((rd_T48 l0 x4_1).f2).length c137_2) := (blk_cell BK138.out 2).trans rfl
                        have hcz21_3 : wc.cell? ⟨gb138, 3, none⟩ = some (.int .i64 ((rd_T48 l0 x4_1).f3.f0)) := (blk_cell BK138.out 3).trans rfl
                        have hcz21_4 : wc.cell? ⟨gb138, 4, none⟩ = some (.int .i64 ((rd_T48 l0 x4_1).f3.f1)) := (blk_cell BK138.out 4).trans rfl
                        have hcz21_5 : wc.cell? ⟨gb138, 5, none⟩ = some (.int .i64 ((rd_T48 l0 x4_1).f3.f2)) := (blk_cell BK138.out 5).trans rfl
                        have hfz21_0 := blk_frozen BK138.out 0
                        have hfz21_1 := blk_frozen BK138.out 1
                        have hfz21_2 := blk_frozen BK138.out 2
                        have hfz21_3 := blk_frozen BK138.out 3
                        have hfz21_4 := blk_frozen BK138.out 4
                        have hfz21_5 := blk_frozen BK138.out 5
                        go_wp2
                        go_meet
                        case rel => exact ⟨_, (true), (by first | rfl | (simp; done) | (simp [*]; done)), H', ⟨by have := HK1.out; have := HJ4.out; first | omega | exact Nat.le_refl _⟩, ⟨by (with_reducible repeat (first | refine blk_drewN ?_ _ | refine blk_drew ?_ | refine blk_alloc ?_ _)); exact BK138.out⟩, ⟨by repeat (first | (with_reducible first | exact HB.out | apply below_alloc | apply pw_below_drewN | apply below_drew1 | refine below_set ?_ GE138.out) | exact HB.out)⟩⟩
                  case rest =>
                    clear HC14
                    try clear c1
                    try clear p1
                    try clear q1
                    try clear hx1
                    try clear c2
                    try clear c2b0
                    try clear c2b1
                    try clear p2
                    try clear c3
                    try clear c3b0
                    try clear c4
                    try clear c4b0
                    try clear c8
                    try clear c8b0
                    try clear c10
                    try clear c10b0
                    try clear c13
                    try clear p13
                    try clear q13
                    try clear hx13
                    try clear c15
                    try clear c15b0
                    try clear c15b1
                    try clear c16
                    try clear c16b0
                    try clear c19
                    try clear c19b0
                    try clear c19b1
                    try clear hcz11_0
                    try clear hcz11_1
                    try clear hcz11_2
                    try clear hcz11_3
                    try clear hcz11_4
                    try clear hcz11_5
                    try clear hcz12_0
                    try clear hcz12_1
                    try clear hcz12_2
                    try clear hcz12_3
                    try clear hcz12_4
                    try clear hcz12_5
                    try clear hcz17_0
                    try clear hcz17_1
                    try clear hcz17_2
                    try clear hcz17_3
                    try clear hcz17_4
                    try clear hcz17_5
                    try clear hcz18_0
                    try clear hcz18_1
                    try clear hcz18_2
                    try clear hcz18_3
                    try clear hcz18_4
                    try clear hcz18_5
                    try clear hcz20_0
                    try clear hcz20_1
                    try clear hcz20_2
                    try clear hcz20_3
                    try clear hcz20_4
                    try clear hcz20_5
                    try clear hcz21_0
                    try clear hcz21_1
                    try clear hcz21_2
                    try clear hcz21_3
                    try clear hcz21_4
                    try clear hcz21_5
                    try clear hcz7_0
                    try clear hcz7_1
                    try clear hcz7_2
                    try clear hcz7_3
                    try clear hcz7_4
                    try clear hcz7_5
                    try clear hcz9_0
                    try clear hcz9_1
                    try clear hcz9_2
                    try clear hcz9_3
                    try clear hcz9_4
                    try clear hcz9_5
                    try clear hfz11_0
                    try clear hfz11_1
                    try clear hfz11_2
                    try clear hfz11_3
                    try clear hfz11_4
                    try clear hfz11_5
                    try clear hfz12_0
                    try clear hfz12_1
                    try clear hfz12_2
                    try clear hfz12_3
                    try clear hfz12_4
                    try clear hfz12_5
                    try clear hfz17_0
                    try clear hfz17_1
                    try clear hfz17_2
                    try clear hfz17_3
                    try clear hfz17_4
                    try clear hfz17_5
                    try clear hfz18_0
                    try clear hfz18_1
                    try clear hfz18_2
                    try clear hfz18_3
                    try clear hfz18_4
                    try clear hfz18_5
                    try clear hfz20_0
                    try clear hfz20_1
                    try clear hfz20_2
                    try clear hfz20_3
                    try clear hfz20_4
                    try clear hfz20_5
                    try clear hfz21_0
                    try clear hfz21_1
                    try clear hfz21_2
                    try clear hfz21_3
                    try clear hfz21_4
                    try clear hfz21_5
                    try clear hfz7_0
                    try clear hfz7_1
                    try clear hfz7_2
                    try clear hfz7_3
                    try clear hfz7_4
                    try clear hfz7_5
                    try clear hfz9_0
                    try clear hfz9_1
                    try clear hfz9_2
                    try clear hfz9_3
                    try clear hfz9_4
                    try clear hfz9_5
                    try clear hx137_0
                    try clear hx137_1
                    try clear hx137_2
                    try clear hx137_3
                    try clear hx137_4
                    try clear hx137_5
                    try clear p1
                    try clear p137
                    try clear p2
                    try clear q1
                    try clear q137
                    obtain ⟨kq, x56_13, rfl, HA, HJ13, BK138, HB⟩ := hcut
                    cases kq with
                    | zero => exact absurd HA.out (by simp [spec_EventsOk.j2])
                    | succ kj13 =>
                      have H := HA.out
                      clear HA
                      simp only [spec_EventsOk.j2] at H
                      by_cases c22 : x56_13 = true
                      · subst c22
                        have H1 : (some false) = some r := by rw [if_pos rfl] at H; exact H
                        clear H
                        have H := H1
                        clear H1
                        obtain rfl := Option.some.inj H
                        go_wp2
                        go_ret
                        exact ⟨by first | rfl | (simp [errW_none, errW_some] <;> rfl) | (simp [*, errW_none, errW_some] <;> rfl), by repeat (first | (with_reducible first | exact HB.out | apply below_alloc | apply pw_below_drewN | apply below_drew1 | refine below_set ?_ GE138.out) | exact HB.out)⟩
                      · replace c22 := Bool.eq_false_iff.mpr c22
                        subst c22
                        have H1 : (if ((rd_T48 l0 x4_1).f0) = 1 then (if ((rd_T48 l0 x4_1).f0) = 2 then (if (((rd_T48 l0 x4_1).f2).length : Int) > 0 then (some false) else (spec_EventsOk.l0 kj13 l0 (wrap64 (x3_1 - ((rd_T48 l0 x4_1).f1))) (wrap64 (x4_1 + 1)))) else (if ((rd_T48 l0 x4_1).f0) = 4 then (if (((rd_T48 l0 x4_1).f2).length : Int) > 0 then (some false) else (spec_EventsOk.l0 kj13 l0 (wrap64 (x3_1 - ((rd_T48 l0 x4_1).f1))) (wrap64 (x4_1 + 1)))) else (spec_EventsOk.l0 kj13 l0 (wrap64 (x3_1 - ((rd_T48 l0 x4_1).f1))) (wrap64 (x4_1 + 1))))) else (if (!(((rd_T48 l0 x4_1).f3.f0) == 0) || (!(((rd_T48 l0 x4_1).f3.f1) == 0) || (!(((rd_T48 l0 x4_1).f3.f2) == 0)))) = true then (some false) else (if ((rd_T48 l0 x4_1).f0) = 2 then (if (((rd_T48 l0 x4_1).f2).length : Int) > 0 then (some false) else (spec_EventsOk.l0 kj13 l0 (wrap64 (x3_1 - ((rd_T48 l0 x4_1).f1))) (wrap64 (x4_1 + 1)))) else (if ((rd_T48 l0 x4_1).f0) = 4 then (if (((rd_T48 l0 x4_1).f2).length : Int) > 0 then (some false) else (spec_EventsOk.l0 kj13 l0 (wrap64 (x3_1 - ((rd_T48 l0 x4_1).f1))) (wrap64 (x4_1 + 1)))) else (spec_EventsOk.l0 kj13 l0 (wrap64 (x3_1 - ((rd_T48 l0 x4_1).f1))) (wrap64 (x4_1 + 1))))))) = some r := by rw [if_neg (show ¬ (false = true) by decide)] at H; exact H
                        clear H
                        have H := H1
                        clear H1
                        by_cases c23 : ((rd_T48 l0 x4_1).f0) = 1
                        · rw [if_pos c23] at H
                          have c23b0 : (((rd_T48 l0 x4_1).f0) == 1) = true := beq_iff_eq.mpr c23
                          have c23b1 : (((rd_T48 l0 x4_1).f0) != 1) = false := bne_eq_false_iff_eq.mpr c23
                          clear c23
                          by_cases c24 : ((rd_T48 l0 x4_1).f0) = 2
                          · rw [if_pos c24] at H
                            have c24b0 : (((rd_T48 l0 x4_1).f0) == 2) = true := beq_iff_eq.mpr c24
                            have c24b1 : (((rd_T48 l0 x4_1).f0) != 2) = false := bne_eq_false_iff_eq.mpr c24
                            clear c24
                            by_cases c25 : (((rd_T48 l0 x4_1).f2).length : Int) > 0
                            · rw [if_pos c25] at H
                              have c25b0 : decide (0 < (((rd_T48 l0 x4_1).f2).length : Int)) = true := decide_eq_true c25
                              have c25b1 : decide (0 < ((rd_T48 l0 x4_1).f2).length) = true := decide_eq_true (by omega)
                              clear c25
                              obtain rfl := Option.some.inj H
                              have hcz26_0 : wc.cell? ⟨gb138, 0, none⟩ = some (.int .i64 ((rd_T48 l0 x4_1).f0)) := (blk_cell BK138.out 0).trans rfl
                              have hcz26_1 : wc.cell? ⟨gb138, 1, none⟩ = some (.int .i64 ((rd_T48 l0 x4_1).f1)) := (blk_cell BK138.out 1).trans rfl
                              have hcz26_2 : wc.cell? ⟨gb138, 2, none⟩ = some (.slice A137_2 ((rd_T48 l0 x4_1).f2).length c137_2) := (blk_cell BK138.out 2).trans rfl
                              have hcz26_3 : wc.cell? ⟨gb138, 3, none⟩ = some (.int .i64 ((rd_T48 l0 x4_1).f3.f0)) := (blk_cell BK138.out 3).trans rfl
                              have hcz26_4 : wc.cell? ⟨gb138, 4, none⟩ = some (.int .i64 ((rd_T48 l0 x4_1).f3.f1)) := (blk_cell BK138.out 4).trans rfl
                              have hcz26_5 : wc.cell? ⟨gb138, 5, none⟩ = some (.int .i64 ((rd_T48 l0 x4_1).f3.f2)) := (blk_cell BK138.out 5).trans rfl
                              have hfz26_0 := blk_frozen BK138.out 0
                              have hfz26_1 := blk_frozen BK138.out 1
                              have hfz26_2 := blk_frozen BK138.out 2
                              have hfz26_3 := blk_frozen BK138.out 3
                              have hfz26_4 := blk_frozen BK138.out 4
                              have hfz26_5 := blk_frozen BK138.out 5
                              go_wp2
                              go_ret
                              exact ⟨by first | rfl | (simp [errW_none, errW_some] <;> rfl) | (simp [*, errW_none, errW_some] <;> rfl), by repeat (first | (with_reducible first | exact HB.out | apply below_alloc | apply pw_below_drewN | apply below_drew1 | refine below_set ?_ GE138.out) | exact HB.out)⟩
                            · rw [if_neg c25] at H
                              have c25b0 : decide (0 < (((rd_T48 l0 x4_1).f2).length : Int)) = false := decide_eq_false c25
                              have c25b1 : decide (0 < ((rd_T48 l0 x4_1).f2).length) = false := decide_eq_false (by omega)
                              clear c25
                              have H' := Aside0.mk H
                              clear H
                              have hcz27_0 : wc.cell? ⟨gb138, 0, none⟩ = some (.int .i64 ((rd_T48 l0 x4_1).f0)) := (blk_cell BK138.out 0).trans rfl
                              have hcz27_1 : wc.cell? ⟨gb138, 1, none⟩ = some (.int .i64 ((rd_T48 l0 x4_1).f1)) := (blk_cell BK138.out 1).trans rfl
                              have hcz27_2 : wc.cell? ⟨gb138, 2, none⟩ = some (.slice A137_2 ((rd_T48 l0 x4_1).f2).length c137_2) := (blk_cell BK138.out 2).trans rfl
                              have hcz27_3 : wc.cell? ⟨gb138, 3, none⟩ = some (.int .i64 ((rd_T48 l0 x4_1).f3.f0)) := (blk_cell BK138.out 3).trans rfl
                              have hcz27_4 : wc.cell? ⟨gb138, 4, none⟩ = some (.int .i64 ((rd_T48 l0 x4_1).f3.f1)) := (blk_cell BK138.out 4).trans rfl
                              have hcz27_5 : wc.cell? ⟨gb138, 5, none⟩ = some (.int .i64 ((rd_T48 l0 x4_1).f3.f2)) := (blk_cell BK138.out 5).trans rfl
                              have hfz27_0 := blk_frozen BK138.out 0
                              have hfz27_1 := blk_frozen BK138.out 1
                              have hfz27_2 := blk_frozen BK138.out 2
                              have hfz27_3 := blk_frozen BK138.out 3
                              have hfz27_4 := blk_frozen BK138.out 4
                              have hfz27_5 := blk_frozen BK138.out 5
                              go_wp2
                              go_roundg kj13
                              case measure => have := HK1.out; have := HJ4.out; have := HJ13.out; omega
                              case rel => exact ⟨(wrap64 (x3_1 - ((rd_T48 l0 x4_1).f1))), (wrap64 (x4_1 + 1)), (by first | rfl | (simp; done) | (simp [*]; done)), (by first | rfl | (simp; done) | (simp [*]; done)), H', ⟨by have := HK1.out; have := HJ4.out; have := HJ13.out; omega⟩, ⟨by repeat (first | (with_reducible first | exact HB.out | apply below_alloc | apply pw_below_drewN | apply below_drew1 | refine below_set ?_ GE138.out) | exact HB.out)⟩⟩
                          · rw [if_neg c24] at H
                            have c24b0 : (((rd_T48 l0 x4_1).f0) == 2) = false := beq_eq_false_iff_ne.mpr c24
                            have c24b1 : (((rd_T48 l0 x4_1).f0) != 2) = true := bne_iff_ne.mpr c24
                            by_cases c28 : ((rd_T48 l0 x4_1).f0) = 4
                            · rw [if_pos c28] at H
                              have c28b0 : (((rd_T48 l0 x4_1).f0) == 4) = true := beq_iff_eq.mpr c28
                              have c28b1 : (((rd_T48 l0 x4_1).f0) != 4) = false := bne_eq_false_iff_eq.mpr c28
                              clear c28
                              by_cases c29 : (((rd_T48 l0 x4_1).f2).length : Int) > 0
                              · rw [if_pos c29] at H
                                have c29b0 : decide (0 < (((rd_T48 l0 x4_1).f2).length : Int)) = true := decide_eq_true c29
                                have c29b1 : decide (0 < ((rd_T48 l0 x4_1).f2).length) = true := decide_eq_true (by omega)
                                clear c29
                                obtain rfl := Option.some.inj H
                                have hcz30_0 : wc.cell? ⟨gb138, 0, none⟩ = some (.int .i64 ((rd_T48 l0 x4_1).f0)) := (blk_cell BK138.out 0).trans rfl
                                have hcz30_1 : wc.cell? ⟨gb138, 1, none⟩ = some (.int .i64 ((rd_T48 l0 x4_1).f1)) := (blk_cell BK138.out 1).trans rfl
                                have hcz30_2 : wc.cell? ⟨gb138, 2, none⟩ = some (.slice A137_2 ((rd_T48 l0 x4_1).f2).length c137_2) := (blk_cell BK138.out 2).trans rfl
                                have hcz30_3 : wc.cell? ⟨gb138, 3, none⟩ = some (.int .i64 ((rd_T48 l0 x4_1).f3.f0)) := (blk_cell BK138.out 3).trans rfl
                                have hcz30_4 : wc.cell? ⟨gb138, 4, none⟩ = some (.int .i64 ((rd_T48 l0 x4_1).f3.f1)) := (blk_cell BK138.out 4).trans rfl
                                have hcz30_5 : wc.cell? ⟨gb138, 5, none⟩ = some (.int .i64 ((rd_T48 l0 x4_1).f3.f2)) := (blk_cell BK138.out 5).trans rfl
                                have hfz30_0 := blk_frozen BK138.out 0
                                have hfz30_1 := blk_frozen BK138.out 1
                                have hfz30_2 := blk_frozen BK138.out 2
                                have hfz30_3 := blk_frozen BK138.out 3
                                have hfz30_4 := blk_frozen BK138.out 4
                                have hfz30_5 := blk_frozen BK138.out 5
                                go_wp2
                                go_ret
                                exact ⟨by first | rfl | (simp [errW_none, errW_some] <;> rfl) | (simp [*, errW_none, errW_some] <;> rfl), by repeat (first | (with_reducible first | exact HB.out | apply below_alloc | apply pw_below_drewN | apply below_drew1 | refine below_set ?_ GE138.out) | exact HB.out)⟩
                              · rw [if_neg c29] at H
                                have c29b0 : decide (0 < (((rd_T48 l0 x4_1).f2).length : Int)) = false := decide_eq_false c29
                                have c29b1 : decide (0 < ((rd_T48 l0 x4_1).f2).length) = false := decide_eq_false (by omega)
                                clear c29
                                have H' := Aside0.mk H
                                clear H
                                have hcz31_0 : wc.cell? ⟨gb138, 0, none⟩ = some (.int .i64 ((rd_T48 l0 x4_1).f0)) := (blk_cell BK138.out 0).trans rfl
                                have hcz31_1 : wc.cell? ⟨gb138, 1, none⟩ = some (.int .i64 ((rd_T48 l0 x4_1).f1)) := (blk_cell BK138.out 1).trans rfl
                                have hcz31_2 : wc.cell? ⟨gb138, 2, none⟩ = some (.slice A137_2 ((rd_T48 l0 x4_1).f2).length c137_2) := (blk_cell BK138.out 2).trans rfl
                                have hcz31_3 : wc.cell? ⟨gb138, 3, none⟩ = some (.int .i64 ((rd_T48 l0 x4_1).f3.f0)) := (blk_cell BK138.out 3).trans rfl
                                have hcz31_4 : wc.cell? ⟨gb138, 4, none⟩ = some (.int .i64 ((rd_T48 l0 x4_1).f3.f1)) := (blk_cell BK138.out 4).trans rfl
                                have hcz31_5 : wc.cell? ⟨gb138, 5, none⟩ = some (.int .i64 ((rd_T48 l0 x4_1).f3.f2)) := (blk_cell BK138.out 5).trans rfl
                                have hfz31_0 := blk_frozen BK138.out 0
                                have hfz31_1 := blk_frozen BK138.out 1
                                have hfz31_2 := blk_frozen BK138.out 2
                                have hfz31_3 := blk_frozen BK138.out 3
                                have hfz31_4 := blk_frozen BK138.out 4
                                have hfz31_5 := blk_frozen BK138.out 5
                                go_wp2
                                go_roundg kj13
                                case measure => have := HK1.out; have := HJ4.out; have := HJ13.out; omega
                                case rel => exact ⟨(wrap64 (x3_1 - ((rd_T48 l0 x4_1).f1))), (wrap64 (x4_1 + 1)), (by first | rfl | (simp; done) | (simp [*]; done)), (by first | rfl | (simp; done) | (simp [*]; done)), H', ⟨by have := HK1.out; have := HJ4.out; have := HJ13.out; omega⟩, ⟨by repeat (first | (with_reducible first | exact HB.out | apply below_alloc | apply pw_below_drewN | apply below_drew1 | refine below_set ?_ GE138.out) | exact HB.out)⟩⟩
                            · rw [if_neg c28] at H
                              have c28b0 : (((rd_T48 l0 x4_1).f0) == 4) = false := beq_eq_false_iff_ne.mpr c28
                              have c28b1 : (((rd_T48 l0 x4_1).f0) != 4) = true := bne_iff_ne.mpr c28
                              have H' := Aside0.mk H
                              clear H
                              have hcz32_0 : wc.cell? ⟨gb138, 0, none⟩ = some (.int .i64 ((rd_T48 l0 x4_1).f0)) := (blk_cell BK138.out 0).trans rfl
                              have hcz32_1 : wc.cell? ⟨gb138, 1, none⟩ = some (.int .i64 ((rd_T48 l0 x4_1).f1)) := (blk_cell BK138.out 1).trans rfl
                              have hcz32_2 : wc.cell? ⟨gb138, 2, none⟩ = some (.slice A137_2 ((rd_T48 l0 x4_1).f2).length c137_2) := (blk_cell BK138.out 2).trans rfl
                              have hcz32_3 : wc.cell? ⟨gb138, 3, none⟩ = some (.int .i64 ((rd_T48 l0 x4_1).f3.f0)) := (blk_cell BK138.out 3).trans rfl
                              have hcz32_4 : wc.cell? ⟨gb138, 4, none⟩ = some (.int .i64 ((rd_T48 l0 x4_1).f3.f1)) := (blk_cell BK138.out 4).trans rfl
                              have hcz32_5 : wc.cell? ⟨gb138, 5, none⟩ = some (.int .i64 ((rd_T48 l0 x4_1).f3.f2)) := (blk_cell BK138.out 5).trans rfl
                              have hfz32_0 := blk_frozen BK138.out 0
                              have hfz32_1 := blk_frozen BK138.out 1
                              have hfz32_2 := blk_frozen BK138.out 2
                              have hfz32_3 := blk_frozen BK138.out 3
                              have hfz32_4 := blk_frozen BK138.out 4
                              have hfz32_5 := blk_frozen BK138.out 5
                              go_wp2
                              go_roundg kj13
                              case measure => have := HK1.out; have := HJ4.out; have := HJ13.out; omega
                              case rel => exact ⟨(wrap64 (x3_1 - ((rd_T48 l0 x4_1).f1))), (wrap64 (x4_1 + 1)), (by first | rfl | (simp; done) | (simp [*]; done)), (by first | rfl | (simp; done) | (simp [*]; done)), H', ⟨by have := HK1.out; have := HJ4.out; have := HJ13.out; omega⟩, ⟨by repeat (first | (with_reducible first | exact HB.out | apply below_alloc | apply pw_below_drewN | apply below_drew1 | refine below_set ?_ GE138.out) | exact HB.out)⟩⟩
                        · rw [if_neg c23] at H
                          have c23b0 : (((rd_T48 l0 x4_1).f0) == 1) = false := beq_eq_false_iff_ne.mpr c23
                          have c23b1 : (((rd_T48 l0 x4_1).f0) != 1) = true := bne_iff_ne.mpr c23
                          by_cases c33 : (!(((rd_T48 l0 x4_1).f3.f0) == 0) || (!(((rd_T48 l0 x4_1).f3.f1) == 0) || (!(((rd_T48 l0 x4_1).f3.f2) == 0)))) = true
                          · rw [if_pos c33] at H
                            have c33b0 : (!(((rd_T48 l0 x4_1).f3.f0) == 0) || (!(((rd_T48 l0 x4_1).f3.f1) == 0) || (!(((rd_T48 l0 x4_1).f3.f2) == 0)))) = true := c33
                            clear c33
                            obtain rfl := Option.some.inj H
                            have hcz34_0 : wc.cell? ⟨gb138, 0, none⟩ = some (.int .i64 ((rd_T48 l0 x4_1).f0)) := (blk_cell BK138.out 0).trans rfl
                            have hcz34_1 : wc.cell? ⟨gb138, 1, none⟩ = some (.int .i64 ((rd_T48 l0 x4_1).f1)) := (blk_cell BK138.out 1).trans rfl
                            have hcz34_2 : wc.cell? ⟨gb138, 2, none⟩ = some (.slice A137_2 ((rd_T48 l0 x4_1).f2).length c137_2) := (blk_cell BK138.out 2).trans rfl
                            have hcz34_3 : wc.cell? ⟨gb138, 3, none⟩ = some (.int .i64 ((rd_T48 l0 x4_1).f3.f0)) := (blk_cell BK138.out 3).trans rfl
                            have hcz34_4 : wc.cell? ⟨gb138, 4, none⟩ = some (.int .i64 ((rd_T48 l0 x4_1).f3.f1)) := (blk_cell BK138.out 4).trans rfl
                            have hcz34_5 : wc.cell? ⟨gb138, 5, none⟩ = some (.int .i64 ((rd_T48 l0 x4_1).f3.f2)) := (blk_cell BK138.out 5).trans rfl
                            have hfz34_0 := blk_frozen BK138.out 0
                            have hfz34_1 := blk_frozen BK138.out 1
                            have hfz34_2 := blk_frozen BK138.out 2
                            have hfz34_3 := blk_frozen BK138.out 3
                            have hfz34_4 := blk_frozen BK138.out 4
                            have hfz34_5 := blk_frozen BK138.out 5
                            go_wp2
                            go_ret
                            exact ⟨by first | rfl | (simp [errW_none, errW_some] <;> rfl) | (simp [*, errW_none, errW_some] <;> rfl), by repeat (first | (with_reducible first | exact HB.out | apply below_alloc | apply pw_below_drewN | apply below_drew1 | refine below_set ?_ GE138.out) | exact HB.out)⟩
                          · rw [if_neg c33] at H
                            have c33b0 : (!(((rd_T48 l0 x4_1).f3.f0) == 0) || (!(((rd_T48 l0 x4_1).f3.f1) == 0) || (!(((rd_T48 l0 x4_1).f3.f2) == 0)))) = false := by simpa using c33
                            clear c33
                            by_cases c35 : ((rd_T48 l0 x4_1).f0) = 2
                            · rw [if_pos c35] at H
                              have c35b0 : (((rd_T48 l0 x4_1).f0) == 2) = true := beq_iff_eq.mpr c35
                              have c35b1 : (((rd_T48 l0 x4_1).f0) != 2) = false := bne_eq_false_iff_eq.mpr c35
                              clear c35
                              by_cases c36 : (((rd_T48 l0 x4_1).f2).length : Int) > 0
                              · rw [if_pos c36] at H
                                have c36b0 : decide (0 < (((rd_T48 l0 x4_1).f2).length : Int)) = true := decide_eq_true c36
                                have c36b1 : decide (0 < ((rd_T48 l0 x4_1).f2).length) = true := decide_eq_true (by omega)
                                clear c36
                                obtain rfl := Option.some.inj H
                                have hcz37_0 : wc.cell? ⟨gb138, 0, none⟩ = some (.int .i64 ((rd_T48 l0 x4_1).f0)) := (blk_cell BK138.out 0).trans rfl
                                have hcz37_1 : wc.cell? ⟨gb138, 1, none⟩ = some (.int .i64 ((rd_T48 l0 x4_1).f1)) := (blk_cell BK138.out 1).trans rfl
                                have hcz37_2 : wc.cell? ⟨gb138, 2, none⟩ = some (.slice A137_2 ((rd_T48 l0 x4_1).f2).length c137_2) := (blk_cell BK138.out 2).trans rfl
                                have hcz37_3 : wc.cell? ⟨gb138, 3, none⟩ = some (.int .i64 ((rd_T48 l0 x4_1).f3.f0)) := (blk_cell BK138.out 3).trans rfl
                                have hcz37_4 : wc.cell? ⟨gb138, 4, none⟩ = some (.int .i64 ((rd_T48 l0 x4_1).f3.f1)) := (blk_cell BK138.out 4).trans rfl
                                have hcz37_5 : wc.cell? ⟨gb138, 5, none⟩ = some (.int .i64 ((rd_T48 l0 x4_1).f3.f2)) := (blk_cell BK138.out 5).trans rfl
                                have hfz37_0 := blk_frozen BK138.out 0
                                have hfz37_1 := blk_frozen BK138.out 1
                                have hfz37_2 := blk_frozen BK138.out 2
                                have hfz37_3 := blk_frozen BK138.out 3
                                have hfz37_4 := blk_frozen BK138.out 4
                                have hfz37_5 := blk_frozen BK138.out 5
                                go_wp2
                                go_ret
                                exact ⟨by first | rfl | (simp [errW_none, errW_some] <;> rfl) | (simp [*, errW_none, errW_some] <;> rfl), by repeat (first | (with_reducible first | exact HB.out | apply below_alloc | apply pw_below_drewN | apply below_drew1 | refine below_set ?_ GE138.out) | exact HB.out)⟩
                              · rw [if_neg c36] at H
                                have c36b0 : decide (0 < (((rd_T48 l0 x4_1).f2).length : Int)) = false := decide_eq_false c36
                                have c36b1 : decide (0 < ((rd_T48 l0 x4_1).f2).length) = false := decide_eq_false (by omega)
                                clear c36
                                have H' := Aside0.mk H
                                clear H
                                have hcz38_0 : wc.cell? ⟨gb138, 0, none⟩ = some (.int .i64 ((rd_T48 l0 x4_1).f0)) := (blk_cell BK138.out 0).trans rfl
                                have hcz38_1 : wc.cell? ⟨gb138, 1, none⟩ = some (.int .i64 ((rd_T48 l0 x4_1).f1)) := (blk_cell BK138.out 1).trans rfl
                                have hcz38_2 : wc.cell? ⟨gb138, 2, none⟩ = some (.slice A137_2 ((rd_T48 l0 x4_1).f2).length c137_2) := (blk_cell BK138.out 2).trans rfl
                                have hcz38_3 : wc.cell? ⟨gb138, 3, none⟩ = some (.int .i64 ((rd_T48 l0 x4_1).f3.f0)) := (blk_cell BK138.out 3).trans rfl
                                have hcz38_4 : wc.cell? ⟨gb138, 4, none⟩ = some (.int .i64 ((rd_T48 l0 x4_1).f3.f1)) := (blk_cell BK138.out 4).trans rfl
                                have hcz38_5 : wc.cell? ⟨gb138, 5, none⟩ = some (.int .i64 ((rd_T48 l0 x4_1).f3.f2)) := (blk_cell BK138.out 5).trans rfl
                                have hfz38_0 := blk_frozen BK138.out 0
                                have hfz38_1 := blk_frozen BK138.out 1
                                have hfz38_2 := blk_frozen BK138.out 2
                                have hfz38_3 := blk_frozen BK138.out 3
                                have hfz38_4 := blk_frozen BK138.out 4
                                have hfz38_5 := blk_frozen BK138.out 5
                                go_wp2
                                go_roundg kj13
                                case measure => have := HK1.out; have := HJ4.out; have := HJ13.out; omega
                                case rel => exact ⟨(wrap64 (x3_1 - ((rd_T48 l0 x4_1).f1))), (wrap64 (x4_1 + 1)), (by first | rfl | (simp; done) | (simp [*]; done)), (by first | rfl | (simp; done) | (simp [*]; done)), H', ⟨by have := HK1.out; have := HJ4.out; have := HJ13.out; omega⟩, ⟨by repeat (first | (with_reducible first | exact HB.out | apply below_alloc | apply pw_below_drewN | apply below_drew1 | refine below_set ?_ GE138.out) | exact HB.out)⟩⟩
                            · rw [if_neg c35] at H
                              have c35b0 : (((rd_T48 l0 x4_1).f0) == 2) = false := beq_eq_false_iff_ne.mpr c35
                              have c35b1 : (((rd_T48 l0 x4_1).f0) != 2) = true := bne_iff_ne.mpr c35
                              by_cases c39 : ((rd_T48 l0 x4_1).f0) = 4
                              · rw [if_pos c39] at H
                                have c39b0 : (((rd_T48 l0 x4_1).f0) == 4) = true := beq_iff_eq.mpr c39
                                have c39b1 : (((rd_T48 l0 x4_1).f0) != 4) = false := bne_eq_false_iff_eq.mpr c39
                                clear c39
                                by_cases c40 : (((rd_T48 l0 x4_1).f2).length : Int) > 0
                                · rw [if_pos c40] at H
                                  have c40b0 : decide (0 < (((rd_T48 l0 x4_1).f2).length : Int)) = true := decide_eq_true c40
                                  have c40b1 : decide (0 < ((rd_T48 l0 x4_1).f2).length) = true := decide_eq_true (by omega)
                                  clear c40
                                  obtain rfl := Option.some.inj H
                                  have hcz41_0 : wc.cell? ⟨gb138, 0, none⟩ = some (.int .i64 ((rd_T48 l0 x4_1).f0)) := (blk_cell BK138.out 0).trans rfl
                                  have hcz41_1 : wc.cell? ⟨gb138, 1, none⟩ = some (.int .i64 ((rd_T48 l0 x4_1).f1)) := (blk_cell BK138.out 1).trans rfl
                                  have hcz41_2 : wc.cell? ⟨gb138, 2, none⟩ = some (.slice A137_2 ((rd_T48 l0 x4_1).f2).length c137_2) := (blk_cell BK138.out 2).trans rfl
                                  have hcz41_3 : wc.cell? ⟨gb138, 3, none⟩ = some (.int .i64 ((rd_T48 l0 x4_1).f3.f0)) := (blk_cell BK138.out 3).trans rfl
                                  have hcz41_4 : wc.cell? ⟨gb138, 4, none⟩ = some (.int .i64 ((rd_T48 l0 x4_1).f3.f1)) := (blk_cell BK138.out 4).trans rfl
                                  have hcz41_5 : wc.cell? ⟨gb138, 5, none⟩ = some (.int .i64 ((rd_T48 l0 x4_1).f3.f2)) := (blk_cell BK138.out 5).trans rfl
                                  have hfz41_0 := blk_frozen BK138.out 0
                                  have hfz41_1 := blk_frozen BK138.out 1
                                  have hfz41_2 := blk_frozen BK138.out 2
                                  have hfz41_3 := blk_frozen BK138.out 3
                                  have hfz41_4 := blk_frozen BK138.out 4
                                  have hfz41_5 := blk_frozen BK138.out 5
                                  go_wp2
                                  go_ret
                                  exact ⟨by first | rfl | (simp [errW_none, errW_some] <;> rfl) | (simp [*, errW_none, errW_some] <;> rfl), by repeat (first | (with_reducible first | exact HB.out | apply below_alloc | apply pw_below_drewN | apply below_drew1 | refine below_set ?_ GE138.out) | exact HB.out)⟩
                                · rw [if_neg c40] at H
                                  have c40b0 : decide (0 < (((rd_T48 l0 x4_1).f2).length : Int)) = false := decide_eq_false c40
                                  have c40b1 : decide (0 < ((rd_T48 l0 x4_1).f2).length) = false := decide_eq_false (by omega)
                                  clear c40
                                  have H' := Aside0.mk H
                                  clear H
                                  have hcz42_0 : wc.cell? ⟨gb138, 0, none⟩ = some (.int .i64 ((rd_T48 l0 x4_1).f0)) := (blk_cell BK138.out 0).trans rfl
                                  have hcz42_1 : wc.cell? ⟨gb138, 1, none⟩ = some (.int .i64 ((rd_T48 l0 x4_1).f1)) := (blk_cell BK138.out 1).trans rfl
                                  have hcz42_2 : wc.cell? ⟨gb138, 2, none⟩ = some (.slice A137_2 ((rd_T48 l0 x4_1).f2).length c137_2) := (blk_cell BK138.out 2).trans rfl
                                  have hcz42_3 : wc.cell? ⟨gb138, 3, none⟩ = some (.int .i64 ((rd_T48 l0 x4_1).f3.f0)) := (blk_cell BK138.out 3).trans rfl
                                  have hcz42_4 : wc.cell? ⟨gb138, 4, none⟩ = some (.int .i64 ((rd_T48 l0 x4_1).f3.f1)) := (blk_cell BK138.out 4).trans rfl
                                  have hcz42_5 : wc.cell? ⟨gb138, 5, none⟩ = some (.int .i64 ((rd_T48 l0 x4_1).f3.f2)) := (blk_cell BK138.out 5).trans rfl
                                  have hfz42_0 := blk_frozen BK138.out 0
                                  have hfz42_1 := blk_frozen BK138.out 1
                                  have hfz42_2 := blk_frozen BK138.out 2
                                  have hfz42_3 := blk_frozen BK138.out 3
                                  have hfz42_4 := blk_frozen BK138.out 4
                                  have hfz42_5 := blk_frozen BK138.out 5
                                  go_wp2
                                  go_roundg kj13
                                  case measure => have := HK1.out; have := HJ4.out; have := HJ13.out; omega
                                  case rel => exact ⟨(wrap64 (x3_1 - ((rd_T48 l0 x4_1).f1))), (wrap64 (x4_1 + 1)), (by first | rfl | (simp; done) | (simp [*]; done)), (by first | rfl | (simp; done) | (simp [*]; done)), H', ⟨by have := HK1.out; have := HJ4.out; have := HJ13.out; omega⟩, ⟨by repeat (first | (with_reducible first | exact HB.out | apply below_alloc | apply pw_below_drewN | apply below_drew1 | refine below_set ?_ GE138.out) | exact HB.out)⟩⟩
                              · rw [if_neg c39] at H
                                have c39b0 : (((rd_T48 l0 x4_1).f0) == 4) = false := beq_eq_false_iff_ne.mpr c39
                                have c39b1 : (((rd_T48 l0 x4_1).f0) != 4) = true := bne_iff_ne.mpr c39
                                have H' := Aside0.mk H
                                clear H
                                have hcz43_0 : wc.cell? ⟨gb138, 0, none⟩ = some (.int .i64 ((rd_T48 l0 x4_1).f0)) := (blk_cell BK138.out 0).trans rfl
                                have hcz43_1 : wc.cell? ⟨gb138, 1, none⟩ = some (.int .i64 ((rd_T48 l0 x4_1).f1)) := (blk_cell BK138.out 1).trans rfl
                                have hcz43_2 : wc.cell? ⟨gb138, 2, none⟩ = some (.slice A137_2 ((rd_T48 l0 x4_1).f2).length c137_2) := (blk_cell BK138.out 2).trans rfl
                                have hcz43_3 : wc.cell? ⟨gb138, 3, none⟩ = some (.int .i64 ((rd_T48 l0 x4_1).f3.f0)) := (blk_cell BK138.out 3).trans rfl
                                have hcz43_4 : wc.cell? ⟨gb138, 4, none⟩ = some (.int .i64 ((rd_T48 l0 x4_1).f3.f1)) := (blk_cell BK138.out 4).trans rfl
                                have hcz43_5 : wc.cell? ⟨gb138, 5, none⟩ = some (.int .i64 ((rd_T48 l0 x4_1).f3.f2)) := (blk_cell BK138.out 5).trans rfl
                                have hfz43_0 := blk_frozen BK138.out 0
                                have hfz43_1 := blk_frozen BK138.out 1
                                have hfz43_2 := blk_frozen BK138.out 2
                                have hfz43_3 := blk_frozen BK138.out 3
                                have hfz43_4 := blk_frozen BK138.out 4
                                have hfz43_5 := blk_frozen BK138.out 5
                                go_wp2
                                go_roundg kj13
                                case measure => have := HK1.out; have := HJ4.out; have := HJ13.out; omega
                                case rel => exact ⟨(wrap64 (x3_1 - ((rd_T48 l0 x4_1).f1))), (wrap64 (x4_1 + 1)), (by first | rfl | (simp; done) | (simp [*]; done)), (by first | rfl | (simp; done) | (simp [*]; done)), H', ⟨by have := HK1.out; have := HJ4.out; have := HJ13.out; omega⟩, ⟨by repeat (first | (with_reducible first | exact HB.out | apply below_alloc | apply pw_below_drewN | apply below_drew1 | refine below_set ?_ GE138.out) | exact HB.out)⟩⟩
          · rw [if_neg c4] at H
            exact absurd H (by simp)
        · rw [if_neg c3] at H
          have c3b0 : decide (x4_1 < (l0.length : Int)) = false := decide_eq_false c3
          clear c3
          obtain rfl := Option.some.inj H
          go_wp2
          go_ret
          exact ⟨by first | rfl | (simp [errW_none, errW_some] <;> rfl) | (simp [*, errW_none, errW_some] <;> rfl), by repeat (first | (with_reducible first | exact HB.out | apply below_alloc | apply pw_below_drewN | apply below_drew1) | exact HB.out)⟩

end Go.Proofs.YtnicflgogkakeaaDoor.QFnExactEventText

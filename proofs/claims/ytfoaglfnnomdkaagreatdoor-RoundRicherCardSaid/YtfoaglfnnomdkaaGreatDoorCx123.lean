-- Written by a program of this session (wip/tools/print2.py, over the kit's print tool); Lean checks it.
import Derived.Test.YtfoaglfnnomdkaaGreatDoorCx0
import Derived.Test.YtfoaglfnnomdkaaGreatDoorHandFixed
import Derived.Test.YtfoaglfnnomdkaaGreatDoorHandFixed2
namespace Go.Proofs.YtfoaglfnnomdkaaGreatDoor.C
open Go.RowKit Go.Proofs.YtfoaglfnnomdkaaGreatDoorW.PrintWords Go.Proofs.YtfoaglfnnomdkaaGreatDoorW.PrintLast Go.Proofs.YtfoaglfnnomdkaaGreatDoorW.PrintMore
attribute [local go_sem] max2_int min2_int max_two min_two max_three min_three max_four min_four   -- for this text's walks alone
set_option linter.unusedVariables false
set_option linter.unusedSimpArgs false

/-! ### angle_steep: function 188 -/
def angle_steep.l0 : Nat → Int → Int → Int → Int → Int → Int → Int → Int → Int → Option (Int × Bool)
  | 0, _, _, _, _, _, _, _, _, _ => none
  | k + 1, x8, x857000, x857001, x860000, x860001, x861000, x861001, x862000, x862001 => if x8 > 0 then ((angle_fixed_times.f x860000 x860001 x862000 x862001).bind fun bt862 => ((angle_fixed_over.f bt862.1 bt862.2 1 (IntKind.u64.wrap ((IntKind.u64.wrap (2 * x8)) * (IntKind.u64.wrap ((IntKind.u64.wrap (2 * x8)) + 1))))).bind fun bt864 => ((angle_fixed_minus.f x861000 x861001 bt864.1 bt864.2).bind fun bt866 => (angle_steep.l0 k (IntKind.u64.wrap (x8 - 1)) x857000 x857001 x860000 x860001 x861000 x861001 bt866.1 bt866.2)))) else ((angle_fixed_times.f x857000 x857001 x862000 x862001).bind fun bt868 => ((angle_fixed_units.f bt868.1 bt868.2).bind fun t870 => (some (t870, false))))
def angle_steep.f (k : Nat) (a0 : Int) : Option (Int × Bool) := if a0 = 0 then (some (0, true)) else (if a0 = 30000000 then (some (50000000, true)) else (if a0 = 90000000 then (some (100000000, true)) else ((angle_fixed_over.f 14488038916154245684 14179128828124470481 (IntKind.u64.wrap (a0)) 180000000).bind fun bt854 => ((angle_fixed_times.f bt854.1 bt854.2 bt854.1 bt854.2).bind fun bt857 => (angle_steep.l0 k 17 bt854.1 bt854.2 bt857.1 bt857.2 4611686018427387904 0 4611686018427387904 0)))))
theorem angle_steep.mono_l : ∀ k, (∀ y0 y1 y2 y3 y4 y5 y6 y7 y8, LeO (angle_steep.l0 k y0 y1 y2 y3 y4 y5 y6 y7 y8) (angle_steep.l0 (k + 1) y0 y1 y2 y3 y4 y5 y6 y7 y8))
  | 0 => fun _ _ _ _ _ _ _ _ _ r h => by simp [angle_steep.l0] at h
  | k + 1 => by
    have ih0 := angle_steep.mono_l k
    · intro y0 y1 y2 y3 y4 y5 y6 y7 y8
      unfold angle_steep.l0
      repeat' first
      | (with_reducible exact ih0 _ _ _ _ _ _ _ _ _)
      | (with_reducible exact LeO.refl _)
      | (with_reducible exact LeO.none _)
      | (with_reducible refine LeO.ite ?_ ?_)
      | (with_reducible refine LeO.bind ?_ (fun _ => ?_))
      | exact ih0 _ _ _ _ _ _ _ _ _
      | exact LeO.none _
      | refine LeO.ite ?_ ?_
      | refine LeO.bind ?_ (fun _ => ?_)
theorem angle_steep.mono : ∀ a0 k, LeO (angle_steep.f k a0) (angle_steep.f (k + 1) a0) := by
  intro a0 k
  have ih0 := angle_steep.mono_l k
  unfold angle_steep.f
  repeat' first
      | (with_reducible exact ih0 _ _ _ _ _ _ _ _ _)
      | (with_reducible exact LeO.refl _)
      | (with_reducible exact LeO.none _)
      | (with_reducible refine LeO.ite ?_ ?_)
      | (with_reducible refine LeO.bind ?_ (fun _ => ?_))
      | exact ih0 _ _ _ _ _ _ _ _ _
      | exact LeO.none _
      | refine LeO.ite ?_ ?_
      | refine LeO.bind ?_ (fun _ => ?_)
def angle_steep.T15 : Bool × List (List Nat × List Nat) := (true, [([], []), ([], []), ([], []), ([1, 2], [1, 2]), ([], []), ([4], [4]), ([], []), ([6], [6]), ([7], [7]), ([5, 8], [5, 8]), ([3, 9, 3], [3, 9]), ([0, 10, 10], [0, 10]), ([11, 11, 0, 1, 2, 3, 4, 5, 6, 7, 8, 9, 10, 11], [11])])
def angle_steep.B15 : List Nat := [0, 0, 0, 6, 0, 16, 0, 64, 192, 496, 1022, 2047, 4095]
theorem angle_steep.tab15 : rtab .any (opsOf Tryz.f188 15) = angle_steep.T15 := by kernel_rfl
theorem angle_steep.bits15 : waitsOk angle_steep.T15.2 angle_steep.B15 = true := by kernel_rfl
set_option maxHeartbeats 8000000 in
set_option maxRecDepth 100000 in
theorem angle_steep.calls (k : Nat) (a0 : Int) (r1 : Int) (r2 : Bool) (w : World) (h : angle_steep.f k a0 = some (r1, r2)) :
    Calls Tryz.prog 188 #[.int .i64 a0] w fun e w' => e = .returned (.tuple #[.int .i64 r1, .bool r2]) ∧ Below w.heap.size w w' := by
  have hu246 := Tryz.underlying246
  have HB := Aside0.mk (Below.refl w.heap.size w)
  have H : (if a0 = 0 then (some (0, true)) else (if a0 = 30000000 then (some (50000000, true)) else (if a0 = 90000000 then (some (100000000, true)) else ((angle_fixed_over.f 14488038916154245684 14179128828124470481 (IntKind.u64.wrap (a0)) 180000000).bind fun bt854 => ((angle_fixed_times.f bt854.1 bt854.2 bt854.1 bt854.2).bind fun bt857 => (angle_steep.l0 k 17 bt854.1 bt854.2 bt857.1 bt857.2 4611686018427387904 0 4611686018427387904 0)))))) = some (r1, r2) := h
  clear h
  by_cases c2 : a0 = 0
  · rw [if_pos c2] at H
    have c2b0 : (a0 == 0) = true := beq_iff_eq.mpr c2
    have c2b1 : (a0 != 0) = false := bne_eq_false_iff_eq.mpr c2
    clear c2
    simp only [Option.some.injEq, Prod.mk.injEq] at H
    obtain ⟨rfl, rfl⟩ := H
    go_enter Tryz.func188, Tryz.ntmps188
    go_wp2
    go_ret2
    exact ⟨by first | rfl | (simp [errW_none, errW_some] <;> rfl) | (simp [*, errW_none, errW_some] <;> rfl), by repeat (first | (with_reducible first | exact HB.out | apply below_alloc | apply pw_below_drewN | apply below_drew1) | exact HB.out)⟩
  · rw [if_neg c2] at H
    have c2b0 : (a0 == 0) = false := beq_eq_false_iff_ne.mpr c2
    have c2b1 : (a0 != 0) = true := bne_iff_ne.mpr c2
    by_cases c3 : a0 = 30000000
    · rw [if_pos c3] at H
      have c3b0 : (a0 == 30000000) = true := beq_iff_eq.mpr c3
      have c3b1 : (a0 != 30000000) = false := bne_eq_false_iff_eq.mpr c3
      clear c3
      simp only [Option.some.injEq, Prod.mk.injEq] at H
      obtain ⟨rfl, rfl⟩ := H
      go_enter Tryz.func188, Tryz.ntmps188
      go_wp2
      go_ret2
      exact ⟨by first | rfl | (simp [errW_none, errW_some] <;> rfl) | (simp [*, errW_none, errW_some] <;> rfl), by repeat (first | (with_reducible first | exact HB.out | apply below_alloc | apply pw_below_drewN | apply below_drew1) | exact HB.out)⟩
    · rw [if_neg c3] at H
      have c3b0 : (a0 == 30000000) = false := beq_eq_false_iff_ne.mpr c3
      have c3b1 : (a0 != 30000000) = true := bne_iff_ne.mpr c3
      by_cases c4 : a0 = 90000000
      · rw [if_pos c4] at H
        have c4b0 : (a0 == 90000000) = true := beq_iff_eq.mpr c4
        have c4b1 : (a0 != 90000000) = false := bne_eq_false_iff_eq.mpr c4
        clear c4
        simp only [Option.some.injEq, Prod.mk.injEq] at H
        obtain ⟨rfl, rfl⟩ := H
        go_enter Tryz.func188, Tryz.ntmps188
        go_wp2
        go_ret2
        exact ⟨by first | rfl | (simp [errW_none, errW_some] <;> rfl) | (simp [*, errW_none, errW_some] <;> rfl), by repeat (first | (with_reducible first | exact HB.out | apply below_alloc | apply pw_below_drewN | apply below_drew1) | exact HB.out)⟩
      · rw [if_neg c4] at H
        have c4b0 : (a0 == 90000000) = false := beq_eq_false_iff_ne.mpr c4
        have c4b1 : (a0 != 90000000) = true := bne_iff_ne.mpr c4
        replace H := Option.bind_eq_some_iff.mp H
        obtain ⟨⟨t854, t855⟩, A50, H⟩ := H
        replace H : ((angle_fixed_times.f t854 t855 t854 t855).bind fun bt857 => (angle_steep.l0 k 17 t854 t855 bt857.1 bt857.2 4611686018427387904 0 4611686018427387904 0)) = some (r1, r2) := H
        have A5 := Aside0.mk A50
        clear A50
        replace H := Option.bind_eq_some_iff.mp H
        obtain ⟨⟨t857, t858⟩, A60, H⟩ := H
        replace H : (angle_steep.l0 k 17 t854 t855 t857 t858 4611686018427387904 0 4611686018427387904 0) = some (r1, r2) := H
        have A6 := Aside0.mk A60
        clear A60
        have H' := Aside0.mk H
        clear H
        go_enter Tryz.func188, Tryz.ntmps188
        go_wp2_with (first | ((with_reducible refine gate_callee (f := 191) rfl ?_); refine goesL_ (some 19) rfl rfl Tryz.func191 (by kernel_rfl) rfl #[.agg #[.int .u64 14488038916154245684, .int .u64 14179128828124470481], .int .u64 (IntKind.u64.wrap (a0)), .int .u64 180000000] rfl (by (try simp only [List.map_toArray, List.map_cons, List.map_nil]); first | done | rfl | (simp only [List.length_drop, List.length_take]; rfl)) ?_; (with_reducible refine (angle_fixed_over.calls 14488038916154245684 14179128828124470481 (IntKind.u64.wrap (a0)) 180000000 t854 t855 _ A5.out).mono ?_); rintro e w7 ⟨rfl, hb⟩; refine ⟨_, rfl, ?_⟩; have n0_ := Aside0.mk (below_step (by repeat (first | (with_reducible first | exact HB.out | apply below_alloc | apply pw_below_drewN | apply below_drew1) | exact HB.out)) hb); clear HB; have HB := n0_; clear n0_; (try clear hb); (try clear hb2); (try clear hk); (try clear hi)) | ((with_reducible refine gate_dst (N := 4) rfl ?_); refine box_event ?hg (N := 4) ?hd (cs := #[.int .u64 0, .int .u64 0]) (t := 246) ?hr ?_; (case hd => rfl); (case hg => rfl); (case hr => first | (go_simp; done) | (go_simp; rfl)); intro gb856 hg w8 hbox hb; have n0_ := Aside0.mk (below_step (by repeat (first | (with_reducible first | exact HB.out | apply below_alloc | apply pw_below_drewN | apply below_drew1) | exact HB.out)) hb); have n1_ := Aside0.mk (hbox); have n2_ := Aside0.mk ((by rw [hg]; exact (below_size (by repeat (first | (with_reducible first | exact HB.out | apply below_alloc | apply pw_below_drewN | apply below_drew1) | exact HB.out))) : w.heap.size ≤ gb856)); have n3_ := Aside0.mk ((by rw [hg]; exact (below_size (by repeat (first | (with_reducible first | exact HB.out | apply below_alloc | apply pw_below_drewN | apply below_drew1) | exact HB.out))) : w.heap.size ≤ gb856)); clear HB; have HB := n0_; have BK856 := n1_; have GW856 := n2_; have GE856 := n3_; clear n0_ n1_ n2_ n3_; clear hb hbox hg; have hcz9_0 : w8.cell? ⟨gb856, 0, none⟩ = some (.int .u64 0) := (blk_cell BK856.out 0).trans rfl; have hcz9_1 : w8.cell? ⟨gb856, 1, none⟩ = some (.int .u64 0) := (blk_cell BK856.out 1).trans rfl; have hfz9_0 := blk_frozen BK856.out 0; have hfz9_1 := blk_frozen BK856.out 1) | ((with_reducible refine gate_callee (f := 192) rfl ?_); refine goesL_ (some 22) rfl rfl Tryz.func192 (by kernel_rfl) rfl #[.agg #[.int .u64 t854, .int .u64 t855], .agg #[.int .u64 t854, .int .u64 t855]] rfl (by (try simp only [List.map_toArray, List.map_cons, List.map_nil]); first | done | rfl | (simp only [List.length_drop, List.length_take]; rfl)) ?_; (with_reducible refine (angle_fixed_times.calls t854 t855 t854 t855 t857 t858 _ A6.out).mono ?_); rintro e w10 ⟨rfl, hb⟩; refine ⟨_, rfl, ?_⟩; have n0_ := Aside0.mk (blk_below (g := gb856) (o := .cells #[.int .u64 t854, .int .u64 t855] 246 (0, 0)) (by (with_reducible repeat (first | refine blk_drewN ?_ _ | refine blk_drew ?_ | refine blk_alloc ?_ _)); refine blk_put (cs := #[.int .u64 t854, .int .u64 0]) ?_ 1 _ rfl; (with_reducible repeat (first | refine blk_drewN ?_ _ | refine blk_drew ?_ | refine blk_alloc ?_ _)); refine blk_put (cs := #[.int .u64 0, .int .u64 0]) ?_ 0 _ rfl; (with_reducible repeat (first | refine blk_drewN ?_ _ | refine blk_drew ?_ | refine blk_alloc ?_ _)); exact BK856.out) hb); have n1_ := Aside0.mk (below_step (by repeat (first | (with_reducible first | exact HB.out | apply below_alloc | apply pw_below_drewN | apply below_drew1 | refine below_set ?_ GE856.out) | exact HB.out)) hb); clear BK856; clear HB; have BK856 := n0_; have HB := n1_; clear n0_ n1_; (try clear hb); (try clear hb2); (try clear hk); (try clear hi)) | ((with_reducible refine gate_dst (N := 5) rfl ?_); refine box_event ?hg (N := 5) ?hd (cs := #[.int .u64 0, .int .u64 0]) (t := 246) ?hr ?_; (case hd => rfl); (case hg => rfl); (case hr => first | (go_simp; done) | (go_simp; rfl)); intro gb859 hg w11 hbox hb; have n0_ := Aside0.mk (blk_below (g := gb856) (o := .cells #[.int .u64 t854, .int .u64 t855] 246 (0, 0)) (by (with_reducible repeat (first | refine blk_drewN ?_ _ | refine blk_drew ?_ | refine blk_alloc ?_ _)); exact BK856.out) hb); have n1_ := Aside0.mk (below_step (by repeat (first | (with_reducible first | exact HB.out | apply below_alloc | apply pw_below_drewN | apply below_drew1 | refine below_set ?_ GE856.out) | exact HB.out)) hb); have n2_ := Aside0.mk (hbox); have n3_ := Aside0.mk ((by rw [hg]; exact (below_size (by repeat (first | (with_reducible first | exact HB.out | apply below_alloc | apply pw_below_drewN | apply below_drew1 | refine below_set ?_ GE856.out) | exact HB.out))) : w.heap.size ≤ gb859)); have n4_ := Aside0.mk ((by rw [hg]; exact (below_size (by repeat (first | (with_reducible first | exact HB.out | apply below_alloc | apply pw_below_drewN | apply below_drew1 | refine below_set ?_ GE856.out) | exact HB.out))) : w.heap.size ≤ gb859)); have n5_ := Aside0.mk ((by rw [hg]; exact Nat.ne_of_lt (blk_lt (g := gb856) (o := .cells #[.int .u64 t854, .int .u64 t855] 246 (0, 0)) (by (with_reducible repeat (first | refine blk_drewN ?_ _ | refine blk_drew ?_ | refine blk_alloc ?_ _)); exact BK856.out)) : gb856 ≠ gb859)); have n6_ := Aside0.mk ((by rw [hg]; exact Nat.ne_of_gt (blk_lt (g := gb856) (o := .cells #[.int .u64 t854, .int .u64 t855] 246 (0, 0)) (by (with_reducible repeat (first | refine blk_drewN ?_ _ | refine blk_drew ?_ | refine blk_alloc ?_ _)); exact BK856.out)) : gb859 ≠ gb856)); clear BK856; clear HB; have BK856 := n0_; have HB := n1_; have BK859 := n2_; have GW859 := n3_; have GE859 := n4_; have NB856_859 := n5_; have NB859_856 := n6_; clear n0_ n1_ n2_ n3_ n4_ n5_ n6_; clear hb hbox hg; have hnb12 := NB859_856.out; have hnc12 := NB856_859.out; have hcz13_0 : w11.cell? ⟨gb859, 0, none⟩ = some (.int .u64 0) := (blk_cell BK859.out 0).trans rfl; have hcz13_1 : w11.cell? ⟨gb859, 1, none⟩ = some (.int .u64 0) := (blk_cell BK859.out 1).trans rfl; have hfz13_0 := blk_frozen BK859.out 0; have hfz13_1 := blk_frozen BK859.out 1) | ((with_reducible refine gate_dst (N := 6) rfl ?_); refine box_event ?hg (N := 6) ?hd (cs := #[.int .u64 0, .int .u64 0]) (t := 246) ?hr ?_; (case hd => rfl); (case hg => rfl); (case hr => first | (go_simp; done) | (go_simp; rfl)); intro gb860 hg w14 hbox hb; have n0_ := Aside0.mk (blk_below (g := gb856) (o := .cells #[.int .u64 t854, .int .u64 t855] 246 (0, 0)) (by (with_reducible repeat (first | refine blk_drewN ?_ _ | refine blk_drew ?_ | refine blk_alloc ?_ _)); refine blk_far ?_ NB856_859.out _; (with_reducible repeat (first | refine blk_drewN ?_ _ | refine blk_drew ?_ | refine blk_alloc ?_ _)); refine blk_far ?_ NB856_859.out _; (with_reducible repeat (first | refine blk_drewN ?_ _ | refine blk_drew ?_ | refine blk_alloc ?_ _)); exact BK856.out) hb); have n1_ := Aside0.mk (blk_below (g := gb859) (o := .cells #[.int .u64 t857, .int .u64 t858] 246 (0, 0)) (by (with_reducible repeat (first | refine blk_drewN ?_ _ | refine blk_drew ?_ | refine blk_alloc ?_ _)); refine blk_put (cs := #[.int .u64 t857, .int .u64 0]) ?_ 1 _ rfl; (with_reducible repeat (first | refine blk_drewN ?_ _ | refine blk_drew ?_ | refine blk_alloc ?_ _)); refine blk_put (cs := #[.int .u64 0, .int .u64 0]) ?_ 0 _ rfl; (with_reducible repeat (first | refine blk_drewN ?_ _ | refine blk_drew ?_ | refine blk_alloc ?_ _)); exact BK859.out) hb); have n2_ := Aside0.mk (below_step (by repeat (first | (with_reducible first | exact HB.out | apply below_alloc | apply pw_below_drewN | apply below_drew1 | refine below_set ?_ GE856.out | refine below_set ?_ GE859.out) | exact HB.out)) hb); have n3_ := Aside0.mk (hbox); have n4_ := Aside0.mk ((by rw [hg]; exact (below_size (by repeat (first | (with_reducible first | exact HB.out | apply below_alloc | apply pw_below_drewN | apply below_drew1 | refine below_set ?_ GE856.out | refine below_set ?_ GE859.out) | exact HB.out))) : w.heap.size ≤ gb860)); have n5_ := Aside0.mk ((by rw [hg]; exact (below_size (by repeat (first | (with_reducible first | exact HB.out | apply below_alloc | apply pw_below_drewN | apply below_drew1 | refine below_set ?_ GE856.out | refine below_set ?_ GE859.out) | exact HB.out))) : w.heap.size ≤ gb860)); have n6_ := Aside0.mk ((by rw [hg]; exact Nat.ne_of_lt (blk_lt (g := gb856) (o := .cells #[.int .u64 t854, .int .u64 t855] 246 (0, 0)) (by (with_reducible repeat (first | refine blk_drewN ?_ _ | refine blk_drew ?_ | refine blk_alloc ?_ _)); refine blk_far ?_ NB856_859.out _; (with_reducible repeat (first | refine blk_drewN ?_ _ | refine blk_drew ?_ | refine blk_alloc ?_ _)); refine blk_far ?_ NB856_859.out _; (with_reducible repeat (first | refine blk_drewN ?_ _ | refine blk_drew ?_ | refine blk_alloc ?_ _)); exact BK856.out)) : gb856 ≠ gb860)); have n7_ := Aside0.mk ((by rw [hg]; exact Nat.ne_of_gt (blk_lt (g := gb856) (o := .cells #[.int .u64 t854, .int .u64 t855] 246 (0, 0)) (by (with_reducible repeat (first | refine blk_drewN ?_ _ | refine blk_drew ?_ | refine blk_alloc ?_ _)); refine blk_far ?_ NB856_859.out _; (with_reducible repeat (first | refine blk_drewN ?_ _ | refine blk_drew ?_ | refine blk_alloc ?_ _)); refine blk_far ?_ NB856_859.out _; (with_reducible repeat (first | refine blk_drewN ?_ _ | refine blk_drew ?_ | refine blk_alloc ?_ _)); exact BK856.out)) : gb860 ≠ gb856)); have n8_ := Aside0.mk ((by rw [hg]; exact Nat.ne_of_lt (blk_lt (g := gb859) (o := .cells #[.int .u64 t857, .int .u64 t858] 246 (0, 0)) (by (with_reducible repeat (first | refine blk_drewN ?_ _ | refine blk_drew ?_ | refine blk_alloc ?_ _)); refine blk_put (cs := #[.int .u64 t857, .int .u64 0]) ?_ 1 _ rfl; (with_reducible repeat (first | refine blk_drewN ?_ _ | refine blk_drew ?_ | refine blk_alloc ?_ _)); refine blk_put (cs := #[.int .u64 0, .int .u64 0]) ?_ 0 _ rfl; (with_reducible repeat (first | refine blk_drewN ?_ _ | refine blk_drew ?_ | refine blk_alloc ?_ _)); exact BK859.out)) : gb859 ≠ gb860)); have n9_ := Aside0.mk ((by rw [hg]; exact Nat.ne_of_gt (blk_lt (g := gb859) (o := .cells #[.int .u64 t857, .int .u64 t858] 246 (0, 0)) (by (with_reducible repeat (first | refine blk_drewN ?_ _ | refine blk_drew ?_ | refine blk_alloc ?_ _)); refine blk_put (cs := #[.int .u64 t857, .int .u64 0]) ?_ 1 _ rfl; (with_reducible repeat (first | refine blk_drewN ?_ _ | refine blk_drew ?_ | refine blk_alloc ?_ _)); refine blk_put (cs := #[.int .u64 0, .int .u64 0]) ?_ 0 _ rfl; (with_reducible repeat (first | refine blk_drewN ?_ _ | refine blk_drew ?_ | refine blk_alloc ?_ _)); exact BK859.out)) : gb860 ≠ gb859)); clear BK856; clear BK859; clear HB; have BK856 := n0_; have BK859 := n1_; have HB := n2_; have BK860 := n3_; have GW860 := n4_; have GE860 := n5_; have NB856_860 := n6_; have NB860_856 := n7_; have NB859_860 := n8_; have NB860_859 := n9_; clear n0_ n1_ n2_ n3_ n4_ n5_ n6_ n7_ n8_ n9_; clear hb hbox hg; have hnb15 := NB860_856.out; have hnc15 := NB856_860.out; have hnb16 := NB860_859.out; have hnc16 := NB859_860.out; have hcz17_0 : w14.cell? ⟨gb860, 0, none⟩ = some (.int .u64 0) := (blk_cell BK860.out 0).trans rfl; have hcz17_1 : w14.cell? ⟨gb860, 1, none⟩ = some (.int .u64 0) := (blk_cell BK860.out 1).trans rfl; have hfz17_0 := blk_frozen BK860.out 0; have hfz17_1 := blk_frozen BK860.out 1) | ((with_reducible refine gate_dst (N := 7) rfl ?_); refine box_event ?hg (N := 7) ?hd (cs := #[.int .u64 0, .int .u64 0]) (t := 246) ?hr ?_; (case hd => rfl); (case hg => rfl); (case hr => first | (go_simp; done) | (go_simp; rfl)); intro gb861 hg w18 hbox hb; have n0_ := Aside0.mk (blk_below (g := gb856) (o := .cells #[.int .u64 t854, .int .u64 t855] 246 (0, 0)) (by (with_reducible repeat (first | refine blk_drewN ?_ _ | refine blk_drew ?_ | refine blk_alloc ?_ _)); refine blk_far ?_ NB856_860.out _; (with_reducible repeat (first | refine blk_drewN ?_ _ | refine blk_drew ?_ | refine blk_alloc ?_ _)); refine blk_far ?_ NB856_860.out _; (with_reducible repeat (first | refine blk_drewN ?_ _ | refine blk_drew ?_ | refine blk_alloc ?_ _)); exact BK856.out) hb); have n1_ := Aside0.mk (blk_below (g := gb859) (o := .cells #[.int .u64 t857, .int .u64 t858] 246 (0, 0)) (by (with_reducible repeat (first | refine blk_drewN ?_ _ | refine blk_drew ?_ | refine blk_alloc ?_ _)); refine blk_far ?_ NB859_860.out _; (with_reducible repeat (first | refine blk_drewN ?_ _ | refine blk_drew ?_ | refine blk_alloc ?_ _)); refine blk_far ?_ NB859_860.out _; (with_reducible repeat (first | refine blk_drewN ?_ _ | refine blk_drew ?_ | refine blk_alloc ?_ _)); exact BK859.out) hb); have n2_ := Aside0.mk (blk_below (g := gb860) (o := .cells #[.int .u64 4611686018427387904, .int .u64 0] 246 (0, 0)) (by (with_reducible repeat (first | refine blk_drewN ?_ _ | refine blk_drew ?_ | refine blk_alloc ?_ _)); refine blk_put (cs := #[.int .u64 4611686018427387904, .int .u64 0]) ?_ 1 _ rfl; (with_reducible repeat (first | refine blk_drewN ?_ _ | refine blk_drew ?_ | refine blk_alloc ?_ _)); refine blk_put (cs := #[.int .u64 0, .int .u64 0]) ?_ 0 _ rfl; (with_reducible repeat (first | refine blk_drewN ?_ _ | refine blk_drew ?_ | refine blk_alloc ?_ _)); exact BK860.out) hb); have n3_ := Aside0.mk (below_step (by repeat (first | (with_reducible first | exact HB.out | apply below_alloc | apply pw_below_drewN | apply below_drew1 | refine below_set ?_ GE856.out | refine below_set ?_ GE859.out | refine below_set ?_ GE860.out) | exact HB.out)) hb); have n4_ := Aside0.mk (hbox); have n5_ := Aside0.mk ((by rw [hg]; exact (below_size (by repeat (first | (with_reducible first | exact HB.out | apply below_alloc | apply pw_below_drewN | apply below_drew1 | refine below_set ?_ GE856.out | refine below_set ?_ GE859.out | refine below_set ?_ GE860.out) | exact HB.out))) : w.heap.size ≤ gb861)); have n6_ := Aside0.mk ((by rw [hg]; exact (below_size (by repeat (first | (with_reducible first | exact HB.out | apply below_alloc | apply pw_below_drewN | apply below_drew1 | refine below_set ?_ GE856.out | refine below_set ?_ GE859.out | refine below_set ?_ GE860.out) | exact HB.out))) : w.heap.size ≤ gb861)); have n7_ := Aside0.mk ((by rw [hg]; exact Nat.ne_of_lt (blk_lt (g := gb856) (o := .cells #[.int .u64 t854, .int .u64 t855] 246 (0, 0)) (by (with_reducible repeat (first | refine blk_drewN ?_ _ | refine blk_drew ?_ | refine blk_alloc ?_ _)); refine blk_far ?_ NB856_860.out _; (with_reducible repeat (first | refine blk_drewN ?_ _ | refine blk_drew ?_ | refine blk_alloc ?_ _)); refine blk_far ?_ NB856_860.out _; (with_reducible repeat (first | refine blk_drewN ?_ _ | refine blk_drew ?_ | refine blk_alloc ?_ _)); exact BK856.out)) : gb856 ≠ gb861)); have n8_ := Aside0.mk ((by rw [hg]; exact Nat.ne_of_gt (blk_lt (g := gb856) (o := .cells #[.int .u64 t854, .int .u64 t855] 246 (0, 0)) (by (with_reducible repeat (first | refine blk_drewN ?_ _ | refine blk_drew ?_ | refine blk_alloc ?_ _)); refine blk_far ?_ NB856_860.out _; (with_reducible repeat (first | refine blk_drewN ?_ _ | refine blk_drew ?_ | refine blk_alloc ?_ _)); refine blk_far ?_ NB856_860.out _; (with_reducible repeat (first | refine blk_drewN ?_ _ | refine blk_drew ?_ | refine blk_alloc ?_ _)); exact BK856.out)) : gb861 ≠ gb856)); have n9_ := Aside0.mk ((by rw [hg]; exact Nat.ne_of_lt (blk_lt (g := gb859) (o := .cells #[.int .u64 t857, .int .u64 t858] 246 (0, 0)) (by (with_reducible repeat (first | refine blk_drewN ?_ _ | refine blk_drew ?_ | refine blk_alloc ?_ _)); refine blk_far ?_ NB859_860.out _; (with_reducible repeat (first | refine blk_drewN ?_ _ | refine blk_drew ?_ | refine blk_alloc ?_ _)); refine blk_far ?_ NB859_860.out _; (with_reducible repeat (first | refine blk_drewN ?_ _ | refine blk_drew ?_ | refine blk_alloc ?_ _)); exact BK859.out)) : gb859 ≠ gb861)); have n10_ := Aside0.mk ((by rw [hg]; exact Nat.ne_of_gt (blk_lt (g := gb859) (o := .cells #[.int .u64 t857, .int .u64 t858] 246 (0, 0)) (by (with_reducible repeat (first | refine blk_drewN ?_ _ | refine blk_drew ?_ | refine blk_alloc ?_ _)); refine blk_far ?_ NB859_860.out _; (with_reducible repeat (first | refine blk_drewN ?_ _ | refine blk_drew ?_ | refine blk_alloc ?_ _)); refine blk_far ?_ NB859_860.out _; (with_reducible repeat (first | refine blk_drewN ?_ _ | refine blk_drew ?_ | refine blk_alloc ?_ _)); exact BK859.out)) : gb861 ≠ gb859)); have n11_ := Aside0.mk ((by rw [hg]; exact Nat.ne_of_lt (blk_lt (g := gb860) (o := .cells #[.int .u64 4611686018427387904, .int .u64 0] 246 (0, 0)) (by (with_reducible repeat (first | refine blk_drewN ?_ _ | refine blk_drew ?_ | refine blk_alloc ?_ _)); refine blk_put (cs := #[.int .u64 4611686018427387904, .int .u64 0]) ?_ 1 _ rfl; (with_reducible repeat (first | refine blk_drewN ?_ _ | refine blk_drew ?_ | refine blk_alloc ?_ _)); refine blk_put (cs := #[.int .u64 0, .int .u64 0]) ?_ 0 _ rfl; (with_reducible repeat (first | refine blk_drewN ?_ _ | refine blk_drew ?_ | refine blk_alloc ?_ _)); exact BK860.out)) : gb860 ≠ gb861)); have n12_ := Aside0.mk ((by rw [hg]; exact Nat.ne_of_gt (blk_lt (g := gb860) (o := .cells #[.int .u64 4611686018427387904, .int .u64 0] 246 (0, 0)) (by (with_reducible repeat (first | refine blk_drewN ?_ _ | refine blk_drew ?_ | refine blk_alloc ?_ _)); refine blk_put (cs := #[.int .u64 4611686018427387904, .int .u64 0]) ?_ 1 _ rfl; (with_reducible repeat (first | refine blk_drewN ?_ _ | refine blk_drew ?_ | refine blk_alloc ?_ _)); refine blk_put (cs := #[.int .u64 0, .int .u64 0]) ?_ 0 _ rfl; (with_reducible repeat (first | refine blk_drewN ?_ _ | refine blk_drew ?_ | refine blk_alloc ?_ _)); exact BK860.out)) : gb861 ≠ gb860)); clear BK856; clear BK859; clear BK860; clear HB; have BK856 := n0_; have BK859 := n1_; have BK860 := n2_; have HB := n3_; have BK861 := n4_; have GW861 := n5_; have GE861 := n6_; have NB856_861 := n7_; have NB861_856 := n8_; have NB859_861 := n9_; have NB861_859 := n10_; have NB860_861 := n11_; have NB861_860 := n12_; clear n0_ n1_ n2_ n3_ n4_ n5_ n6_ n7_ n8_ n9_ n10_ n11_ n12_; clear hb hbox hg; have hnb19 := NB861_856.out; have hnc19 := NB856_861.out; have hnb20 := NB861_859.out; have hnc20 := NB859_861.out; have hnb21 := NB861_860.out; have hnc21 := NB860_861.out; have hcz22_0 : w18.cell? ⟨gb861, 0, none⟩ = some (.int .u64 0) := (blk_cell BK861.out 0).trans rfl; have hcz22_1 : w18.cell? ⟨gb861, 1, none⟩ = some (.int .u64 0) := (blk_cell BK861.out 1).trans rfl; have hfz22_0 := blk_frozen BK861.out 0; have hfz22_1 := blk_frozen BK861.out 1))
        go_loopg [8] k (fun kq v8 w' => ∃ (x8_1 : Int) (x862000_1 : Int) (x862001_1 : Int), v8 = .int .u64 x8_1 ∧ Aside0 (angle_steep.l0 kq x8_1 t854 t855 t857 t858 4611686018427387904 0 x862000_1 x862001_1 = some (r1, r2)) ∧ Aside0 (kq ≤ k) ∧ Aside0 (w'.heap[gb856]? = some (.cells #[.int .u64 t854, .int .u64 t855] 246 (0, 0))) ∧ Aside0 (w'.heap[gb859]? = some (.cells #[.int .u64 t857, .int .u64 t858] 246 (0, 0))) ∧ Aside0 (w'.heap[gb860]? = some (.cells #[.int .u64 4611686018427387904, .int .u64 0] 246 (0, 0))) ∧ Aside0 (w'.heap[gb861]? = some (.cells #[.int .u64 x862000_1, .int .u64 x862001_1] 246 (0, 0))) ∧ Aside0 (Below w.heap.size w w'))
        case atStart => exact ⟨(17), (4611686018427387904), (0), (by first | rfl | (simp; done) | (simp [*]; done)), H', ⟨Nat.le_refl _⟩, ⟨by (with_reducible repeat (first | refine blk_drewN ?_ _ | refine blk_drew ?_ | refine blk_alloc ?_ _)); refine blk_far ?_ NB856_861.out _; (with_reducible repeat (first | refine blk_drewN ?_ _ | refine blk_drew ?_ | refine blk_alloc ?_ _)); refine blk_far ?_ NB856_861.out _; (with_reducible repeat (first | refine blk_drewN ?_ _ | refine blk_drew ?_ | refine blk_alloc ?_ _)); exact BK856.out⟩, ⟨by (with_reducible repeat (first | refine blk_drewN ?_ _ | refine blk_drew ?_ | refine blk_alloc ?_ _)); refine blk_far ?_ NB859_861.out _; (with_reducible repeat (first | refine blk_drewN ?_ _ | refine blk_drew ?_ | refine blk_alloc ?_ _)); refine blk_far ?_ NB859_861.out _; (with_reducible repeat (first | refine blk_drewN ?_ _ | refine blk_drew ?_ | refine blk_alloc ?_ _)); exact BK859.out⟩, ⟨by (with_reducible repeat (first | refine blk_drewN ?_ _ | refine blk_drew ?_ | refine blk_alloc ?_ _)); refine blk_far ?_ NB860_861.out _; (with_reducible repeat (first | refine blk_drewN ?_ _ | refine blk_drew ?_ | refine blk_alloc ?_ _)); refine blk_far ?_ NB860_861.out _; (with_reducible repeat (first | refine blk_drewN ?_ _ | refine blk_drew ?_ | refine blk_alloc ?_ _)); exact BK860.out⟩, ⟨by (with_reducible repeat (first | refine blk_drewN ?_ _ | refine blk_drew ?_ | refine blk_alloc ?_ _)); refine blk_put (cs := #[.int .u64 4611686018427387904, .int .u64 0]) ?_ 1 _ rfl; (with_reducible repeat (first | refine blk_drewN ?_ _ | refine blk_drew ?_ | refine blk_alloc ?_ _)); refine blk_put (cs := #[.int .u64 0, .int .u64 0]) ?_ 0 _ rfl; (with_reducible repeat (first | refine blk_drewN ?_ _ | refine blk_drew ?_ | refine blk_alloc ?_ _)); exact BK861.out⟩, ⟨by repeat (first | (with_reducible first | exact HB.out | apply below_alloc | apply pw_below_drewN | apply below_drew1 | refine below_set ?_ GE856.out | refine below_set ?_ GE859.out | refine below_set ?_ GE860.out | refine below_set ?_ GE861.out) | exact HB.out)⟩⟩
        case round =>
          clear H'
          try clear c1
          try clear c2
          try clear c2b0
          try clear c2b1
          try clear p2
          try clear c3
          try clear c3b0
          try clear c3b1
          try clear c4
          try clear c4b0
          try clear c4b1
          try clear c12
          try clear c15
          try clear c16
          try clear c18
          try clear c19
          try clear c20
          try clear c21
          try clear hcz13_0
          try clear hcz13_1
          try clear hcz17_0
          try clear hcz17_1
          try clear hcz22_0
          try clear hcz22_1
          try clear hcz9_0
          try clear hcz9_1
          try clear hfz13_0
          try clear hfz13_1
          try clear hfz17_0
          try clear hfz17_1
          try clear hfz22_0
          try clear hfz22_1
          try clear hfz9_0
          try clear hfz9_1
          obtain ⟨x8_1, x862000_1, x862001_1, rfl, HA, HK1, BK856, BK859, BK860, BK861, HB⟩ := hrel
          cases gk with
          | zero => exact absurd HA.out (by simp [angle_steep.l0])
          | succ k1 =>
            have H := HA.out
            clear HA
            simp only [angle_steep.l0] at H
            by_cases c23 : x8_1 > 0
            · rw [if_pos c23] at H
              have c23b0 : decide (0 < x8_1) = true := decide_eq_true c23
              clear c23
              replace H := Option.bind_eq_some_iff.mp H
              obtain ⟨⟨t862, t863⟩, A240, H⟩ := H
              replace H : ((angle_fixed_over.f t862 t863 1 (IntKind.u64.wrap ((IntKind.u64.wrap (2 * x8_1)) * (IntKind.u64.wrap ((IntKind.u64.wrap (2 * x8_1)) + 1))))).bind fun bt864 => ((angle_fixed_minus.f 4611686018427387904 0 bt864.1 bt864.2).bind fun bt866 => (angle_steep.l0 k1 (IntKind.u64.wrap (x8_1 - 1)) t854 t855 t857 t858 4611686018427387904 0 bt866.1 bt866.2))) = some (r1, r2) := H
              have A24 := Aside0.mk A240
              clear A240
              replace H := Option.bind_eq_some_iff.mp H
              obtain ⟨⟨t864, t865⟩, A250, H⟩ := H
              replace H : ((angle_fixed_minus.f 4611686018427387904 0 t864 t865).bind fun bt866 => (angle_steep.l0 k1 (IntKind.u64.wrap (x8_1 - 1)) t854 t855 t857 t858 4611686018427387904 0 bt866.1 bt866.2)) = some (r1, r2) := H
              have A25 := Aside0.mk A250
              clear A250
              replace H := Option.bind_eq_some_iff.mp H
              obtain ⟨⟨t866, t867⟩, A260, H⟩ := H
              replace H : (angle_steep.l0 k1 (IntKind.u64.wrap (x8_1 - 1)) t854 t855 t857 t858 4611686018427387904 0 t866 t867) = some (r1, r2) := H
              have A26 := Aside0.mk A260
              clear A260
              have H' := Aside0.mk H
              clear H
              try go_wp2
              have n0_ := Aside0.mk (blk_drew BK856.out)
              have n1_ := Aside0.mk (blk_drew BK859.out)
              have n2_ := Aside0.mk (blk_drew BK860.out)
              have n3_ := Aside0.mk (blk_drew BK861.out)
              have n4_ := Aside0.mk (below_drew1 HB.out)
              clear BK856
              clear BK859
              clear BK860
              clear BK861
              clear HB
              have BK856 := n0_
              have BK859 := n1_
              have BK860 := n2_
              have BK861 := n3_
              have HB := n4_
              clear n0_ n1_ n2_ n3_ n4_
              refine start_ (n := 13) (S := fun w' => w'.cell? ⟨gb860, 0, none⟩ = some (.int .u64 4611686018427387904) ∧ w'.cell? ⟨gb860, 1, none⟩ = some (.int .u64 0) ∧ w'.cell? ⟨gb859, 0, none⟩ = some (.int .u64 t857) ∧ w'.cell? ⟨gb859, 1, none⟩ = some (.int .u64 t858) ∧ w'.cell? ⟨gb861, 0, none⟩ = some (.int .u64 x862000_1) ∧ w'.cell? ⟨gb861, 1, none⟩ = some (.int .u64 x862001_1)) (ds := [12]) #[false, false, false, false, false, false, false, false, false, false, false, false, false] (by kernel_rfl) rfl rfl ⟨(blk_cell BK860.out 0).trans rfl, (blk_cell BK860.out 1).trans rfl, (blk_cell BK859.out 0).trans rfl, (blk_cell BK859.out 1).trans rfl, (blk_cell BK861.out 0).trans rfl, (blk_cell BK861.out 1).trans rfl⟩ (fun hHeld => ?_); refine with_tabW angle_steep.tab15 angle_steep.bits15 (fun HT_ HW_ => ?_)
              generalize wr.drew = w27 at BK856 BK859 BK860 BK861 HB hHeld ⊢
              refine pure_ (i := 4) (N := some 33) (v := ?_) (a' := ?_) #[false, false, false, false, true, false, false, false, false, false, false, false, false] rfl rfl (any_of HT_.out (by kernel_rfl)) (fun _ _ _ h => h) (Or.inl ⟨by rfl, ?_⟩) ?_ ?_
              rotate_left
              · intro w'
                go_simp
                with_reducible rfl
              rotate_left
              · simp only [Act.put, List.setIfInBounds_toArray, List.set_cons_zero, List.set_cons_succ, i64_w, i32_w]
                rfl
              refine pure_ (i := 5) (N := some 34) (v := ?_) (a' := ?_) #[false, false, false, false, true, true, false, false, false, false, false, false, false] rfl rfl (any_of HT_.out (by kernel_rfl)) (fun _ _ _ h => h) (Or.inl ⟨by rfl, ?_⟩) ?_ ?_
              rotate_left
              · intro w'
                go_simp
                with_reducible rfl
              rotate_left
              · simp only [Act.put, List.setIfInBounds_toArray, List.set_cons_zero, List.set_cons_succ, i64_w, i32_w]
                rfl
              refine pure_ (i := 6) (N := some 35) (v := ?_) (a' := ?_) #[false, false, false, false, true, true, true, false, false, false, false, false, false] rfl rfl (any_of HT_.out (by kernel_rfl)) (fun _ _ _ h => h) (Or.inl ⟨by rfl, ?_⟩) ?_ ?_
              rotate_left
              · intro w'
                go_simp
                with_reducible rfl
              rotate_left
              · simp only [Act.put, List.setIfInBounds_toArray, List.set_cons_zero, List.set_cons_succ, i64_w, i32_w]
                rfl
              refine pure_ (i := 7) (N := some 36) (v := ?_) (a' := ?_) #[false, false, false, false, true, true, true, true, false, false, false, false, false] rfl rfl (any_of HT_.out (by kernel_rfl)) (fun _ _ _ h => h) (Or.inl ⟨by rfl, ?_⟩) ?_ ?_
              rotate_left
              · intro w'
                go_simp
                with_reducible rfl
              rotate_left
              · simp only [Act.put, List.setIfInBounds_toArray, List.set_cons_zero, List.set_cons_succ, i64_w, i32_w]
                rfl
              refine pure_ (i := 8) (N := some 37) (v := ?_) (a' := ?_) #[false, false, false, false, true, true, true, true, true, false, false, false, false] rfl rfl (any_of HT_.out (by kernel_rfl)) (fun _ _ _ h => h) (Or.inl ⟨by rfl, ?_⟩) ?_ ?_
              rotate_left
              · intro w'
                go_simp
                with_reducible rfl
              rotate_left
              · simp only [Act.put, List.setIfInBounds_toArray, List.set_cons_zero, List.set_cons_succ, i64_w, i32_w]
                rfl
              refine pure_ (i := 9) (N := some 38) (v := ?_) (a' := ?_) #[false, false, false, false, true, true, true, true, true, true, false, false, false] rfl rfl (any_of HT_.out (by kernel_rfl)) (fun _ _ _ h => h) (Or.inl ⟨by rfl, ?_⟩) ?_ ?_
              rotate_left
              · intro w'
                go_simp
                with_reducible rfl
              rotate_left
              · simp only [Act.put, List.setIfInBounds_toArray, List.set_cons_zero, List.set_cons_succ, i64_w, i32_w]
                rfl
              refine take_ (i := 0) (N := some 29) (v := ?_) (a' := ?_) #[true, false, false, false, true, true, true, true, true, true, false, false, false] rfl rfl (take_ofW HT_.out HW_.out (by kernel_rfl)) (fun _ _ _ h => h) (Or.inl ⟨by rfl, ?_⟩) hHeld ?_ ?_
              rotate_left
              · rintro w' ⟨s0, s1, s2, s3, s4, s5⟩
                go_simp
                with_reducible rfl
              rotate_left
              · simp only [Act.put, List.setIfInBounds_toArray, List.set_cons_zero, List.set_cons_succ, i64_w, i32_w]
                rfl
              refine take_ (i := 1) (N := some 30) (v := ?_) (a' := ?_) #[true, true, false, false, true, true, true, true, true, true, false, false, false] rfl rfl (take_ofW HT_.out HW_.out (by kernel_rfl)) (fun _ _ _ h => h) (Or.inl ⟨by rfl, ?_⟩) hHeld ?_ ?_
              rotate_left
              · rintro w' ⟨s0, s1, s2, s3, s4, s5⟩
                go_simp
                with_reducible rfl
              rotate_left
              · simp only [Act.put, List.setIfInBounds_toArray, List.set_cons_zero, List.set_cons_succ, i64_w, i32_w]
                rfl
              refine take_ (i := 2) (N := some 31) (v := ?_) (a' := ?_) #[true, true, true, false, true, true, true, true, true, true, false, false, false] rfl rfl (take_ofW HT_.out HW_.out (by kernel_rfl)) (fun _ _ _ h => h) (Or.inl ⟨by rfl, ?_⟩) hHeld ?_ ?_
              rotate_left
              · rintro w' ⟨s0, s1, s2, s3, s4, s5⟩
                go_simp
                with_reducible rfl
              rotate_left
              · simp only [Act.put, List.setIfInBounds_toArray, List.set_cons_zero, List.set_cons_succ, i64_w, i32_w]
                rfl
              refine one_ (i := 3) (N := some 32) #[true, true, true, true, true, true, true, true, true, true, false, false, false] rfl rfl (one_of HT_.out (by kernel_rfl)) (by decide) (fun K hK => ?_)
              refine goes_ Tryz.func192 (by kernel_rfl) rfl #[.agg #[.int .u64 t857, .int .u64 t858], .agg #[.int .u64 x862000_1, .int .u64 x862001_1]] (by rfl) rfl rfl (by (try simp only [List.map_toArray, List.map_cons, List.map_nil]); first | done | rfl | (simp only [List.length_drop, List.length_take]; rfl)) ?_
              with_reducible refine (angle_fixed_times.calls t857 t858 x862000_1 x862001_1 t862 t863 _ A24.out).mono ?_
              rintro e w28 ⟨rfl, hb⟩
              refine ⟨_, rfl, ?_⟩
              have n0_ := Aside0.mk (blk_below (g := gb856) (o := .cells #[.int .u64 t854, .int .u64 t855] 246 (0, 0)) (by (with_reducible repeat (first | refine blk_drewN ?_ _ | refine blk_drew ?_ | refine blk_alloc ?_ _)); exact BK856.out) hb)
              have n1_ := Aside0.mk (blk_below (g := gb859) (o := .cells #[.int .u64 t857, .int .u64 t858] 246 (0, 0)) (by (with_reducible repeat (first | refine blk_drewN ?_ _ | refine blk_drew ?_ | refine blk_alloc ?_ _)); exact BK859.out) hb)
              have n2_ := Aside0.mk (blk_below (g := gb860) (o := .cells #[.int .u64 4611686018427387904, .int .u64 0] 246 (0, 0)) (by (with_reducible repeat (first | refine blk_drewN ?_ _ | refine blk_drew ?_ | refine blk_alloc ?_ _)); exact BK860.out) hb)
              have n3_ := Aside0.mk (blk_below (g := gb861) (o := .cells #[.int .u64 x862000_1, .int .u64 x862001_1] 246 (0, 0)) (by (with_reducible repeat (first | refine blk_drewN ?_ _ | refine blk_drew ?_ | refine blk_alloc ?_ _)); exact BK861.out) hb)
              have n4_ := Aside0.mk (below_step (by repeat (first | (with_reducible first | exact HB.out | apply below_alloc | apply pw_below_drewN | apply below_drew1 | refine below_set ?_ GE856.out | refine below_set ?_ GE859.out | refine below_set ?_ GE860.out | refine below_set ?_ GE861.out) | exact HB.out)) hb)
              clear BK856
              clear BK859
              clear BK860
              clear BK861
              clear HB
              have BK856 := n0_
              have BK859 := n1_
              have BK860 := n2_
              have BK861 := n3_
              have HB := n4_
              clear n0_ n1_ n2_ n3_ n4_
              (try clear hb)
              (try clear hb2)
              (try clear hk)
              (try clear hi)
              refine hK.out _ _ ⟨(blk_cell BK860.out 0).trans rfl, (blk_cell BK860.out 1).trans rfl, (blk_cell BK859.out 0).trans rfl, (blk_cell BK859.out 1).trans rfl, (blk_cell BK861.out 0).trans rfl, (blk_cell BK861.out 1).trans rfl⟩ (fun hHeld => ?_)
              clear hK K
              refine norm_ (a' := ?_) ?_ ?_
              rotate_left
              · show Act.put _ (some 32) _ = _
                simp only [Act.put, List.setIfInBounds_toArray, List.set_cons_zero, List.set_cons_succ, i64_w, i32_w]
                rfl
              refine one_ (i := 10) (N := some 39) #[true, true, true, true, true, true, true, true, true, true, true, false, false] rfl rfl (one_of HT_.out (by kernel_rfl)) (by decide) (fun K hK => ?_)
              refine goes_ Tryz.func191 (by kernel_rfl) rfl #[.agg #[.int .u64 t862, .int .u64 t863], .int .u64 1, .int .u64 (IntKind.u64.wrap ((IntKind.u64.wrap (2 * x8_1)) * (IntKind.u64.wrap ((IntKind.u64.wrap (2 * x8_1)) + 1))))] (by rfl) rfl rfl (by (try simp only [List.map_toArray, List.map_cons, List.map_nil]); first | done | rfl | (simp only [List.length_drop, List.length_take]; rfl)) ?_
              with_reducible refine (angle_fixed_over.calls t862 t863 1 (IntKind.u64.wrap ((IntKind.u64.wrap (2 * x8_1)) * (IntKind.u64.wrap ((IntKind.u64.wrap (2 * x8_1)) + 1)))) t864 t865 _ A25.out).mono ?_
              rintro e w29 ⟨rfl, hb⟩
              refine ⟨_, rfl, ?_⟩
              have n0_ := Aside0.mk (blk_below (g := gb856) (o := .cells #[.int .u64 t854, .int .u64 t855] 246 (0, 0)) (by (with_reducible repeat (first | refine blk_drewN ?_ _ | refine blk_drew ?_ | refine blk_alloc ?_ _)); exact BK856.out) hb)
              have n1_ := Aside0.mk (blk_below (g := gb859) (o := .cells #[.int .u64 t857, .int .u64 t858] 246 (0, 0)) (by (with_reducible repeat (first | refine blk_drewN ?_ _ | refine blk_drew ?_ | refine blk_alloc ?_ _)); exact BK859.out) hb)
              have n2_ := Aside0.mk (blk_below (g := gb860) (o := .cells #[.int .u64 4611686018427387904, .int .u64 0] 246 (0, 0)) (by (with_reducible repeat (first | refine blk_drewN ?_ _ | refine blk_drew ?_ | refine blk_alloc ?_ _)); exact BK860.out) hb)
              have n3_ := Aside0.mk (blk_below (g := gb861) (o := .cells #[.int .u64 x862000_1, .int .u64 x862001_1] 246 (0, 0)) (by (with_reducible repeat (first | refine blk_drewN ?_ _ | refine blk_drew ?_ | refine blk_alloc ?_ _)); exact BK861.out) hb)
              have n4_ := Aside0.mk (below_step (by repeat (first | (with_reducible first | exact HB.out | apply below_alloc | apply pw_below_drewN | apply below_drew1 | refine below_set ?_ GE856.out | refine below_set ?_ GE859.out | refine below_set ?_ GE860.out | refine below_set ?_ GE861.out) | exact HB.out)) hb)
              clear BK856
              clear BK859
              clear BK860
              clear BK861
              clear HB
              have BK856 := n0_
              have BK859 := n1_
              have BK860 := n2_
              have BK861 := n3_
              have HB := n4_
              clear n0_ n1_ n2_ n3_ n4_
              (try clear hb)
              (try clear hb2)
              (try clear hk)
              (try clear hi)
              refine hK.out _ _ ⟨(blk_cell BK860.out 0).trans rfl, (blk_cell BK860.out 1).trans rfl, (blk_cell BK859.out 0).trans rfl, (blk_cell BK859.out 1).trans rfl, (blk_cell BK861.out 0).trans rfl, (blk_cell BK861.out 1).trans rfl⟩ (fun hHeld => ?_)
              clear hK K
              refine norm_ (a' := ?_) ?_ ?_
              rotate_left
              · show Act.put _ (some 39) _ = _
                simp only [Act.put, List.setIfInBounds_toArray, List.set_cons_zero, List.set_cons_succ, i64_w, i32_w]
                rfl
              refine one_ (i := 11) (N := some 40) #[true, true, true, true, true, true, true, true, true, true, true, true, false] rfl rfl (one_of HT_.out (by kernel_rfl)) (by decide) (fun K hK => ?_)
              refine goes_ Tryz.func193 (by kernel_rfl) rfl #[.agg #[.int .u64 4611686018427387904, .int .u64 0], .agg #[.int .u64 t864, .int .u64 t865]] (by rfl) rfl rfl (by (try simp only [List.map_toArray, List.map_cons, List.map_nil]); first | done | rfl | (simp only [List.length_drop, List.length_take]; rfl)) ?_
              with_reducible refine (angle_fixed_minus.calls 4611686018427387904 0 t864 t865 t866 t867 _ A26.out).mono ?_
              rintro e w30 ⟨rfl, hb⟩
              refine ⟨_, rfl, ?_⟩
              have n0_ := Aside0.mk (blk_below (g := gb856) (o := .cells #[.int .u64 t854, .int .u64 t855] 246 (0, 0)) (by (with_reducible repeat (first | refine blk_drewN ?_ _ | refine blk_drew ?_ | refine blk_alloc ?_ _)); exact BK856.out) hb)
              have n1_ := Aside0.mk (blk_below (g := gb859) (o := .cells #[.int .u64 t857, .int .u64 t858] 246 (0, 0)) (by (with_reducible repeat (first | refine blk_drewN ?_ _ | refine blk_drew ?_ | refine blk_alloc ?_ _)); exact BK859.out) hb)
              have n2_ := Aside0.mk (blk_below (g := gb860) (o := .cells #[.int .u64 4611686018427387904, .int .u64 0] 246 (0, 0)) (by (with_reducible repeat (first | refine blk_drewN ?_ _ | refine blk_drew ?_ | refine blk_alloc ?_ _)); exact BK860.out) hb)
              have n3_ := Aside0.mk (blk_below (g := gb861) (o := .cells #[.int .u64 x862000_1, .int .u64 x862001_1] 246 (0, 0)) (by (with_reducible repeat (first | refine blk_drewN ?_ _ | refine blk_drew ?_ | refine blk_alloc ?_ _)); exact BK861.out) hb)
              have n4_ := Aside0.mk (below_step (by repeat (first | (with_reducible first | exact HB.out | apply below_alloc | apply pw_below_drewN | apply below_drew1 | refine below_set ?_ GE856.out | refine below_set ?_ GE859.out | refine below_set ?_ GE860.out | refine below_set ?_ GE861.out) | exact HB.out)) hb)
              clear BK856
              clear BK859
              clear BK860
              clear BK861
              clear HB
              have BK856 := n0_
              have BK859 := n1_
              have BK860 := n2_
              have BK861 := n3_
              have HB := n4_
              clear n0_ n1_ n2_ n3_ n4_
              (try clear hb)
              (try clear hb2)
              (try clear hk)
              (try clear hi)
              refine hK.out _ _ ⟨(blk_cell BK860.out 0).trans rfl, (blk_cell BK860.out 1).trans rfl, (blk_cell BK859.out 0).trans rfl, (blk_cell BK859.out 1).trans rfl, (blk_cell BK861.out 0).trans rfl, (blk_cell BK861.out 1).trans rfl⟩ (fun hHeld => ?_)
              clear hK K
              refine norm_ (a' := ?_) ?_ ?_
              rotate_left
              · show Act.put _ (some 40) _ = _
                simp only [Act.put, List.setIfInBounds_toArray, List.set_cons_zero, List.set_cons_succ, i64_w, i32_w]
                rfl
              refine last_ (i := 12) (N := none) #[true, true, true, true, true, true, true, true, true, true, true, true, true] rfl rfl (one_of HT_.out (by kernel_rfl)) (by decide) (fun K hK => ?_)
              have hs31 : w30.cell? ⟨gb861, 0, none⟩ = some (.int .u64 x862000_1) := (blk_cell BK861.out 0).trans rfl
              have hfs31 := blk_frozen BK861.out 0
              have hns31_0 := NB856_861.out
              have hns31_1 := NB859_861.out
              have hns31_2 := NB860_861.out
              have hms31_0 := NB861_856.out
              have hms31_1 := NB861_859.out
              have hms31_2 := NB861_860.out
              have hs32 : w30.cell? ⟨gb861, 1, none⟩ = some (.int .u64 x862001_1) := (blk_cell BK861.out 1).trans rfl
              have hfs32 := blk_frozen BK861.out 1
              have hns32_0 := NB856_861.out
              have hns32_1 := NB859_861.out
              have hns32_2 := NB860_861.out
              have hms32_0 := NB861_856.out
              have hms32_1 := NB861_859.out
              have hms32_2 := NB861_860.out
              refine skip_ (w1 := ?_) (by rfl) rfl ?_ ?_
              rotate_left
              · go_simp
                rfl
              refine hK.out _ _ ?_
              clear hK K
              refine done_ (done_of HT_.out (by kernel_rfl)) ?_
              try go_wp2
              go_roundg k1
              case measure => have := HK1.out; omega
              case rel => exact ⟨(IntKind.u64.wrap (x8_1 - 1)), (t866), (t867), (by first | rfl | (simp; done) | (simp [*]; done)), H', ⟨by have := HK1.out; omega⟩, ⟨by (with_reducible repeat (first | refine blk_drewN ?_ _ | refine blk_drew ?_ | refine blk_alloc ?_ _)); refine blk_far ?_ NB856_861.out _; (with_reducible repeat (first | refine blk_drewN ?_ _ | refine blk_drew ?_ | refine blk_alloc ?_ _)); refine blk_far ?_ NB856_861.out _; (with_reducible repeat (first | refine blk_drewN ?_ _ | refine blk_drew ?_ | refine blk_alloc ?_ _)); exact BK856.out⟩, ⟨by (with_reducible repeat (first | refine blk_drewN ?_ _ | refine blk_drew ?_ | refine blk_alloc ?_ _)); refine blk_far ?_ NB859_861.out _; (with_reducible repeat (first | refine blk_drewN ?_ _ | refine blk_drew ?_ | refine blk_alloc ?_ _)); refine blk_far ?_ NB859_861.out _; (with_reducible repeat (first | refine blk_drewN ?_ _ | refine blk_drew ?_ | refine blk_alloc ?_ _)); exact BK859.out⟩, ⟨by (with_reducible repeat (first | refine blk_drewN ?_ _ | refine blk_drew ?_ | refine blk_alloc ?_ _)); refine blk_far ?_ NB860_861.out _; (with_reducible repeat (first | refine blk_drewN ?_ _ | refine blk_drew ?_ | refine blk_alloc ?_ _)); refine blk_far ?_ NB860_861.out _; (with_reducible repeat (first | refine blk_drewN ?_ _ | refine blk_drew ?_ | refine blk_alloc ?_ _)); exact BK860.out⟩, ⟨by (with_reducible repeat (first | refine blk_drewN ?_ _ | refine blk_drew ?_ | refine blk_alloc ?_ _)); refine blk_put (cs := #[.int .u64 t866, .int .u64 x862001_1]) ?_ 1 _ rfl; (with_reducible repeat (first | refine blk_drewN ?_ _ | refine blk_drew ?_ | refine blk_alloc ?_ _)); refine blk_put (cs := #[.int .u64 x862000_1, .int .u64 x862001_1]) ?_ 0 _ rfl; (with_reducible repeat (first | refine blk_drewN ?_ _ | refine blk_drew ?_ | refine blk_alloc ?_ _)); exact BK861.out⟩, ⟨by repeat (first | (with_reducible first | exact HB.out | apply below_alloc | apply pw_below_drewN | apply below_drew1 | refine below_set ?_ GE856.out | refine below_set ?_ GE859.out | refine below_set ?_ GE860.out | refine below_set ?_ GE861.out) | exact HB.out)⟩⟩
            · rw [if_neg c23] at H
              have c23b0 : decide (0 < x8_1) = false := decide_eq_false c23
              clear c23
              replace H := Option.bind_eq_some_iff.mp H
              obtain ⟨⟨t868, t869⟩, A330, H⟩ := H
              replace H : ((angle_fixed_units.f t868 t869).bind fun t870 => (some (t870, false))) = some (r1, r2) := H
              have A33 := Aside0.mk A330
              clear A330
              replace H := Option.bind_eq_some_iff.mp H
              obtain ⟨t870, A340, H⟩ := H
              replace H : (some (t870, false)) = some (r1, r2) := H
              have A34 := Aside0.mk A340
              clear A340
              simp only [Option.some.injEq, Prod.mk.injEq] at H
              obtain ⟨rfl, rfl⟩ := H
              have hnb35 := NB856_859.out
              have hnc35 := NB859_856.out
              have hnb36 := NB856_860.out
              have hnc36 := NB860_856.out
              have hnb37 := NB856_861.out
              have hnc37 := NB861_856.out
              have hcz38_0 : wr.cell? ⟨gb856, 0, none⟩ = some (.int .u64 t854) := (blk_cell BK856.out 0).trans rfl
              have hcz38_1 : wr.cell? ⟨gb856, 1, none⟩ = some (.int .u64 t855) := (blk_cell BK856.out 1).trans rfl
              have hfz38_0 := blk_frozen BK856.out 0
              have hfz38_1 := blk_frozen BK856.out 1
              have hnb39 := NB861_859.out
              have hnc39 := NB859_861.out
              have hnb40 := NB861_860.out
              have hnc40 := NB860_861.out
              have hcz41_0 : wr.cell? ⟨gb861, 0, none⟩ = some (.int .u64 x862000_1) := (blk_cell BK861.out 0).trans rfl
              have hcz41_1 : wr.cell? ⟨gb861, 1, none⟩ = some (.int .u64 x862001_1) := (blk_cell BK861.out 1).trans rfl
              have hfz41_0 := blk_frozen BK861.out 0
              have hfz41_1 := blk_frozen BK861.out 1
              go_wp2_with (first | ((with_reducible refine gate_callee (f := 192) rfl ?_); refine goesL_ (some 43) rfl rfl Tryz.func192 (by kernel_rfl) rfl #[.agg #[.int .u64 t854, .int .u64 t855], .agg #[.int .u64 x862000_1, .int .u64 x862001_1]] rfl (by (try simp only [List.map_toArray, List.map_cons, List.map_nil]); first | done | rfl | (simp only [List.length_drop, List.length_take]; rfl)) ?_; (with_reducible refine (angle_fixed_times.calls t854 t855 x862000_1 x862001_1 t868 t869 _ A33.out).mono ?_); rintro e w42 ⟨rfl, hb⟩; refine ⟨_, rfl, ?_⟩; have n0_ := Aside0.mk (blk_below (g := gb856) (o := .cells #[.int .u64 t854, .int .u64 t855] 246 (0, 0)) (by (with_reducible repeat (first | refine blk_drewN ?_ _ | refine blk_drew ?_ | refine blk_alloc ?_ _)); exact BK856.out) hb); have n1_ := Aside0.mk (blk_below (g := gb859) (o := .cells #[.int .u64 t857, .int .u64 t858] 246 (0, 0)) (by (with_reducible repeat (first | refine blk_drewN ?_ _ | refine blk_drew ?_ | refine blk_alloc ?_ _)); exact BK859.out) hb); have n2_ := Aside0.mk (blk_below (g := gb860) (o := .cells #[.int .u64 4611686018427387904, .int .u64 0] 246 (0, 0)) (by (with_reducible repeat (first | refine blk_drewN ?_ _ | refine blk_drew ?_ | refine blk_alloc ?_ _)); exact BK860.out) hb); have n3_ := Aside0.mk (blk_below (g := gb861) (o := .cells #[.int .u64 x862000_1, .int .u64 x862001_1] 246 (0, 0)) (by (with_reducible repeat (first | refine blk_drewN ?_ _ | refine blk_drew ?_ | refine blk_alloc ?_ _)); exact BK861.out) hb); have n4_ := Aside0.mk (below_step (by repeat (first | (with_reducible first | exact HB.out | apply below_alloc | apply pw_below_drewN | apply below_drew1 | refine below_set ?_ GE856.out | refine below_set ?_ GE859.out | refine below_set ?_ GE860.out | refine below_set ?_ GE861.out) | exact HB.out)) hb); clear BK856; clear BK859; clear BK860; clear BK861; clear HB; have BK856 := n0_; have BK859 := n1_; have BK860 := n2_; have BK861 := n3_; have HB := n4_; clear n0_ n1_ n2_ n3_ n4_; (try clear hb); (try clear hb2); (try clear hk); (try clear hi)) | ((with_reducible refine gate_callee (f := 194) rfl ?_); refine goesL_ (some 44) rfl rfl Tryz.func194 (by kernel_rfl) rfl #[.agg #[.int .u64 t868, .int .u64 t869]] rfl (by (try simp only [List.map_toArray, List.map_cons, List.map_nil]); first | done | rfl | (simp only [List.length_drop, List.length_take]; rfl)) ?_; (with_reducible refine (angle_fixed_units.calls t868 t869 t870 _ A34.out).mono ?_); rintro e w43 ⟨rfl, hb⟩; refine ⟨_, rfl, ?_⟩; have n0_ := Aside0.mk (blk_below (g := gb856) (o := .cells #[.int .u64 t854, .int .u64 t855] 246 (0, 0)) (by (with_reducible repeat (first | refine blk_drewN ?_ _ | refine blk_drew ?_ | refine blk_alloc ?_ _)); exact BK856.out) hb); have n1_ := Aside0.mk (blk_below (g := gb859) (o := .cells #[.int .u64 t857, .int .u64 t858] 246 (0, 0)) (by (with_reducible repeat (first | refine blk_drewN ?_ _ | refine blk_drew ?_ | refine blk_alloc ?_ _)); exact BK859.out) hb); have n2_ := Aside0.mk (blk_below (g := gb860) (o := .cells #[.int .u64 4611686018427387904, .int .u64 0] 246 (0, 0)) (by (with_reducible repeat (first | refine blk_drewN ?_ _ | refine blk_drew ?_ | refine blk_alloc ?_ _)); exact BK860.out) hb); have n3_ := Aside0.mk (blk_below (g := gb861) (o := .cells #[.int .u64 x862000_1, .int .u64 x862001_1] 246 (0, 0)) (by (with_reducible repeat (first | refine blk_drewN ?_ _ | refine blk_drew ?_ | refine blk_alloc ?_ _)); exact BK861.out) hb); have n4_ := Aside0.mk (below_step (by repeat (first | (with_reducible first | exact HB.out | apply below_alloc | apply pw_below_drewN | apply below_drew1 | refine below_set ?_ GE856.out | refine below_set ?_ GE859.out | refine below_set ?_ GE860.out | refine below_set ?_ GE861.out) | exact HB.out)) hb); clear BK856; clear BK859; clear BK860; clear BK861; clear HB; have BK856 := n0_; have BK859 := n1_; have BK860 := n2_; have BK861 := n3_; have HB := n4_; clear n0_ n1_ n2_ n3_ n4_; (try clear hb); (try clear hb2); (try clear hk); (try clear hi)))
              go_ret2
              exact ⟨by first | rfl | (simp [errW_none, errW_some] <;> rfl) | (simp [*, errW_none, errW_some] <;> rfl), by repeat (first | (with_reducible first | exact HB.out | apply below_alloc | apply pw_below_drewN | apply below_drew1 | refine below_set ?_ GE856.out | refine below_set ?_ GE859.out | refine below_set ?_ GE860.out | refine below_set ?_ GE861.out) | exact HB.out)⟩

end Go.Proofs.YtfoaglfnnomdkaaGreatDoor.C

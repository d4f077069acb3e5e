/- Written by a program of this session (wip/myprint.sh): contracts of Go functions of the translation: each call comes to what the Lean function of its name says. -/
import Derived.Test.YtloonjdkiafafaaQLd
namespace Go.Proofs.Ytloonjdkiafafaa.QL
open Go.RowKit Go.Proofs.YtloonjdkiafafaaW.PrintWords Go.Proofs.YtloonjdkiafafaaW.PrintLast Go.Proofs.YtloonjdkiafafaaW.PrintMore
attribute [local go_sem] max2_int min2_int max_two min_two max_three min_three max_four min_four   -- for this text's walks alone
set_option linter.unusedVariables false
set_option linter.unusedSimpArgs false
attribute [local go_sem high] eqA23 eqA40
open antipodelaw6_StampLine.Short
open antipodelaw6_StampLine
set_option maxHeartbeats 8000000 in
set_option maxRecDepth 100000 in
theorem antipodelaw6_StampLine.calls (k : Nat) (a0_0 : Int) (a0_1 : Int) (a1_0 : Int) (a1_1 : Int) (a2_0 : Int) (a2_1 : Int) (a3_0 : Int) (a3_1 : Int) (a3_2 : Int) (a3_3 : Int) (a4_0 : Int) (a4_1 : Int) (a4_2 : Int) (a4_3 : Int) (a5_0 : Int) (a5_1 : Int) (a5_2 : Int) (a5_3 : Int) (r : Bool) (w : World) (hr_ : Aside0 (r = true)) (h : antipodelaw6_StampLine.f k a0_0 a0_1 a1_0 a1_1 a2_0 a2_1 a3_0 a3_1 a3_2 a3_3 a4_0 a4_1 a4_2 a4_3 a5_0 a5_1 a5_2 a5_3 = some r) :
  Calls Try.prog 7 #[.agg #[.int .i64 a0_0, .int .i64 a0_1], .agg #[.int .i64 a1_0, .int .i64 a1_1], .agg #[.int .i64 a2_0, .int .i64 a2_1], .agg #[.int .i64 a3_0, .int .i64 a3_1, .int .i64 a3_2, .int .i64 a3_3], .agg #[.int .i64 a4_0, .int .i64 a4_1, .int .i64 a4_2, .int .i64 a4_3], .agg #[.int .i64 a5_0, .int .i64 a5_1, .int .i64 a5_2, .int .i64 a5_3]] w fun e w' => e = .returned (.bool r) ∧ Below w.heap.size w w' := by
 have hu40 := Try.underlying40
 have hu23 := Try.underlying23
 have HB := Aside0.mk (Below.refl w.heap.size w)
 have H : ((antipodelaw6_begun.f k).bind fun t140 => (if t140 = true then ((stamp_Less.f k a0_0 a0_1 a1_0 a1_1).bind fun t141 => (if t141 = true then (if ((a0_0 == a1_0 && (a0_1 == a1_1)) == false) = true then ((stamp_Less.f k a0_0 a0_1 a1_0 a1_1).bind fun _t143 => ((stamp_Less.f k a1_0 a1_1 a0_0 a0_1).bind fun t144 => (if t144 = true then (j0 k false a0_0 a0_1 a1_0 a1_1 a3_0 a3_1 a3_2 a3_3 a4_0 a4_1 a4_2 a4_3 a5_0 a5_1 a5_2 a5_3) else ((stamp_Less.f k a0_0 a0_1 a1_0 a1_1).bind fun _t146 => ((stamp_Less.f k a1_0 a1_1 a2_0 a2_1).bind fun t147 => (if t147 = true then ((stamp_Less.f k a0_0 a0_1 a2_0 a2_1).bind fun t148 => (j0 k (!(!t148)) a0_0 a0_1 a1_0 a1_1 a3_0 a3_1 a3_2 a3_3 a4_0 a4_1 a4_2 a4_3 a5_0 a5_1 a5_2 a5_3)) else (j0 k (!false) a0_0 a0_1 a1_0 a1_1 a3_0 a3_1 a3_2 a3_3 a4_0 a4_1 a4_2 a4_3 a5_0 a5_1 a5_2 a5_3))))))) else (j0 k false a0_0 a0_1 a1_0 a1_1 a3_0 a3_1 a3_2 a3_3 a4_0 a4_1 a4_2 a4_3 a5_0 a5_1 a5_2 a5_3)) else ((stamp_Less.f k a1_0 a1_1 a0_0 a0_1).bind fun t149 => (if ((a0_0 == a1_0 && (a0_1 == a1_1)) == (!t149)) = true then ((stamp_Less.f k a0_0 a0_1 a1_0 a1_1).bind fun _t151 => ((stamp_Less.f k a0_0 a0_1 a1_0 a1_1).bind fun _t153 => (j0 k (!false) a0_0 a0_1 a1_0 a1_1 a3_0 a3_1 a3_2 a3_3 a4_0 a4_1 a4_2 a4_3 a5_0 a5_1 a5_2 a5_3))) else (j0 k false a0_0 a0_1 a1_0 a1_1 a3_0 a3_1 a3_2 a3_3 a4_0 a4_1 a4_2 a4_3 a5_0 a5_1 a5_2 a5_3))))) else (some false))) = some r := h
 clear h
 replace H := Option.bind_eq_some_iff.mp H
 obtain ⟨t140, A70, H⟩ := H
 replace H : (if t140 = true then ((stamp_Less.f k a0_0 a0_1 a1_0 a1_1).bind fun t141 => (if t141 = true then (if ((a0_0 == a1_0 && (a0_1 == a1_1)) == false) = true then ((stamp_Less.f k a0_0 a0_1 a1_0 a1_1).bind fun _t143 => ((stamp_Less.f k a1_0 a1_1 a0_0 a0_1).bind fun t144 => (if t144 = true then (j0 k false a0_0 a0_1 a1_0 a1_1 a3_0 a3_1 a3_2 a3_3 a4_0 a4_1 a4_2 a4_3 a5_0 a5_1 a5_2 a5_3) else ((stamp_Less.f k a0_0 a0_1 a1_0 a1_1).bind fun _t146 => ((stamp_Less.f k a1_0 a1_1 a2_0 a2_1).bind fun t147 => (if t147 = true then ((stamp_Less.f k a0_0 a0_1 a2_0 a2_1).bind fun t148 => (j0 k (!(!t148)) a0_0 a0_1 a1_0 a1_1 a3_0 a3_1 a3_2 a3_3 a4_0 a4_1 a4_2 a4_3 a5_0 a5_1 a5_2 a5_3)) else (j0 k (!false) a0_0 a0_1 a1_0 a1_1 a3_0 a3_1 a3_2 a3_3 a4_0 a4_1 a4_2 a4_3 a5_0 a5_1 a5_2 a5_3))))))) else (j0 k false a0_0 a0_1 a1_0 a1_1 a3_0 a3_1 a3_2 a3_3 a4_0 a4_1 a4_2 a4_3 a5_0 a5_1 a5_2 a5_3)) else ((stamp_Less.f k a1_0 a1_1 a0_0 a0_1).bind fun t149 => (if ((a0_0 == a1_0 && (a0_1 == a1_1)) == (!t149)) = true then ((stamp_Less.f k a0_0 a0_1 a1_0 a1_1).bind fun _t151 => ((stamp_Less.f k a0_0 a0_1 a1_0 a1_1).bind fun _t153 => (j0 k (!false) a0_0 a0_1 a1_0 a1_1 a3_0 a3_1 a3_2 a3_3 a4_0 a4_1 a4_2 a4_3 a5_0 a5_1 a5_2 a5_3))) else (j0 k false a0_0 a0_1 a1_0 a1_1 a3_0 a3_1 a3_2 a3_3 a4_0 a4_1 a4_2 a4_3 a5_0 a5_1 a5_2 a5_3))))) else (some false)) = some r := H
 have A7 := Aside0.mk A70
 clear A70
 by_cases c8 : t140 = true
 ·subst c8
  have H1 : ((stamp_Less.f k a0_0 a0_1 a1_0 a1_1).bind fun t141 => (if t141 = true then (if ((a0_0 == a1_0 && (a0_1 == a1_1)) == false) = true then ((stamp_Less.f k a0_0 a0_1 a1_0 a1_1).bind fun _t143 => ((stamp_Less.f k a1_0 a1_1 a0_0 a0_1).bind fun t144 => (if t144 = true then (j0 k false a0_0 a0_1 a1_0 a1_1 a3_0 a3_1 a3_2 a3_3 a4_0 a4_1 a4_2 a4_3 a5_0 a5_1 a5_2 a5_3) else ((stamp_Less.f k a0_0 a0_1 a1_0 a1_1).bind fun _t146 => ((stamp_Less.f k a1_0 a1_1 a2_0 a2_1).bind fun t147 => (if t147 = true then ((stamp_Less.f k a0_0 a0_1 a2_0 a2_1).bind fun t148 => (j0 k (!(!t148)) a0_0 a0_1 a1_0 a1_1 a3_0 a3_1 a3_2 a3_3 a4_0 a4_1 a4_2 a4_3 a5_0 a5_1 a5_2 a5_3)) else (j0 k (!false) a0_0 a0_1 a1_0 a1_1 a3_0 a3_1 a3_2 a3_3 a4_0 a4_1 a4_2 a4_3 a5_0 a5_1 a5_2 a5_3))))))) else (j0 k false a0_0 a0_1 a1_0 a1_1 a3_0 a3_1 a3_2 a3_3 a4_0 a4_1 a4_2 a4_3 a5_0 a5_1 a5_2 a5_3)) else ((stamp_Less.f k a1_0 a1_1 a0_0 a0_1).bind fun t149 => (if ((a0_0 == a1_0 && (a0_1 == a1_1)) == (!t149)) = true then ((stamp_Less.f k a0_0 a0_1 a1_0 a1_1).bind fun _t151 => ((stamp_Less.f k a0_0 a0_1 a1_0 a1_1).bind fun _t153 => (j0 k (!false) a0_0 a0_1 a1_0 a1_1 a3_0 a3_1 a3_2 a3_3 a4_0 a4_1 a4_2 a4_3 a5_0 a5_1 a5_2 a5_3))) else (j0 k false a0_0 a0_1 a1_0 a1_1 a3_0 a3_1 a3_2 a3_3 a4_0 a4_1 a4_2 a4_3 a5_0 a5_1 a5_2 a5_3))))) = some r := by rw [if_pos rfl] at H; exact H
  clear H
  have H := H1
  clear H1
  have HC9 := Aside0.mk H
  clear H
  go_enter Try.func7, Try.ntmps7
  go_upto_region 3 with (first | ((with_reducible refine gate_dst (N := 6) rfl ?_); refine box_event ?hg (N := 6) ?hd (cs := #[.int .i64 a0_0, .int .i64 a0_1]) (t := 40) ?hr ?_; (case hd => rfl); (case hg => rfl); (case hr => first | (go_simp; done) | (go_simp; rfl)); intro gb134 hg w10 hbox hb; have n0_ := Aside0.mk (below_step (by repeat (first | (with_reducible first | exact HB.out | apply below_alloc | apply pw_below_drewN | apply below_drew1) | exact HB.out)) hb); have n1_ := Aside0.mk (hbox); have n2_ := Aside0.mk ((by rw [hg]; exact (below_size (by repeat (first | (with_reducible first | exact HB.out | apply below_alloc | apply pw_below_drewN | apply below_drew1) | exact HB.out))) : w.heap.size ≤ gb134)); have n3_ := Aside0.mk ((by rw [hg]; exact (below_size (by repeat (first | (with_reducible first | exact HB.out | apply below_alloc | apply pw_below_drewN | apply below_drew1) | exact HB.out))) : w.heap.size ≤ gb134)); clear HB; have HB := n0_; have BK134 := n1_; have GW134 := n2_; have GE134 := n3_; clear n0_ n1_ n2_ n3_; clear hb hbox hg) | ((with_reducible refine gate_dst (N := 7) rfl ?_); refine box_event ?hg (N := 7) ?hd (cs := #[.int .i64 a1_0, .int .i64 a1_1]) (t := 40) ?hr ?_; (case hd => rfl); (case hg => rfl); (case hr => first | (go_simp; done) | (go_simp; rfl)); intro gb135 hg w11 hbox hb; have n0_ := Aside0.mk (blk_below (g := gb134) (o := .cells #[.int .i64 a0_0, .int .i64 a0_1] 40 (0, 0)) (by (with_reducible repeat (first | refine KN ?_ _ | refine KD ?_ | refine KA ?_ _)); exact BK134.out) hb); have n1_ := Aside0.mk (below_step (by repeat (first | (with_reducible first | exact HB.out | apply below_alloc | apply pw_below_drewN | apply below_drew1 | refine below_set ?_ GE134.out) | exact HB.out)) hb); have n2_ := Aside0.mk (hbox); have n3_ := Aside0.mk ((by rw [hg]; exact (below_size (by repeat (first | (with_reducible first | exact HB.out | apply below_alloc | apply pw_below_drewN | apply below_drew1 | refine below_set ?_ GE134.out) | exact HB.out))) : w.heap.size ≤ gb135)); have n4_ := Aside0.mk ((by rw [hg]; exact (below_size (by repeat (first | (with_reducible first | exact HB.out | apply below_alloc | apply pw_below_drewN | apply below_drew1 | refine below_set ?_ GE134.out) | exact HB.out))) : w.heap.size ≤ gb135)); have n5_ := Aside0.mk ((by rw [hg]; exact Nat.ne_of_lt (blk_lt (g := gb134) (o := .cells #[.int .i64 a0_0, .int .i64 a0_1] 40 (0, 0)) (by (with_reducible repeat (first | refine KN ?_ _ | refine KD ?_ | refine KA ?_ _)); exact BK134.out)) : gb134 ≠ gb135)); have n6_ := Aside0.mk ((by rw [hg]; exact Nat.ne_of_gt (blk_lt (g := gb134) (o := .cells #[.int .i64 a0_0, .int .i64 a0_1] 40 (0, 0)) (by (with_reducible repeat (first | refine KN ?_ _ | refine KD ?_ | refine KA ?_ _)); exact BK134.out)) : gb135 ≠ gb134)); clear BK134; clear HB; have BK134 := n0_; have HB := n1_; have BK135 := n2_; have GW135 := n3_; have GE135 := n4_; have NB134_135 := n5_; have NB135_134 := n6_; clear n0_ n1_ n2_ n3_ n4_ n5_ n6_; clear hb hbox hg) | ((with_reducible refine gate_dst (N := 8) rfl ?_); refine box_event ?hg (N := 8) ?hd (cs := #[.int .i64 a2_0, .int .i64 a2_1]) (t := 40) ?hr ?_; (case hd => rfl); (case hg => rfl); (case hr => first | (go_simp; done) | (go_simp; rfl)); intro gb136 hg w12 hbox hb; have n0_ := Aside0.mk (blk_below (g := gb134) (o := .cells #[.int .i64 a0_0, .int .i64 a0_1] 40 (0, 0)) (by (with_reducible repeat (first | refine KN ?_ _ | refine KD ?_ | refine KA ?_ _)); exact BK134.out) hb); have n1_ := Aside0.mk (blk_below (g := gb135) (o := .cells #[.int .i64 a1_0, .int .i64 a1_1] 40 (0, 0)) (by (with_reducible repeat (first | refine KN ?_ _ | refine KD ?_ | refine KA ?_ _)); exact BK135.out) hb); have n2_ := Aside0.mk (below_step (by repeat (first | (with_reducible first | exact HB.out | apply below_alloc | apply pw_below_drewN | apply below_drew1 | refine below_set ?_ GE134.out | refine below_set ?_ GE135.out) | exact HB.out)) hb); have n3_ := Aside0.mk (hbox); have n4_ := Aside0.mk ((by rw [hg]; exact (below_size (by repeat (first | (with_reducible first | exact HB.out | apply below_alloc | apply pw_below_drewN | apply below_drew1 | refine below_set ?_ GE134.out | refine below_set ?_ GE135.out) | exact HB.out))) : w.heap.size ≤ gb136)); have n5_ := Aside0.mk ((by rw [hg]; exact (below_size (by repeat (first | (with_reducible first | exact HB.out | apply below_alloc | apply pw_below_drewN | apply below_drew1 | refine below_set ?_ GE134.out | refine below_set ?_ GE135.out) | exact HB.out))) : w.heap.size ≤ gb136)); have n6_ := Aside0.mk ((by rw [hg]; exact Nat.ne_of_lt (blk_lt (g := gb134) (o := .cells #[.int .i64 a0_0, .int .i64 a0_1] 40 (0, 0)) (by (with_reducible repeat (first | refine KN ?_ _ | refine KD ?_ | refine KA ?_ _)); exact BK134.out)) : gb134 ≠ gb136)); have n7_ := Aside0.mk ((by rw [hg]; exact Nat.ne_of_gt (blk_lt (g := gb134) (o := .cells #[.int .i64 a0_0, .int .i64 a0_1] 40 (0, 0)) (by (with_reducible repeat (first | refine KN ?_ _ | refine KD ?_ | refine KA ?_ _)); exact BK134.out)) : gb136 ≠ gb134)); have n8_ := Aside0.mk ((by rw [hg]; exact Nat.ne_of_lt (blk_lt (g := gb135) (o := .cells #[.int .i64 a1_0, .int .i64 a1_1] 40 (0, 0)) (by (with_reducible repeat (first | refine KN ?_ _ | refine KD ?_ | refine KA ?_ _)); exact BK135.out)) : gb135 ≠ gb136)); have n9_ := Aside0.mk ((by rw [hg]; exact Nat.ne_of_gt (blk_lt (g := gb135) (o := .cells #[.int .i64 a1_0, .int .i64 a1_1] 40 (0, 0)) (by (with_reducible repeat (first | refine KN ?_ _ | refine KD ?_ | refine KA ?_ _)); exact BK135.out)) : gb136 ≠ gb135)); clear BK134; clear BK135; clear HB; have BK134 := n0_; have BK135 := n1_; have HB := n2_; have BK136 := n3_; have GW136 := n4_; have GE136 := n5_; have NB134_136 := n6_; have NB136_134 := n7_; have NB135_136 := n8_; have NB136_135 := n9_; clear n0_ n1_ n2_ n3_ n4_ n5_ n6_ n7_ n8_ n9_; clear hb hbox hg) | ((with_reducible refine gate_dst (N := 9) rfl ?_); refine box_event ?hg (N := 9) ?hd (cs := #[.int .i64 a3_0, .int .i64 a3_1, .int .i64 a3_2, .int .i64 a3_3]) (t := 23) ?hr ?_; (case hd => rfl); (case hg => rfl); (case hr => first | (go_simp; done) | (go_simp; rfl)); intro gb137 hg w13 hbox hb; have n0_ := Aside0.mk (blk_below (g := gb134) (o := .cells #[.int .i64 a0_0, .int .i64 a0_1] 40 (0, 0)) (by (with_reducible repeat (first | refine KN ?_ _ | refine KD ?_ | refine KA ?_ _)); exact BK134.out) hb); have n1_ := Aside0.mk (blk_below (g := gb135) (o := .cells #[.int .i64 a1_0, .int .i64 a1_1] 40 (0, 0)) (by (with_reducible repeat (first | refine KN ?_ _ | refine KD ?_ | refine KA ?_ _)); exact BK135.out) hb); have n2_ := Aside0.mk (blk_below (g := gb136) (o := .cells #[.int .i64 a2_0, .int .i64 a2_1] 40 (0, 0)) (by (with_reducible repeat (first | refine KN ?_ _ | refine KD ?_ | refine KA ?_ _)); exact BK136.out) hb); have n3_ := Aside0.mk (below_step (by repeat (first | (with_reducible first | exact HB.out | apply below_alloc | apply pw_below_drewN | apply below_drew1 | refine below_set ?_ GE134.out | refine below_set ?_ GE135.out | refine below_set ?_ GE136.out) | exact HB.out)) hb); have n4_ := Aside0.mk (hbox); have n5_ := Aside0.mk ((by rw [hg]; exact (below_size (by repeat (first | (with_reducible first | exact HB.out | apply below_alloc | apply pw_below_drewN | apply below_drew1 | refine below_set ?_ GE134.out | refine below_set ?_ GE135.out | refine below_set ?_ GE136.out) | exact HB.out))) : w.heap.size ≤ gb137)); have n6_ := Aside0.mk ((by rw [hg]; exact (below_size (by repeat (first | (with_reducible first | exact HB.out | apply below_alloc | apply pw_below_drewN | apply below_drew1 | refine below_set ?_ GE134.out | refine below_set ?_ GE135.out | refine below_set ?_ GE136.out) | exact HB.out))) : w.heap.size ≤ gb137)); have n7_ := Aside0.mk ((by rw [hg]; exact Nat.ne_of_lt (blk_lt (g := gb134) (o := .cells #[.int .i64 a0_0, .int .i64 a0_1] 40 (0, 0)) (by (with_reducible repeat (first | refine KN ?_ _ | refine KD ?_ | refine KA ?_ _)); exact BK134.out)) : gb134 ≠ gb137)); have n8_ := Aside0.mk ((by rw [hg]; exact Nat.ne_of_gt (blk_lt (g := gb134) (o := .cells #[.int .i64 a0_0, .int .i64 a0_1] 40 (0, 0)) (by (with_reducible repeat (first | refine KN ?_ _ | refine KD ?_ | refine KA ?_ _)); exact BK134.out)) : gb137 ≠ gb134)); have n9_ := Aside0.mk ((by rw [hg]; exact Nat.ne_of_lt (blk_lt (g := gb135) (o := .cells #[.int .i64 a1_0, .int .i64 a1_1] 40 (0, 0)) (by (with_reducible repeat (first | refine KN ?_ _ | refine KD ?_ | refine KA ?_ _)); exact BK135.out)) : gb135 ≠ gb137)); have n10_ := Aside0.mk ((by rw [hg]; exact Nat.ne_of_gt (blk_lt (g := gb135) (o := .cells #[.int .i64 a1_0, .int .i64 a1_1] 40 (0, 0)) (by (with_reducible repeat (first | refine KN ?_ _ | refine KD ?_ | refine KA ?_ _)); exact BK135.out)) : gb137 ≠ gb135)); have n11_ := Aside0.mk ((by rw [hg]; exact Nat.ne_of_lt (blk_lt (g := gb136) (o := .cells #[.int .i64 a2_0, .int .i64 a2_1] 40 (0, 0)) (by (with_reducible repeat (first | refine KN ?_ _ | refine KD ?_ | refine KA ?_ _)); exact BK136.out)) : gb136 ≠ gb137)); have n12_ := Aside0.mk ((by rw [hg]; exact Nat.ne_of_gt (blk_lt (g := gb136) (o := .cells #[.int .i64 a2_0, .int .i64 a2_1] 40 (0, 0)) (by (with_reducible repeat (first | refine KN ?_ _ | refine KD ?_ | refine KA ?_ _)); exact BK136.out)) : gb137 ≠ gb136)); clear BK134; clear BK135; clear BK136; clear HB; have BK134 := n0_; have BK135 := n1_; have BK136 := n2_; have HB := n3_; have BK137 := n4_; have GW137 := n5_; have GE137 := n6_; have NB134_137 := n7_; have NB137_134 := n8_; have NB135_137 := n9_; have NB137_135 := n10_; have NB136_137 := n11_; have NB137_136 := n12_; clear n0_ n1_ n2_ n3_ n4_ n5_ n6_ n7_ n8_ n9_ n10_ n11_ n12_; clear hb hbox hg) | ((with_reducible refine gate_dst (N := 10) rfl ?_); refine box_event ?hg (N := 10) ?hd (cs := #[.int .i64 a4_0, .int .i64 a4_1, .int .i64 a4_2, .int .i64 a4_3]) (t := 23) ?hr ?_; (case hd => rfl); (case hg => rfl); (case hr => first | (go_simp; done) | (go_simp; rfl)); intro gb138 hg w14 hbox hb; have n0_ := Aside0.mk (blk_below (g := gb134) (o := .cells #[.int .i64 a0_0, .int .i64 a0_1] 40 (0, 0)) (by (with_reducible repeat (first | refine KN ?_ _ | refine KD ?_ | refine KA ?_ _)); exact BK134.out) hb); have n1_ := Aside0.mk (blk_below (g := gb135) (o := .cells #[.int .i64 a1_0, .int .i64 a1_1] 40 (0, 0)) (by (with_reducible repeat (first | refine KN ?_ _ | refine KD ?_ | refine KA ?_ _)); exact BK135.out) hb); have n2_ := Aside0.mk (blk_below (g := gb136) (o := .cells #[.int .i64 a2_0, .int .i64 a2_1] 40 (0, 0)) (by (with_reducible repeat (first | refine KN ?_ _ | refine KD ?_ | refine KA ?_ _)); exact BK136.out) hb); have n3_ := Aside0.mk (blk_below (g := gb137) (o := .cells #[.int .i64 a3_0, .int .i64 a3_1, .int .i64 a3_2, .int .i64 a3_3] 23 (0, 0)) (by (with_reducible repeat (first | refine KN ?_ _ | refine KD ?_ | refine KA ?_ _)); exact BK137.out) hb); have n4_ := Aside0.mk (below_step (by repeat (first | (with_reducible first | exact HB.out | apply below_alloc | apply pw_below_drewN | apply below_drew1 | refine below_set ?_ GE134.out | refine below_set ?_ GE135.out | refine below_set ?_ GE136.out | refine below_set ?_ GE137.out) | exact HB.out)) hb); have n5_ := Aside0.mk (hbox); have n6_ := Aside0.mk ((by rw [hg]; exact (below_size (by repeat (first | (with_reducible first | exact HB.out | apply below_alloc | apply pw_below_drewN | apply below_drew1 | refine below_set ?_ GE134.out | refine below_set ?_ GE135.out | refine below_set ?_ GE136.out | refine below_set ?_ GE137.out) | exact HB.out))) : w.heap.size ≤ gb138)); have n7_ := Aside0.mk ((by rw [hg]; exact (below_size (by repeat (first | (with_reducible first | exact HB.out | apply below_alloc | apply pw_below_drewN | apply below_drew1 | refine below_set ?_ GE134.out | refine below_set ?_ GE135.out | refine below_set ?_ GE136.out | refine below_set ?_ GE137.out) | exact HB.out))) : w.heap.size ≤ gb138)); have n8_ := Aside0.mk ((by rw [hg]; exact Nat.ne_of_lt (blk_lt (g := gb134) (o := .cells #[.int .i64 a0_0, .int .i64 a0_1] 40 (0, 0)) (by (with_reducible repeat (first | refine KN ?_ _ | refine KD ?_ | refine KA ?_ _)); exact BK134.out)) : gb134 ≠ gb138)); have n9_ := Aside0.mk ((by rw [hg]; exact Nat.ne_of_gt (blk_lt (g := gb134) (o := .cells #[.int .i64 a0_0, .int .i64 a0_1] 40 (0, 0)) (by (with_reducible repeat (first | refine KN ?_ _ | refine KD ?_ | refine KA ?_ _)); exact BK134.out)) : gb138 ≠ gb134)); have n10_ := Aside0.mk ((by rw [hg]; exact Nat.ne_of_lt (blk_lt (g := gb135) (o := .cells #[.int .i64 a1_0, .int .i64 a1_1] 40 (0, 0)) (by (with_reducible repeat (first | refine KN ?_ _ | refine KD ?_ | refine KA ?_ _)); exact BK135.out)) : gb135 ≠ gb138)); have n11_ := Aside0.mk ((by rw [hg]; exact Nat.ne_of_gt (blk_lt (g := gb135) (o := .cells #[.int .i64 a1_0, .int .i64 a1_1] 40 (0, 0)) (by (with_reducible repeat (first | refine KN ?_ _ | refine KD ?_ | refine KA ?_ _)); exact BK135.out)) : gb138 ≠ gb135)); have n12_ := Aside0.mk ((by rw [hg]; exact Nat.ne_of_lt (blk_lt (g := gb136) (o := .cells #[.int .i64 a2_0, .int .i64 a2_1] 40 (0, 0)) (by (with_reducible repeat (first | refine KN ?_ _ | refine KD ?_ | refine KA ?_ _)); exact BK136.out)) : gb136 ≠ gb138)); have n13_ := Aside0.mk ((by rw [hg]; exact Nat.ne_of_gt (blk_lt (g := gb136) (o := .cells #[.int .i64 a2_0, .int .i64 a2_1] 40 (0, 0)) (by (with_reducible repeat (first | refine KN ?_ _ | refine KD ?_ | refine KA ?_ _)); exact BK136.out)) : gb138 ≠ gb136)); have n14_ := Aside0.mk ((by rw [hg]; exact Nat.ne_of_lt (blk_lt (g := gb137) (o := .cells #[.int .i64 a3_0, .int .i64 a3_1, .int .i64 a3_2, .int .i64 a3_3] 23 (0, 0)) (by (with_reducible repeat (first | refine KN ?_ _ | refine KD ?_ | refine KA ?_ _)); exact BK137.out)) : gb137 ≠ gb138)); have n15_ := Aside0.mk ((by rw [hg]; exact Nat.ne_of_gt (blk_lt (g := gb137) (o := .cells #[.int .i64 a3_0, .int .i64 a3_1, .int .i64 a3_2, .int .i64 a3_3] 23 (0, 0)) (by (with_reducible repeat (first | refine KN ?_ _ | refine KD ?_ | refine KA ?_ _)); exact BK137.out)) : gb138 ≠ gb137)); clear BK134; clear BK135; clear BK136; clear BK137; clear HB; have BK134 := n0_; have BK135 := n1_; have BK136 := n2_; have BK137 := n3_; have HB := n4_; have BK138 := n5_; have GW138 := n6_; have GE138 := n7_; have NB134_138 := n8_; have NB138_134 := n9_; have NB135_138 := n10_; have NB138_135 := n11_; have NB136_138 := n12_; have NB138_136 := n13_; have NB137_138 := n14_; have NB138_137 := n15_; clear n0_ n1_ n2_ n3_ n4_ n5_ n6_ n7_ n8_ n9_ n10_ n11_ n12_ n13_ n14_ n15_; clear hb hbox hg) | ((with_reducible refine gate_dst (N := 11) rfl ?_); refine box_event ?hg (N := 11) ?hd (cs := #[.int .i64 a5_0, .int .i64 a5_1, .int .i64 a5_2, .int .i64 a5_3]) (t := 23) ?hr ?_; (case hd => rfl); (case hg => rfl); (case hr => first | (go_simp; done) | (go_simp; rfl)); intro gb139 hg w15 hbox hb; have n0_ := Aside0.mk (blk_below (g := gb134) (o := .cells #[.int .i64 a0_0, .int .i64 a0_1] 40 (0, 0)) (by (with_reducible repeat (first | refine KN ?_ _ | refine KD ?_ | refine KA ?_ _)); exact BK134.out) hb); have n1_ := Aside0.mk (blk_below (g := gb135) (o := .cells #[.int .i64 a1_0, .int .i64 a1_1] 40 (0, 0)) (by (with_reducible repeat (first | refine KN ?_ _ | refine KD ?_ | refine KA ?_ _)); exact BK135.out) hb); have n2_ := Aside0.mk (blk_below (g := gb136) (o := .cells #[.int .i64 a2_0, .int .i64 a2_1] 40 (0, 0)) (by (with_reducible repeat (first | refine KN ?_ _ | refine KD ?_ | refine KA ?_ _)); exact BK136.out) hb); have n3_ := Aside0.mk (blk_below (g := gb137) (o := .cells #[.int .i64 a3_0, .int .i64 a3_1, .int .i64 a3_2, .int .i64 a3_3] 23 (0, 0)) (by (with_reducible repeat (first | refine KN ?_ _ | refine KD ?_ | refine KA ?_ _)); exact BK137.out) hb); have n4_ := Aside0.mk (blk_below (g := gb138) (o := .cells #[.int .i64 a4_0, .int .i64 a4_1, .int .i64 a4_2, .int .i64 a4_3] 23 (0, 0)) (by (with_reducible repeat (first | refine KN ?_ _ | refine KD ?_ | refine KA ?_ _)); exact BK138.out) hb); have n5_ := Aside0.mk (below_step (by repeat (first | (with_reducible first | exact HB.out | apply below_alloc | apply pw_below_drewN | apply below_drew1 | refine below_set ?_ GE134.out | refine below_set ?_ GE135.out | refine below_set ?_ GE136.out | refine below_set ?_ GE137.out | refine below_set ?_ GE138.out) | exact HB.out)) hb); have n6_ := Aside0.mk (hbox); have n7_ := Aside0.mk ((by rw [hg]; exact (below_size (by repeat (first | (with_reducible first | exact HB.out | apply below_alloc | apply pw_below_drewN | apply below_drew1 | refine below_set ?_ GE134.out | refine below_set ?_ GE135.out | refine below_set ?_ GE136.out | refine below_set ?_ GE137.out | refine below_set ?_ GE138.out) | exact HB.out))) : w.heap.size ≤ gb139)); have n8_ := Aside0.mk ((by rw [hg]; exact (below_size (by repeat (first | (with_reducible first | exact HB.out | apply below_alloc | apply pw_below_drewN | apply below_drew1 | refine below_set ?_ GE134.out | refine below_set ?_ GE135.out | refine below_set ?_ GE136.out | refine below_set ?_ GE137.out | refine below_set ?_ GE138.out) | exact HB.out))) : w.heap.size ≤ gb139)); have n9_ := Aside0.mk ((by rw [hg]; exact Nat.ne_of_lt (blk_lt (g := gb134) (o := .cells #[.int .i64 a0_0, .int .i64 a0_1] 40 (0, 0)) (by (with_reducible repeat (first | refine KN ?_ _ | refine KD ?_ | refine KA ?_ _)); exact BK134.out)) : gb134 ≠ gb139)); have n10_ := Aside0.mk ((by rw [hg]; exact Nat.ne_of_gt (blk_lt (g := gb134) (o := .cells #[.int .i64 a0_0, .int .i64 a0_1] 40 (0, 0)) (by (with_reducible repeat (first | refine KN ?_ _ | refine KD ?_ | refine KA ?_ _)); exact BK134.out)) : gb139 ≠ gb134)); have n11_ := Aside0.mk ((by rw [hg]; exact Nat.ne_of_lt (blk_lt (g := gb135) (o := .cells #[.int .i64 a1_0, .int .i64 a1_1] 40 (0, 0)) (by (with_reducible repeat (first | refine KN ?_ _ | refine KD ?_ | refine KA ?_ _)); exact BK135.out)) : gb135 ≠ gb139)); have n12_ := Aside0.mk ((by rw [hg]; exact Nat.ne_of_gt (blk_lt (g := gb135) (o := .cells #[.int .i64 a1_0, .int .i64 a1_1] 40 (0, 0)) (by (with_reducible repeat (first | refine KN ?_ _ | refine KD ?_ | refine KA ?_ _)); exact BK135.out)) : gb139 ≠ gb135)); have n13_ := Aside0.mk ((by rw [hg]; exact Nat.ne_of_lt (blk_lt (g := gb136) (o := .cells #[.int .i64 a2_0, .int .i64 a2_1] 40 (0, 0)) (by (with_reducible repeat (first | refine KN ?_ _ | refine KD ?_ | refine KA ?_ _)); exact BK136.out)) : gb136 ≠ gb139)); have n14_ := Aside0.mk ((by rw [hg]; exact Nat.ne_of_gt (blk_lt (g := gb136) (o := .cells #[.int .i64 a2_0, .int .i64 a2_1] 40 (0, 0)) (by (with_reducible repeat (first | refine KN ?_ _ | refine KD ?_ | refine KA ?_ _)); exact BK136.out)) : gb139 ≠ gb136)); have n15_ := Aside0.mk ((by rw [hg]; exact Nat.ne_of_lt (blk_lt (g := gb137) (o := .cells #[.int .i64 a3_0, .int .i64 a3_1, .int .i64 a3_2, .int .i64 a3_3] 23 (0, 0)) (by (with_reducible repeat (first | refine KN ?_ _ | refine KD ?_ | refine KA ?_ _)); exact BK137.out)) : gb137 ≠ gb139)); have n16_ := Aside0.mk ((by rw [hg]; exact Nat.ne_of_gt (blk_lt (g := gb137) (o := .cells #[.int .i64 a3_0, .int .i64 a3_1, .int .i64 a3_2, .int .i64 a3_3] 23 (0, 0)) (by (with_reducible repeat (first | refine KN ?_ _ | refine KD ?_ | refine KA ?_ _)); exact BK137.out)) : gb139 ≠ gb137)); have n17_ := Aside0.mk ((by rw [hg]; exact Nat.ne_of_lt (blk_lt (g := gb138) (o := .cells #[.int .i64 a4_0, .int .i64 a4_1, .int .i64 a4_2, .int .i64 a4_3] 23 (0, 0)) (by (with_reducible repeat (first | refine KN ?_ _ | refine KD ?_ | refine KA ?_ _)); exact BK138.out)) : gb138 ≠ gb139)); have n18_ := Aside0.mk ((by rw [hg]; exact Nat.ne_of_gt (blk_lt (g := gb138) (o := .cells #[.int .i64 a4_0, .int .i64 a4_1, .int .i64 a4_2, .int .i64 a4_3] 23 (0, 0)) (by (with_reducible repeat (first | refine KN ?_ _ | refine KD ?_ | refine KA ?_ _)); exact BK138.out)) : gb139 ≠ gb138)); clear BK134; clear BK135; clear BK136; clear BK137; clear BK138; clear HB; have BK134 := n0_; have BK135 := n1_; have BK136 := n2_; have BK137 := n3_; have BK138 := n4_; have HB := n5_; have BK139 := n6_; have GW139 := n7_; have GE139 := n8_; have NB134_139 := n9_; have NB139_134 := n10_; have NB135_139 := n11_; have NB139_135 := n12_; have NB136_139 := n13_; have NB139_136 := n14_; have NB137_139 := n15_; have NB139_137 := n16_; have NB138_139 := n17_; have NB139_138 := n18_; clear n0_ n1_ n2_ n3_ n4_ n5_ n6_ n7_ n8_ n9_ n10_ n11_ n12_ n13_ n14_ n15_ n16_ n17_ n18_; clear hb hbox hg) | ((with_reducible refine gate_callee (f := 10) rfl ?_); refine goesL_ (some 16) rfl rfl Try.func10 (by kernel_rfl) rfl #[] rfl (by (try simp only [List.map_toArray, List.map_cons, List.map_nil]); first | done | rfl | (simp only [List.length_drop, List.length_take]; rfl)) ?_; (with_reducible refine (antipodelaw6_begun.calls k  true _ A7.out).mono ?_); rintro e w16 ⟨rfl, hb⟩; refine ⟨_, rfl, ?_⟩; have n0_ := Aside0.mk (blk_below (g := gb134) (o := .cells #[.int .i64 a0_0, .int .i64 a0_1] 40 (0, 0)) (by (with_reducible repeat (first | refine KN ?_ _ | refine KD ?_ | refine KA ?_ _)); exact BK134.out) hb); have n1_ := Aside0.mk (blk_below (g := gb135) (o := .cells #[.int .i64 a1_0, .int .i64 a1_1] 40 (0, 0)) (by (with_reducible repeat (first | refine KN ?_ _ | refine KD ?_ | refine KA ?_ _)); exact BK135.out) hb); have n2_ := Aside0.mk (blk_below (g := gb136) (o := .cells #[.int .i64 a2_0, .int .i64 a2_1] 40 (0, 0)) (by (with_reducible repeat (first | refine KN ?_ _ | refine KD ?_ | refine KA ?_ _)); exact BK136.out) hb); have n3_ := Aside0.mk (blk_below (g := gb137) (o := .cells #[.int .i64 a3_0, .int .i64 a3_1, .int .i64 a3_2, .int .i64 a3_3] 23 (0, 0)) (by (with_reducible repeat (first | refine KN ?_ _ | refine KD ?_ | refine KA ?_ _)); exact BK137.out) hb); have n4_ := Aside0.mk (blk_below (g := gb138) (o := .cells #[.int .i64 a4_0, .int .i64 a4_1, .int .i64 a4_2, .int .i64 a4_3] 23 (0, 0)) (by (with_reducible repeat (first | refine KN ?_ _ | refine KD ?_ | refine KA ?_ _)); exact BK138.out) hb); have n5_ := Aside0.mk (blk_below (g := gb139) (o := .cells #[.int .i64 a5_0, .int .i64 a5_1, .int .i64 a5_2, .int .i64 a5_3] 23 (0, 0)) (by (with_reducible repeat (first | refine KN ?_ _ | refine KD ?_ | refine KA ?_ _)); exact BK139.out) hb); have n6_ := Aside0.mk (below_step (by repeat (first | (with_reducible first | exact HB.out | apply below_alloc | apply pw_below_drewN | apply below_drew1 | refine below_set ?_ GE134.out | refine below_set ?_ GE135.out | refine below_set ?_ GE136.out | refine below_set ?_ GE137.out | refine below_set ?_ GE138.out | refine below_set ?_ GE139.out) | exact HB.out)) hb); clear BK134; clear BK135; clear BK136; clear BK137; clear BK138; clear BK139; clear HB; have BK134 := n0_; have BK135 := n1_; have BK136 := n2_; have BK137 := n3_; have BK138 := n4_; have BK139 := n5_; have HB := n6_; clear n0_ n1_ n2_ n3_ n4_ n5_ n6_; (try clear hb); (try clear hb2); (try clear hk); (try clear hi)))
  (try simp only [Act.put, List.setIfInBounds_toArray, List.set_cons_zero, List.set_cons_succ])
  go_cut [13] (fun v13 wc => ∃ (kq : Nat) (x13_8 : Bool), v13 = .bool x13_8 ∧ Aside0 (j0 kq x13_8 a0_0 a0_1 a1_0 a1_1 a3_0 a3_1 a3_2 a3_3 a4_0 a4_1 a4_2 a4_3 a5_0 a5_1 a5_2 a5_3 = some r) ∧ Aside0 (kq ≤ k) ∧ Aside0 (wc.heap[gb134]? = some (.cells #[.int .i64 a0_0, .int .i64 a0_1] 40 (0, 0))) ∧ Aside0 (wc.heap[gb135]? = some (.cells #[.int .i64 a1_0, .int .i64 a1_1] 40 (0, 0))) ∧ Aside0 (wc.heap[gb136]? = some (.cells #[.int .i64 a2_0, .int .i64 a2_1] 40 (0, 0))) ∧ Aside0 (wc.heap[gb137]? = some (.cells #[.int .i64 a3_0, .int .i64 a3_1, .int .i64 a3_2, .int .i64 a3_3] 23 (0, 0))) ∧ Aside0 (wc.heap[gb138]? = some (.cells #[.int .i64 a4_0, .int .i64 a4_1, .int .i64 a4_2, .int .i64 a4_3] 23 (0, 0))) ∧ Aside0 (wc.heap[gb139]? = some (.cells #[.int .i64 a5_0, .int .i64 a5_1, .int .i64 a5_2, .int .i64 a5_3] 23 (0, 0))) ∧ Aside0 (Below w.heap.size w wc))
  case first =>
   have H := HC9.out
   clear HC9
   replace H := Option.bind_eq_some_iff.mp H
   obtain ⟨t141, A170, H⟩ := H
   replace H : (if t141 = true then (if ((a0_0 == a1_0 && (a0_1 == a1_1)) == false) = true then ((stamp_Less.f k a0_0 a0_1 a1_0 a1_1).bind fun _t143 => ((stamp_Less.f k a1_0 a1_1 a0_0 a0_1).bind fun t144 => (if t144 = true then (j0 k false a0_0 a0_1 a1_0 a1_1 a3_0 a3_1 a3_2 a3_3 a4_0 a4_1 a4_2 a4_3 a5_0 a5_1 a5_2 a5_3) else ((stamp_Less.f k a0_0 a0_1 a1_0 a1_1).bind fun _t146 => ((stamp_Less.f k a1_0 a1_1 a2_0 a2_1).bind fun t147 => (if t147 = true then ((stamp_Less.f k a0_0 a0_1 a2_0 a2_1).bind fun t148 => (j0 k (!(!t148)) a0_0 a0_1 a1_0 a1_1 a3_0 a3_1 a3_2 a3_3 a4_0 a4_1 a4_2 a4_3 a5_0 a5_1 a5_2 a5_3)) else (j0 k (!false) a0_0 a0_1 a1_0 a1_1 a3_0 a3_1 a3_2 a3_3 a4_0 a4_1 a4_2 a4_3 a5_0 a5_1 a5_2 a5_3))))))) else (j0 k false a0_0 a0_1 a1_0 a1_1 a3_0 a3_1 a3_2 a3_3 a4_0 a4_1 a4_2 a4_3 a5_0 a5_1 a5_2 a5_3)) else ((stamp_Less.f k a1_0 a1_1 a0_0 a0_1).bind fun t149 => (if ((a0_0 == a1_0 && (a0_1 == a1_1)) == (!t149)) = true then ((stamp_Less.f k a0_0 a0_1 a1_0 a1_1).bind fun _t151 => ((stamp_Less.f k a0_0 a0_1 a1_0 a1_1).bind fun _t153 => (j0 k (!false) a0_0 a0_1 a1_0 a1_1 a3_0 a3_1 a3_2 a3_3 a4_0 a4_1 a4_2 a4_3 a5_0 a5_1 a5_2 a5_3))) else (j0 k false a0_0 a0_1 a1_0 a1_1 a3_0 a3_1 a3_2 a3_3 a4_0 a4_1 a4_2 a4_3 a5_0 a5_1 a5_2 a5_3)))) = some r := H
   have A17 := Aside0.mk A170
   clear A170
   by_cases c18 : t141 = true
   ·subst c18
    have H1 : (if ((a0_0 == a1_0 && (a0_1 == a1_1)) == false) = true then ((stamp_Less.f k a0_0 a0_1 a1_0 a1_1).bind fun _t143 => ((stamp_Less.f k a1_0 a1_1 a0_0 a0_1).bind fun t144 => (if t144 = true then (j0 k false a0_0 a0_1 a1_0 a1_1 a3_0 a3_1 a3_2 a3_3 a4_0 a4_1 a4_2 a4_3 a5_0 a5_1 a5_2 a5_3) else ((stamp_Less.f k a0_0 a0_1 a1_0 a1_1).bind fun _t146 => ((stamp_Less.f k a1_0 a1_1 a2_0 a2_1).bind fun t147 => (if t147 = true then ((stamp_Less.f k a0_0 a0_1 a2_0 a2_1).bind fun t148 => (j0 k (!(!t148)) a0_0 a0_1 a1_0 a1_1 a3_0 a3_1 a3_2 a3_3 a4_0 a4_1 a4_2 a4_3 a5_0 a5_1 a5_2 a5_3)) else (j0 k (!false) a0_0 a0_1 a1_0 a1_1 a3_0 a3_1 a3_2 a3_3 a4_0 a4_1 a4_2 a4_3 a5_0 a5_1 a5_2 a5_3))))))) else (j0 k false a0_0 a0_1 a1_0 a1_1 a3_0 a3_1 a3_2 a3_3 a4_0 a4_1 a4_2 a4_3 a5_0 a5_1 a5_2 a5_3)) = some r := by rw [if_pos rfl] at H; exact H
    clear H
    have H := H1
    clear H1
    by_cases c19 : ((a0_0 == a1_0 && (a0_1 == a1_1)) == false) = true
    ·rw [if_pos c19] at H
     have c19b0 : ((a0_0 == a1_0 && (a0_1 == a1_1)) == false) = true := c19
     (try (have c19b1 : decide ((a0_0 == a1_0 && (a0_1 == a1_1)) = false) = true := by simpa using c19))
     (try (have c19b2 : ((a0_0 == a1_0 && (a0_1 == a1_1)) == false) = true := by simpa using c19))
     clear c19
     (first | rw [c19b0] | (simp only [i64_w, i32_w]; rw [c19b0]) | skip)
     replace H := Option.bind_eq_some_iff.mp H
     obtain ⟨_t143, A200, H⟩ := H
     obtain rfl : true = _t143 := Option.some.inj (Eq.trans (Eq.symm (Aside0.out (by assumption))) A200)
     replace H : ((stamp_Less.f k a1_0 a1_1 a0_0 a0_1).bind fun t144 => (if t144 = true then (j0 k false a0_0 a0_1 a1_0 a1_1 a3_0 a3_1 a3_2 a3_3 a4_0 a4_1 a4_2 a4_3 a5_0 a5_1 a5_2 a5_3) else ((stamp_Less.f k a0_0 a0_1 a1_0 a1_1).bind fun _t146 => ((stamp_Less.f k a1_0 a1_1 a2_0 a2_1).bind fun t147 => (if t147 = true then ((stamp_Less.f k a0_0 a0_1 a2_0 a2_1).bind fun t148 => (j0 k (!(!t148)) a0_0 a0_1 a1_0 a1_1 a3_0 a3_1 a3_2 a3_3 a4_0 a4_1 a4_2 a4_3 a5_0 a5_1 a5_2 a5_3)) else (j0 k (!false) a0_0 a0_1 a1_0 a1_1 a3_0 a3_1 a3_2 a3_3 a4_0 a4_1 a4_2 a4_3 a5_0 a5_1 a5_2 a5_3)))))) = some r := H
     have A20 := Aside0.mk A200
     clear A200
     replace H := Option.bind_eq_some_iff.mp H
     obtain ⟨t144, A210, H⟩ := H
     replace H : (if t144 = true then (j0 k false a0_0 a0_1 a1_0 a1_1 a3_0 a3_1 a3_2 a3_3 a4_0 a4_1 a4_2 a4_3 a5_0 a5_1 a5_2 a5_3) else ((stamp_Less.f k a0_0 a0_1 a1_0 a1_1).bind fun _t146 => ((stamp_Less.f k a1_0 a1_1 a2_0 a2_1).bind fun t147 => (if t147 = true then ((stamp_Less.f k a0_0 a0_1 a2_0 a2_1).bind fun t148 => (j0 k (!(!t148)) a0_0 a0_1 a1_0 a1_1 a3_0 a3_1 a3_2 a3_3 a4_0 a4_1 a4_2 a4_3 a5_0 a5_1 a5_2 a5_3)) else (j0 k (!false) a0_0 a0_1 a1_0 a1_1 a3_0 a3_1 a3_2 a3_3 a4_0 a4_1 a4_2 a4_3 a5_0 a5_1 a5_2 a5_3))))) = some r := H
     have A21 := Aside0.mk A210
     clear A210
     by_cases c22 : t144 = true
     ·subst c22
      have H1 : (j0 k false a0_0 a0_1 a1_0 a1_1 a3_0 a3_1 a3_2 a3_3 a4_0 a4_1 a4_2 a4_3 a5_0 a5_1 a5_2 a5_3) = some r := by rw [if_pos rfl] at H; exact H
      clear H
      have H := H1
      clear H1
      exact (NT.no_ (by repeat (first | exact NT.none_ | exact NT.false_ | exact NT.not_ | exact j1_nt0 _ _ _ _ _ | exact j1_nt1 _ _ _ _ _ _ | exact j0_nt2 _ _ _ _ _ _ _ _ _ _ _ _ _ _ _ _ _ | exact j1_nt3 _ _ _ _ _ _ | refine NT.bind_ fun _ => ?_ | refine NT.no_if ?_ | refine NT.yes_if ?_ | refine NT.ite_ ?_ ?_)) H hr_.out).elim
     ·replace c22 := Bool.eq_false_iff.mpr c22
      subst c22
      have H1 : ((stamp_Less.f k a0_0 a0_1 a1_0 a1_1).bind fun _t146 => ((stamp_Less.f k a1_0 a1_1 a2_0 a2_1).bind fun t147 => (if t147 = true then ((stamp_Less.f k a0_0 a0_1 a2_0 a2_1).bind fun t148 => (j0 k (!(!t148)) a0_0 a0_1 a1_0 a1_1 a3_0 a3_1 a3_2 a3_3 a4_0 a4_1 a4_2 a4_3 a5_0 a5_1 a5_2 a5_3)) else (j0 k (!false) a0_0 a0_1 a1_0 a1_1 a3_0 a3_1 a3_2 a3_3 a4_0 a4_1 a4_2 a4_3 a5_0 a5_1 a5_2 a5_3)))) = some r := by rw [if_neg (show ¬ (false = true) by decide)] at H; exact H
      clear H
      have H := H1
      clear H1
      replace H := Option.bind_eq_some_iff.mp H
      obtain ⟨_t146, A230, H⟩ := H
      obtain rfl : true = _t146 := Option.some.inj (Eq.trans (Eq.symm (Aside0.out (by assumption))) A230)
      replace H : ((stamp_Less.f k a1_0 a1_1 a2_0 a2_1).bind fun t147 => (if t147 = true then ((stamp_Less.f k a0_0 a0_1 a2_0 a2_1).bind fun t148 => (j0 k (!(!t148)) a0_0 a0_1 a1_0 a1_1 a3_0 a3_1 a3_2 a3_3 a4_0 a4_1 a4_2 a4_3 a5_0 a5_1 a5_2 a5_3)) else (j0 k (!false) a0_0 a0_1 a1_0 a1_1 a3_0 a3_1 a3_2 a3_3 a4_0 a4_1 a4_2 a4_3 a5_0 a5_1 a5_2 a5_3))) = some r := H
      have A23 := Aside0.mk A230
      clear A230
      replace H := Option.bind_eq_some_iff.mp H
      obtain ⟨t147, A240, H⟩ := H
      replace H : (if t147 = true then ((stamp_Less.f k a0_0 a0_1 a2_0 a2_1).bind fun t148 => (j0 k (!(!t148)) a0_0 a0_1 a1_0 a1_1 a3_0 a3_1 a3_2 a3_3 a4_0 a4_1 a4_2 a4_3 a5_0 a5_1 a5_2 a5_3)) else (j0 k (!false) a0_0 a0_1 a1_0 a1_1 a3_0 a3_1 a3_2 a3_3 a4_0 a4_1 a4_2 a4_3 a5_0 a5_1 a5_2 a5_3)) = some r := H
      have A24 := Aside0.mk A240
      clear A240
      by_cases c25 : t147 = true
      ·subst c25
       have H1 : ((stamp_Less.f k a0_0 a0_1 a2_0 a2_1).bind fun t148 => (j0 k (!(!t148)) a0_0 a0_1 a1_0 a1_1 a3_0 a3_1 a3_2 a3_3 a4_0 a4_1 a4_2 a4_3 a5_0 a5_1 a5_2 a5_3)) = some r := by rw [if_pos rfl] at H; exact H
       clear H
       have H := H1
       clear H1
       replace H := Option.bind_eq_some_iff.mp H
       obtain ⟨t148, A260, H⟩ := H
       replace H : (j0 k (!(!t148)) a0_0 a0_1 a1_0 a1_1 a3_0 a3_1 a3_2 a3_3 a4_0 a4_1 a4_2 a4_3 a5_0 a5_1 a5_2 a5_3) = some r := H
       have A26 := Aside0.mk A260
       clear A260
       have H' := Aside0.mk H
       clear H
       try go_wp2
       have n0_ := Aside0.mk (blk_drew BK134.out)
       have n1_ := Aside0.mk (blk_drew BK135.out)
       have n2_ := Aside0.mk (blk_drew BK136.out)
       have n3_ := Aside0.mk (blk_drew BK137.out)
       have n4_ := Aside0.mk (blk_drew BK138.out)
       have n5_ := Aside0.mk (blk_drew BK139.out)
       have n6_ := Aside0.mk (below_drew1 HB.out)
       clear BK134
       clear BK135
       clear BK136
       clear BK137
       clear BK138
       clear BK139
       clear HB
       have BK134 := n0_
       have BK135 := n1_
       have BK136 := n2_
       have BK137 := n3_
       have BK138 := n4_
       have BK139 := n5_
       have HB := n6_
       clear n0_ n1_ n2_ n3_ n4_ n5_ n6_
       refine start_ (n := 43) (S := fun w' => w'.cell? ⟨gb134, 0, none⟩ = some (.int .i64 a0_0) ∧ w'.cell? ⟨gb134, 1, none⟩ = some (.int .i64 a0_1) ∧ w'.cell? ⟨gb135, 0, none⟩ = some (.int .i64 a1_0) ∧ w'.cell? ⟨gb135, 1, none⟩ = some (.int .i64 a1_1) ∧ w'.cell? ⟨gb136, 0, none⟩ = some (.int .i64 a2_0) ∧ w'.cell? ⟨gb136, 1, none⟩ = some (.int .i64 a2_1)) (ds := []) M0 (by kernel_rfl) rfl rfl ⟨(blk_cell BK134.out 0).trans rfl, (blk_cell BK134.out 1).trans rfl, (blk_cell BK135.out 0).trans rfl, (blk_cell BK135.out 1).trans rfl, (blk_cell BK136.out 0).trans rfl, (blk_cell BK136.out 1).trans rfl⟩ (fun hHeld => ?_); refine with_tabW antipodelaw6_StampLine.tab3 antipodelaw6_StampLine.bits3 (fun HT_ HW_ => ?_)
       generalize w16.drew = w27 at BK134 BK135 BK136 BK137 BK138 BK139 HB hHeld ⊢
       refine take_ (i := 0) (N := some 18) (v := ?_) (a' := ?_) M1 rfl rfl (take_ofW HT_.out HW_.out (by kernel_rfl)) (fun _ _ _ h => h) (Or.inl ⟨by rfl, ?_⟩) hHeld ?_ ?_
       rotate_left
       ·rintro w' ⟨s0, s1, s2, s3, s4, s5⟩
        go_simp
        with_reducible rfl
       rotate_left
       ·simp only [Act.put, S1, S2, S3, i64_w, i32_w]
        rfl
       refine take_ (i := 1) (N := some 19) (v := ?_) (a' := ?_) M2 rfl rfl (take_ofW HT_.out HW_.out (by kernel_rfl)) (fun _ _ _ h => h) (Or.inl ⟨by rfl, ?_⟩) hHeld ?_ ?_
       rotate_left
       ·rintro w' ⟨s0, s1, s2, s3, s4, s5⟩
        go_simp
        with_reducible rfl
       rotate_left
       ·simp only [Act.put, S1, S2, S3, i64_w, i32_w]
        rfl
       refine pure_ (i := 2) (N := some 20) (v := ?_) (a' := ?_) M3 rfl rfl (any_of HT_.out (by kernel_rfl)) (fun _ _ _ h => h) (Or.inl ⟨by rfl, ?_⟩) ?_ ?_
       rotate_left
       ·intro w'
        go_simp
        with_reducible rfl
       rotate_left
       ·simp only [Act.put, S1, S2, S3, i64_w, i32_w]
        rfl
       refine take_ (i := 3) (N := some 21) (v := ?_) (a' := ?_) M4 rfl rfl (take_ofW HT_.out HW_.out (by kernel_rfl)) (fun _ _ _ h => h) (Or.inl ⟨by rfl, ?_⟩) hHeld ?_ ?_
       rotate_left
       ·rintro w' ⟨s0, s1, s2, s3, s4, s5⟩
        go_simp
        with_reducible rfl
       rotate_left
       ·simp only [Act.put, S1, S2, S3, i64_w, i32_w]
        rfl
       refine take_ (i := 4) (N := some 22) (v := ?_) (a' := ?_) M5 rfl rfl (take_ofW HT_.out HW_.out (by kernel_rfl)) (fun _ _ _ h => h) (Or.inl ⟨by rfl, ?_⟩) hHeld ?_ ?_
       rotate_left
       ·rintro w' ⟨s0, s1, s2, s3, s4, s5⟩
        go_simp
        with_reducible rfl
       rotate_left
       ·simp only [Act.put, S1, S2, S3, i64_w, i32_w]
        rfl
       refine one_ (i := 5) (N := some 23) M6 rfl rfl (one_of HT_.out (by kernel_rfl)) (by decide) (fun K hK => ?_)
       refine goes_ Try.func18 (by kernel_rfl) rfl #[.agg #[.int .i64 a0_0, .int .i64 a0_1], .agg #[.int .i64 a1_0, .int .i64 a1_1]] (by rfl) rfl rfl (by (try simp only [List.map_toArray, List.map_cons, List.map_nil]); first | done | rfl | (simp only [List.length_drop, List.length_take]; rfl)) ?_
       with_reducible refine (stamp_Less.calls k a0_0 a0_1 a1_0 a1_1 true _ A17.out).mono ?_
       rintro e w28 ⟨rfl, hb⟩
       refine ⟨_, rfl, ?_⟩
       have n0_ := Aside0.mk (blk_below (g := gb134) (o := .cells #[.int .i64 a0_0, .int .i64 a0_1] 40 (0, 0)) (by (with_reducible repeat (first | refine KN ?_ _ | refine KD ?_ | refine KA ?_ _)); exact BK134.out) hb)
       have n1_ := Aside0.mk (blk_below (g := gb135) (o := .cells #[.int .i64 a1_0, .int .i64 a1_1] 40 (0, 0)) (by (with_reducible repeat (first | refine KN ?_ _ | refine KD ?_ | refine KA ?_ _)); exact BK135.out) hb)
       have n2_ := Aside0.mk (blk_below (g := gb136) (o := .cells #[.int .i64 a2_0, .int .i64 a2_1] 40 (0, 0)) (by (with_reducible repeat (first | refine KN ?_ _ | refine KD ?_ | refine KA ?_ _)); exact BK136.out) hb)
       have n3_ := Aside0.mk (blk_below (g := gb137) (o := .cells #[.int .i64 a3_0, .int .i64 a3_1, .int .i64 a3_2, .int .i64 a3_3] 23 (0, 0)) (by (with_reducible repeat (first | refine KN ?_ _ | refine KD ?_ | refine KA ?_ _)); exact BK137.out) hb)
       have n4_ := Aside0.mk (blk_below (g := gb138) (o := .cells #[.int .i64 a4_0, .int .i64 a4_1, .int .i64 a4_2, .int .i64 a4_3] 23 (0, 0)) (by (with_reducible repeat (first | refine KN ?_ _ | refine KD ?_ | refine KA ?_ _)); exact BK138.out) hb)
       have n5_ := Aside0.mk (blk_below (g := gb139) (o := .cells #[.int .i64 a5_0, .int .i64 a5_1, .int .i64 a5_2, .int .i64 a5_3] 23 (0, 0)) (by (with_reducible repeat (first | refine KN ?_ _ | refine KD ?_ | refine KA ?_ _)); exact BK139.out) hb)
       have n6_ := Aside0.mk (below_step (by repeat (first | (with_reducible first | exact HB.out | apply below_alloc | apply pw_below_drewN | apply below_drew1 | refine below_set ?_ GE134.out | refine below_set ?_ GE135.out | refine below_set ?_ GE136.out | refine below_set ?_ GE137.out | refine below_set ?_ GE138.out | refine below_set ?_ GE139.out) | exact HB.out)) hb)
       clear BK134
       clear BK135
       clear BK136
       clear BK137
       clear BK138
       clear BK139
       clear HB
       have BK134 := n0_
       have BK135 := n1_
       have BK136 := n2_
       have BK137 := n3_
       have BK138 := n4_
       have BK139 := n5_
       have HB := n6_
       clear n0_ n1_ n2_ n3_ n4_ n5_ n6_
       (try clear hb)
       (try clear hb2)
       (try clear hk)
       (try clear hi)
       refine hK.out _ _ ⟨(blk_cell BK134.out 0).trans rfl, (blk_cell BK134.out 1).trans rfl, (blk_cell BK135.out 0).trans rfl, (blk_cell BK135.out 1).trans rfl, (blk_cell BK136.out 0).trans rfl, (blk_cell BK136.out 1).trans rfl⟩ (fun hHeld => ?_)
       clear hK K
       refine norm_ (a' := ?_) ?_ ?_
       rotate_left
       ·show Act.put _ (some 23) _ = _
        simp only [Act.put, S1, S2, S3, i64_w, i32_w]
        rfl
       refine pure_ (i := 6) (N := some 24) (v := ?_) (a' := ?_) M7 rfl rfl (any_of HT_.out (by kernel_rfl)) (fun _ _ _ h => h) (Or.inl ⟨by rfl, ?_⟩) ?_ ?_
       rotate_left
       ·intro w'
        go_simp
        with_reducible rfl
       rotate_left
       ·simp only [Act.put, S1, S2, S3, i64_w, i32_w]
        rfl
       refine pure_ (i := 7) (N := some 25) (v := ?_) (a' := ?_) M8 rfl rfl (any_of HT_.out (by kernel_rfl)) (fun _ _ _ h => h) (Or.inl ⟨by rfl, ?_⟩) ?_ ?_
       rotate_left
       ·intro w'
        go_simp
        with_reducible rfl
       rotate_left
       ·simp only [Act.put, S1, S2, S3, i64_w, i32_w]
        rfl
       refine pure_ (i := 8) (N := some 26) (v := undef) (a' := ?_) M9 rfl rfl (any_of HT_.out (by kernel_rfl)) (fun _ _ _ h => h) (Or.inr ⟨by rfl, rfl⟩) ?_ ?_
       rotate_left
       ·simp only [Act.put, S1, S2, S3, i64_w, i32_w]
        rfl
       refine pure_ (i := 9) (N := some 27) (v := undef) (a' := ?_) M10 rfl rfl (any_of HT_.out (by kernel_rfl)) (fun _ _ _ h => h) (Or.inr ⟨by rfl, rfl⟩) ?_ ?_
       rotate_left
       ·simp only [Act.put, S1, S2, S3, i64_w, i32_w]
        rfl
       refine pure_ (i := 10) (N := some 28) (v := undef) (a' := ?_) M11 rfl rfl (any_of HT_.out (by kernel_rfl)) (fun _ _ _ h => h) (Or.inr ⟨by rfl, rfl⟩) ?_ ?_
       rotate_left
       ·simp only [Act.put, S1, S2, S3, i64_w, i32_w]
        rfl
       refine pure_ (i := 11) (N := some 29) (v := undef) (a' := ?_) M12 rfl rfl (any_of HT_.out (by kernel_rfl)) (fun _ _ _ h => h) (Or.inr ⟨by rfl, rfl⟩) ?_ ?_
       rotate_left
       ·simp only [Act.put, S1, S2, S3, i64_w, i32_w]
        rfl
       refine pure_ (i := 12) (N := some 30) (v := ?_) (a' := ?_) M13 rfl rfl (any_of HT_.out (by kernel_rfl)) (fun _ _ _ h => h) (Or.inl ⟨by rfl, ?_⟩) ?_ ?_
       rotate_left
       ·intro w'
        go_simp
        with_reducible rfl
       rotate_left
       ·simp only [Act.put, S1, S2, S3, i64_w, i32_w]
        rfl
       refine pure_ (i := 13) (N := some 31) (v := ?_) (a' := ?_) M14 rfl rfl (any_of HT_.out (by kernel_rfl)) (fun _ _ _ h => h) (Or.inl ⟨by rfl, ?_⟩) ?_ ?_
       rotate_left
       ·intro w'
        go_simp
        with_reducible rfl
       rotate_left
       ·simp only [Act.put, S1, S2, S3, i64_w, i32_w]
        rfl
       refine pure_ (i := 14) (N := some 32) (v := ?_) (a' := ?_) M15 rfl rfl (any_of HT_.out (by kernel_rfl)) (fun _ _ _ h => h) (Or.inl ⟨by rfl, ?_⟩) ?_ ?_
       rotate_left
       ·intro w'
        go_simp
        with_reducible rfl
       rotate_left
       ·simp only [Act.put, S1, S2, S3, i64_w, i32_w]
        rfl
       refine take_ (i := 15) (N := some 33) (v := ?_) (a' := ?_) M16 rfl rfl (take_ofW HT_.out HW_.out (by kernel_rfl)) (fun _ _ _ h => h) (Or.inl ⟨by rfl, ?_⟩) hHeld ?_ ?_
       rotate_left
       ·rintro w' ⟨s0, s1, s2, s3, s4, s5⟩
        go_simp
        with_reducible rfl
       rotate_left
       ·simp only [Act.put, S1, S2, S3, i64_w, i32_w]
        rfl
       refine take_ (i := 16) (N := some 34) (v := ?_) (a' := ?_) M17 rfl rfl (take_ofW HT_.out HW_.out (by kernel_rfl)) (fun _ _ _ h => h) (Or.inl ⟨by rfl, ?_⟩) hHeld ?_ ?_
       rotate_left
       ·rintro w' ⟨s0, s1, s2, s3, s4, s5⟩
        go_simp
        with_reducible rfl
       rotate_left
       ·simp only [Act.put, S1, S2, S3, i64_w, i32_w]
        rfl
       refine one_ (i := 17) (N := some 35) M18 rfl rfl (one_of HT_.out (by kernel_rfl)) (by decide) (fun K hK => ?_)
       refine goes_ Try.func18 (by kernel_rfl) rfl #[.agg #[.int .i64 a0_0, .int .i64 a0_1], .agg #[.int .i64 a1_0, .int .i64 a1_1]] (by rfl) rfl rfl (by (try simp only [List.map_toArray, List.map_cons, List.map_nil]); first | done | rfl | (simp only [List.length_drop, List.length_take]; rfl)) ?_
       with_reducible refine (stamp_Less.calls k a0_0 a0_1 a1_0 a1_1 true _ A20.out).mono ?_
       rintro e w29 ⟨rfl, hb⟩
       refine ⟨_, rfl, ?_⟩
       have n0_ := Aside0.mk (blk_below (g := gb134) (o := .cells #[.int .i64 a0_0, .int .i64 a0_1] 40 (0, 0)) (by (with_reducible repeat (first | refine KN ?_ _ | refine KD ?_ | refine KA ?_ _)); exact BK134.out) hb)
       have n1_ := Aside0.mk (blk_below (g := gb135) (o := .cells #[.int .i64 a1_0, .int .i64 a1_1] 40 (0, 0)) (by (with_reducible repeat (first | refine KN ?_ _ | refine KD ?_ | refine KA ?_ _)); exact BK135.out) hb)
       have n2_ := Aside0.mk (blk_below (g := gb136) (o := .cells #[.int .i64 a2_0, .int .i64 a2_1] 40 (0, 0)) (by (with_reducible repeat (first | refine KN ?_ _ | refine KD ?_ | refine KA ?_ _)); exact BK136.out) hb)
       have n3_ := Aside0.mk (blk_below (g := gb137) (o := .cells #[.int .i64 a3_0, .int .i64 a3_1, .int .i64 a3_2, .int .i64 a3_3] 23 (0, 0)) (by (with_reducible repeat (first | refine KN ?_ _ | refine KD ?_ | refine KA ?_ _)); exact BK137.out) hb)
       have n4_ := Aside0.mk (blk_below (g := gb138) (o := .cells #[.int .i64 a4_0, .int .i64 a4_1, .int .i64 a4_2, .int .i64 a4_3] 23 (0, 0)) (by (with_reducible repeat (first | refine KN ?_ _ | refine KD ?_ | refine KA ?_ _)); exact BK138.out) hb)
       have n5_ := Aside0.mk (blk_below (g := gb139) (o := .cells #[.int .i64 a5_0, .int .i64 a5_1, .int .i64 a5_2, .int .i64 a5_3] 23 (0, 0)) (by (with_reducible repeat (first | refine KN ?_ _ | refine KD ?_ | refine KA ?_ _)); exact BK139.out) hb)
       have n6_ := Aside0.mk (below_step (by repeat (first | (with_reducible first | exact HB.out | apply below_alloc | apply pw_below_drewN | apply below_drew1 | refine below_set ?_ GE134.out | refine below_set ?_ GE135.out | refine below_set ?_ GE136.out | refine below_set ?_ GE137.out | refine below_set ?_ GE138.out | refine below_set ?_ GE139.out) | exact HB.out)) hb)
       clear BK134
       clear BK135
       clear BK136
       clear BK137
       clear BK138
       clear BK139
       clear HB
       have BK134 := n0_
       have BK135 := n1_
       have BK136 := n2_
       have BK137 := n3_
       have BK138 := n4_
       have BK139 := n5_
       have HB := n6_
       clear n0_ n1_ n2_ n3_ n4_ n5_ n6_
       (try clear hb)
       (try clear hb2)
       (try clear hk)
       (try clear hi)
       refine hK.out _ _ ⟨(blk_cell BK134.out 0).trans rfl, (blk_cell BK134.out 1).trans rfl, (blk_cell BK135.out 0).trans rfl, (blk_cell BK135.out 1).trans rfl, (blk_cell BK136.out 0).trans rfl, (blk_cell BK136.out 1).trans rfl⟩ (fun hHeld => ?_)
       clear hK K
       refine norm_ (a' := ?_) ?_ ?_
       rotate_left
       ·show Act.put _ (some 35) _ = _
        simp only [Act.put, S1, S2, S3, i64_w, i32_w]
        rfl
       refine pure_ (i := 18) (N := some 36) (v := ?_) (a' := ?_) M19 rfl rfl (any_of HT_.out (by kernel_rfl)) (fun _ _ _ h => h) (Or.inl ⟨by rfl, ?_⟩) ?_ ?_
       rotate_left
       ·intro w'
        go_simp
        with_reducible rfl
       rotate_left
       ·simp only [Act.put, S1, S2, S3, i64_w, i32_w]
        rfl
       refine take_ (i := 19) (N := some 37) (v := ?_) (a' := ?_) M20 rfl rfl (take_ofW HT_.out HW_.out (by kernel_rfl)) (fun _ _ _ h => h) (Or.inl ⟨by rfl, ?_⟩) hHeld ?_ ?_
       rotate_left
       ·rintro w' ⟨s0, s1, s2, s3, s4, s5⟩
        go_simp
        with_reducible rfl
       rotate_left
       ·simp only [Act.put, S1, S2, S3, i64_w, i32_w]
        rfl
       refine take_ (i := 20) (N := some 38) (v := ?_) (a' := ?_) M21 rfl rfl (take_ofW HT_.out HW_.out (by kernel_rfl)) (fun _ _ _ h => h) (Or.inl ⟨by rfl, ?_⟩) hHeld ?_ ?_
       rotate_left
       ·rintro w' ⟨s0, s1, s2, s3, s4, s5⟩
        go_simp
        with_reducible rfl
       rotate_left
       ·simp only [Act.put, S1, S2, S3, i64_w, i32_w]
        rfl
       refine one_ (i := 21) (N := some 39) M22 rfl rfl (one_of HT_.out (by kernel_rfl)) (by decide) (fun K hK => ?_)
       refine goes_ Try.func18 (by kernel_rfl) rfl #[.agg #[.int .i64 a1_0, .int .i64 a1_1], .agg #[.int .i64 a0_0, .int .i64 a0_1]] (by rfl) rfl rfl (by (try simp only [List.map_toArray, List.map_cons, List.map_nil]); first | done | rfl | (simp only [List.length_drop, List.length_take]; rfl)) ?_
       with_reducible refine (stamp_Less.calls k a1_0 a1_1 a0_0 a0_1 false _ A21.out).mono ?_
       rintro e w30 ⟨rfl, hb⟩
       refine ⟨_, rfl, ?_⟩
       have n0_ := Aside0.mk (blk_below (g := gb134) (o := .cells #[.int .i64 a0_0, .int .i64 a0_1] 40 (0, 0)) (by (with_reducible repeat (first | refine KN ?_ _ | refine KD ?_ | refine KA ?_ _)); exact BK134.out) hb)
       have n1_ := Aside0.mk (blk_below (g := gb135) (o := .cells #[.int .i64 a1_0, .int .i64 a1_1] 40 (0, 0)) (by (with_reducible repeat (first | refine KN ?_ _ | refine KD ?_ | refine KA ?_ _)); exact BK135.out) hb)
       have n2_ := Aside0.mk (blk_below (g := gb136) (o := .cells #[.int .i64 a2_0, .int .i64 a2_1] 40 (0, 0)) (by (with_reducible repeat (first | refine KN ?_ _ | refine KD ?_ | refine KA ?_ _)); exact BK136.out) hb)
       have n3_ := Aside0.mk (blk_below (g := gb137) (o := .cells #[.int .i64 a3_0, .int .i64 a3_1, .int .i64 a3_2, .int .i64 a3_3] 23 (0, 0)) (by (with_reducible repeat (first | refine KN ?_ _ | refine KD ?_ | refine KA ?_ _)); exact BK137.out) hb)
       have n4_ := Aside0.mk (blk_below (g := gb138) (o := .cells #[.int .i64 a4_0, .int .i64 a4_1, .int .i64 a4_2, .int .i64 a4_3] 23 (0, 0)) (by (with_reducible repeat (first | refine KN ?_ _ | refine KD ?_ | refine KA ?_ _)); exact BK138.out) hb)
       have n5_ := Aside0.mk (blk_below (g := gb139) (o := .cells #[.int .i64 a5_0, .int .i64 a5_1, .int .i64 a5_2, .int .i64 a5_3] 23 (0, 0)) (by (with_reducible repeat (first | refine KN ?_ _ | refine KD ?_ | refine KA ?_ _)); exact BK139.out) hb)
       have n6_ := Aside0.mk (below_step (by repeat (first | (with_reducible first | exact HB.out | apply below_alloc | apply pw_below_drewN | apply below_drew1 | refine below_set ?_ GE134.out | refine below_set ?_ GE135.out | refine below_set ?_ GE136.out | refine below_set ?_ GE137.out | refine below_set ?_ GE138.out | refine below_set ?_ GE139.out) | exact HB.out)) hb)
       clear BK134
       clear BK135
       clear BK136
       clear BK137
       clear BK138
       clear BK139
       clear HB
       have BK134 := n0_
       have BK135 := n1_
       have BK136 := n2_
       have BK137 := n3_
       have BK138 := n4_
       have BK139 := n5_
       have HB := n6_
       clear n0_ n1_ n2_ n3_ n4_ n5_ n6_
       (try clear hb)
       (try clear hb2)
       (try clear hk)
       (try clear hi)
       refine hK.out _ _ ⟨(blk_cell BK134.out 0).trans rfl, (blk_cell BK134.out 1).trans rfl, (blk_cell BK135.out 0).trans rfl, (blk_cell BK135.out 1).trans rfl, (blk_cell BK136.out 0).trans rfl, (blk_cell BK136.out 1).trans rfl⟩ (fun hHeld => ?_)
       clear hK K
       refine norm_ (a' := ?_) ?_ ?_
       rotate_left
       ·show Act.put _ (some 39) _ = _
        simp only [Act.put, S1, S2, S3, i64_w, i32_w]
        rfl
       refine pure_ (i := 22) (N := some 40) (v := ?_) (a' := ?_) M23 rfl rfl (any_of HT_.out (by kernel_rfl)) (fun _ _ _ h => h) (Or.inl ⟨by rfl, ?_⟩) ?_ ?_
       rotate_left
       ·intro w'
        go_simp
        with_reducible rfl
       rotate_left
       ·simp only [Act.put, S1, S2, S3, i64_w, i32_w]
        rfl
       refine pure_ (i := 23) (N := some 41) (v := ?_) (a' := ?_) M24 rfl rfl (any_of HT_.out (by kernel_rfl)) (fun _ _ _ h => h) (Or.inl ⟨by rfl, ?_⟩) ?_ ?_
       rotate_left
       ·intro w'
        go_simp
        with_reducible rfl
       rotate_left
       ·simp only [Act.put, S1, S2, S3, i64_w, i32_w]
        rfl
       refine pure_ (i := 24) (N := some 42) (v := ?_) (a' := ?_) M25 rfl rfl (any_of HT_.out (by kernel_rfl)) (fun _ _ _ h => h) (Or.inl ⟨by rfl, ?_⟩) ?_ ?_
       rotate_left
       ·intro w'
        go_simp
        with_reducible rfl
       rotate_left
       ·simp only [Act.put, S1, S2, S3, i64_w, i32_w]
        rfl
       refine pure_ (i := 25) (N := some 43) (v := ?_) (a' := ?_) M26 rfl rfl (any_of HT_.out (by kernel_rfl)) (fun _ _ _ h => h) (Or.inl ⟨by rfl, ?_⟩) ?_ ?_
       rotate_left
       ·intro w'
        go_simp
        with_reducible rfl
       rotate_left
       ·simp only [Act.put, S1, S2, S3, i64_w, i32_w]
        rfl
       refine take_ (i := 26) (N := some 44) (v := ?_) (a' := ?_) M27 rfl rfl (take_ofW HT_.out HW_.out (by kernel_rfl)) (fun _ _ _ h => h) (Or.inl ⟨by rfl, ?_⟩) hHeld ?_ ?_
       rotate_left
       ·rintro w' ⟨s0, s1, s2, s3, s4, s5⟩
        go_simp
        with_reducible rfl
       rotate_left
       ·simp only [Act.put, S1, S2, S3, i64_w, i32_w]
        rfl
       refine take_ (i := 27) (N := some 45) (v := ?_) (a' := ?_) M28 rfl rfl (take_ofW HT_.out HW_.out (by kernel_rfl)) (fun _ _ _ h => h) (Or.inl ⟨by rfl, ?_⟩) hHeld ?_ ?_
       rotate_left
       ·rintro w' ⟨s0, s1, s2, s3, s4, s5⟩
        go_simp
        with_reducible rfl
       rotate_left
       ·simp only [Act.put, S1, S2, S3, i64_w, i32_w]
        rfl
       refine one_ (i := 28) (N := some 46) M29 rfl rfl (one_of HT_.out (by kernel_rfl)) (by decide) (fun K hK => ?_)
       refine goes_ Try.func18 (by kernel_rfl) rfl #[.agg #[.int .i64 a0_0, .int .i64 a0_1], .agg #[.int .i64 a1_0, .int .i64 a1_1]] (by rfl) rfl rfl (by (try simp only [List.map_toArray, List.map_cons, List.map_nil]); first | done | rfl | (simp only [List.length_drop, List.length_take]; rfl)) ?_
       with_reducible refine (stamp_Less.calls k a0_0 a0_1 a1_0 a1_1 true _ A23.out).mono ?_
       rintro e w31 ⟨rfl, hb⟩
       refine ⟨_, rfl, ?_⟩
       have n0_ := Aside0.mk (blk_below (g := gb134) (o := .cells #[.int .i64 a0_0, .int .i64 a0_1] 40 (0, 0)) (by (with_reducible repeat (first | refine KN ?_ _ | refine KD ?_ | refine KA ?_ _)); exact BK134.out) hb)
       have n1_ := Aside0.mk (blk_below (g := gb135) (o := .cells #[.int .i64 a1_0, .int .i64 a1_1] 40 (0, 0)) (by (with_reducible repeat (first | refine KN ?_ _ | refine KD ?_ | refine KA ?_ _)); exact BK135.out) hb)
       have n2_ := Aside0.mk (blk_below (g := gb136) (o := .cells #[.int .i64 a2_0, .int .i64 a2_1] 40 (0, 0)) (by (with_reducible repeat (first | refine KN ?_ _ | refine KD ?_ | refine KA ?_ _)); exact BK136.out) hb)
       have n3_ := Aside0.mk (blk_below (g := gb137) (o := .cells #[.int .i64 a3_0, .int .i64 a3_1, .int .i64 a3_2, .int .i64 a3_3] 23 (0, 0)) (by (with_reducible repeat (first | refine KN ?_ _ | refine KD ?_ | refine KA ?_ _)); exact BK137.out) hb)
       have n4_ := Aside0.mk (blk_below (g := gb138) (o := .cells #[.int .i64 a4_0, .int .i64 a4_1, .int .i64 a4_2, .int .i64 a4_3] 23 (0, 0)) (by (with_reducible repeat (first | refine KN ?_ _ | refine KD ?_ | refine KA ?_ _)); exact BK138.out) hb)
       have n5_ := Aside0.mk (blk_below (g := gb139) (o := .cells #[.int .i64 a5_0, .int .i64 a5_1, .int .i64 a5_2, .int .i64 a5_3] 23 (0, 0)) (by (with_reducible repeat (first | refine KN ?_ _ | refine KD ?_ | refine KA ?_ _)); exact BK139.out) hb)
       have n6_ := Aside0.mk (below_step (by repeat (first | (with_reducible first | exact HB.out | apply below_alloc | apply pw_below_drewN | apply below_drew1 | refine below_set ?_ GE134.out | refine below_set ?_ GE135.out | refine below_set ?_ GE136.out | refine below_set ?_ GE137.out | refine below_set ?_ GE138.out | refine below_set ?_ GE139.out) | exact HB.out)) hb)
       clear BK134
       clear BK135
       clear BK136
       clear BK137
       clear BK138
       clear BK139
       clear HB
       have BK134 := n0_
       have BK135 := n1_
       have BK136 := n2_
       have BK137 := n3_
       have BK138 := n4_
       have BK139 := n5_
       have HB := n6_
       clear n0_ n1_ n2_ n3_ n4_ n5_ n6_
       (try clear hb)
       (try clear hb2)
       (try clear hk)
       (try clear hi)
       refine hK.out _ _ ⟨(blk_cell BK134.out 0).trans rfl, (blk_cell BK134.out 1).trans rfl, (blk_cell BK135.out 0).trans rfl, (blk_cell BK135.out 1).trans rfl, (blk_cell BK136.out 0).trans rfl, (blk_cell BK136.out 1).trans rfl⟩ (fun hHeld => ?_)
       clear hK K
       refine norm_ (a' := ?_) ?_ ?_
       rotate_left
       ·show Act.put _ (some 46) _ = _
        simp only [Act.put, S1, S2, S3, i64_w, i32_w]
        rfl
       refine pure_ (i := 29) (N := some 47) (v := ?_) (a' := ?_) M30 rfl rfl (any_of HT_.out (by kernel_rfl)) (fun _ _ _ h => h) (Or.inl ⟨by rfl, ?_⟩) ?_ ?_
       rotate_left
       ·intro w'
        go_simp
        with_reducible rfl
       rotate_left
       ·simp only [Act.put, S1, S2, S3, i64_w, i32_w]
        rfl
       refine take_ (i := 30) (N := some 48) (v := ?_) (a' := ?_) M31 rfl rfl (take_ofW HT_.out HW_.out (by kernel_rfl)) (fun _ _ _ h => h) (Or.inl ⟨by rfl, ?_⟩) hHeld ?_ ?_
       rotate_left
       ·rintro w' ⟨s0, s1, s2, s3, s4, s5⟩
        go_simp
        with_reducible rfl
       rotate_left
       ·simp only [Act.put, S1, S2, S3, i64_w, i32_w]
        rfl
       refine take_ (i := 31) (N := some 49) (v := ?_) (a' := ?_) M32 rfl rfl (take_ofW HT_.out HW_.out (by kernel_rfl)) (fun _ _ _ h => h) (Or.inl ⟨by rfl, ?_⟩) hHeld ?_ ?_
       rotate_left
       ·rintro w' ⟨s0, s1, s2, s3, s4, s5⟩
        go_simp
        with_reducible rfl
       rotate_left
       ·simp only [Act.put, S1, S2, S3, i64_w, i32_w]
        rfl
       refine one_ (i := 32) (N := some 50) M33 rfl rfl (one_of HT_.out (by kernel_rfl)) (by decide) (fun K hK => ?_)
       refine goes_ Try.func18 (by kernel_rfl) rfl #[.agg #[.int .i64 a1_0, .int .i64 a1_1], .agg #[.int .i64 a2_0, .int .i64 a2_1]] (by rfl) rfl rfl (by (try simp only [List.map_toArray, List.map_cons, List.map_nil]); first | done | rfl | (simp only [List.length_drop, List.length_take]; rfl)) ?_
       with_reducible refine (stamp_Less.calls k a1_0 a1_1 a2_0 a2_1 true _ A24.out).mono ?_
       rintro e w32 ⟨rfl, hb⟩
       refine ⟨_, rfl, ?_⟩
       have n0_ := Aside0.mk (blk_below (g := gb134) (o := .cells #[.int .i64 a0_0, .int .i64 a0_1] 40 (0, 0)) (by (with_reducible repeat (first | refine KN ?_ _ | refine KD ?_ | refine KA ?_ _)); exact BK134.out) hb)
       have n1_ := Aside0.mk (blk_below (g := gb135) (o := .cells #[.int .i64 a1_0, .int .i64 a1_1] 40 (0, 0)) (by (with_reducible repeat (first | refine KN ?_ _ | refine KD ?_ | refine KA ?_ _)); exact BK135.out) hb)
       have n2_ := Aside0.mk (blk_below (g := gb136) (o := .cells #[.int .i64 a2_0, .int .i64 a2_1] 40 (0, 0)) (by (with_reducible repeat (first | refine KN ?_ _ | refine KD ?_ | refine KA ?_ _)); exact BK136.out) hb)
       have n3_ := Aside0.mk (blk_below (g := gb137) (o := .cells #[.int .i64 a3_0, .int .i64 a3_1, .int .i64 a3_2, .int .i64 a3_3] 23 (0, 0)) (by (with_reducible repeat (first | refine KN ?_ _ | refine KD ?_ | refine KA ?_ _)); exact BK137.out) hb)
       have n4_ := Aside0.mk (blk_below (g := gb138) (o := .cells #[.int .i64 a4_0, .int .i64 a4_1, .int .i64 a4_2, .int .i64 a4_3] 23 (0, 0)) (by (with_reducible repeat (first | refine KN ?_ _ | refine KD ?_ | refine KA ?_ _)); exact BK138.out) hb)
       have n5_ := Aside0.mk (blk_below (g := gb139) (o := .cells #[.int .i64 a5_0, .int .i64 a5_1, .int .i64 a5_2, .int .i64 a5_3] 23 (0, 0)) (by (with_reducible repeat (first | refine KN ?_ _ | refine KD ?_ | refine KA ?_ _)); exact BK139.out) hb)
       have n6_ := Aside0.mk (below_step (by repeat (first | (with_reducible first | exact HB.out | apply below_alloc | apply pw_below_drewN | apply below_drew1 | refine below_set ?_ GE134.out | refine below_set ?_ GE135.out | refine below_set ?_ GE136.out | refine below_set ?_ GE137.out | refine below_set ?_ GE138.out | refine below_set ?_ GE139.out) | exact HB.out)) hb)
       clear BK134
       clear BK135
       clear BK136
       clear BK137
       clear BK138
       clear BK139
       clear HB
       have BK134 := n0_
       have BK135 := n1_
       have BK136 := n2_
       have BK137 := n3_
       have BK138 := n4_
       have BK139 := n5_
       have HB := n6_
       clear n0_ n1_ n2_ n3_ n4_ n5_ n6_
       (try clear hb)
       (try clear hb2)
       (try clear hk)
       (try clear hi)
       refine hK.out _ _ ⟨(blk_cell BK134.out 0).trans rfl, (blk_cell BK134.out 1).trans rfl, (blk_cell BK135.out 0).trans rfl, (blk_cell BK135.out 1).trans rfl, (blk_cell BK136.out 0).trans rfl, (blk_cell BK136.out 1).trans rfl⟩ (fun hHeld => ?_)
       clear hK K
       refine norm_ (a' := ?_) ?_ ?_
       rotate_left
       ·show Act.put _ (some 50) _ = _
        simp only [Act.put, S1, S2, S3, i64_w, i32_w]
        rfl
       refine pure_ (i := 33) (N := some 51) (v := ?_) (a' := ?_) M34 rfl rfl (any_of HT_.out (by kernel_rfl)) (fun _ _ _ h => h) (Or.inl ⟨by rfl, ?_⟩) ?_ ?_
       rotate_left
       ·intro w'
        go_simp
        with_reducible rfl
       rotate_left
       ·simp only [Act.put, S1, S2, S3, i64_w, i32_w]
        rfl
       refine pure_ (i := 34) (N := some 52) (v := ?_) (a' := ?_) M35 rfl rfl (any_of HT_.out (by kernel_rfl)) (fun _ _ _ h => h) (Or.inl ⟨by rfl, ?_⟩) ?_ ?_
       rotate_left
       ·intro w'
        go_simp
        with_reducible rfl
       rotate_left
       ·simp only [Act.put, S1, S2, S3, i64_w, i32_w]
        rfl
       refine take_ (i := 35) (N := some 53) (v := ?_) (a' := ?_) M36 rfl rfl (take_ofW HT_.out HW_.out (by kernel_rfl)) (fun _ _ _ h => h) (Or.inl ⟨by rfl, ?_⟩) hHeld ?_ ?_
       rotate_left
       ·rintro w' ⟨s0, s1, s2, s3, s4, s5⟩
        go_simp
        with_reducible rfl
       rotate_left
       ·simp only [Act.put, S1, S2, S3, i64_w, i32_w]
        rfl
       refine take_ (i := 36) (N := some 54) (v := ?_) (a' := ?_) M37 rfl rfl (take_ofW HT_.out HW_.out (by kernel_rfl)) (fun _ _ _ h => h) (Or.inl ⟨by rfl, ?_⟩) hHeld ?_ ?_
       rotate_left
       ·rintro w' ⟨s0, s1, s2, s3, s4, s5⟩
        go_simp
        with_reducible rfl
       rotate_left
       ·simp only [Act.put, S1, S2, S3, i64_w, i32_w]
        rfl
       refine one_ (i := 37) (N := some 55) M38 rfl rfl (one_of HT_.out (by kernel_rfl)) (by decide) (fun K hK => ?_)
       refine goes_ Try.func18 (by kernel_rfl) rfl #[.agg #[.int .i64 a0_0, .int .i64 a0_1], .agg #[.int .i64 a2_0, .int .i64 a2_1]] (by rfl) rfl rfl (by (try simp only [List.map_toArray, List.map_cons, List.map_nil]); first | done | rfl | (simp only [List.length_drop, List.length_take]; rfl)) ?_
       with_reducible refine (stamp_Less.calls k a0_0 a0_1 a2_0 a2_1 t148 _ A26.out).mono ?_
       rintro e w33 ⟨rfl, hb⟩
       refine ⟨_, rfl, ?_⟩
       have n0_ := Aside0.mk (blk_below (g := gb134) (o := .cells #[.int .i64 a0_0, .int .i64 a0_1] 40 (0, 0)) (by (with_reducible repeat (first | refine KN ?_ _ | refine KD ?_ | refine KA ?_ _)); exact BK134.out) hb)
       have n1_ := Aside0.mk (blk_below (g := gb135) (o := .cells #[.int .i64 a1_0, .int .i64 a1_1] 40 (0, 0)) (by (with_reducible repeat (first | refine KN ?_ _ | refine KD ?_ | refine KA ?_ _)); exact BK135.out) hb)
       have n2_ := Aside0.mk (blk_below (g := gb136) (o := .cells #[.int .i64 a2_0, .int .i64 a2_1] 40 (0, 0)) (by (with_reducible repeat (first | refine KN ?_ _ | refine KD ?_ | refine KA ?_ _)); exact BK136.out) hb)
       have n3_ := Aside0.mk (blk_below (g := gb137) (o := .cells #[.int .i64 a3_0, .int .i64 a3_1, .int .i64 a3_2, .int .i64 a3_3] 23 (0, 0)) (by (with_reducible repeat (first | refine KN ?_ _ | refine KD ?_ | refine KA ?_ _)); exact BK137.out) hb)
       have n4_ := Aside0.mk (blk_below (g := gb138) (o := .cells #[.int .i64 a4_0, .int .i64 a4_1, .int .i64 a4_2, .int .i64 a4_3] 23 (0, 0)) (by (with_reducible repeat (first | refine KN ?_ _ | refine KD ?_ | refine KA ?_ _)); exact BK138.out) hb)
       have n5_ := Aside0.mk (blk_below (g := gb139) (o := .cells #[.int .i64 a5_0, .int .i64 a5_1, .int .i64 a5_2, .int .i64 a5_3] 23 (0, 0)) (by (with_reducible repeat (first | refine KN ?_ _ | refine KD ?_ | refine KA ?_ _)); exact BK139.out) hb)
       have n6_ := Aside0.mk (below_step (by repeat (first | (with_reducible first | exact HB.out | apply below_alloc | apply pw_below_drewN | apply below_drew1 | refine below_set ?_ GE134.out | refine below_set ?_ GE135.out | refine below_set ?_ GE136.out | refine below_set ?_ GE137.out | refine below_set ?_ GE138.out | refine below_set ?_ GE139.out) | exact HB.out)) hb)
       clear BK134
       clear BK135
       clear BK136
       clear BK137
       clear BK138
       clear BK139
       clear HB
       have BK134 := n0_
       have BK135 := n1_
       have BK136 := n2_
       have BK137 := n3_
       have BK138 := n4_
       have BK139 := n5_
       have HB := n6_
       clear n0_ n1_ n2_ n3_ n4_ n5_ n6_
       (try clear hb)
       (try clear hb2)
       (try clear hk)
       (try clear hi)
       refine hK.out _ _ ⟨(blk_cell BK134.out 0).trans rfl, (blk_cell BK134.out 1).trans rfl, (blk_cell BK135.out 0).trans rfl, (blk_cell BK135.out 1).trans rfl, (blk_cell BK136.out 0).trans rfl, (blk_cell BK136.out 1).trans rfl⟩ (fun hHeld => ?_)
       clear hK K
       refine norm_ (a' := ?_) ?_ ?_
       rotate_left
       ·show Act.put _ (some 55) _ = _
        simp only [Act.put, S1, S2, S3, i64_w, i32_w]
        rfl
       refine pure_ (i := 38) (N := some 56) (v := ?_) (a' := ?_) M39 rfl rfl (any_of HT_.out (by kernel_rfl)) (fun _ _ _ h => h) (Or.inl ⟨by rfl, ?_⟩) ?_ ?_
       rotate_left
       ·intro w'
        go_simp
        with_reducible rfl
       rotate_left
       ·simp only [Act.put, S1, S2, S3, i64_w, i32_w]
        rfl
       refine pure_ (i := 39) (N := some 57) (v := ?_) (a' := ?_) M40 rfl rfl (any_of HT_.out (by kernel_rfl)) (fun _ _ _ h => h) (Or.inl ⟨by rfl, ?_⟩) ?_ ?_
       rotate_left
       ·intro w'
        go_simp
        with_reducible rfl
       rotate_left
       ·simp only [Act.put, S1, S2, S3, i64_w, i32_w]
        rfl
       refine pure_ (i := 40) (N := some 58) (v := ?_) (a' := ?_) M41 rfl rfl (any_of HT_.out (by kernel_rfl)) (fun _ _ _ h => h) (Or.inl ⟨by rfl, ?_⟩) ?_ ?_
       rotate_left
       ·intro w'
        go_simp
        with_reducible rfl
       rotate_left
       ·simp only [Act.put, S1, S2, S3, i64_w, i32_w]
        rfl
       refine pure_ (i := 41) (N := some 59) (v := ?_) (a' := ?_) M42 rfl rfl (any_of HT_.out (by kernel_rfl)) (fun _ _ _ h => h) (Or.inl ⟨by rfl, ?_⟩) ?_ ?_
       rotate_left
       ·intro w'
        go_simp
        with_reducible rfl
       rotate_left
       ·simp only [Act.put, S1, S2, S3, i64_w, i32_w]
        rfl
       refine pure_ (i := 42) (N := some 13) (v := ?_) (a' := ?_) M43 rfl rfl (any_of HT_.out (by kernel_rfl)) (fun _ _ _ h => h) (Or.inl ⟨by rfl, ?_⟩) ?_ ?_
       rotate_left
       ·intro w'
        go_simp
        with_reducible rfl
       rotate_left
       ·simp only [Act.put, S1, S2, S3, i64_w, i32_w]
        rfl
       refine done_ (done_of HT_.out (by kernel_rfl)) ?_
       try go_wp2
       go_meet
       case rel => exact ⟨_, (!(!t148)), (by first | rfl | (simp; done) | (simp [*]; done)), H', ⟨by first | omega | exact Nat.le_refl _⟩, ⟨by (with_reducible repeat (first | refine KN ?_ _ | refine KD ?_ | refine KA ?_ _)); exact BK134.out⟩, ⟨by (with_reducible repeat (first | refine KN ?_ _ | refine KD ?_ | refine KA ?_ _)); exact BK135.out⟩, ⟨by (with_reducible repeat (first | refine KN ?_ _ | refine KD ?_ | refine KA ?_ _)); exact BK136.out⟩, ⟨by (with_reducible repeat (first | refine KN ?_ _ | refine KD ?_ | refine KA ?_ _)); exact BK137.out⟩, ⟨by (with_reducible repeat (first | refine KN ?_ _ | refine KD ?_ | refine KA ?_ _)); exact BK138.out⟩, ⟨by (with_reducible repeat (first | refine KN ?_ _ | refine KD ?_ | refine KA ?_ _)); exact BK139.out⟩, ⟨by repeat (first | (with_reducible first | exact HB.out | apply below_alloc | apply pw_below_drewN | apply below_drew1 | refine below_set ?_ GE134.out | refine below_set ?_ GE135.out | refine below_set ?_ GE136.out | refine below_set ?_ GE137.out | refine below_set ?_ GE138.out | refine below_set ?_ GE139.out) | exact HB.out)⟩⟩
      ·replace c25 := Bool.eq_false_iff.mpr c25
       subst c25
       have H1 : (j0 k (!false) a0_0 a0_1 a1_0 a1_1 a3_0 a3_1 a3_2 a3_3 a4_0 a4_1 a4_2 a4_3 a5_0 a5_1 a5_2 a5_3) = some r := by rw [if_neg (show ¬ (false = true) by decide)] at H; exact H
       clear H
       have H := H1
       clear H1
       have H' := Aside0.mk H
       clear H
       try go_wp2
       have n0_ := Aside0.mk (blk_drew BK134.out)
       have n1_ := Aside0.mk (blk_drew BK135.out)
       have n2_ := Aside0.mk (blk_drew BK136.out)
       have n3_ := Aside0.mk (blk_drew BK137.out)
       have n4_ := Aside0.mk (blk_drew BK138.out)
       have n5_ := Aside0.mk (blk_drew BK139.out)
       have n6_ := Aside0.mk (below_drew1 HB.out)
       clear BK134
       clear BK135
       clear BK136
       clear BK137
       clear BK138
       clear BK139
       clear HB
       have BK134 := n0_
       have BK135 := n1_
       have BK136 := n2_
       have BK137 := n3_
       have BK138 := n4_
       have BK139 := n5_
       have HB := n6_
       clear n0_ n1_ n2_ n3_ n4_ n5_ n6_
       refine start_ (n := 43) (S := fun w' => w'.cell? ⟨gb134, 0, none⟩ = some (.int .i64 a0_0) ∧ w'.cell? ⟨gb134, 1, none⟩ = some (.int .i64 a0_1) ∧ w'.cell? ⟨gb135, 0, none⟩ = some (.int .i64 a1_0) ∧ w'.cell? ⟨gb135, 1, none⟩ = some (.int .i64 a1_1) ∧ w'.cell? ⟨gb136, 0, none⟩ = some (.int .i64 a2_0) ∧ w'.cell? ⟨gb136, 1, none⟩ = some (.int .i64 a2_1)) (ds := []) M0 (by kernel_rfl) rfl rfl ⟨(blk_cell BK134.out 0).trans rfl, (blk_cell BK134.out 1).trans rfl, (blk_cell BK135.out 0).trans rfl, (blk_cell BK135.out 1).trans rfl, (blk_cell BK136.out 0).trans rfl, (blk_cell BK136.out 1).trans rfl⟩ (fun hHeld => ?_); refine with_tabW antipodelaw6_StampLine.tab3 antipodelaw6_StampLine.bits3 (fun HT_ HW_ => ?_)
       generalize w16.drew = w34 at BK134 BK135 BK136 BK137 BK138 BK139 HB hHeld ⊢
       refine take_ (i := 0) (N := some 18) (v := ?_) (a' := ?_) M1 rfl rfl (take_ofW HT_.out HW_.out (by kernel_rfl)) (fun _ _ _ h => h) (Or.inl ⟨by rfl, ?_⟩) hHeld ?_ ?_
       rotate_left
       ·rintro w' ⟨s0, s1, s2, s3, s4, s5⟩
        go_simp
        with_reducible rfl
       rotate_left
       ·simp only [Act.put, S1, S2, S3, i64_w, i32_w]
        rfl
       refine take_ (i := 1) (N := some 19) (v := ?_) (a' := ?_) M2 rfl rfl (take_ofW HT_.out HW_.out (by kernel_rfl)) (fun _ _ _ h => h) (Or.inl ⟨by rfl, ?_⟩) hHeld ?_ ?_
       rotate_left
       ·rintro w' ⟨s0, s1, s2, s3, s4, s5⟩
        go_simp
        with_reducible rfl
       rotate_left
       ·simp only [Act.put, S1, S2, S3, i64_w, i32_w]
        rfl
       refine pure_ (i := 2) (N := some 20) (v := ?_) (a' := ?_) M3 rfl rfl (any_of HT_.out (by kernel_rfl)) (fun _ _ _ h => h) (Or.inl ⟨by rfl, ?_⟩) ?_ ?_
       rotate_left
       ·intro w'
        go_simp
        with_reducible rfl
       rotate_left
       ·simp only [Act.put, S1, S2, S3, i64_w, i32_w]
        rfl
       refine take_ (i := 3) (N := some 21) (v := ?_) (a' := ?_) M4 rfl rfl (take_ofW HT_.out HW_.out (by kernel_rfl)) (fun _ _ _ h => h) (Or.inl ⟨by rfl, ?_⟩) hHeld ?_ ?_
       rotate_left
       ·rintro w' ⟨s0, s1, s2, s3, s4, s5⟩
        go_simp
        with_reducible rfl
       rotate_left
       ·simp only [Act.put, S1, S2, S3, i64_w, i32_w]
        rfl
       refine take_ (i := 4) (N := some 22) (v := ?_) (a' := ?_) M5 rfl rfl (take_ofW HT_.out HW_.out (by kernel_rfl)) (fun _ _ _ h => h) (Or.inl ⟨by rfl, ?_⟩) hHeld ?_ ?_
       rotate_left
       ·rintro w' ⟨s0, s1, s2, s3, s4, s5⟩
        go_simp
        with_reducible rfl
       rotate_left
       ·simp only [Act.put, S1, S2, S3, i64_w, i32_w]
        rfl
       refine one_ (i := 5) (N := some 23) M6 rfl rfl (one_of HT_.out (by kernel_rfl)) (by decide) (fun K hK => ?_)
       refine goes_ Try.func18 (by kernel_rfl) rfl #[.agg #[.int .i64 a0_0, .int .i64 a0_1], .agg #[.int .i64 a1_0, .int .i64 a1_1]] (by rfl) rfl rfl (by (try simp only [List.map_toArray, List.map_cons, List.map_nil]); first | done | rfl | (simp only [List.length_drop, List.length_take]; rfl)) ?_
       with_reducible refine (stamp_Less.calls k a0_0 a0_1 a1_0 a1_1 true _ A17.out).mono ?_
       rintro e w35 ⟨rfl, hb⟩
       refine ⟨_, rfl, ?_⟩
       have n0_ := Aside0.mk (blk_below (g := gb134) (o := .cells #[.int .i64 a0_0, .int .i64 a0_1] 40 (0, 0)) (by (with_reducible repeat (first | refine KN ?_ _ | refine KD ?_ | refine KA ?_ _)); exact BK134.out) hb)
       have n1_ := Aside0.mk (blk_below (g := gb135) (o := .cells #[.int .i64 a1_0, .int .i64 a1_1] 40 (0, 0)) (by (with_reducible repeat (first | refine KN ?_ _ | refine KD ?_ | refine KA ?_ _)); exact BK135.out) hb)
       have n2_ := Aside0.mk (blk_below (g := gb136) (o := .cells #[.int .i64 a2_0, .int .i64 a2_1] 40 (0, 0)) (by (with_reducible repeat (first | refine KN ?_ _ | refine KD ?_ | refine KA ?_ _)); exact BK136.out) hb)
       have n3_ := Aside0.mk (blk_below (g := gb137) (o := .cells #[.int .i64 a3_0, .int .i64 a3_1, .int .i64 a3_2, .int .i64 a3_3] 23 (0, 0)) (by (with_reducible repeat (first | refine KN ?_ _ | refine KD ?_ | refine KA ?_ _)); exact BK137.out) hb)
       have n4_ := Aside0.mk (blk_below (g := gb138) (o := .cells #[.int .i64 a4_0, .int .i64 a4_1, .int .i64 a4_2, .int .i64 a4_3] 23 (0, 0)) (by (with_reducible repeat (first | refine KN ?_ _ | refine KD ?_ | refine KA ?_ _)); exact BK138.out) hb)
       have n5_ := Aside0.mk (blk_below (g := gb139) (o := .cells #[.int .i64 a5_0, .int .i64 a5_1, .int .i64 a5_2, .int .i64 a5_3] 23 (0, 0)) (by (with_reducible repeat (first | refine KN ?_ _ | refine KD ?_ | refine KA ?_ _)); exact BK139.out) hb)
       have n6_ := Aside0.mk (below_step (by repeat (first | (with_reducible first | exact HB.out | apply below_alloc | apply pw_below_drewN | apply below_drew1 | refine below_set ?_ GE134.out | refine below_set ?_ GE135.out | refine below_set ?_ GE136.out | refine below_set ?_ GE137.out | refine below_set ?_ GE138.out | refine below_set ?_ GE139.out) | exact HB.out)) hb)
       clear BK134
       clear BK135
       clear BK136
       clear BK137
       clear BK138
       clear BK139
       clear HB
       have BK134 := n0_
       have BK135 := n1_
       have BK136 := n2_
       have BK137 := n3_
       have BK138 := n4_
       have BK139 := n5_
       have HB := n6_
       clear n0_ n1_ n2_ n3_ n4_ n5_ n6_
       (try clear hb)
       (try clear hb2)
       (try clear hk)
       (try clear hi)
       refine hK.out _ _ ⟨(blk_cell BK134.out 0).trans rfl, (blk_cell BK134.out 1).trans rfl, (blk_cell BK135.out 0).trans rfl, (blk_cell BK135.out 1).trans rfl, (blk_cell BK136.out 0).trans rfl, (blk_cell BK136.out 1).trans rfl⟩ (fun hHeld => ?_)
       clear hK K
       refine norm_ (a' := ?_) ?_ ?_
       rotate_left
       ·show Act.put _ (some 23) _ = _
        simp only [Act.put, S1, S2, S3, i64_w, i32_w]
        rfl
       refine pure_ (i := 6) (N := some 24) (v := ?_) (a' := ?_) M7 rfl rfl (any_of HT_.out (by kernel_rfl)) (fun _ _ _ h => h) (Or.inl ⟨by rfl, ?_⟩) ?_ ?_
       rotate_left
       ·intro w'
        go_simp
        with_reducible rfl
       rotate_left
       ·simp only [Act.put, S1, S2, S3, i64_w, i32_w]
        rfl
       refine pure_ (i := 7) (N := some 25) (v := ?_) (a' := ?_) M8 rfl rfl (any_of HT_.out (by kernel_rfl)) (fun _ _ _ h => h) (Or.inl ⟨by rfl, ?_⟩) ?_ ?_
       rotate_left
       ·intro w'
        go_simp
        with_reducible rfl
       rotate_left
       ·simp only [Act.put, S1, S2, S3, i64_w, i32_w]
        rfl
       refine pure_ (i := 8) (N := some 26) (v := undef) (a' := ?_) M9 rfl rfl (any_of HT_.out (by kernel_rfl)) (fun _ _ _ h => h) (Or.inr ⟨by rfl, rfl⟩) ?_ ?_
       rotate_left
       ·simp only [Act.put, S1, S2, S3, i64_w, i32_w]
        rfl
       refine pure_ (i := 9) (N := some 27) (v := undef) (a' := ?_) M10 rfl rfl (any_of HT_.out (by kernel_rfl)) (fun _ _ _ h => h) (Or.inr ⟨by rfl, rfl⟩) ?_ ?_
       rotate_left
       ·simp only [Act.put, S1, S2, S3, i64_w, i32_w]
        rfl
       refine pure_ (i := 10) (N := some 28) (v := undef) (a' := ?_) M11 rfl rfl (any_of HT_.out (by kernel_rfl)) (fun _ _ _ h => h) (Or.inr ⟨by rfl, rfl⟩) ?_ ?_
       rotate_left
       ·simp only [Act.put, S1, S2, S3, i64_w, i32_w]
        rfl
       refine pure_ (i := 11) (N := some 29) (v := undef) (a' := ?_) M12 rfl rfl (any_of HT_.out (by kernel_rfl)) (fun _ _ _ h => h) (Or.inr ⟨by rfl, rfl⟩) ?_ ?_
       rotate_left
       ·simp only [Act.put, S1, S2, S3, i64_w, i32_w]
        rfl
       refine pure_ (i := 12) (N := some 30) (v := ?_) (a' := ?_) M13 rfl rfl (any_of HT_.out (by kernel_rfl)) (fun _ _ _ h => h) (Or.inl ⟨by rfl, ?_⟩) ?_ ?_
       rotate_left
       ·intro w'
        go_simp
        with_reducible rfl
       rotate_left
       ·simp only [Act.put, S1, S2, S3, i64_w, i32_w]
        rfl
       refine pure_ (i := 13) (N := some 31) (v := ?_) (a' := ?_) M14 rfl rfl (any_of HT_.out (by kernel_rfl)) (fun _ _ _ h => h) (Or.inl ⟨by rfl, ?_⟩) ?_ ?_
       rotate_left
       ·intro w'
        go_simp
        with_reducible rfl
       rotate_left
       ·simp only [Act.put, S1, S2, S3, i64_w, i32_w]
        rfl
       refine pure_ (i := 14) (N := some 32) (v := ?_) (a' := ?_) M15 rfl rfl (any_of HT_.out (by kernel_rfl)) (fun _ _ _ h => h) (Or.inl ⟨by rfl, ?_⟩) ?_ ?_
       rotate_left
       ·intro w'
        go_simp
        with_reducible rfl
       rotate_left
       ·simp only [Act.put, S1, S2, S3, i64_w, i32_w]
        rfl
       refine take_ (i := 15) (N := some 33) (v := ?_) (a' := ?_) M16 rfl rfl (take_ofW HT_.out HW_.out (by kernel_rfl)) (fun _ _ _ h => h) (Or.inl ⟨by rfl, ?_⟩) hHeld ?_ ?_
       rotate_left
       ·rintro w' ⟨s0, s1, s2, s3, s4, s5⟩
        go_simp
        with_reducible rfl
       rotate_left
       ·simp only [Act.put, S1, S2, S3, i64_w, i32_w]
        rfl
       refine take_ (i := 16) (N := some 34) (v := ?_) (a' := ?_) M17 rfl rfl (take_ofW HT_.out HW_.out (by kernel_rfl)) (fun _ _ _ h => h) (Or.inl ⟨by rfl, ?_⟩) hHeld ?_ ?_
       rotate_left
       ·rintro w' ⟨s0, s1, s2, s3, s4, s5⟩
        go_simp
        with_reducible rfl
       rotate_left
       ·simp only [Act.put, S1, S2, S3, i64_w, i32_w]
        rfl
       refine one_ (i := 17) (N := some 35) M18 rfl rfl (one_of HT_.out (by kernel_rfl)) (by decide) (fun K hK => ?_)
       refine goes_ Try.func18 (by kernel_rfl) rfl #[.agg #[.int .i64 a0_0, .int .i64 a0_1], .agg #[.int .i64 a1_0, .int .i64 a1_1]] (by rfl) rfl rfl (by (try simp only [List.map_toArray, List.map_cons, List.map_nil]); first | done | rfl | (simp only [List.length_drop, List.length_take]; rfl)) ?_
       with_reducible refine (stamp_Less.calls k a0_0 a0_1 a1_0 a1_1 true _ A20.out).mono ?_
       rintro e w36 ⟨rfl, hb⟩
       refine ⟨_, rfl, ?_⟩
       have n0_ := Aside0.mk (blk_below (g := gb134) (o := .cells #[.int .i64 a0_0, .int .i64 a0_1] 40 (0, 0)) (by (with_reducible repeat (first | refine KN ?_ _ | refine KD ?_ | refine KA ?_ _)); exact BK134.out) hb)
       have n1_ := Aside0.mk (blk_below (g := gb135) (o := .cells #[.int .i64 a1_0, .int .i64 a1_1] 40 (0, 0)) (by (with_reducible repeat (first | refine KN ?_ _ | refine KD ?_ | refine KA ?_ _)); exact BK135.out) hb)
       have n2_ := Aside0.mk (blk_below (g := gb136) (o := .cells #[.int .i64 a2_0, .int .i64 a2_1] 40 (0, 0)) (by (with_reducible repeat (first | refine KN ?_ _ | refine KD ?_ | refine KA ?_ _)); exact BK136.out) hb)
       have n3_ := Aside0.mk (blk_below (g := gb137) (o := .cells #[.int .i64 a3_0, .int .i64 a3_1, .int .i64 a3_2, .int .i64 a3_3] 23 (0, 0)) (by (with_reducible repeat (first | refine KN ?_ _ | refine KD ?_ | refine KA ?_ _)); exact BK137.out) hb)
       have n4_ := Aside0.mk (blk_below (g := gb138) (o := .cells #[.int .i64 a4_0, .int .i64 a4_1, .int .i64 a4_2, .int .i64 a4_3] 23 (0, 0)) (by (with_reducible repeat (first | refine KN ?_ _ | refine KD ?_ | refine KA ?_ _)); exact BK138.out) hb)
       have n5_ := Aside0.mk (blk_below (g := gb139) (o := .cells #[.int .i64 a5_0, .int .i64 a5_1, .int .i64 a5_2, .int .i64 a5_3] 23 (0, 0)) (by (with_reducible repeat (first | refine KN ?_ _ | refine KD ?_ | refine KA ?_ _)); exact BK139.out) hb)
       have n6_ := Aside0.mk (below_step (by repeat (first | (with_reducible first | exact HB.out | apply below_alloc | apply pw_below_drewN | apply below_drew1 | refine below_set ?_ GE134.out | refine below_set ?_ GE135.out | refine below_set ?_ GE136.out | refine below_set ?_ GE137.out | refine below_set ?_ GE138.out | refine below_set ?_ GE139.out) | exact HB.out)) hb)
       clear BK134
       clear BK135
       clear BK136
       clear BK137
       clear BK138
       clear BK139
       clear HB
       have BK134 := n0_
       have BK135 := n1_
       have BK136 := n2_
       have BK137 := n3_
       have BK138 := n4_
       have BK139 := n5_
       have HB := n6_
       clear n0_ n1_ n2_ n3_ n4_ n5_ n6_
       (try clear hb)
       (try clear hb2)
       (try clear hk)
       (try clear hi)
       refine hK.out _ _ ⟨(blk_cell BK134.out 0).trans rfl, (blk_cell BK134.out 1).trans rfl, (blk_cell BK135.out 0).trans rfl, (blk_cell BK135.out 1).trans rfl, (blk_cell BK136.out 0).trans rfl, (blk_cell BK136.out 1).trans rfl⟩ (fun hHeld => ?_)
       clear hK K
       refine norm_ (a' := ?_) ?_ ?_
       rotate_left
       ·show Act.put _ (some 35) _ = _
        simp only [Act.put, S1, S2, S3, i64_w, i32_w]
        rfl
       refine pure_ (i := 18) (N := some 36) (v := ?_) (a' := ?_) M19 rfl rfl (any_of HT_.out (by kernel_rfl)) (fun _ _ _ h => h) (Or.inl ⟨by rfl, ?_⟩) ?_ ?_
       rotate_left
       ·intro w'
        go_simp
        with_reducible rfl
       rotate_left
       ·simp only [Act.put, S1, S2, S3, i64_w, i32_w]
        rfl
       refine take_ (i := 19) (N := some 37) (v := ?_) (a' := ?_) M20 rfl rfl (take_ofW HT_.out HW_.out (by kernel_rfl)) (fun _ _ _ h => h) (Or.inl ⟨by rfl, ?_⟩) hHeld ?_ ?_
       rotate_left
       ·rintro w' ⟨s0, s1, s2, s3, s4, s5⟩
        go_simp
        with_reducible rfl
       rotate_left
       ·simp only [Act.put, S1, S2, S3, i64_w, i32_w]
        rfl
       refine take_ (i := 20) (N := some 38) (v := ?_) (a' := ?_) M21 rfl rfl (take_ofW HT_.out HW_.out (by kernel_rfl)) (fun _ _ _ h => h) (Or.inl ⟨by rfl, ?_⟩) hHeld ?_ ?_
       rotate_left
       ·rintro w' ⟨s0, s1, s2, s3, s4, s5⟩
        go_simp
        with_reducible rfl
       rotate_left
       ·simp only [Act.put, S1, S2, S3, i64_w, i32_w]
        rfl
       refine one_ (i := 21) (N := some 39) M22 rfl rfl (one_of HT_.out (by kernel_rfl)) (by decide) (fun K hK => ?_)
       refine goes_ Try.func18 (by kernel_rfl) rfl #[.agg #[.int .i64 a1_0, .int .i64 a1_1], .agg #[.int .i64 a0_0, .int .i64 a0_1]] (by rfl) rfl rfl (by (try simp only [List.map_toArray, List.map_cons, List.map_nil]); first | done | rfl | (simp only [List.length_drop, List.length_take]; rfl)) ?_
       with_reducible refine (stamp_Less.calls k a1_0 a1_1 a0_0 a0_1 false _ A21.out).mono ?_
       rintro e w37 ⟨rfl, hb⟩
       refine ⟨_, rfl, ?_⟩
       have n0_ := Aside0.mk (blk_below (g := gb134) (o := .cells #[.int .i64 a0_0, .int .i64 a0_1] 40 (0, 0)) (by (with_reducible repeat (first | refine KN ?_ _ | refine KD ?_ | refine KA ?_ _)); exact BK134.out) hb)
       have n1_ := Aside0.mk (blk_below (g := gb135) (o := .cells #[.int .i64 a1_0, .int .i64 a1_1] 40 (0, 0)) (by (with_reducible repeat (first | refine KN ?_ _ | refine KD ?_ | refine KA ?_ _)); exact BK135.out) hb)
       have n2_ := Aside0.mk (blk_below (g := gb136) (o := .cells #[.int .i64 a2_0, .int .i64 a2_1] 40 (0, 0)) (by (with_reducible repeat (first | refine KN ?_ _ | refine KD ?_ | refine KA ?_ _)); exact BK136.out) hb)
       have n3_ := Aside0.mk (blk_below (g := gb137) (o := .cells #[.int .i64 a3_0, .int .i64 a3_1, .int .i64 a3_2, .int .i64 a3_3] 23 (0, 0)) (by (with_reducible repeat (first | refine KN ?_ _ | refine KD ?_ | refine KA ?_ _)); exact BK137.out) hb)
       have n4_ := Aside0.mk (blk_below (g := gb138) (o := .cells #[.int .i64 a4_0, .int .i64 a4_1, .int .i64 a4_2, .int .i64 a4_3] 23 (0, 0)) (by (with_reducible repeat (first | refine KN ?_ _ | refine KD ?_ | refine KA ?_ _)); exact BK138.out) hb)
       have n5_ := Aside0.mk (blk_below (g := gb139) (o := .cells #[.int .i64 a5_0, .int .i64 a5_1, .int .i64 a5_2, .int .i64 a5_3] 23 (0, 0)) (by (with_reducible repeat (first | refine KN ?_ _ | refine KD ?_ | refine KA ?_ _)); exact BK139.out) hb)
       have n6_ := Aside0.mk (below_step (by repeat (first | (with_reducible first | exact HB.out | apply below_alloc | apply pw_below_drewN | apply below_drew1 | refine below_set ?_ GE134.out | refine below_set ?_ GE135.out | refine below_set ?_ GE136.out | refine below_set ?_ GE137.out | refine below_set ?_ GE138.out | refine below_set ?_ GE139.out) | exact HB.out)) hb)
       clear BK134
       clear BK135
       clear BK136
       clear BK137
       clear BK138
       clear BK139
       clear HB
       have BK134 := n0_
       have BK135 := n1_
       have BK136 := n2_
       have BK137 := n3_
       have BK138 := n4_
       have BK139 := n5_
       have HB := n6_
       clear n0_ n1_ n2_ n3_ n4_ n5_ n6_
       (try clear hb)
       (try clear hb2)
       (try clear hk)
       (try clear hi)
       refine hK.out _ _ ⟨(blk_cell BK134.out 0).trans rfl, (blk_cell BK134.out 1).trans rfl, (blk_cell BK135.out 0).trans rfl, (blk_cell BK135.out 1).trans rfl, (blk_cell BK136.out 0).trans rfl, (blk_cell BK136.out 1).trans rfl⟩ (fun hHeld => ?_)
       clear hK K
       refine norm_ (a' := ?_) ?_ ?_
       rotate_left
       ·show Act.put _ (some 39) _ = _
        simp only [Act.put, S1, S2, S3, i64_w, i32_w]
        rfl
       refine pure_ (i := 22) (N := some 40) (v := ?_) (a' := ?_) M23 rfl rfl (any_of HT_.out (by kernel_rfl)) (fun _ _ _ h => h) (Or.inl ⟨by rfl, ?_⟩) ?_ ?_
       rotate_left
       ·intro w'
        go_simp
        with_reducible rfl
       rotate_left
       ·simp only [Act.put, S1, S2, S3, i64_w, i32_w]
        rfl
       refine pure_ (i := 23) (N := some 41) (v := ?_) (a' := ?_) M24 rfl rfl (any_of HT_.out (by kernel_rfl)) (fun _ _ _ h => h) (Or.inl ⟨by rfl, ?_⟩) ?_ ?_
       rotate_left
       ·intro w'
        go_simp
        with_reducible rfl
       rotate_left
       ·simp only [Act.put, S1, S2, S3, i64_w, i32_w]
        rfl
       refine pure_ (i := 24) (N := some 42) (v := ?_) (a' := ?_) M25 rfl rfl (any_of HT_.out (by kernel_rfl)) (fun _ _ _ h => h) (Or.inl ⟨by rfl, ?_⟩) ?_ ?_
       rotate_left
       ·intro w'
        go_simp
        with_reducible rfl
       rotate_left
       ·simp only [Act.put, S1, S2, S3, i64_w, i32_w]
        rfl
       refine pure_ (i := 25) (N := some 43) (v := ?_) (a' := ?_) M26 rfl rfl (any_of HT_.out (by kernel_rfl)) (fun _ _ _ h => h) (Or.inl ⟨by rfl, ?_⟩) ?_ ?_
       rotate_left
       ·intro w'
        go_simp
        with_reducible rfl
       rotate_left
       ·simp only [Act.put, S1, S2, S3, i64_w, i32_w]
        rfl
       refine take_ (i := 26) (N := some 44) (v := ?_) (a' := ?_) M27 rfl rfl (take_ofW HT_.out HW_.out (by kernel_rfl)) (fun _ _ _ h => h) (Or.inl ⟨by rfl, ?_⟩) hHeld ?_ ?_
       rotate_left
       ·rintro w' ⟨s0, s1, s2, s3, s4, s5⟩
        go_simp
        with_reducible rfl
       rotate_left
       ·simp only [Act.put, S1, S2, S3, i64_w, i32_w]
        rfl
       refine take_ (i := 27) (N := some 45) (v := ?_) (a' := ?_) M28 rfl rfl (take_ofW HT_.out HW_.out (by kernel_rfl)) (fun _ _ _ h => h) (Or.inl ⟨by rfl, ?_⟩) hHeld ?_ ?_
       rotate_left
       ·rintro w' ⟨s0, s1, s2, s3, s4, s5⟩
        go_simp
        with_reducible rfl
       rotate_left
       ·simp only [Act.put, S1, S2, S3, i64_w, i32_w]
        rfl
       refine one_ (i := 28) (N := some 46) M29 rfl rfl (one_of HT_.out (by kernel_rfl)) (by decide) (fun K hK => ?_)
       refine goes_ Try.func18 (by kernel_rfl) rfl #[.agg #[.int .i64 a0_0, .int .i64 a0_1], .agg #[.int .i64 a1_0, .int .i64 a1_1]] (by rfl) rfl rfl (by (try simp only [List.map_toArray, List.map_cons, List.map_nil]); first | done | rfl | (simp only [List.length_drop, List.length_take]; rfl)) ?_
       with_reducible refine (stamp_Less.calls k a0_0 a0_1 a1_0 a1_1 true _ A23.out).mono ?_
       rintro e w38 ⟨rfl, hb⟩
       refine ⟨_, rfl, ?_⟩
       have n0_ := Aside0.mk (blk_below (g := gb134) (o := .cells #[.int .i64 a0_0, .int .i64 a0_1] 40 (0, 0)) (by (with_reducible repeat (first | refine KN ?_ _ | refine KD ?_ | refine KA ?_ _)); exact BK134.out) hb)
       have n1_ := Aside0.mk (blk_below (g := gb135) (o := .cells #[.int .i64 a1_0, .int .i64 a1_1] 40 (0, 0)) (by (with_reducible repeat (first | refine KN ?_ _ | refine KD ?_ | refine KA ?_ _)); exact BK135.out) hb)
       have n2_ := Aside0.mk (blk_below (g := gb136) (o := .cells #[.int .i64 a2_0, .int .i64 a2_1] 40 (0, 0)) (by (with_reducible repeat (first | refine KN ?_ _ | refine KD ?_ | refine KA ?_ _)); exact BK136.out) hb)
       have n3_ := Aside0.mk (blk_below (g := gb137) (o := .cells #[.int .i64 a3_0, .int .i64 a3_1, .int .i64 a3_2, .int .i64 a3_3] 23 (0, 0)) (by (with_reducible repeat (first | refine KN ?_ _ | refine KD ?_ | refine KA ?_ _)); exact BK137.out) hb)
       have n4_ := Aside0.mk (blk_below (g := gb138) (o := .cells #[.int .i64 a4_0, .int .i64 a4_1, .int .i64 a4_2, .int .i64 a4_3] 23 (0, 0)) (by (with_reducible repeat (first | refine KN ?_ _ | refine KD ?_ | refine KA ?_ _)); exact BK138.out) hb)
       have n5_ := Aside0.mk (blk_below (g := gb139) (o := .cells #[.int .i64 a5_0, .int .i64 a5_1, .int .i64 a5_2, .int .i64 a5_3] 23 (0, 0)) (by (with_reducible repeat (first | refine KN ?_ _ | refine KD ?_ | refine KA ?_ _)); exact BK139.out) hb)
       have n6_ := Aside0.mk (below_step (by repeat (first | (with_reducible first | exact HB.out | apply below_alloc | apply pw_below_drewN | apply below_drew1 | refine below_set ?_ GE134.out | refine below_set ?_ GE135.out | refine below_set ?_ GE136.out | refine below_set ?_ GE137.out | refine below_set ?_ GE138.out | refine below_set ?_ GE139.out) | exact HB.out)) hb)
       clear BK134
       clear BK135
       clear BK136
       clear BK137
       clear BK138
       clear BK139
       clear HB
       have BK134 := n0_
       have BK135 := n1_
       have BK136 := n2_
       have BK137 := n3_
       have BK138 := n4_
       have BK139 := n5_
       have HB := n6_
       clear n0_ n1_ n2_ n3_ n4_ n5_ n6_
       (try clear hb)
       (try clear hb2)
       (try clear hk)
       (try clear hi)
       refine hK.out _ _ ⟨(blk_cell BK134.out 0).trans rfl, (blk_cell BK134.out 1).trans rfl, (blk_cell BK135.out 0).trans rfl, (blk_cell BK135.out 1).trans rfl, (blk_cell BK136.out 0).trans rfl, (blk_cell BK136.out 1).trans rfl⟩ (fun hHeld => ?_)
       clear hK K
       refine norm_ (a' := ?_) ?_ ?_
       rotate_left
       ·show Act.put _ (some 46) _ = _
        simp only [Act.put, S1, S2, S3, i64_w, i32_w]
        rfl
       refine pure_ (i := 29) (N := some 47) (v := ?_) (a' := ?_) M30 rfl rfl (any_of HT_.out (by kernel_rfl)) (fun _ _ _ h => h) (Or.inl ⟨by rfl, ?_⟩) ?_ ?_
       rotate_left
       ·intro w'
        go_simp
        with_reducible rfl
       rotate_left
       ·simp only [Act.put, S1, S2, S3, i64_w, i32_w]
        rfl
       refine take_ (i := 30) (N := some 48) (v := ?_) (a' := ?_) M31 rfl rfl (take_ofW HT_.out HW_.out (by kernel_rfl)) (fun _ _ _ h => h) (Or.inl ⟨by rfl, ?_⟩) hHeld ?_ ?_
       rotate_left
       ·rintro w' ⟨s0, s1, s2, s3, s4, s5⟩
        go_simp
        with_reducible rfl
       rotate_left
       ·simp only [Act.put, S1, S2, S3, i64_w, i32_w]
        rfl
       refine take_ (i := 31) (N := some 49) (v := ?_) (a' := ?_) M32 rfl rfl (take_ofW HT_.out HW_.out (by kernel_rfl)) (fun _ _ _ h => h) (Or.inl ⟨by rfl, ?_⟩) hHeld ?_ ?_
       rotate_left
       ·rintro w' ⟨s0, s1, s2, s3, s4, s5⟩
        go_simp
        with_reducible rfl
       rotate_left
       ·simp only [Act.put, S1, S2, S3, i64_w, i32_w]
        rfl
       refine one_ (i := 32) (N := some 50) M33 rfl rfl (one_of HT_.out (by kernel_rfl)) (by decide) (fun K hK => ?_)
       refine goes_ Try.func18 (by kernel_rfl) rfl #[.agg #[.int .i64 a1_0, .int .i64 a1_1], .agg #[.int .i64 a2_0, .int .i64 a2_1]] (by rfl) rfl rfl (by (try simp only [List.map_toArray, List.map_cons, List.map_nil]); first | done | rfl | (simp only [List.length_drop, List.length_take]; rfl)) ?_
       with_reducible refine (stamp_Less.calls k a1_0 a1_1 a2_0 a2_1 false _ A24.out).mono ?_
       rintro e w39 ⟨rfl, hb⟩
       refine ⟨_, rfl, ?_⟩
       have n0_ := Aside0.mk (blk_below (g := gb134) (o := .cells #[.int .i64 a0_0, .int .i64 a0_1] 40 (0, 0)) (by (with_reducible repeat (first | refine KN ?_ _ | refine KD ?_ | refine KA ?_ _)); exact BK134.out) hb)
       have n1_ := Aside0.mk (blk_below (g := gb135) (o := .cells #[.int .i64 a1_0, .int .i64 a1_1] 40 (0, 0)) (by (with_reducible repeat (first | refine KN ?_ _ | refine KD ?_ | refine KA ?_ _)); exact BK135.out) hb)
       have n2_ := Aside0.mk (blk_below (g := gb136) (o := .cells #[.int .i64 a2_0, .int .i64 a2_1] 40 (0, 0)) (by (with_reducible repeat (first | refine KN ?_ _ | refine KD ?_ | refine KA ?_ _)); exact BK136.out) hb)
       have n3_ := Aside0.mk (blk_below (g := gb137) (o := .cells #[.int .i64 a3_0, .int .i64 a3_1, .int .i64 a3_2, .int .i64 a3_3] 23 (0, 0)) (by (with_reducible repeat (first | refine KN ?_ _ | refine KD ?_ | refine KA ?_ _)); exact BK137.out) hb)
       have n4_ := Aside0.mk (blk_below (g := gb138) (o := .cells #[.int .i64 a4_0, .int .i64 a4_1, .int .i64 a4_2, .int .i64 a4_3] 23 (0, 0)) (by (with_reducible repeat (first | refine KN ?_ _ | refine KD ?_ | refine KA ?_ _)); exact BK138.out) hb)
       have n5_ := Aside0.mk (blk_below (g := gb139) (o := .cells #[.int .i64 a5_0, .int .i64 a5_1, .int .i64 a5_2, .int .i64 a5_3] 23 (0, 0)) (by (with_reducible repeat (first | refine KN ?_ _ | refine KD ?_ | refine KA ?_ _)); exact BK139.out) hb)
       have n6_ := Aside0.mk (below_step (by repeat (first | (with_reducible first | exact HB.out | apply below_alloc | apply pw_below_drewN | apply below_drew1 | refine below_set ?_ GE134.out | refine below_set ?_ GE135.out | refine below_set ?_ GE136.out | refine below_set ?_ GE137.out | refine below_set ?_ GE138.out | refine below_set ?_ GE139.out) | exact HB.out)) hb)
       clear BK134
       clear BK135
       clear BK136
       clear BK137
       clear BK138
       clear BK139
       clear HB
       have BK134 := n0_
       have BK135 := n1_
       have BK136 := n2_
       have BK137 := n3_
       have BK138 := n4_
       have BK139 := n5_
       have HB := n6_
       clear n0_ n1_ n2_ n3_ n4_ n5_ n6_
       (try clear hb)
       (try clear hb2)
       (try clear hk)
       (try clear hi)
       refine hK.out _ _ ⟨(blk_cell BK134.out 0).trans rfl, (blk_cell BK134.out 1).trans rfl, (blk_cell BK135.out 0).trans rfl, (blk_cell BK135.out 1).trans rfl, (blk_cell BK136.out 0).trans rfl, (blk_cell BK136.out 1).trans rfl⟩ (fun hHeld => ?_)
       clear hK K
       refine norm_ (a' := ?_) ?_ ?_
       rotate_left
       ·show Act.put _ (some 50) _ = _
        simp only [Act.put, S1, S2, S3, i64_w, i32_w]
        rfl
       refine pure_ (i := 33) (N := some 51) (v := ?_) (a' := ?_) M34 rfl rfl (any_of HT_.out (by kernel_rfl)) (fun _ _ _ h => h) (Or.inl ⟨by rfl, ?_⟩) ?_ ?_
       rotate_left
       ·intro w'
        go_simp
        with_reducible rfl
       rotate_left
       ·simp only [Act.put, S1, S2, S3, i64_w, i32_w]
        rfl
       refine pure_ (i := 34) (N := some 52) (v := ?_) (a' := ?_) M35 rfl rfl (any_of HT_.out (by kernel_rfl)) (fun _ _ _ h => h) (Or.inl ⟨by rfl, ?_⟩) ?_ ?_
       rotate_left
       ·intro w'
        go_simp
        with_reducible rfl
       rotate_left
       ·simp only [Act.put, S1, S2, S3, i64_w, i32_w]
        rfl
       refine pure_ (i := 35) (N := some 53) (v := undef) (a' := ?_) M36 rfl rfl (any_of HT_.out (by kernel_rfl)) (fun _ _ _ h => h) (Or.inr ⟨by rfl, rfl⟩) ?_ ?_
       rotate_left
       ·simp only [Act.put, S1, S2, S3, i64_w, i32_w]
        rfl
       refine pure_ (i := 36) (N := some 54) (v := undef) (a' := ?_) M37 rfl rfl (any_of HT_.out (by kernel_rfl)) (fun _ _ _ h => h) (Or.inr ⟨by rfl, rfl⟩) ?_ ?_
       rotate_left
       ·simp only [Act.put, S1, S2, S3, i64_w, i32_w]
        rfl
       refine pure_ (i := 37) (N := some 55) (v := undef) (a' := ?_) M38 rfl rfl (any_of HT_.out (by kernel_rfl)) (fun _ _ _ h => h) (Or.inr ⟨by rfl, rfl⟩) ?_ ?_
       rotate_left
       ·simp only [Act.put, S1, S2, S3, i64_w, i32_w]
        rfl
       refine pure_ (i := 38) (N := some 56) (v := undef) (a' := ?_) M39 rfl rfl (any_of HT_.out (by kernel_rfl)) (fun _ _ _ h => h) (Or.inr ⟨by rfl, rfl⟩) ?_ ?_
       rotate_left
       ·simp only [Act.put, S1, S2, S3, i64_w, i32_w]
        rfl
       refine pure_ (i := 39) (N := some 57) (v := ?_) (a' := ?_) M40 rfl rfl (any_of HT_.out (by kernel_rfl)) (fun _ _ _ h => h) (Or.inl ⟨by rfl, ?_⟩) ?_ ?_
       rotate_left
       ·intro w'
        go_simp
        with_reducible rfl
       rotate_left
       ·simp only [Act.put, S1, S2, S3, i64_w, i32_w]
        rfl
       refine pure_ (i := 40) (N := some 58) (v := ?_) (a' := ?_) M41 rfl rfl (any_of HT_.out (by kernel_rfl)) (fun _ _ _ h => h) (Or.inl ⟨by rfl, ?_⟩) ?_ ?_
       rotate_left
       ·intro w'
        go_simp
        with_reducible rfl
       rotate_left
       ·simp only [Act.put, S1, S2, S3, i64_w, i32_w]
        rfl
       refine pure_ (i := 41) (N := some 59) (v := ?_) (a' := ?_) M42 rfl rfl (any_of HT_.out (by kernel_rfl)) (fun _ _ _ h => h) (Or.inl ⟨by rfl, ?_⟩) ?_ ?_
       rotate_left
       ·intro w'
        go_simp
        with_reducible rfl
       rotate_left
       ·simp only [Act.put, S1, S2, S3, i64_w, i32_w]
        rfl
       refine pure_ (i := 42) (N := some 13) (v := ?_) (a' := ?_) M43 rfl rfl (any_of HT_.out (by kernel_rfl)) (fun _ _ _ h => h) (Or.inl ⟨by rfl, ?_⟩) ?_ ?_
       rotate_left
       ·intro w'
        go_simp
        with_reducible rfl
       rotate_left
       ·simp only [Act.put, S1, S2, S3, i64_w, i32_w]
        rfl
       refine done_ (done_of HT_.out (by kernel_rfl)) ?_
       try go_wp2
       go_meet
       case rel => exact ⟨_, (!false), (by first | rfl | (simp; done) | (simp [*]; done)), H', ⟨by first | omega | exact Nat.le_refl _⟩, ⟨by (with_reducible repeat (first | refine KN ?_ _ | refine KD ?_ | refine KA ?_ _)); exact BK134.out⟩, ⟨by (with_reducible repeat (first | refine KN ?_ _ | refine KD ?_ | refine KA ?_ _)); exact BK135.out⟩, ⟨by (with_reducible repeat (first | refine KN ?_ _ | refine KD ?_ | refine KA ?_ _)); exact BK136.out⟩, ⟨by (with_reducible repeat (first | refine KN ?_ _ | refine KD ?_ | refine KA ?_ _)); exact BK137.out⟩, ⟨by (with_reducible repeat (first | refine KN ?_ _ | refine KD ?_ | refine KA ?_ _)); exact BK138.out⟩, ⟨by (with_reducible repeat (first | refine KN ?_ _ | refine KD ?_ | refine KA ?_ _)); exact BK139.out⟩, ⟨by repeat (first | (with_reducible first | exact HB.out | apply below_alloc | apply pw_below_drewN | apply below_drew1 | refine below_set ?_ GE134.out | refine below_set ?_ GE135.out | refine below_set ?_ GE136.out | refine below_set ?_ GE137.out | refine below_set ?_ GE138.out | refine below_set ?_ GE139.out) | exact HB.out)⟩⟩
    ·rw [if_neg c19] at H
     have c19b0 : ((a0_0 == a1_0 && (a0_1 == a1_1)) == false) = false := by simpa using c19
     (try (have c19b1 : decide ((a0_0 == a1_0 && (a0_1 == a1_1)) = false) = false := by simpa using c19))
     (try (have c19b2 : ((a0_0 == a1_0 && (a0_1 == a1_1)) == false) = false := by simpa using c19))
     (try (have c19b3 : ¬ ((a0_0 == a1_0 && (a0_1 == a1_1)) = false) := by simpa using c19))
     clear c19
     (first | rw [c19b0] | (simp only [i64_w, i32_w]; rw [c19b0]) | skip)
     exact (NT.no_ (by repeat (first | exact NT.none_ | exact NT.false_ | exact NT.not_ | exact j1_nt0 _ _ _ _ _ | exact j1_nt1 _ _ _ _ _ _ | exact j0_nt2 _ _ _ _ _ _ _ _ _ _ _ _ _ _ _ _ _ | exact j1_nt3 _ _ _ _ _ _ | refine NT.bind_ fun _ => ?_ | refine NT.no_if ?_ | refine NT.yes_if ?_ | refine NT.ite_ ?_ ?_)) H hr_.out).elim
   ·replace c18 := Bool.eq_false_iff.mpr c18
    subst c18
    have H1 : ((stamp_Less.f k a1_0 a1_1 a0_0 a0_1).bind fun t149 => (if ((a0_0 == a1_0 && (a0_1 == a1_1)) == (!t149)) = true then ((stamp_Less.f k a0_0 a0_1 a1_0 a1_1).bind fun _t151 => ((stamp_Less.f k a0_0 a0_1 a1_0 a1_1).bind fun _t153 => (j0 k (!false) a0_0 a0_1 a1_0 a1_1 a3_0 a3_1 a3_2 a3_3 a4_0 a4_1 a4_2 a4_3 a5_0 a5_1 a5_2 a5_3))) else (j0 k false a0_0 a0_1 a1_0 a1_1 a3_0 a3_1 a3_2 a3_3 a4_0 a4_1 a4_2 a4_3 a5_0 a5_1 a5_2 a5_3))) = some r := by rw [if_neg (show ¬ (false = true) by decide)] at H; exact H
    clear H
    have H := H1
    clear H1
    replace H := Option.bind_eq_some_iff.mp H
    obtain ⟨t149, A400, H⟩ := H
    replace H : (if ((a0_0 == a1_0 && (a0_1 == a1_1)) == (!t149)) = true then ((stamp_Less.f k a0_0 a0_1 a1_0 a1_1).bind fun _t151 => ((stamp_Less.f k a0_0 a0_1 a1_0 a1_1).bind fun _t153 => (j0 k (!false) a0_0 a0_1 a1_0 a1_1 a3_0 a3_1 a3_2 a3_3 a4_0 a4_1 a4_2 a4_3 a5_0 a5_1 a5_2 a5_3))) else (j0 k false a0_0 a0_1 a1_0 a1_1 a3_0 a3_1 a3_2 a3_3 a4_0 a4_1 a4_2 a4_3 a5_0 a5_1 a5_2 a5_3)) = some r := H
    have A40 := Aside0.mk A400
    clear A400
    by_cases c41 : ((a0_0 == a1_0 && (a0_1 == a1_1)) == (!t149)) = true
    ·rw [if_pos c41] at H
     have c41b0 : ((a0_0 == a1_0 && (a0_1 == a1_1)) == (!t149)) = true := c41
     (try (have c41b1 : decide ((a0_0 == a1_0 && (a0_1 == a1_1)) = (!t149)) = true := by simpa using c41))
     (try (have c41b2 : ((a0_0 == a1_0 && (a0_1 == a1_1)) == (!t149)) = true := by simpa using c41))
     clear c41
     replace H := Option.bind_eq_some_iff.mp H
     obtain ⟨_t151, A420, H⟩ := H
     obtain rfl : false = _t151 := Option.some.inj (Eq.trans (Eq.symm (Aside0.out (by assumption))) A420)
     replace H : ((stamp_Less.f k a0_0 a0_1 a1_0 a1_1).bind fun _t153 => (j0 k (!false) a0_0 a0_1 a1_0 a1_1 a3_0 a3_1 a3_2 a3_3 a4_0 a4_1 a4_2 a4_3 a5_0 a5_1 a5_2 a5_3)) = some r := H
     have A42 := Aside0.mk A420
     clear A420
     replace H := Option.bind_eq_some_iff.mp H
     obtain ⟨_t153, A430, H⟩ := H
     obtain rfl : false = _t153 := Option.some.inj (Eq.trans (Eq.symm (Aside0.out (by assumption))) A430)
     replace H : (j0 k (!false) a0_0 a0_1 a1_0 a1_1 a3_0 a3_1 a3_2 a3_3 a4_0 a4_1 a4_2 a4_3 a5_0 a5_1 a5_2 a5_3) = some r := H
     have A43 := Aside0.mk A430
     clear A430
     have H' := Aside0.mk H
     clear H
     try go_wp2
     have n0_ := Aside0.mk (blk_drew BK134.out)
     have n1_ := Aside0.mk (blk_drew BK135.out)
     have n2_ := Aside0.mk (blk_drew BK136.out)
     have n3_ := Aside0.mk (blk_drew BK137.out)
     have n4_ := Aside0.mk (blk_drew BK138.out)
     have n5_ := Aside0.mk (blk_drew BK139.out)
     have n6_ := Aside0.mk (below_drew1 HB.out)
     clear BK134
     clear BK135
     clear BK136
     clear BK137
     clear BK138
     clear BK139
     clear HB
     have BK134 := n0_
     have BK135 := n1_
     have BK136 := n2_
     have BK137 := n3_
     have BK138 := n4_
     have BK139 := n5_
     have HB := n6_
     clear n0_ n1_ n2_ n3_ n4_ n5_ n6_
     refine start_ (n := 43) (S := fun w' => w'.cell? ⟨gb134, 0, none⟩ = some (.int .i64 a0_0) ∧ w'.cell? ⟨gb134, 1, none⟩ = some (.int .i64 a0_1) ∧ w'.cell? ⟨gb135, 0, none⟩ = some (.int .i64 a1_0) ∧ w'.cell? ⟨gb135, 1, none⟩ = some (.int .i64 a1_1)) (ds := []) M0 (by kernel_rfl) rfl rfl ⟨(blk_cell BK134.out 0).trans rfl, (blk_cell BK134.out 1).trans rfl, (blk_cell BK135.out 0).trans rfl, (blk_cell BK135.out 1).trans rfl⟩ (fun hHeld => ?_); refine with_tabW antipodelaw6_StampLine.tab3 antipodelaw6_StampLine.bits3 (fun HT_ HW_ => ?_)
     generalize w16.drew = w44 at BK134 BK135 BK136 BK137 BK138 BK139 HB hHeld ⊢
     refine take_ (i := 0) (N := some 18) (v := ?_) (a' := ?_) M1 rfl rfl (take_ofW HT_.out HW_.out (by kernel_rfl)) (fun _ _ _ h => h) (Or.inl ⟨by rfl, ?_⟩) hHeld ?_ ?_
     rotate_left
     ·rintro w' ⟨s0, s1, s2, s3⟩
      go_simp
      with_reducible rfl
     rotate_left
     ·simp only [Act.put, S1, S2, S3, i64_w, i32_w]
      rfl
     refine take_ (i := 1) (N := some 19) (v := ?_) (a' := ?_) M2 rfl rfl (take_ofW HT_.out HW_.out (by kernel_rfl)) (fun _ _ _ h => h) (Or.inl ⟨by rfl, ?_⟩) hHeld ?_ ?_
     rotate_left
     ·rintro w' ⟨s0, s1, s2, s3⟩
      go_simp
      with_reducible rfl
     rotate_left
     ·simp only [Act.put, S1, S2, S3, i64_w, i32_w]
      rfl
     refine pure_ (i := 2) (N := some 20) (v := ?_) (a' := ?_) M3 rfl rfl (any_of HT_.out (by kernel_rfl)) (fun _ _ _ h => h) (Or.inl ⟨by rfl, ?_⟩) ?_ ?_
     rotate_left
     ·intro w'
      go_simp
      with_reducible rfl
     rotate_left
     ·simp only [Act.put, S1, S2, S3, i64_w, i32_w]
      rfl
     refine take_ (i := 3) (N := some 21) (v := ?_) (a' := ?_) M4 rfl rfl (take_ofW HT_.out HW_.out (by kernel_rfl)) (fun _ _ _ h => h) (Or.inl ⟨by rfl, ?_⟩) hHeld ?_ ?_
     rotate_left
     ·rintro w' ⟨s0, s1, s2, s3⟩
      go_simp
      with_reducible rfl
     rotate_left
     ·simp only [Act.put, S1, S2, S3, i64_w, i32_w]
      rfl
     refine take_ (i := 4) (N := some 22) (v := ?_) (a' := ?_) M5 rfl rfl (take_ofW HT_.out HW_.out (by kernel_rfl)) (fun _ _ _ h => h) (Or.inl ⟨by rfl, ?_⟩) hHeld ?_ ?_
     rotate_left
     ·rintro w' ⟨s0, s1, s2, s3⟩
      go_simp
      with_reducible rfl
     rotate_left
     ·simp only [Act.put, S1, S2, S3, i64_w, i32_w]
      rfl
     refine one_ (i := 5) (N := some 23) M6 rfl rfl (one_of HT_.out (by kernel_rfl)) (by decide) (fun K hK => ?_)
     refine goes_ Try.func18 (by kernel_rfl) rfl #[.agg #[.int .i64 a0_0, .int .i64 a0_1], .agg #[.int .i64 a1_0, .int .i64 a1_1]] (by rfl) rfl rfl (by (try simp only [List.map_toArray, List.map_cons, List.map_nil]); first | done | rfl | (simp only [List.length_drop, List.length_take]; rfl)) ?_
     with_reducible refine (stamp_Less.calls k a0_0 a0_1 a1_0 a1_1 false _ A17.out).mono ?_
     rintro e w45 ⟨rfl, hb⟩
     refine ⟨_, rfl, ?_⟩
     have n0_ := Aside0.mk (blk_below (g := gb134) (o := .cells #[.int .i64 a0_0, .int .i64 a0_1] 40 (0, 0)) (by (with_reducible repeat (first | refine KN ?_ _ | refine KD ?_ | refine KA ?_ _)); exact BK134.out) hb)
     have n1_ := Aside0.mk (blk_below (g := gb135) (o := .cells #[.int .i64 a1_0, .int .i64 a1_1] 40 (0, 0)) (by (with_reducible repeat (first | refine KN ?_ _ | refine KD ?_ | refine KA ?_ _)); exact BK135.out) hb)
     have n2_ := Aside0.mk (blk_below (g := gb136) (o := .cells #[.int .i64 a2_0, .int .i64 a2_1] 40 (0, 0)) (by (with_reducible repeat (first | refine KN ?_ _ | refine KD ?_ | refine KA ?_ _)); exact BK136.out) hb)
     have n3_ := Aside0.mk (blk_below (g := gb137) (o := .cells #[.int .i64 a3_0, .int .i64 a3_1, .int .i64 a3_2, .int .i64 a3_3] 23 (0, 0)) (by (with_reducible repeat (first | refine KN ?_ _ | refine KD ?_ | refine KA ?_ _)); exact BK137.out) hb)
     have n4_ := Aside0.mk (blk_below (g := gb138) (o := .cells #[.int .i64 a4_0, .int .i64 a4_1, .int .i64 a4_2, .int .i64 a4_3] 23 (0, 0)) (by (with_reducible repeat (first | refine KN ?_ _ | refine KD ?_ | refine KA ?_ _)); exact BK138.out) hb)
     have n5_ := Aside0.mk (blk_below (g := gb139) (o := .cells #[.int .i64 a5_0, .int .i64 a5_1, .int .i64 a5_2, .int .i64 a5_3] 23 (0, 0)) (by (with_reducible repeat (first | refine KN ?_ _ | refine KD ?_ | refine KA ?_ _)); exact BK139.out) hb)
     have n6_ := Aside0.mk (below_step (by repeat (first | (with_reducible first | exact HB.out | apply below_alloc | apply pw_below_drewN | apply below_drew1 | refine below_set ?_ GE134.out | refine below_set ?_ GE135.out | refine below_set ?_ GE136.out | refine below_set ?_ GE137.out | refine below_set ?_ GE138.out | refine below_set ?_ GE139.out) | exact HB.out)) hb)
     clear BK134
     clear BK135
     clear BK136
     clear BK137
     clear BK138
     clear BK139
     clear HB
     have BK134 := n0_
     have BK135 := n1_
     have BK136 := n2_
     have BK137 := n3_
     have BK138 := n4_
     have BK139 := n5_
     have HB := n6_
     clear n0_ n1_ n2_ n3_ n4_ n5_ n6_
     (try clear hb)
     (try clear hb2)
     (try clear hk)
     (try clear hi)
     refine hK.out _ _ ⟨(blk_cell BK134.out 0).trans rfl, (blk_cell BK134.out 1).trans rfl, (blk_cell BK135.out 0).trans rfl, (blk_cell BK135.out 1).trans rfl⟩ (fun hHeld => ?_)
     clear hK K
     refine norm_ (a' := ?_) ?_ ?_
     rotate_left
     ·show Act.put _ (some 23) _ = _
      simp only [Act.put, S1, S2, S3, i64_w, i32_w]
      rfl
     refine pure_ (i := 6) (N := some 24) (v := ?_) (a' := ?_) M7 rfl rfl (any_of HT_.out (by kernel_rfl)) (fun _ _ _ h => h) (Or.inl ⟨by rfl, ?_⟩) ?_ ?_
     rotate_left
     ·intro w'
      go_simp
      with_reducible rfl
     rotate_left
     ·simp only [Act.put, S1, S2, S3, i64_w, i32_w]
      rfl
     refine pure_ (i := 7) (N := some 25) (v := ?_) (a' := ?_) M8 rfl rfl (any_of HT_.out (by kernel_rfl)) (fun _ _ _ h => h) (Or.inl ⟨by rfl, ?_⟩) ?_ ?_
     rotate_left
     ·intro w'
      go_simp
      with_reducible rfl
     rotate_left
     ·simp only [Act.put, S1, S2, S3, i64_w, i32_w]
      rfl
     refine take_ (i := 8) (N := some 26) (v := ?_) (a' := ?_) M9 rfl rfl (take_ofW HT_.out HW_.out (by kernel_rfl)) (fun _ _ _ h => h) (Or.inl ⟨by rfl, ?_⟩) hHeld ?_ ?_
     rotate_left
     ·rintro w' ⟨s0, s1, s2, s3⟩
      go_simp
      with_reducible rfl
     rotate_left
     ·simp only [Act.put, S1, S2, S3, i64_w, i32_w]
      rfl
     refine take_ (i := 9) (N := some 27) (v := ?_) (a' := ?_) M10 rfl rfl (take_ofW HT_.out HW_.out (by kernel_rfl)) (fun _ _ _ h => h) (Or.inl ⟨by rfl, ?_⟩) hHeld ?_ ?_
     rotate_left
     ·rintro w' ⟨s0, s1, s2, s3⟩
      go_simp
      with_reducible rfl
     rotate_left
     ·simp only [Act.put, S1, S2, S3, i64_w, i32_w]
      rfl
     refine one_ (i := 10) (N := some 28) M11 rfl rfl (one_of HT_.out (by kernel_rfl)) (by decide) (fun K hK => ?_)
     refine goes_ Try.func18 (by kernel_rfl) rfl #[.agg #[.int .i64 a1_0, .int .i64 a1_1], .agg #[.int .i64 a0_0, .int .i64 a0_1]] (by rfl) rfl rfl (by (try simp only [List.map_toArray, List.map_cons, List.map_nil]); first | done | rfl | (simp only [List.length_drop, List.length_take]; rfl)) ?_
     with_reducible refine (stamp_Less.calls k a1_0 a1_1 a0_0 a0_1 t149 _ A40.out).mono ?_
     rintro e w46 ⟨rfl, hb⟩
     refine ⟨_, rfl, ?_⟩
     have n0_ := Aside0.mk (blk_below (g := gb134) (o := .cells #[.int .i64 a0_0, .int .i64 a0_1] 40 (0, 0)) (by (with_reducible repeat (first | refine KN ?_ _ | refine KD ?_ | refine KA ?_ _)); exact BK134.out) hb)
     have n1_ := Aside0.mk (blk_below (g := gb135) (o := .cells #[.int .i64 a1_0, .int .i64 a1_1] 40 (0, 0)) (by (with_reducible repeat (first | refine KN ?_ _ | refine KD ?_ | refine KA ?_ _)); exact BK135.out) hb)
     have n2_ := Aside0.mk (blk_below (g := gb136) (o := .cells #[.int .i64 a2_0, .int .i64 a2_1] 40 (0, 0)) (by (with_reducible repeat (first | refine KN ?_ _ | refine KD ?_ | refine KA ?_ _)); exact BK136.out) hb)
     have n3_ := Aside0.mk (blk_below (g := gb137) (o := .cells #[.int .i64 a3_0, .int .i64 a3_1, .int .i64 a3_2, .int .i64 a3_3] 23 (0, 0)) (by (with_reducible repeat (first | refine KN ?_ _ | refine KD ?_ | refine KA ?_ _)); exact BK137.out) hb)
     have n4_ := Aside0.mk (blk_below (g := gb138) (o := .cells #[.int .i64 a4_0, .int .i64 a4_1, .int .i64 a4_2, .int .i64 a4_3] 23 (0, 0)) (by (with_reducible repeat (first | refine KN ?_ _ | refine KD ?_ | refine KA ?_ _)); exact BK138.out) hb)
     have n5_ := Aside0.mk (blk_below (g := gb139) (o := .cells #[.int .i64 a5_0, .int .i64 a5_1, .int .i64 a5_2, .int .i64 a5_3] 23 (0, 0)) (by (with_reducible repeat (first | refine KN ?_ _ | refine KD ?_ | refine KA ?_ _)); exact BK139.out) hb)
     have n6_ := Aside0.mk (below_step (by repeat (first | (with_reducible first | exact HB.out | apply below_alloc | apply pw_below_drewN | apply below_drew1 | refine below_set ?_ GE134.out | refine below_set ?_ GE135.out | refine below_set ?_ GE136.out | refine below_set ?_ GE137.out | refine below_set ?_ GE138.out | refine below_set ?_ GE139.out) | exact HB.out)) hb)
     clear BK134
     clear BK135
     clear BK136
     clear BK137
     clear BK138
     clear BK139
     clear HB
     have BK134 := n0_
     have BK135 := n1_
     have BK136 := n2_
     have BK137 := n3_
     have BK138 := n4_
     have BK139 := n5_
     have HB := n6_
     clear n0_ n1_ n2_ n3_ n4_ n5_ n6_
     (try clear hb)
     (try clear hb2)
     (try clear hk)
     (try clear hi)
     refine hK.out _ _ ⟨(blk_cell BK134.out 0).trans rfl, (blk_cell BK134.out 1).trans rfl, (blk_cell BK135.out 0).trans rfl, (blk_cell BK135.out 1).trans rfl⟩ (fun hHeld => ?_)
     clear hK K
     refine norm_ (a' := ?_) ?_ ?_
     rotate_left
     ·show Act.put _ (some 28) _ = _
      simp only [Act.put, S1, S2, S3, i64_w, i32_w]
      rfl
     refine pure_ (i := 11) (N := some 29) (v := ?_) (a' := ?_) M12 rfl rfl (any_of HT_.out (by kernel_rfl)) (fun _ _ _ h => h) (Or.inl ⟨by rfl, ?_⟩) ?_ ?_
     rotate_left
     ·intro w'
      go_simp
      with_reducible rfl
     rotate_left
     ·simp only [Act.put, S1, S2, S3, i64_w, i32_w]
      rfl
     refine pure_ (i := 12) (N := some 30) (v := ?_) (a' := ?_) M13 rfl rfl (any_of HT_.out (by kernel_rfl)) (fun _ _ _ h => h) (Or.inl ⟨by rfl, ?_⟩) ?_ ?_
     rotate_left
     ·intro w'
      go_simp
      with_reducible rfl
     rotate_left
     ·simp only [Act.put, S1, S2, S3, i64_w, i32_w]
      rfl
     refine pure_ (i := 13) (N := some 31) (v := ?_) (a' := ?_) M14 rfl rfl (any_of HT_.out (by kernel_rfl)) (fun _ _ _ h => h) (Or.inl ⟨by rfl, ?_⟩) ?_ ?_
     rotate_left
     ·intro w'
      go_simp
      with_reducible rfl
     rotate_left
     ·simp only [Act.put, S1, S2, S3, i64_w, i32_w]
      rfl
     refine pure_ (i := 14) (N := some 32) (v := ?_) (a' := ?_) M15 rfl rfl (any_of HT_.out (by kernel_rfl)) (fun _ _ _ h => h) (Or.inl ⟨by rfl, ?_⟩) ?_ ?_
     rotate_left
     ·intro w'
      go_simp
      with_reducible rfl
     rotate_left
     ·simp only [Act.put, S1, S2, S3, i64_w, i32_w]
      rfl
     refine take_ (i := 15) (N := some 33) (v := ?_) (a' := ?_) M16 rfl rfl (take_ofW HT_.out HW_.out (by kernel_rfl)) (fun _ _ _ h => h) (Or.inl ⟨by rfl, ?_⟩) hHeld ?_ ?_
     rotate_left
     ·rintro w' ⟨s0, s1, s2, s3⟩
      go_simp
      with_reducible rfl
     rotate_left
     ·simp only [Act.put, S1, S2, S3, i64_w, i32_w]
      rfl
     refine take_ (i := 16) (N := some 34) (v := ?_) (a' := ?_) M17 rfl rfl (take_ofW HT_.out HW_.out (by kernel_rfl)) (fun _ _ _ h => h) (Or.inl ⟨by rfl, ?_⟩) hHeld ?_ ?_
     rotate_left
     ·rintro w' ⟨s0, s1, s2, s3⟩
      go_simp
      with_reducible rfl
     rotate_left
     ·simp only [Act.put, S1, S2, S3, i64_w, i32_w]
      rfl
     refine one_ (i := 17) (N := some 35) M18 rfl rfl (one_of HT_.out (by kernel_rfl)) (by decide) (fun K hK => ?_)
     refine goes_ Try.func18 (by kernel_rfl) rfl #[.agg #[.int .i64 a0_0, .int .i64 a0_1], .agg #[.int .i64 a1_0, .int .i64 a1_1]] (by rfl) rfl rfl (by (try simp only [List.map_toArray, List.map_cons, List.map_nil]); first | done | rfl | (simp only [List.length_drop, List.length_take]; rfl)) ?_
     with_reducible refine (stamp_Less.calls k a0_0 a0_1 a1_0 a1_1 false _ A42.out).mono ?_
     rintro e w47 ⟨rfl, hb⟩
     refine ⟨_, rfl, ?_⟩
     have n0_ := Aside0.mk (blk_below (g := gb134) (o := .cells #[.int .i64 a0_0, .int .i64 a0_1] 40 (0, 0)) (by (with_reducible repeat (first | refine KN ?_ _ | refine KD ?_ | refine KA ?_ _)); exact BK134.out) hb)
     have n1_ := Aside0.mk (blk_below (g := gb135) (o := .cells #[.int .i64 a1_0, .int .i64 a1_1] 40 (0, 0)) (by (with_reducible repeat (first | refine KN ?_ _ | refine KD ?_ | refine KA ?_ _)); exact BK135.out) hb)
     have n2_ := Aside0.mk (blk_below (g := gb136) (o := .cells #[.int .i64 a2_0, .int .i64 a2_1] 40 (0, 0)) (by (with_reducible repeat (first | refine KN ?_ _ | refine KD ?_ | refine KA ?_ _)); exact BK136.out) hb)
     have n3_ := Aside0.mk (blk_below (g := gb137) (o := .cells #[.int .i64 a3_0, .int .i64 a3_1, .int .i64 a3_2, .int .i64 a3_3] 23 (0, 0)) (by (with_reducible repeat (first | refine KN ?_ _ | refine KD ?_ | refine KA ?_ _)); exact BK137.out) hb)
     have n4_ := Aside0.mk (blk_below (g := gb138) (o := .cells #[.int .i64 a4_0, .int .i64 a4_1, .int .i64 a4_2, .int .i64 a4_3] 23 (0, 0)) (by (with_reducible repeat (first | refine KN ?_ _ | refine KD ?_ | refine KA ?_ _)); exact BK138.out) hb)
     have n5_ := Aside0.mk (blk_below (g := gb139) (o := .cells #[.int .i64 a5_0, .int .i64 a5_1, .int .i64 a5_2, .int .i64 a5_3] 23 (0, 0)) (by (with_reducible repeat (first | refine KN ?_ _ | refine KD ?_ | refine KA ?_ _)); exact BK139.out) hb)
     have n6_ := Aside0.mk (below_step (by repeat (first | (with_reducible first | exact HB.out | apply below_alloc | apply pw_below_drewN | apply below_drew1 | refine below_set ?_ GE134.out | refine below_set ?_ GE135.out | refine below_set ?_ GE136.out | refine below_set ?_ GE137.out | refine below_set ?_ GE138.out | refine below_set ?_ GE139.out) | exact HB.out)) hb)
     clear BK134
     clear BK135
     clear BK136
     clear BK137
     clear BK138
     clear BK139
     clear HB
     have BK134 := n0_
     have BK135 := n1_
     have BK136 := n2_
     have BK137 := n3_
     have BK138 := n4_
     have BK139 := n5_
     have HB := n6_
     clear n0_ n1_ n2_ n3_ n4_ n5_ n6_
     (try clear hb)
     (try clear hb2)
     (try clear hk)
     (try clear hi)
     refine hK.out _ _ ⟨(blk_cell BK134.out 0).trans rfl, (blk_cell BK134.out 1).trans rfl, (blk_cell BK135.out 0).trans rfl, (blk_cell BK135.out 1).trans rfl⟩ (fun hHeld => ?_)
     clear hK K
     refine norm_ (a' := ?_) ?_ ?_
     rotate_left
     ·show Act.put _ (some 35) _ = _
      simp only [Act.put, S1, S2, S3, i64_w, i32_w]
      rfl
     refine pure_ (i := 18) (N := some 36) (v := ?_) (a' := ?_) M19 rfl rfl (any_of HT_.out (by kernel_rfl)) (fun _ _ _ h => h) (Or.inl ⟨by rfl, ?_⟩) ?_ ?_
     rotate_left
     ·intro w'
      go_simp
      with_reducible rfl
     rotate_left
     ·simp only [Act.put, S1, S2, S3, i64_w, i32_w]
      rfl
     refine pure_ (i := 19) (N := some 37) (v := undef) (a' := ?_) M20 rfl rfl (any_of HT_.out (by kernel_rfl)) (fun _ _ _ h => h) (Or.inr ⟨by rfl, rfl⟩) ?_ ?_
     rotate_left
     ·simp only [Act.put, S1, S2, S3, i64_w, i32_w]
      rfl
     refine pure_ (i := 20) (N := some 38) (v := undef) (a' := ?_) M21 rfl rfl (any_of HT_.out (by kernel_rfl)) (fun _ _ _ h => h) (Or.inr ⟨by rfl, rfl⟩) ?_ ?_
     rotate_left
     ·simp only [Act.put, S1, S2, S3, i64_w, i32_w]
      rfl
     refine pure_ (i := 21) (N := some 39) (v := undef) (a' := ?_) M22 rfl rfl (any_of HT_.out (by kernel_rfl)) (fun _ _ _ h => h) (Or.inr ⟨by rfl, rfl⟩) ?_ ?_
     rotate_left
     ·simp only [Act.put, S1, S2, S3, i64_w, i32_w]
      rfl
     refine pure_ (i := 22) (N := some 40) (v := ?_) (a' := ?_) M23 rfl rfl (any_of HT_.out (by kernel_rfl)) (fun _ _ _ h => h) (Or.inl ⟨by rfl, ?_⟩) ?_ ?_
     rotate_left
     ·intro w'
      go_simp
      with_reducible rfl
     rotate_left
     ·simp only [Act.put, S1, S2, S3, i64_w, i32_w]
      rfl
     refine pure_ (i := 23) (N := some 41) (v := ?_) (a' := ?_) M24 rfl rfl (any_of HT_.out (by kernel_rfl)) (fun _ _ _ h => h) (Or.inl ⟨by rfl, ?_⟩) ?_ ?_
     rotate_left
     ·intro w'
      go_simp
      with_reducible rfl
     rotate_left
     ·simp only [Act.put, S1, S2, S3, i64_w, i32_w]
      rfl
     refine pure_ (i := 24) (N := some 42) (v := ?_) (a' := ?_) M25 rfl rfl (any_of HT_.out (by kernel_rfl)) (fun _ _ _ h => h) (Or.inl ⟨by rfl, ?_⟩) ?_ ?_
     rotate_left
     ·intro w'
      go_simp
      with_reducible rfl
     rotate_left
     ·simp only [Act.put, S1, S2, S3, i64_w, i32_w]
      rfl
     refine pure_ (i := 25) (N := some 43) (v := ?_) (a' := ?_) M26 rfl rfl (any_of HT_.out (by kernel_rfl)) (fun _ _ _ h => h) (Or.inl ⟨by rfl, ?_⟩) ?_ ?_
     rotate_left
     ·intro w'
      go_simp
      with_reducible rfl
     rotate_left
     ·simp only [Act.put, S1, S2, S3, i64_w, i32_w]
      rfl
     refine take_ (i := 26) (N := some 44) (v := ?_) (a' := ?_) M27 rfl rfl (take_ofW HT_.out HW_.out (by kernel_rfl)) (fun _ _ _ h => h) (Or.inl ⟨by rfl, ?_⟩) hHeld ?_ ?_
     rotate_left
     ·rintro w' ⟨s0, s1, s2, s3⟩
      go_simp
      with_reducible rfl
     rotate_left
     ·simp only [Act.put, S1, S2, S3, i64_w, i32_w]
      rfl
     refine take_ (i := 27) (N := some 45) (v := ?_) (a' := ?_) M28 rfl rfl (take_ofW HT_.out HW_.out (by kernel_rfl)) (fun _ _ _ h => h) (Or.inl ⟨by rfl, ?_⟩) hHeld ?_ ?_
     rotate_left
     ·rintro w' ⟨s0, s1, s2, s3⟩
      go_simp
      with_reducible rfl
     rotate_left
     ·simp only [Act.put, S1, S2, S3, i64_w, i32_w]
      rfl
     refine one_ (i := 28) (N := some 46) M29 rfl rfl (one_of HT_.out (by kernel_rfl)) (by decide) (fun K hK => ?_)
     refine goes_ Try.func18 (by kernel_rfl) rfl #[.agg #[.int .i64 a0_0, .int .i64 a0_1], .agg #[.int .i64 a1_0, .int .i64 a1_1]] (by rfl) rfl rfl (by (try simp only [List.map_toArray, List.map_cons, List.map_nil]); first | done | rfl | (simp only [List.length_drop, List.length_take]; rfl)) ?_
     with_reducible refine (stamp_Less.calls k a0_0 a0_1 a1_0 a1_1 false _ A43.out).mono ?_
     rintro e w48 ⟨rfl, hb⟩
     refine ⟨_, rfl, ?_⟩
     have n0_ := Aside0.mk (blk_below (g := gb134) (o := .cells #[.int .i64 a0_0, .int .i64 a0_1] 40 (0, 0)) (by (with_reducible repeat (first | refine KN ?_ _ | refine KD ?_ | refine KA ?_ _)); exact BK134.out) hb)
     have n1_ := Aside0.mk (blk_below (g := gb135) (o := .cells #[.int .i64 a1_0, .int .i64 a1_1] 40 (0, 0)) (by (with_reducible repeat (first | refine KN ?_ _ | refine KD ?_ | refine KA ?_ _)); exact BK135.out) hb)
     have n2_ := Aside0.mk (blk_below (g := gb136) (o := .cells #[.int .i64 a2_0, .int .i64 a2_1] 40 (0, 0)) (by (with_reducible repeat (first | refine KN ?_ _ | refine KD ?_ | refine KA ?_ _)); exact BK136.out) hb)
     have n3_ := Aside0.mk (blk_below (g := gb137) (o := .cells #[.int .i64 a3_0, .int .i64 a3_1, .int .i64 a3_2, .int .i64 a3_3] 23 (0, 0)) (by (with_reducible repeat (first | refine KN ?_ _ | refine KD ?_ | refine KA ?_ _)); exact BK137.out) hb)
     have n4_ := Aside0.mk (blk_below (g := gb138) (o := .cells #[.int .i64 a4_0, .int .i64 a4_1, .int .i64 a4_2, .int .i64 a4_3] 23 (0, 0)) (by (with_reducible repeat (first | refine KN ?_ _ | refine KD ?_ | refine KA ?_ _)); exact BK138.out) hb)
     have n5_ := Aside0.mk (blk_below (g := gb139) (o := .cells #[.int .i64 a5_0, .int .i64 a5_1, .int .i64 a5_2, .int .i64 a5_3] 23 (0, 0)) (by (with_reducible repeat (first | refine KN ?_ _ | refine KD ?_ | refine KA ?_ _)); exact BK139.out) hb)
     have n6_ := Aside0.mk (below_step (by repeat (first | (with_reducible first | exact HB.out | apply below_alloc | apply pw_below_drewN | apply below_drew1 | refine below_set ?_ GE134.out | refine below_set ?_ GE135.out | refine below_set ?_ GE136.out | refine below_set ?_ GE137.out | refine below_set ?_ GE138.out | refine below_set ?_ GE139.out) | exact HB.out)) hb)
     clear BK134
     clear BK135
     clear BK136
     clear BK137
     clear BK138
     clear BK139
     clear HB
     have BK134 := n0_
     have BK135 := n1_
     have BK136 := n2_
     have BK137 := n3_
     have BK138 := n4_
     have BK139 := n5_
     have HB := n6_
     clear n0_ n1_ n2_ n3_ n4_ n5_ n6_
     (try clear hb)
     (try clear hb2)
     (try clear hk)
     (try clear hi)
     refine hK.out _ _ ⟨(blk_cell BK134.out 0).trans rfl, (blk_cell BK134.out 1).trans rfl, (blk_cell BK135.out 0).trans rfl, (blk_cell BK135.out 1).trans rfl⟩ (fun hHeld => ?_)
     clear hK K
     refine norm_ (a' := ?_) ?_ ?_
     rotate_left
     ·show Act.put _ (some 46) _ = _
      simp only [Act.put, S1, S2, S3, i64_w, i32_w]
      rfl
     refine pure_ (i := 29) (N := some 47) (v := ?_) (a' := ?_) M30 rfl rfl (any_of HT_.out (by kernel_rfl)) (fun _ _ _ h => h) (Or.inl ⟨by rfl, ?_⟩) ?_ ?_
     rotate_left
     ·intro w'
      go_simp
      with_reducible rfl
     rotate_left
     ·simp only [Act.put, S1, S2, S3, i64_w, i32_w]
      rfl
     refine pure_ (i := 30) (N := some 48) (v := undef) (a' := ?_) M31 rfl rfl (any_of HT_.out (by kernel_rfl)) (fun _ _ _ h => h) (Or.inr ⟨by rfl, rfl⟩) ?_ ?_
     rotate_left
     ·simp only [Act.put, S1, S2, S3, i64_w, i32_w]
      rfl
     refine pure_ (i := 31) (N := some 49) (v := undef) (a' := ?_) M32 rfl rfl (any_of HT_.out (by kernel_rfl)) (fun _ _ _ h => h) (Or.inr ⟨by rfl, rfl⟩) ?_ ?_
     rotate_left
     ·simp only [Act.put, S1, S2, S3, i64_w, i32_w]
      rfl
     refine pure_ (i := 32) (N := some 50) (v := undef) (a' := ?_) M33 rfl rfl (any_of HT_.out (by kernel_rfl)) (fun _ _ _ h => h) (Or.inr ⟨by rfl, rfl⟩) ?_ ?_
     rotate_left
     ·simp only [Act.put, S1, S2, S3, i64_w, i32_w]
      rfl
     refine pure_ (i := 33) (N := some 51) (v := ?_) (a' := ?_) M34 rfl rfl (any_of HT_.out (by kernel_rfl)) (fun _ _ _ h => h) (Or.inl ⟨by rfl, ?_⟩) ?_ ?_
     rotate_left
     ·intro w'
      go_simp
      with_reducible rfl
     rotate_left
     ·simp only [Act.put, S1, S2, S3, i64_w, i32_w]
      rfl
     refine pure_ (i := 34) (N := some 52) (v := ?_) (a' := ?_) M35 rfl rfl (any_of HT_.out (by kernel_rfl)) (fun _ _ _ h => h) (Or.inl ⟨by rfl, ?_⟩) ?_ ?_
     rotate_left
     ·intro w'
      go_simp
      with_reducible rfl
     rotate_left
     ·simp only [Act.put, S1, S2, S3, i64_w, i32_w]
      rfl
     refine pure_ (i := 35) (N := some 53) (v := undef) (a' := ?_) M36 rfl rfl (any_of HT_.out (by kernel_rfl)) (fun _ _ _ h => h) (Or.inr ⟨by rfl, rfl⟩) ?_ ?_
     rotate_left
     ·simp only [Act.put, S1, S2, S3, i64_w, i32_w]
      rfl
     refine pure_ (i := 36) (N := some 54) (v := undef) (a' := ?_) M37 rfl rfl (any_of HT_.out (by kernel_rfl)) (fun _ _ _ h => h) (Or.inr ⟨by rfl, rfl⟩) ?_ ?_
     rotate_left
     ·simp only [Act.put, S1, S2, S3, i64_w, i32_w]
      rfl
     refine pure_ (i := 37) (N := some 55) (v := undef) (a' := ?_) M38 rfl rfl (any_of HT_.out (by kernel_rfl)) (fun _ _ _ h => h) (Or.inr ⟨by rfl, rfl⟩) ?_ ?_
     rotate_left
     ·simp only [Act.put, S1, S2, S3, i64_w, i32_w]
      rfl
     refine pure_ (i := 38) (N := some 56) (v := undef) (a' := ?_) M39 rfl rfl (any_of HT_.out (by kernel_rfl)) (fun _ _ _ h => h) (Or.inr ⟨by rfl, rfl⟩) ?_ ?_
     rotate_left
     ·simp only [Act.put, S1, S2, S3, i64_w, i32_w]
      rfl
     refine pure_ (i := 39) (N := some 57) (v := ?_) (a' := ?_) M40 rfl rfl (any_of HT_.out (by kernel_rfl)) (fun _ _ _ h => h) (Or.inl ⟨by rfl, ?_⟩) ?_ ?_
     rotate_left
     ·intro w'
      go_simp
      with_reducible rfl
     rotate_left
     ·simp only [Act.put, S1, S2, S3, i64_w, i32_w]
      rfl
     refine pure_ (i := 40) (N := some 58) (v := ?_) (a' := ?_) M41 rfl rfl (any_of HT_.out (by kernel_rfl)) (fun _ _ _ h => h) (Or.inl ⟨by rfl, ?_⟩) ?_ ?_
     rotate_left
     ·intro w'
      go_simp
      with_reducible rfl
     rotate_left
     ·simp only [Act.put, S1, S2, S3, i64_w, i32_w]
      rfl
     refine pure_ (i := 41) (N := some 59) (v := ?_) (a' := ?_) M42 rfl rfl (any_of HT_.out (by kernel_rfl)) (fun _ _ _ h => h) (Or.inl ⟨by rfl, ?_⟩) ?_ ?_
     rotate_left
     ·intro w'
      go_simp
      with_reducible rfl
     rotate_left
     ·simp only [Act.put, S1, S2, S3, i64_w, i32_w]
      rfl
     refine pure_ (i := 42) (N := some 13) (v := ?_) (a' := ?_) M43 rfl rfl (any_of HT_.out (by kernel_rfl)) (fun _ _ _ h => h) (Or.inl ⟨by rfl, ?_⟩) ?_ ?_
     rotate_left
     ·intro w'
      go_simp
      with_reducible rfl
     rotate_left
     ·simp only [Act.put, S1, S2, S3, i64_w, i32_w]
      rfl
     refine done_ (done_of HT_.out (by kernel_rfl)) ?_
     try go_wp2
     go_meet
     case rel => exact ⟨_, (!false), (by first | rfl | (simp; done) | (simp [*]; done)), H', ⟨by first | omega | exact Nat.le_refl _⟩, ⟨by (with_reducible repeat (first | refine KN ?_ _ | refine KD ?_ | refine KA ?_ _)); exact BK134.out⟩, ⟨by (with_reducible repeat (first | refine KN ?_ _ | refine KD ?_ | refine KA ?_ _)); exact BK135.out⟩, ⟨by (with_reducible repeat (first | refine KN ?_ _ | refine KD ?_ | refine KA ?_ _)); exact BK136.out⟩, ⟨by (with_reducible repeat (first | refine KN ?_ _ | refine KD ?_ | refine KA ?_ _)); exact BK137.out⟩, ⟨by (with_reducible repeat (first | refine KN ?_ _ | refine KD ?_ | refine KA ?_ _)); exact BK138.out⟩, ⟨by (with_reducible repeat (first | refine KN ?_ _ | refine KD ?_ | refine KA ?_ _)); exact BK139.out⟩, ⟨by repeat (first | (with_reducible first | exact HB.out | apply below_alloc | apply pw_below_drewN | apply below_drew1 | refine below_set ?_ GE134.out | refine below_set ?_ GE135.out | refine below_set ?_ GE136.out | refine below_set ?_ GE137.out | refine below_set ?_ GE138.out | refine below_set ?_ GE139.out) | exact HB.out)⟩⟩
    ·rw [if_neg c41] at H
     have c41b0 : ((a0_0 == a1_0 && (a0_1 == a1_1)) == (!t149)) = false := by simpa using c41
     (try (have c41b1 : decide ((a0_0 == a1_0 && (a0_1 == a1_1)) = (!t149)) = false := by simpa using c41))
     (try (have c41b2 : ((a0_0 == a1_0 && (a0_1 == a1_1)) == (!t149)) = false := by simpa using c41))
     (try (have c41b3 : ¬ ((a0_0 == a1_0 && (a0_1 == a1_1)) = (!t149)) := by simpa using c41))
     clear c41
     exact (NT.no_ (by repeat (first | exact NT.none_ | exact NT.false_ | exact NT.not_ | exact j1_nt0 _ _ _ _ _ | exact j1_nt1 _ _ _ _ _ _ | exact j0_nt2 _ _ _ _ _ _ _ _ _ _ _ _ _ _ _ _ _ | exact j1_nt3 _ _ _ _ _ _ | refine NT.bind_ fun _ => ?_ | refine NT.no_if ?_ | refine NT.yes_if ?_ | refine NT.ite_ ?_ ?_)) H hr_.out).elim
  case rest =>
   clear HC9
   try clear c1
   try clear p2
   try clear c4
   try clear c18
   try clear c19
   try clear c19b0
   try clear c19b1
   try clear c19b2
   try clear c41
   try clear c41b0
   try clear c41b1
   try clear c41b2
   obtain ⟨kq, x13_8, rfl, HA, HJ8, BK134, BK135, BK136, BK137, BK138, BK139, HB⟩ := hcut
   cases kq with
   | zero => exact absurd HA.out (by simp [j0])
   | succ kj8 =>
    have H := HA.out
    clear HA
    simp only [j0] at H
    have HC49 := Aside0.mk H
    clear H
    go_upto_region 4 with (fail)
    go_cut [14] (fun v14 wc => ∃ (kq : Nat) (x14_48 : Bool), v14 = .bool x14_48 ∧ Aside0 (j1 kq x13_8 x14_48 a0_0 a0_1 a1_0 a1_1 = some r) ∧ Aside0 (kq ≤ kj8) ∧ Aside0 (wc.heap[gb134]? = some (.cells #[.int .i64 a0_0, .int .i64 a0_1] 40 (0, 0))) ∧ Aside0 (wc.heap[gb135]? = some (.cells #[.int .i64 a1_0, .int .i64 a1_1] 40 (0, 0))) ∧ Aside0 (wc.heap[gb136]? = some (.cells #[.int .i64 a2_0, .int .i64 a2_1] 40 (0, 0))) ∧ Aside0 (wc.heap[gb137]? = some (.cells #[.int .i64 a3_0, .int .i64 a3_1, .int .i64 a3_2, .int .i64 a3_3] 23 (0, 0))) ∧ Aside0 (wc.heap[gb138]? = some (.cells #[.int .i64 a4_0, .int .i64 a4_1, .int .i64 a4_2, .int .i64 a4_3] 23 (0, 0))) ∧ Aside0 (wc.heap[gb139]? = some (.cells #[.int .i64 a5_0, .int .i64 a5_1, .int .i64 a5_2, .int .i64 a5_3] 23 (0, 0))) ∧ Aside0 (Below w.heap.size w wc))
    case first =>
     have H := HC49.out
     clear HC49
     replace H := Option.bind_eq_some_iff.mp H
     obtain ⟨t154, A500, H⟩ := H
     replace H : (if t154 = true then (if ((a3_0 == a4_0 && (a3_1 == a4_1 && (a3_2 == a4_2 && (a3_3 == a4_3)))) == false) = true then ((stamp_LessTry.f kj8 a3_0 a3_1 a3_2 a3_3 a4_0 a4_1 a4_2 a4_3).bind fun _t156 => ((stamp_LessTry.f kj8 a4_0 a4_1 a4_2 a4_3 a3_0 a3_1 a3_2 a3_3).bind fun t157 => (if t157 = true then (j1 kj8 x13_8 false a0_0 a0_1 a1_0 a1_1) else ((stamp_LessTry.f kj8 a3_0 a3_1 a3_2 a3_3 a4_0 a4_1 a4_2 a4_3).bind fun _t159 => ((stamp_LessTry.f kj8 a4_0 a4_1 a4_2 a4_3 a5_0 a5_1 a5_2 a5_3).bind fun t160 => (if t160 = true then ((stamp_LessTry.f kj8 a3_0 a3_1 a3_2 a3_3 a5_0 a5_1 a5_2 a5_3).bind fun t161 => (j1 kj8 x13_8 (!(!t161)) a0_0 a0_1 a1_0 a1_1)) else (j1 kj8 x13_8 (!false) a0_0 a0_1 a1_0 a1_1))))))) else (j1 kj8 x13_8 false a0_0 a0_1 a1_0 a1_1)) else ((stamp_LessTry.f kj8 a4_0 a4_1 a4_2 a4_3 a3_0 a3_1 a3_2 a3_3).bind fun t162 => (if ((a3_0 == a4_0 && (a3_1 == a4_1 && (a3_2 == a4_2 && (a3_3 == a4_3)))) == (!t162)) = true then ((stamp_LessTry.f kj8 a3_0 a3_1 a3_2 a3_3 a4_0 a4_1 a4_2 a4_3).bind fun _t164 => ((stamp_LessTry.f kj8 a3_0 a3_1 a3_2 a3_3 a4_0 a4_1 a4_2 a4_3).bind fun _t166 => (j1 kj8 x13_8 (!false) a0_0 a0_1 a1_0 a1_1))) else (j1 kj8 x13_8 false a0_0 a0_1 a1_0 a1_1)))) = some r := H
     have A50 := Aside0.mk A500
     clear A500
     by_cases c51 : t154 = true
     ·subst c51
      have H1 : (if ((a3_0 == a4_0 && (a3_1 == a4_1 && (a3_2 == a4_2 && (a3_3 == a4_3)))) == false) = true then ((stamp_LessTry.f kj8 a3_0 a3_1 a3_2 a3_3 a4_0 a4_1 a4_2 a4_3).bind fun _t156 => ((stamp_LessTry.f kj8 a4_0 a4_1 a4_2 a4_3 a3_0 a3_1 a3_2 a3_3).bind fun t157 => (if t157 = true then (j1 kj8 x13_8 false a0_0 a0_1 a1_0 a1_1) else ((stamp_LessTry.f kj8 a3_0 a3_1 a3_2 a3_3 a4_0 a4_1 a4_2 a4_3).bind fun _t159 => ((stamp_LessTry.f kj8 a4_0 a4_1 a4_2 a4_3 a5_0 a5_1 a5_2 a5_3).bind fun t160 => (if t160 = true then ((stamp_LessTry.f kj8 a3_0 a3_1 a3_2 a3_3 a5_0 a5_1 a5_2 a5_3).bind fun t161 => (j1 kj8 x13_8 (!(!t161)) a0_0 a0_1 a1_0 a1_1)) else (j1 kj8 x13_8 (!false) a0_0 a0_1 a1_0 a1_1))))))) else (j1 kj8 x13_8 false a0_0 a0_1 a1_0 a1_1)) = some r := by rw [if_pos rfl] at H; exact H
      clear H
      have H := H1
      clear H1
      by_cases c52 : ((a3_0 == a4_0 && (a3_1 == a4_1 && (a3_2 == a4_2 && (a3_3 == a4_3)))) == false) = true
      ·rw [if_pos c52] at H
       have c52b0 : ((a3_0 == a4_0 && (a3_1 == a4_1 && (a3_2 == a4_2 && (a3_3 == a4_3)))) == false) = true := c52
       (try (have c52b1 : decide ((a3_0 == a4_0 && (a3_1 == a4_1 && (a3_2 == a4_2 && (a3_3 == a4_3)))) = false) = true := by simpa using c52))
       (try (have c52b2 : ((a3_0 == a4_0 && (a3_1 == a4_1 && (a3_2 == a4_2 && (a3_3 == a4_3)))) == false) = true := by simpa using c52))
       clear c52
       (first | rw [c52b0] | (simp only [i64_w, i32_w]; rw [c52b0]) | skip)
       replace H := Option.bind_eq_some_iff.mp H
       obtain ⟨_t156, A530, H⟩ := H
       obtain rfl : true = _t156 := Option.some.inj (Eq.trans (Eq.symm (Aside0.out (by assumption))) A530)
       replace H : ((stamp_LessTry.f kj8 a4_0 a4_1 a4_2 a4_3 a3_0 a3_1 a3_2 a3_3).bind fun t157 => (if t157 = true then (j1 kj8 x13_8 false a0_0 a0_1 a1_0 a1_1) else ((stamp_LessTry.f kj8 a3_0 a3_1 a3_2 a3_3 a4_0 a4_1 a4_2 a4_3).bind fun _t159 => ((stamp_LessTry.f kj8 a4_0 a4_1 a4_2 a4_3 a5_0 a5_1 a5_2 a5_3).bind fun t160 => (if t160 = true then ((stamp_LessTry.f kj8 a3_0 a3_1 a3_2 a3_3 a5_0 a5_1 a5_2 a5_3).bind fun t161 => (j1 kj8 x13_8 (!(!t161)) a0_0 a0_1 a1_0 a1_1)) else (j1 kj8 x13_8 (!false) a0_0 a0_1 a1_0 a1_1)))))) = some r := H
       have A53 := Aside0.mk A530
       clear A530
       replace H := Option.bind_eq_some_iff.mp H
       obtain ⟨t157, A540, H⟩ := H
       replace H : (if t157 = true then (j1 kj8 x13_8 false a0_0 a0_1 a1_0 a1_1) else ((stamp_LessTry.f kj8 a3_0 a3_1 a3_2 a3_3 a4_0 a4_1 a4_2 a4_3).bind fun _t159 => ((stamp_LessTry.f kj8 a4_0 a4_1 a4_2 a4_3 a5_0 a5_1 a5_2 a5_3).bind fun t160 => (if t160 = true then ((stamp_LessTry.f kj8 a3_0 a3_1 a3_2 a3_3 a5_0 a5_1 a5_2 a5_3).bind fun t161 => (j1 kj8 x13_8 (!(!t161)) a0_0 a0_1 a1_0 a1_1)) else (j1 kj8 x13_8 (!false) a0_0 a0_1 a1_0 a1_1))))) = some r := H
       have A54 := Aside0.mk A540
       clear A540
       by_cases c55 : t157 = true
       ·subst c55
        have H1 : (j1 kj8 x13_8 false a0_0 a0_1 a1_0 a1_1) = some r := by rw [if_pos rfl] at H; exact H
        clear H
        have H := H1
        clear H1
        exact (NT.no_ (by repeat (first | exact NT.none_ | exact NT.false_ | exact NT.not_ | exact j1_nt0 _ _ _ _ _ | exact j1_nt1 _ _ _ _ _ _ | exact j0_nt2 _ _ _ _ _ _ _ _ _ _ _ _ _ _ _ _ _ | exact j1_nt3 _ _ _ _ _ _ | refine NT.bind_ fun _ => ?_ | refine NT.no_if ?_ | refine NT.yes_if ?_ | refine NT.ite_ ?_ ?_)) H hr_.out).elim
       ·replace c55 := Bool.eq_false_iff.mpr c55
        subst c55
        have H1 : ((stamp_LessTry.f kj8 a3_0 a3_1 a3_2 a3_3 a4_0 a4_1 a4_2 a4_3).bind fun _t159 => ((stamp_LessTry.f kj8 a4_0 a4_1 a4_2 a4_3 a5_0 a5_1 a5_2 a5_3).bind fun t160 => (if t160 = true then ((stamp_LessTry.f kj8 a3_0 a3_1 a3_2 a3_3 a5_0 a5_1 a5_2 a5_3).bind fun t161 => (j1 kj8 x13_8 (!(!t161)) a0_0 a0_1 a1_0 a1_1)) else (j1 kj8 x13_8 (!false) a0_0 a0_1 a1_0 a1_1)))) = some r := by rw [if_neg (show ¬ (false = true) by decide)] at H; exact H
        clear H
        have H := H1
        clear H1
        replace H := Option.bind_eq_some_iff.mp H
        obtain ⟨_t159, A560, H⟩ := H
        obtain rfl : true = _t159 := Option.some.inj (Eq.trans (Eq.symm (Aside0.out (by assumption))) A560)
        replace H : ((stamp_LessTry.f kj8 a4_0 a4_1 a4_2 a4_3 a5_0 a5_1 a5_2 a5_3).bind fun t160 => (if t160 = true then ((stamp_LessTry.f kj8 a3_0 a3_1 a3_2 a3_3 a5_0 a5_1 a5_2 a5_3).bind fun t161 => (j1 kj8 x13_8 (!(!t161)) a0_0 a0_1 a1_0 a1_1)) else (j1 kj8 x13_8 (!false) a0_0 a0_1 a1_0 a1_1))) = some r := H
        have A56 := Aside0.mk A560
        clear A560
        replace H := Option.bind_eq_some_iff.mp H
        obtain ⟨t160, A570, H⟩ := H
        replace H : (if t160 = true then ((stamp_LessTry.f kj8 a3_0 a3_1 a3_2 a3_3 a5_0 a5_1 a5_2 a5_3).bind fun t161 => (j1 kj8 x13_8 (!(!t161)) a0_0 a0_1 a1_0 a1_1)) else (j1 kj8 x13_8 (!false) a0_0 a0_1 a1_0 a1_1)) = some r := H
        have A57 := Aside0.mk A570
        clear A570
        by_cases c58 : t160 = true
        ·subst c58
         have H1 : ((stamp_LessTry.f kj8 a3_0 a3_1 a3_2 a3_3 a5_0 a5_1 a5_2 a5_3).bind fun t161 => (j1 kj8 x13_8 (!(!t161)) a0_0 a0_1 a1_0 a1_1)) = some r := by rw [if_pos rfl] at H; exact H
         clear H
         have H := H1
         clear H1
         replace H := Option.bind_eq_some_iff.mp H
         obtain ⟨t161, A590, H⟩ := H
         replace H : (j1 kj8 x13_8 (!(!t161)) a0_0 a0_1 a1_0 a1_1) = some r := H
         have A59 := Aside0.mk A590
         clear A590
         have H' := Aside0.mk H
         clear H
         try go_wp2
         have n0_ := Aside0.mk (blk_drew BK134.out)
         have n1_ := Aside0.mk (blk_drew BK135.out)
         have n2_ := Aside0.mk (blk_drew BK136.out)
         have n3_ := Aside0.mk (blk_drew BK137.out)
         have n4_ := Aside0.mk (blk_drew BK138.out)
         have n5_ := Aside0.mk (blk_drew BK139.out)
         have n6_ := Aside0.mk (below_drew1 HB.out)
         clear BK134
         clear BK135
         clear BK136
         clear BK137
         clear BK138
         clear BK139
         clear HB
         have BK134 := n0_
         have BK135 := n1_
         have BK136 := n2_
         have BK137 := n3_
         have BK138 := n4_
         have BK139 := n5_
         have HB := n6_
         clear n0_ n1_ n2_ n3_ n4_ n5_ n6_
         refine start_ (n := 43) (S := fun w' => w'.cell? ⟨gb137, 0, none⟩ = some (.int .i64 a3_0) ∧ w'.cell? ⟨gb137, 1, none⟩ = some (.int .i64 a3_1) ∧ w'.cell? ⟨gb137, 2, none⟩ = some (.int .i64 a3_2) ∧ w'.cell? ⟨gb137, 3, none⟩ = some (.int .i64 a3_3) ∧ w'.cell? ⟨gb138, 0, none⟩ = some (.int .i64 a4_0) ∧ w'.cell? ⟨gb138, 1, none⟩ = some (.int .i64 a4_1) ∧ w'.cell? ⟨gb138, 2, none⟩ = some (.int .i64 a4_2) ∧ w'.cell? ⟨gb138, 3, none⟩ = some (.int .i64 a4_3) ∧ w'.cell? ⟨gb139, 0, none⟩ = some (.int .i64 a5_0) ∧ w'.cell? ⟨gb139, 1, none⟩ = some (.int .i64 a5_1) ∧ w'.cell? ⟨gb139, 2, none⟩ = some (.int .i64 a5_2) ∧ w'.cell? ⟨gb139, 3, none⟩ = some (.int .i64 a5_3)) (ds := []) M0 (by kernel_rfl) rfl rfl ⟨(blk_cell BK137.out 0).trans rfl, (blk_cell BK137.out 1).trans rfl, (blk_cell BK137.out 2).trans rfl, (blk_cell BK137.out 3).trans rfl, (blk_cell BK138.out 0).trans rfl, (blk_cell BK138.out 1).trans rfl, (blk_cell BK138.out 2).trans rfl, (blk_cell BK138.out 3).trans rfl, (blk_cell BK139.out 0).trans rfl, (blk_cell BK139.out 1).trans rfl, (blk_cell BK139.out 2).trans rfl, (blk_cell BK139.out 3).trans rfl⟩ (fun hHeld => ?_); refine with_tabW antipodelaw6_StampLine.tab4 antipodelaw6_StampLine.bits4 (fun HT_ HW_ => ?_)
         generalize wc.drew = w60 at BK134 BK135 BK136 BK137 BK138 BK139 HB hHeld ⊢
         refine take_ (i := 0) (N := some 60) (v := ?_) (a' := ?_) M1 rfl rfl (take_ofW HT_.out HW_.out (by kernel_rfl)) (fun _ _ _ h => h) (Or.inl ⟨by rfl, ?_⟩) hHeld ?_ ?_
         rotate_left
         ·rintro w' ⟨s0, s1, s2, s3, s4, s5, s6, s7, s8, s9, s10, s11⟩
          go_simp
          with_reducible rfl
         rotate_left
         ·simp only [Act.put, S1, S2, S3, i64_w, i32_w]
          rfl
         refine take_ (i := 1) (N := some 61) (v := ?_) (a' := ?_) M2 rfl rfl (take_ofW HT_.out HW_.out (by kernel_rfl)) (fun _ _ _ h => h) (Or.inl ⟨by rfl, ?_⟩) hHeld ?_ ?_
         rotate_left
         ·rintro w' ⟨s0, s1, s2, s3, s4, s5, s6, s7, s8, s9, s10, s11⟩
          go_simp
          with_reducible rfl
         rotate_left
         ·simp only [Act.put, S1, S2, S3, i64_w, i32_w]
          rfl
         refine pure_ (i := 2) (N := some 62) (v := ?_) (a' := ?_) M3 rfl rfl (any_of HT_.out (by kernel_rfl)) (fun _ _ _ h => h) (Or.inl ⟨by rfl, ?_⟩) ?_ ?_
         rotate_left
         ·intro w'
          go_simp
          with_reducible rfl
         rotate_left
         ·simp only [Act.put, S1, S2, S3, i64_w, i32_w]
          rfl
         refine take_ (i := 3) (N := some 63) (v := ?_) (a' := ?_) M4 rfl rfl (take_ofW HT_.out HW_.out (by kernel_rfl)) (fun _ _ _ h => h) (Or.inl ⟨by rfl, ?_⟩) hHeld ?_ ?_
         rotate_left
         ·rintro w' ⟨s0, s1, s2, s3, s4, s5, s6, s7, s8, s9, s10, s11⟩
          go_simp
          with_reducible rfl
         rotate_left
         ·simp only [Act.put, S1, S2, S3, i64_w, i32_w]
          rfl
         refine take_ (i := 4) (N := some 64) (v := ?_) (a' := ?_) M5 rfl rfl (take_ofW HT_.out HW_.out (by kernel_rfl)) (fun _ _ _ h => h) (Or.inl ⟨by rfl, ?_⟩) hHeld ?_ ?_
         rotate_left
         ·rintro w' ⟨s0, s1, s2, s3, s4, s5, s6, s7, s8, s9, s10, s11⟩
          go_simp
          with_reducible rfl
         rotate_left
         ·simp only [Act.put, S1, S2, S3, i64_w, i32_w]
          rfl
         refine one_ (i := 5) (N := some 65) M6 rfl rfl (one_of HT_.out (by kernel_rfl)) (by decide) (fun K hK => ?_)
         refine goes_ Try.func22 (by kernel_rfl) rfl #[.agg #[.int .i64 a3_0, .int .i64 a3_1, .int .i64 a3_2, .int .i64 a3_3], .agg #[.int .i64 a4_0, .int .i64 a4_1, .int .i64 a4_2, .int .i64 a4_3]] (by rfl) rfl rfl (by (try simp only [List.map_toArray, List.map_cons, List.map_nil]); first | done | rfl | (simp only [List.length_drop, List.length_take]; rfl)) ?_
         with_reducible refine (stamp_LessTry.calls kj8 a3_0 a3_1 a3_2 a3_3 a4_0 a4_1 a4_2 a4_3 true _ A50.out).mono ?_
         rintro e w61 ⟨rfl, hb⟩
         refine ⟨_, rfl, ?_⟩
         have n0_ := Aside0.mk (blk_below (g := gb134) (o := .cells #[.int .i64 a0_0, .int .i64 a0_1] 40 (0, 0)) (by (with_reducible repeat (first | refine KN ?_ _ | refine KD ?_ | refine KA ?_ _)); exact BK134.out) hb)
         have n1_ := Aside0.mk (blk_below (g := gb135) (o := .cells #[.int .i64 a1_0, .int .i64 a1_1] 40 (0, 0)) (by (with_reducible repeat (first | refine KN ?_ _ | refine KD ?_ | refine KA ?_ _)); exact BK135.out) hb)
         have n2_ := Aside0.mk (blk_below (g := gb136) (o := .cells #[.int .i64 a2_0, .int .i64 a2_1] 40 (0, 0)) (by (with_reducible repeat (first | refine KN ?_ _ | refine KD ?_ | refine KA ?_ _)); exact BK136.out) hb)
         have n3_ := Aside0.mk (blk_below (g := gb137) (o := .cells #[.int .i64 a3_0, .int .i64 a3_1, .int .i64 a3_2, .int .i64 a3_3] 23 (0, 0)) (by (with_reducible repeat (first | refine KN ?_ _ | refine KD ?_ | refine KA ?_ _)); exact BK137.out) hb)
         have n4_ := Aside0.mk (blk_below (g := gb138) (o := .cells #[.int .i64 a4_0, .int .i64 a4_1, .int .i64 a4_2, .int .i64 a4_3] 23 (0, 0)) (by (with_reducible repeat (first | refine KN ?_ _ | refine KD ?_ | refine KA ?_ _)); exact BK138.out) hb)
         have n5_ := Aside0.mk (blk_below (g := gb139) (o := .cells #[.int .i64 a5_0, .int .i64 a5_1, .int .i64 a5_2, .int .i64 a5_3] 23 (0, 0)) (by (with_reducible repeat (first | refine KN ?_ _ | refine KD ?_ | refine KA ?_ _)); exact BK139.out) hb)
         have n6_ := Aside0.mk (below_step (by repeat (first | (with_reducible first | exact HB.out | apply below_alloc | apply pw_below_drewN | apply below_drew1 | refine below_set ?_ GE134.out | refine below_set ?_ GE135.out | refine below_set ?_ GE136.out | refine below_set ?_ GE137.out | refine below_set ?_ GE138.out | refine below_set ?_ GE139.out) | exact HB.out)) hb)
         clear BK134
         clear BK135
         clear BK136
         clear BK137
         clear BK138
         clear BK139
         clear HB
         have BK134 := n0_
         have BK135 := n1_
         have BK136 := n2_
         have BK137 := n3_
         have BK138 := n4_
         have BK139 := n5_
         have HB := n6_
         clear n0_ n1_ n2_ n3_ n4_ n5_ n6_
         (try clear hb)
         (try clear hb2)
         (try clear hk)
         (try clear hi)
         refine hK.out _ _ ⟨(blk_cell BK137.out 0).trans rfl, (blk_cell BK137.out 1).trans rfl, (blk_cell BK137.out 2).trans rfl, (blk_cell BK137.out 3).trans rfl, (blk_cell BK138.out 0).trans rfl, (blk_cell BK138.out 1).trans rfl, (blk_cell BK138.out 2).trans rfl, (blk_cell BK138.out 3).trans rfl, (blk_cell BK139.out 0).trans rfl, (blk_cell BK139.out 1).trans rfl, (blk_cell BK139.out 2).trans rfl, (blk_cell BK139.out 3).trans rfl⟩ (fun hHeld => ?_)
         clear hK K
         refine norm_ (a' := ?_) ?_ ?_
         rotate_left
         ·show Act.put _ (some 65) _ = _
          simp only [Act.put, S1, S2, S3, i64_w, i32_w]
          rfl
         refine pure_ (i := 6) (N := some 66) (v := ?_) (a' := ?_) M7 rfl rfl (any_of HT_.out (by kernel_rfl)) (fun _ _ _ h => h) (Or.inl ⟨by rfl, ?_⟩) ?_ ?_
         rotate_left
         ·intro w'
          go_simp
          with_reducible rfl
         rotate_left
         ·simp only [Act.put, S1, S2, S3, i64_w, i32_w]
          rfl
         refine pure_ (i := 7) (N := some 67) (v := ?_) (a' := ?_) M8 rfl rfl (any_of HT_.out (by kernel_rfl)) (fun _ _ _ h => h) (Or.inl ⟨by rfl, ?_⟩) ?_ ?_
         rotate_left
         ·intro w'
          go_simp
          with_reducible rfl
         rotate_left
         ·simp only [Act.put, S1, S2, S3, i64_w, i32_w]
          rfl
         refine pure_ (i := 8) (N := some 68) (v := undef) (a' := ?_) M9 rfl rfl (any_of HT_.out (by kernel_rfl)) (fun _ _ _ h => h) (Or.inr ⟨by rfl, rfl⟩) ?_ ?_
         rotate_left
         ·simp only [Act.put, S1, S2, S3, i64_w, i32_w]
          rfl
         refine pure_ (i := 9) (N := some 69) (v := undef) (a' := ?_) M10 rfl rfl (any_of HT_.out (by kernel_rfl)) (fun _ _ _ h => h) (Or.inr ⟨by rfl, rfl⟩) ?_ ?_
         rotate_left
         ·simp only [Act.put, S1, S2, S3, i64_w, i32_w]
          rfl
         refine pure_ (i := 10) (N := some 70) (v := undef) (a' := ?_) M11 rfl rfl (any_of HT_.out (by kernel_rfl)) (fun _ _ _ h => h) (Or.inr ⟨by rfl, rfl⟩) ?_ ?_
         rotate_left
         ·simp only [Act.put, S1, S2, S3, i64_w, i32_w]
          rfl
         refine pure_ (i := 11) (N := some 71) (v := undef) (a' := ?_) M12 rfl rfl (any_of HT_.out (by kernel_rfl)) (fun _ _ _ h => h) (Or.inr ⟨by rfl, rfl⟩) ?_ ?_
         rotate_left
         ·simp only [Act.put, S1, S2, S3, i64_w, i32_w]
          rfl
         refine pure_ (i := 12) (N := some 72) (v := ?_) (a' := ?_) M13 rfl rfl (any_of HT_.out (by kernel_rfl)) (fun _ _ _ h => h) (Or.inl ⟨by rfl, ?_⟩) ?_ ?_
         rotate_left
         ·intro w'
          go_simp
          with_reducible rfl
         rotate_left
         ·simp only [Act.put, S1, S2, S3, i64_w, i32_w]
          rfl
         refine pure_ (i := 13) (N := some 73) (v := ?_) (a' := ?_) M14 rfl rfl (any_of HT_.out (by kernel_rfl)) (fun _ _ _ h => h) (Or.inl ⟨by rfl, ?_⟩) ?_ ?_
         rotate_left
         ·intro w'
          go_simp
          with_reducible rfl
         rotate_left
         ·simp only [Act.put, S1, S2, S3, i64_w, i32_w]
          rfl
         refine pure_ (i := 14) (N := some 74) (v := ?_) (a' := ?_) M15 rfl rfl (any_of HT_.out (by kernel_rfl)) (fun _ _ _ h => h) (Or.inl ⟨by rfl, ?_⟩) ?_ ?_
         rotate_left
         ·intro w'
          go_simp
          with_reducible rfl
         rotate_left
         ·simp only [Act.put, S1, S2, S3, i64_w, i32_w]
          rfl
         refine take_ (i := 15) (N := some 75) (v := ?_) (a' := ?_) M16 rfl rfl (take_ofW HT_.out HW_.out (by kernel_rfl)) (fun _ _ _ h => h) (Or.inl ⟨by rfl, ?_⟩) hHeld ?_ ?_
         rotate_left
         ·rintro w' ⟨s0, s1, s2, s3, s4, s5, s6, s7, s8, s9, s10, s11⟩
          go_simp
          with_reducible rfl
         rotate_left
         ·simp only [Act.put, S1, S2, S3, i64_w, i32_w]
          rfl
         refine take_ (i := 16) (N := some 76) (v := ?_) (a' := ?_) M17 rfl rfl (take_ofW HT_.out HW_.out (by kernel_rfl)) (fun _ _ _ h => h) (Or.inl ⟨by rfl, ?_⟩) hHeld ?_ ?_
         rotate_left
         ·rintro w' ⟨s0, s1, s2, s3, s4, s5, s6, s7, s8, s9, s10, s11⟩
          go_simp
          with_reducible rfl
         rotate_left
         ·simp only [Act.put, S1, S2, S3, i64_w, i32_w]
          rfl
         refine one_ (i := 17) (N := some 77) M18 rfl rfl (one_of HT_.out (by kernel_rfl)) (by decide) (fun K hK => ?_)
         refine goes_ Try.func22 (by kernel_rfl) rfl #[.agg #[.int .i64 a3_0, .int .i64 a3_1, .int .i64 a3_2, .int .i64 a3_3], .agg #[.int .i64 a4_0, .int .i64 a4_1, .int .i64 a4_2, .int .i64 a4_3]] (by rfl) rfl rfl (by (try simp only [List.map_toArray, List.map_cons, List.map_nil]); first | done | rfl | (simp only [List.length_drop, List.length_take]; rfl)) ?_
         with_reducible refine (stamp_LessTry.calls kj8 a3_0 a3_1 a3_2 a3_3 a4_0 a4_1 a4_2 a4_3 true _ A53.out).mono ?_
         rintro e w62 ⟨rfl, hb⟩
         refine ⟨_, rfl, ?_⟩
         have n0_ := Aside0.mk (blk_below (g := gb134) (o := .cells #[.int .i64 a0_0, .int .i64 a0_1] 40 (0, 0)) (by (with_reducible repeat (first | refine KN ?_ _ | refine KD ?_ | refine KA ?_ _)); exact BK134.out) hb)
         have n1_ := Aside0.mk (blk_below (g := gb135) (o := .cells #[.int .i64 a1_0, .int .i64 a1_1] 40 (0, 0)) (by (with_reducible repeat (first | refine KN ?_ _ | refine KD ?_ | refine KA ?_ _)); exact BK135.out) hb)
         have n2_ := Aside0.mk (blk_below (g := gb136) (o := .cells #[.int .i64 a2_0, .int .i64 a2_1] 40 (0, 0)) (by (with_reducible repeat (first | refine KN ?_ _ | refine KD ?_ | refine KA ?_ _)); exact BK136.out) hb)
         have n3_ := Aside0.mk (blk_below (g := gb137) (o := .cells #[.int .i64 a3_0, .int .i64 a3_1, .int .i64 a3_2, .int .i64 a3_3] 23 (0, 0)) (by (with_reducible repeat (first | refine KN ?_ _ | refine KD ?_ | refine KA ?_ _)); exact BK137.out) hb)
         have n4_ := Aside0.mk (blk_below (g := gb138) (o := .cells #[.int .i64 a4_0, .int .i64 a4_1, .int .i64 a4_2, .int .i64 a4_3] 23 (0, 0)) (by (with_reducible repeat (first | refine KN ?_ _ | refine KD ?_ | refine KA ?_ _)); exact BK138.out) hb)
         have n5_ := Aside0.mk (blk_below (g := gb139) (o := .cells #[.int .i64 a5_0, .int .i64 a5_1, .int .i64 a5_2, .int .i64 a5_3] 23 (0, 0)) (by (with_reducible repeat (first | refine KN ?_ _ | refine KD ?_ | refine KA ?_ _)); exact BK139.out) hb)
         have n6_ := Aside0.mk (below_step (by repeat (first | (with_reducible first | exact HB.out | apply below_alloc | apply pw_below_drewN | apply below_drew1 | refine below_set ?_ GE134.out | refine below_set ?_ GE135.out | refine below_set ?_ GE136.out | refine below_set ?_ GE137.out | refine below_set ?_ GE138.out | refine below_set ?_ GE139.out) | exact HB.out)) hb)
         clear BK134
         clear BK135
         clear BK136
         clear BK137
         clear BK138
         clear BK139
         clear HB
         have BK134 := n0_
         have BK135 := n1_
         have BK136 := n2_
         have BK137 := n3_
         have BK138 := n4_
         have BK139 := n5_
         have HB := n6_
         clear n0_ n1_ n2_ n3_ n4_ n5_ n6_
         (try clear hb)
         (try clear hb2)
         (try clear hk)
         (try clear hi)
         refine hK.out _ _ ⟨(blk_cell BK137.out 0).trans rfl, (blk_cell BK137.out 1).trans rfl, (blk_cell BK137.out 2).trans rfl, (blk_cell BK137.out 3).trans rfl, (blk_cell BK138.out 0).trans rfl, (blk_cell BK138.out 1).trans rfl, (blk_cell BK138.out 2).trans rfl, (blk_cell BK138.out 3).trans rfl, (blk_cell BK139.out 0).trans rfl, (blk_cell BK139.out 1).trans rfl, (blk_cell BK139.out 2).trans rfl, (blk_cell BK139.out 3).trans rfl⟩ (fun hHeld => ?_)
         clear hK K
         refine norm_ (a' := ?_) ?_ ?_
         rotate_left
         ·show Act.put _ (some 77) _ = _
          simp only [Act.put, S1, S2, S3, i64_w, i32_w]
          rfl
         refine pure_ (i := 18) (N := some 78) (v := ?_) (a' := ?_) M19 rfl rfl (any_of HT_.out (by kernel_rfl)) (fun _ _ _ h => h) (Or.inl ⟨by rfl, ?_⟩) ?_ ?_
         rotate_left
         ·intro w'
          go_simp
          with_reducible rfl
         rotate_left
         ·simp only [Act.put, S1, S2, S3, i64_w, i32_w]
          rfl
         refine take_ (i := 19) (N := some 79) (v := ?_) (a' := ?_) M20 rfl rfl (take_ofW HT_.out HW_.out (by kernel_rfl)) (fun _ _ _ h => h) (Or.inl ⟨by rfl, ?_⟩) hHeld ?_ ?_
         rotate_left
         ·rintro w' ⟨s0, s1, s2, s3, s4, s5, s6, s7, s8, s9, s10, s11⟩
          go_simp
          with_reducible rfl
         rotate_left
         ·simp only [Act.put, S1, S2, S3, i64_w, i32_w]
          rfl
         refine take_ (i := 20) (N := some 80) (v := ?_) (a' := ?_) M21 rfl rfl (take_ofW HT_.out HW_.out (by kernel_rfl)) (fun _ _ _ h => h) (Or.inl ⟨by rfl, ?_⟩) hHeld ?_ ?_
         rotate_left
         ·rintro w' ⟨s0, s1, s2, s3, s4, s5, s6, s7, s8, s9, s10, s11⟩
          go_simp
          with_reducible rfl
         rotate_left
         ·simp only [Act.put, S1, S2, S3, i64_w, i32_w]
          rfl
         refine one_ (i := 21) (N := some 81) M22 rfl rfl (one_of HT_.out (by kernel_rfl)) (by decide) (fun K hK => ?_)
         refine goes_ Try.func22 (by kernel_rfl) rfl #[.agg #[.int .i64 a4_0, .int .i64 a4_1, .int .i64 a4_2, .int .i64 a4_3], .agg #[.int .i64 a3_0, .int .i64 a3_1, .int .i64 a3_2, .int .i64 a3_3]] (by rfl) rfl rfl (by (try simp only [List.map_toArray, List.map_cons, List.map_nil]); first | done | rfl | (simp only [List.length_drop, List.length_take]; rfl)) ?_
         with_reducible refine (stamp_LessTry.calls kj8 a4_0 a4_1 a4_2 a4_3 a3_0 a3_1 a3_2 a3_3 false _ A54.out).mono ?_
         rintro e w63 ⟨rfl, hb⟩
         refine ⟨_, rfl, ?_⟩
         have n0_ := Aside0.mk (blk_below (g := gb134) (o := .cells #[.int .i64 a0_0, .int .i64 a0_1] 40 (0, 0)) (by (with_reducible repeat (first | refine KN ?_ _ | refine KD ?_ | refine KA ?_ _)); exact BK134.out) hb)
         have n1_ := Aside0.mk (blk_below (g := gb135) (o := .cells #[.int .i64 a1_0, .int .i64 a1_1] 40 (0, 0)) (by (with_reducible repeat (first | refine KN ?_ _ | refine KD ?_ | refine KA ?_ _)); exact BK135.out) hb)
         have n2_ := Aside0.mk (blk_below (g := gb136) (o := .cells #[.int .i64 a2_0, .int .i64 a2_1] 40 (0, 0)) (by (with_reducible repeat (first | refine KN ?_ _ | refine KD ?_ | refine KA ?_ _)); exact BK136.out) hb)
         have n3_ := Aside0.mk (blk_below (g := gb137) (o := .cells #[.int .i64 a3_0, .int .i64 a3_1, .int .i64 a3_2, .int .i64 a3_3] 23 (0, 0)) (by (with_reducible repeat (first | refine KN ?_ _ | refine KD ?_ | refine KA ?_ _)); exact BK137.out) hb)
         have n4_ := Aside0.mk (blk_below (g := gb138) (o := .cells #[.int .i64 a4_0, .int .i64 a4_1, .int .i64 a4_2, .int .i64 a4_3] 23 (0, 0)) (by (with_reducible repeat (first | refine KN ?_ _ | refine KD ?_ | refine KA ?_ _)); exact BK138.out) hb)
         have n5_ := Aside0.mk (blk_below (g := gb139) (o := .cells #[.int .i64 a5_0, .int .i64 a5_1, .int .i64 a5_2, .int .i64 a5_3] 23 (0, 0)) (by (with_reducible repeat (first | refine KN ?_ _ | refine KD ?_ | refine KA ?_ _)); exact BK139.out) hb)
         have n6_ := Aside0.mk (below_step (by repeat (first | (with_reducible first | exact HB.out | apply below_alloc | apply pw_below_drewN | apply below_drew1 | refine below_set ?_ GE134.out | refine below_set ?_ GE135.out | refine below_set ?_ GE136.out | refine below_set ?_ GE137.out | refine below_set ?_ GE138.out | refine below_set ?_ GE139.out) | exact HB.out)) hb)
         clear BK134
         clear BK135
         clear BK136
         clear BK137
         clear BK138
         clear BK139
         clear HB
         have BK134 := n0_
         have BK135 := n1_
         have BK136 := n2_
         have BK137 := n3_
         have BK138 := n4_
         have BK139 := n5_
         have HB := n6_
         clear n0_ n1_ n2_ n3_ n4_ n5_ n6_
         (try clear hb)
         (try clear hb2)
         (try clear hk)
         (try clear hi)
         refine hK.out _ _ ⟨(blk_cell BK137.out 0).trans rfl, (blk_cell BK137.out 1).trans rfl, (blk_cell BK137.out 2).trans rfl, (blk_cell BK137.out 3).trans rfl, (blk_cell BK138.out 0).trans rfl, (blk_cell BK138.out 1).trans rfl, (blk_cell BK138.out 2).trans rfl, (blk_cell BK138.out 3).trans rfl, (blk_cell BK139.out 0).trans rfl, (blk_cell BK139.out 1).trans rfl, (blk_cell BK139.out 2).trans rfl, (blk_cell BK139.out 3).trans rfl⟩ (fun hHeld => ?_)
         clear hK K
         refine norm_ (a' := ?_) ?_ ?_
         rotate_left
         ·show Act.put _ (some 81) _ = _
          simp only [Act.put, S1, S2, S3, i64_w, i32_w]
          rfl
         refine pure_ (i := 22) (N := some 82) (v := ?_) (a' := ?_) M23 rfl rfl (any_of HT_.out (by kernel_rfl)) (fun _ _ _ h => h) (Or.inl ⟨by rfl, ?_⟩) ?_ ?_
         rotate_left
         ·intro w'
          go_simp
          with_reducible rfl
         rotate_left
         ·simp only [Act.put, S1, S2, S3, i64_w, i32_w]
          rfl
         refine pure_ (i := 23) (N := some 83) (v := ?_) (a' := ?_) M24 rfl rfl (any_of HT_.out (by kernel_rfl)) (fun _ _ _ h => h) (Or.inl ⟨by rfl, ?_⟩) ?_ ?_
         rotate_left
         ·intro w'
          go_simp
          with_reducible rfl
         rotate_left
         ·simp only [Act.put, S1, S2, S3, i64_w, i32_w]
          rfl
         refine pure_ (i := 24) (N := some 84) (v := ?_) (a' := ?_) M25 rfl rfl (any_of HT_.out (by kernel_rfl)) (fun _ _ _ h => h) (Or.inl ⟨by rfl, ?_⟩) ?_ ?_
         rotate_left
         ·intro w'
          go_simp
          with_reducible rfl
         rotate_left
         ·simp only [Act.put, S1, S2, S3, i64_w, i32_w]
          rfl
         refine pure_ (i := 25) (N := some 85) (v := ?_) (a' := ?_) M26 rfl rfl (any_of HT_.out (by kernel_rfl)) (fun _ _ _ h => h) (Or.inl ⟨by rfl, ?_⟩) ?_ ?_
         rotate_left
         ·intro w'
          go_simp
          with_reducible rfl
         rotate_left
         ·simp only [Act.put, S1, S2, S3, i64_w, i32_w]
          rfl
         refine take_ (i := 26) (N := some 86) (v := ?_) (a' := ?_) M27 rfl rfl (take_ofW HT_.out HW_.out (by kernel_rfl)) (fun _ _ _ h => h) (Or.inl ⟨by rfl, ?_⟩) hHeld ?_ ?_
         rotate_left
         ·rintro w' ⟨s0, s1, s2, s3, s4, s5, s6, s7, s8, s9, s10, s11⟩
          go_simp
          with_reducible rfl
         rotate_left
         ·simp only [Act.put, S1, S2, S3, i64_w, i32_w]
          rfl
         refine take_ (i := 27) (N := some 87) (v := ?_) (a' := ?_) M28 rfl rfl (take_ofW HT_.out HW_.out (by kernel_rfl)) (fun _ _ _ h => h) (Or.inl ⟨by rfl, ?_⟩) hHeld ?_ ?_
         rotate_left
         ·rintro w' ⟨s0, s1, s2, s3, s4, s5, s6, s7, s8, s9, s10, s11⟩
          go_simp
          with_reducible rfl
         rotate_left
         ·simp only [Act.put, S1, S2, S3, i64_w, i32_w]
          rfl
         refine one_ (i := 28) (N := some 88) M29 rfl rfl (one_of HT_.out (by kernel_rfl)) (by decide) (fun K hK => ?_)
         refine goes_ Try.func22 (by kernel_rfl) rfl #[.agg #[.int .i64 a3_0, .int .i64 a3_1, .int .i64 a3_2, .int .i64 a3_3], .agg #[.int .i64 a4_0, .int .i64 a4_1, .int .i64 a4_2, .int .i64 a4_3]] (by rfl) rfl rfl (by (try simp only [List.map_toArray, List.map_cons, List.map_nil]); first | done | rfl | (simp only [List.length_drop, List.length_take]; rfl)) ?_
         with_reducible refine (stamp_LessTry.calls kj8 a3_0 a3_1 a3_2 a3_3 a4_0 a4_1 a4_2 a4_3 true _ A56.out).mono ?_
         rintro e w64 ⟨rfl, hb⟩
         refine ⟨_, rfl, ?_⟩
         have n0_ := Aside0.mk (blk_below (g := gb134) (o := .cells #[.int .i64 a0_0, .int .i64 a0_1] 40 (0, 0)) (by (with_reducible repeat (first | refine KN ?_ _ | refine KD ?_ | refine KA ?_ _)); exact BK134.out) hb)
         have n1_ := Aside0.mk (blk_below (g := gb135) (o := .cells #[.int .i64 a1_0, .int .i64 a1_1] 40 (0, 0)) (by (with_reducible repeat (first | refine KN ?_ _ | refine KD ?_ | refine KA ?_ _)); exact BK135.out) hb)
         have n2_ := Aside0.mk (blk_below (g := gb136) (o := .cells #[.int .i64 a2_0, .int .i64 a2_1] 40 (0, 0)) (by (with_reducible repeat (first | refine KN ?_ _ | refine KD ?_ | refine KA ?_ _)); exact BK136.out) hb)
         have n3_ := Aside0.mk (blk_below (g := gb137) (o := .cells #[.int .i64 a3_0, .int .i64 a3_1, .int .i64 a3_2, .int .i64 a3_3] 23 (0, 0)) (by (with_reducible repeat (first | refine KN ?_ _ | refine KD ?_ | refine KA ?_ _)); exact BK137.out) hb)
         have n4_ := Aside0.mk (blk_below (g := gb138) (o := .cells #[.int .i64 a4_0, .int .i64 a4_1, .int .i64 a4_2, .int .i64 a4_3] 23 (0, 0)) (by (with_reducible repeat (first | refine KN ?_ _ | refine KD ?_ | refine KA ?_ _)); exact BK138.out) hb)
         have n5_ := Aside0.mk (blk_below (g := gb139) (o := .cells #[.int .i64 a5_0, .int .i64 a5_1, .int .i64 a5_2, .int .i64 a5_3] 23 (0, 0)) (by (with_reducible repeat (first | refine KN ?_ _ | refine KD ?_ | refine KA ?_ _)); exact BK139.out) hb)
         have n6_ := Aside0.mk (below_step (by repeat (first | (with_reducible first | exact HB.out | apply below_alloc | apply pw_below_drewN | apply below_drew1 | refine below_set ?_ GE134.out | refine below_set ?_ GE135.out | refine below_set ?_ GE136.out | refine below_set ?_ GE137.out | refine below_set ?_ GE138.out | refine below_set ?_ GE139.out) | exact HB.out)) hb)
         clear BK134
         clear BK135
         clear BK136
         clear BK137
         clear BK138
         clear BK139
         clear HB
         have BK134 := n0_
         have BK135 := n1_
         have BK136 := n2_
         have BK137 := n3_
         have BK138 := n4_
         have BK139 := n5_
         have HB := n6_
         clear n0_ n1_ n2_ n3_ n4_ n5_ n6_
         (try clear hb)
         (try clear hb2)
         (try clear hk)
         (try clear hi)
         refine hK.out _ _ ⟨(blk_cell BK137.out 0).trans rfl, (blk_cell BK137.out 1).trans rfl, (blk_cell BK137.out 2).trans rfl, (blk_cell BK137.out 3).trans rfl, (blk_cell BK138.out 0).trans rfl, (blk_cell BK138.out 1).trans rfl, (blk_cell BK138.out 2).trans rfl, (blk_cell BK138.out 3).trans rfl, (blk_cell BK139.out 0).trans rfl, (blk_cell BK139.out 1).trans rfl, (blk_cell BK139.out 2).trans rfl, (blk_cell BK139.out 3).trans rfl⟩ (fun hHeld => ?_)
         clear hK K
         refine norm_ (a' := ?_) ?_ ?_
         rotate_left
         ·show Act.put _ (some 88) _ = _
          simp only [Act.put, S1, S2, S3, i64_w, i32_w]
          rfl
         refine pure_ (i := 29) (N := some 89) (v := ?_) (a' := ?_) M30 rfl rfl (any_of HT_.out (by kernel_rfl)) (fun _ _ _ h => h) (Or.inl ⟨by rfl, ?_⟩) ?_ ?_
         rotate_left
         ·intro w'
          go_simp
          with_reducible rfl
         rotate_left
         ·simp only [Act.put, S1, S2, S3, i64_w, i32_w]
          rfl
         refine take_ (i := 30) (N := some 90) (v := ?_) (a' := ?_) M31 rfl rfl (take_ofW HT_.out HW_.out (by kernel_rfl)) (fun _ _ _ h => h) (Or.inl ⟨by rfl, ?_⟩) hHeld ?_ ?_
         rotate_left
         ·rintro w' ⟨s0, s1, s2, s3, s4, s5, s6, s7, s8, s9, s10, s11⟩
          go_simp
          with_reducible rfl
         rotate_left
         ·simp only [Act.put, S1, S2, S3, i64_w, i32_w]
          rfl
         refine take_ (i := 31) (N := some 91) (v := ?_) (a' := ?_) M32 rfl rfl (take_ofW HT_.out HW_.out (by kernel_rfl)) (fun _ _ _ h => h) (Or.inl ⟨by rfl, ?_⟩) hHeld ?_ ?_
         rotate_left
         ·rintro w' ⟨s0, s1, s2, s3, s4, s5, s6, s7, s8, s9, s10, s11⟩
          go_simp
          with_reducible rfl
         rotate_left
         ·simp only [Act.put, S1, S2, S3, i64_w, i32_w]
          rfl
         refine one_ (i := 32) (N := some 92) M33 rfl rfl (one_of HT_.out (by kernel_rfl)) (by decide) (fun K hK => ?_)
         refine goes_ Try.func22 (by kernel_rfl) rfl #[.agg #[.int .i64 a4_0, .int .i64 a4_1, .int .i64 a4_2, .int .i64 a4_3], .agg #[.int .i64 a5_0, .int .i64 a5_1, .int .i64 a5_2, .int .i64 a5_3]] (by rfl) rfl rfl (by (try simp only [List.map_toArray, List.map_cons, List.map_nil]); first | done | rfl | (simp only [List.length_drop, List.length_take]; rfl)) ?_
         with_reducible refine (stamp_LessTry.calls kj8 a4_0 a4_1 a4_2 a4_3 a5_0 a5_1 a5_2 a5_3 true _ A57.out).mono ?_
         rintro e w65 ⟨rfl, hb⟩
         refine ⟨_, rfl, ?_⟩
         have n0_ := Aside0.mk (blk_below (g := gb134) (o := .cells #[.int .i64 a0_0, .int .i64 a0_1] 40 (0, 0)) (by (with_reducible repeat (first | refine KN ?_ _ | refine KD ?_ | refine KA ?_ _)); exact BK134.out) hb)
         have n1_ := Aside0.mk (blk_below (g := gb135) (o := .cells #[.int .i64 a1_0, .int .i64 a1_1] 40 (0, 0)) (by (with_reducible repeat (first | refine KN ?_ _ | refine KD ?_ | refine KA ?_ _)); exact BK135.out) hb)
         have n2_ := Aside0.mk (blk_below (g := gb136) (o := .cells #[.int .i64 a2_0, .int .i64 a2_1] 40 (0, 0)) (by (with_reducible repeat (first | refine KN ?_ _ | refine KD ?_ | refine KA ?_ _)); exact BK136.out) hb)
         have n3_ := Aside0.mk (blk_below (g := gb137) (o := .cells #[.int .i64 a3_0, .int .i64 a3_1, .int .i64 a3_2, .int .i64 a3_3] 23 (0, 0)) (by (with_reducible repeat (first | refine KN ?_ _ | refine KD ?_ | refine KA ?_ _)); exact BK137.out) hb)
         have n4_ := Aside0.mk (blk_below (g := gb138) (o := .cells #[.int .i64 a4_0, .int .i64 a4_1, .int .i64 a4_2, .int .i64 a4_3] 23 (0, 0)) (by (with_reducible repeat (first | refine KN ?_ _ | refine KD ?_ | refine KA ?_ _)); exact BK138.out) hb)
         have n5_ := Aside0.mk (blk_below (g := gb139) (o := .cells #[.int .i64 a5_0, .int .i64 a5_1, .int .i64 a5_2, .int .i64 a5_3] 23 (0, 0)) (by (with_reducible repeat (first | refine KN ?_ _ | refine KD ?_ | refine KA ?_ _)); exact BK139.out) hb)
         have n6_ := Aside0.mk (below_step (by repeat (first | (with_reducible first | exact HB.out | apply below_alloc | apply pw_below_drewN | apply below_drew1 | refine below_set ?_ GE134.out | refine below_set ?_ GE135.out | refine below_set ?_ GE136.out | refine below_set ?_ GE137.out | refine below_set ?_ GE138.out | refine below_set ?_ GE139.out) | exact HB.out)) hb)
         clear BK134
         clear BK135
         clear BK136
         clear BK137
         clear BK138
         clear BK139
         clear HB
         have BK134 := n0_
         have BK135 := n1_
         have BK136 := n2_
         have BK137 := n3_
         have BK138 := n4_
         have BK139 := n5_
         have HB := n6_
         clear n0_ n1_ n2_ n3_ n4_ n5_ n6_
         (try clear hb)
         (try clear hb2)
         (try clear hk)
         (try clear hi)
         refine hK.out _ _ ⟨(blk_cell BK137.out 0).trans rfl, (blk_cell BK137.out 1).trans rfl, (blk_cell BK137.out 2).trans rfl, (blk_cell BK137.out 3).trans rfl, (blk_cell BK138.out 0).trans rfl, (blk_cell BK138.out 1).trans rfl, (blk_cell BK138.out 2).trans rfl, (blk_cell BK138.out 3).trans rfl, (blk_cell BK139.out 0).trans rfl, (blk_cell BK139.out 1).trans rfl, (blk_cell BK139.out 2).trans rfl, (blk_cell BK139.out 3).trans rfl⟩ (fun hHeld => ?_)
         clear hK K
         refine norm_ (a' := ?_) ?_ ?_
         rotate_left
         ·show Act.put _ (some 92) _ = _
          simp only [Act.put, S1, S2, S3, i64_w, i32_w]
          rfl
         refine pure_ (i := 33) (N := some 93) (v := ?_) (a' := ?_) M34 rfl rfl (any_of HT_.out (by kernel_rfl)) (fun _ _ _ h => h) (Or.inl ⟨by rfl, ?_⟩) ?_ ?_
         rotate_left
         ·intro w'
          go_simp
          with_reducible rfl
         rotate_left
         ·simp only [Act.put, S1, S2, S3, i64_w, i32_w]
          rfl
         refine pure_ (i := 34) (N := some 94) (v := ?_) (a' := ?_) M35 rfl rfl (any_of HT_.out (by kernel_rfl)) (fun _ _ _ h => h) (Or.inl ⟨by rfl, ?_⟩) ?_ ?_
         rotate_left
         ·intro w'
          go_simp
          with_reducible rfl
         rotate_left
         ·simp only [Act.put, S1, S2, S3, i64_w, i32_w]
          rfl
         refine take_ (i := 35) (N := some 95) (v := ?_) (a' := ?_) M36 rfl rfl (take_ofW HT_.out HW_.out (by kernel_rfl)) (fun _ _ _ h => h) (Or.inl ⟨by rfl, ?_⟩) hHeld ?_ ?_
         rotate_left
         ·rintro w' ⟨s0, s1, s2, s3, s4, s5, s6, s7, s8, s9, s10, s11⟩
          go_simp
          with_reducible rfl
         rotate_left
         ·simp only [Act.put, S1, S2, S3, i64_w, i32_w]
          rfl
         refine take_ (i := 36) (N := some 96) (v := ?_) (a' := ?_) M37 rfl rfl (take_ofW HT_.out HW_.out (by kernel_rfl)) (fun _ _ _ h => h) (Or.inl ⟨by rfl, ?_⟩) hHeld ?_ ?_
         rotate_left
         ·rintro w' ⟨s0, s1, s2, s3, s4, s5, s6, s7, s8, s9, s10, s11⟩
          go_simp
          with_reducible rfl
         rotate_left
         ·simp only [Act.put, S1, S2, S3, i64_w, i32_w]
          rfl
         refine one_ (i := 37) (N := some 97) M38 rfl rfl (one_of HT_.out (by kernel_rfl)) (by decide) (fun K hK => ?_)
         refine goes_ Try.func22 (by kernel_rfl) rfl #[.agg #[.int .i64 a3_0, .int .i64 a3_1, .int .i64 a3_2, .int .i64 a3_3], .agg #[.int .i64 a5_0, .int .i64 a5_1, .int .i64 a5_2, .int .i64 a5_3]] (by rfl) rfl rfl (by (try simp only [List.map_toArray, List.map_cons, List.map_nil]); first | done | rfl | (simp only [List.length_drop, List.length_take]; rfl)) ?_
         with_reducible refine (stamp_LessTry.calls kj8 a3_0 a3_1 a3_2 a3_3 a5_0 a5_1 a5_2 a5_3 t161 _ A59.out).mono ?_
         rintro e w66 ⟨rfl, hb⟩
         refine ⟨_, rfl, ?_⟩
         have n0_ := Aside0.mk (blk_below (g := gb134) (o := .cells #[.int .i64 a0_0, .int .i64 a0_1] 40 (0, 0)) (by (with_reducible repeat (first | refine KN ?_ _ | refine KD ?_ | refine KA ?_ _)); exact BK134.out) hb)
         have n1_ := Aside0.mk (blk_below (g := gb135) (o := .cells #[.int .i64 a1_0, .int .i64 a1_1] 40 (0, 0)) (by (with_reducible repeat (first | refine KN ?_ _ | refine KD ?_ | refine KA ?_ _)); exact BK135.out) hb)
         have n2_ := Aside0.mk (blk_below (g := gb136) (o := .cells #[.int .i64 a2_0, .int .i64 a2_1] 40 (0, 0)) (by (with_reducible repeat (first | refine KN ?_ _ | refine KD ?_ | refine KA ?_ _)); exact BK136.out) hb)
         have n3_ := Aside0.mk (blk_below (g := gb137) (o := .cells #[.int .i64 a3_0, .int .i64 a3_1, .int .i64 a3_2, .int .i64 a3_3] 23 (0, 0)) (by (with_reducible repeat (first | refine KN ?_ _ | refine KD ?_ | refine KA ?_ _)); exact BK137.out) hb)
         have n4_ := Aside0.mk (blk_below (g := gb138) (o := .cells #[.int .i64 a4_0, .int .i64 a4_1, .int .i64 a4_2, .int .i64 a4_3] 23 (0, 0)) (by (with_reducible repeat (first | refine KN ?_ _ | refine KD ?_ | refine KA ?_ _)); exact BK138.out) hb)
         have n5_ := Aside0.mk (blk_below (g := gb139) (o := .cells #[.int .i64 a5_0, .int .i64 a5_1, .int .i64 a5_2, .int .i64 a5_3] 23 (0, 0)) (by (with_reducible repeat (first | refine KN ?_ _ | refine KD ?_ | refine KA ?_ _)); exact BK139.out) hb)
         have n6_ := Aside0.mk (below_step (by repeat (first | (with_reducible first | exact HB.out | apply below_alloc | apply pw_below_drewN | apply below_drew1 | refine below_set ?_ GE134.out | refine below_set ?_ GE135.out | refine below_set ?_ GE136.out | refine below_set ?_ GE137.out | refine below_set ?_ GE138.out | refine below_set ?_ GE139.out) | exact HB.out)) hb)
         clear BK134
         clear BK135
         clear BK136
         clear BK137
         clear BK138
         clear BK139
         clear HB
         have BK134 := n0_
         have BK135 := n1_
         have BK136 := n2_
         have BK137 := n3_
         have BK138 := n4_
         have BK139 := n5_
         have HB := n6_
         clear n0_ n1_ n2_ n3_ n4_ n5_ n6_
         (try clear hb)
         (try clear hb2)
         (try clear hk)
         (try clear hi)
         refine hK.out _ _ ⟨(blk_cell BK137.out 0).trans rfl, (blk_cell BK137.out 1).trans rfl, (blk_cell BK137.out 2).trans rfl, (blk_cell BK137.out 3).trans rfl, (blk_cell BK138.out 0).trans rfl, (blk_cell BK138.out 1).trans rfl, (blk_cell BK138.out 2).trans rfl, (blk_cell BK138.out 3).trans rfl, (blk_cell BK139.out 0).trans rfl, (blk_cell BK139.out 1).trans rfl, (blk_cell BK139.out 2).trans rfl, (blk_cell BK139.out 3).trans rfl⟩ (fun hHeld => ?_)
         clear hK K
         refine norm_ (a' := ?_) ?_ ?_
         rotate_left
         ·show Act.put _ (some 97) _ = _
          simp only [Act.put, S1, S2, S3, i64_w, i32_w]
          rfl
         refine pure_ (i := 38) (N := some 98) (v := ?_) (a' := ?_) M39 rfl rfl (any_of HT_.out (by kernel_rfl)) (fun _ _ _ h => h) (Or.inl ⟨by rfl, ?_⟩) ?_ ?_
         rotate_left
         ·intro w'
          go_simp
          with_reducible rfl
         rotate_left
         ·simp only [Act.put, S1, S2, S3, i64_w, i32_w]
          rfl
         refine pure_ (i := 39) (N := some 99) (v := ?_) (a' := ?_) M40 rfl rfl (any_of HT_.out (by kernel_rfl)) (fun _ _ _ h => h) (Or.inl ⟨by rfl, ?_⟩) ?_ ?_
         rotate_left
         ·intro w'
          go_simp
          with_reducible rfl
         rotate_left
         ·simp only [Act.put, S1, S2, S3, i64_w, i32_w]
          rfl
         refine pure_ (i := 40) (N := some 100) (v := ?_) (a' := ?_) M41 rfl rfl (any_of HT_.out (by kernel_rfl)) (fun _ _ _ h => h) (Or.inl ⟨by rfl, ?_⟩) ?_ ?_
         rotate_left
         ·intro w'
          go_simp
          with_reducible rfl
         rotate_left
         ·simp only [Act.put, S1, S2, S3, i64_w, i32_w]
          rfl
         refine pure_ (i := 41) (N := some 101) (v := ?_) (a' := ?_) M42 rfl rfl (any_of HT_.out (by kernel_rfl)) (fun _ _ _ h => h) (Or.inl ⟨by rfl, ?_⟩) ?_ ?_
         rotate_left
         ·intro w'
          go_simp
          with_reducible rfl
         rotate_left
         ·simp only [Act.put, S1, S2, S3, i64_w, i32_w]
          rfl
         refine pure_ (i := 42) (N := some 14) (v := ?_) (a' := ?_) M43 rfl rfl (any_of HT_.out (by kernel_rfl)) (fun _ _ _ h => h) (Or.inl ⟨by rfl, ?_⟩) ?_ ?_
         rotate_left
         ·intro w'
          go_simp
          with_reducible rfl
         rotate_left
         ·simp only [Act.put, S1, S2, S3, i64_w, i32_w]
          rfl
         refine done_ (done_of HT_.out (by kernel_rfl)) ?_
         try go_wp2
         go_meet
         case rel => exact ⟨_, (!(!t161)), (by first | rfl | (simp; done) | (simp [*]; done)), H', ⟨by have := HJ8.out; first | omega | exact Nat.le_refl _⟩, ⟨by (with_reducible repeat (first | refine KN ?_ _ | refine KD ?_ | refine KA ?_ _)); exact BK134.out⟩, ⟨by (with_reducible repeat (first | refine KN ?_ _ | refine KD ?_ | refine KA ?_ _)); exact BK135.out⟩, ⟨by (with_reducible repeat (first | refine KN ?_ _ | refine KD ?_ | refine KA ?_ _)); exact BK136.out⟩, ⟨by (with_reducible repeat (first | refine KN ?_ _ | refine KD ?_ | refine KA ?_ _)); exact BK137.out⟩, ⟨by (with_reducible repeat (first | refine KN ?_ _ | refine KD ?_ | refine KA ?_ _)); exact BK138.out⟩, ⟨by (with_reducible repeat (first | refine KN ?_ _ | refine KD ?_ | refine KA ?_ _)); exact BK139.out⟩, ⟨by repeat (first | (with_reducible first | exact HB.out | apply below_alloc | apply pw_below_drewN | apply below_drew1 | refine below_set ?_ GE134.out | refine below_set ?_ GE135.out | refine below_set ?_ GE136.out | refine below_set ?_ GE137.out | refine below_set ?_ GE138.out | refine below_set ?_ GE139.out) | exact HB.out)⟩⟩
        ·replace c58 := Bool.eq_false_iff.mpr c58
         subst c58
         have H1 : (j1 kj8 x13_8 (!false) a0_0 a0_1 a1_0 a1_1) = some r := by rw [if_neg (show ¬ (false = true) by decide)] at H; exact H
         clear H
         have H := H1
         clear H1
         have H' := Aside0.mk H
         clear H
         try go_wp2
         have n0_ := Aside0.mk (blk_drew BK134.out)
         have n1_ := Aside0.mk (blk_drew BK135.out)
         have n2_ := Aside0.mk (blk_drew BK136.out)
         have n3_ := Aside0.mk (blk_drew BK137.out)
         have n4_ := Aside0.mk (blk_drew BK138.out)
         have n5_ := Aside0.mk (blk_drew BK139.out)
         have n6_ := Aside0.mk (below_drew1 HB.out)
         clear BK134
         clear BK135
         clear BK136
         clear BK137
         clear BK138
         clear BK139
         clear HB
         have BK134 := n0_
         have BK135 := n1_
         have BK136 := n2_
         have BK137 := n3_
         have BK138 := n4_
         have BK139 := n5_
         have HB := n6_
         clear n0_ n1_ n2_ n3_ n4_ n5_ n6_
         refine start_ (n := 43) (S := fun w' => w'.cell? ⟨gb137, 0, none⟩ = some (.int .i64 a3_0) ∧ w'.cell? ⟨gb137, 1, none⟩ = some (.int .i64 a3_1) ∧ w'.cell? ⟨gb137, 2, none⟩ = some (.int .i64 a3_2) ∧ w'.cell? ⟨gb137, 3, none⟩ = some (.int .i64 a3_3) ∧ w'.cell? ⟨gb138, 0, none⟩ = some (.int .i64 a4_0) ∧ w'.cell? ⟨gb138, 1, none⟩ = some (.int .i64 a4_1) ∧ w'.cell? ⟨gb138, 2, none⟩ = some (.int .i64 a4_2) ∧ w'.cell? ⟨gb138, 3, none⟩ = some (.int .i64 a4_3) ∧ w'.cell? ⟨gb139, 0, none⟩ = some (.int .i64 a5_0) ∧ w'.cell? ⟨gb139, 1, none⟩ = some (.int .i64 a5_1) ∧ w'.cell? ⟨gb139, 2, none⟩ = some (.int .i64 a5_2) ∧ w'.cell? ⟨gb139, 3, none⟩ = some (.int .i64 a5_3)) (ds := []) M0 (by kernel_rfl) rfl rfl ⟨(blk_cell BK137.out 0).trans rfl, (blk_cell BK137.out 1).trans rfl, (blk_cell BK137.out 2).trans rfl, (blk_cell BK137.out 3).trans rfl, (blk_cell BK138.out 0).trans rfl, (blk_cell BK138.out 1).trans rfl, (blk_cell BK138.out 2).trans rfl, (blk_cell BK138.out 3).trans rfl, (blk_cell BK139.out 0).trans rfl, (blk_cell BK139.out 1).trans rfl, (blk_cell BK139.out 2).trans rfl, (blk_cell BK139.out 3).trans rfl⟩ (fun hHeld => ?_); refine with_tabW antipodelaw6_StampLine.tab4 antipodelaw6_StampLine.bits4 (fun HT_ HW_ => ?_)
         generalize wc.drew = w67 at BK134 BK135 BK136 BK137 BK138 BK139 HB hHeld ⊢
         refine take_ (i := 0) (N := some 60) (v := ?_) (a' := ?_) M1 rfl rfl (take_ofW HT_.out HW_.out (by kernel_rfl)) (fun _ _ _ h => h) (Or.inl ⟨by rfl, ?_⟩) hHeld ?_ ?_
         rotate_left
         ·rintro w' ⟨s0, s1, s2, s3, s4, s5, s6, s7, s8, s9, s10, s11⟩
          go_simp
          with_reducible rfl
         rotate_left
         ·simp only [Act.put, S1, S2, S3, i64_w, i32_w]
          rfl
         refine take_ (i := 1) (N := some 61) (v := ?_) (a' := ?_) M2 rfl rfl (take_ofW HT_.out HW_.out (by kernel_rfl)) (fun _ _ _ h => h) (Or.inl ⟨by rfl, ?_⟩) hHeld ?_ ?_
         rotate_left
         ·rintro w' ⟨s0, s1, s2, s3, s4, s5, s6, s7, s8, s9, s10, s11⟩
          go_simp
          with_reducible rfl
         rotate_left
         ·simp only [Act.put, S1, S2, S3, i64_w, i32_w]
          rfl
         refine pure_ (i := 2) (N := some 62) (v := ?_) (a' := ?_) M3 rfl rfl (any_of HT_.out (by kernel_rfl)) (fun _ _ _ h => h) (Or.inl ⟨by rfl, ?_⟩) ?_ ?_
         rotate_left
         ·intro w'
          go_simp
          with_reducible rfl
         rotate_left
         ·simp only [Act.put, S1, S2, S3, i64_w, i32_w]
          rfl
         refine take_ (i := 3) (N := some 63) (v := ?_) (a' := ?_) M4 rfl rfl (take_ofW HT_.out HW_.out (by kernel_rfl)) (fun _ _ _ h => h) (Or.inl ⟨by rfl, ?_⟩) hHeld ?_ ?_
         rotate_left
         ·rintro w' ⟨s0, s1, s2, s3, s4, s5, s6, s7, s8, s9, s10, s11⟩
          go_simp
          with_reducible rfl
         rotate_left
         ·simp only [Act.put, S1, S2, S3, i64_w, i32_w]
          rfl
         refine take_ (i := 4) (N := some 64) (v := ?_) (a' := ?_) M5 rfl rfl (take_ofW HT_.out HW_.out (by kernel_rfl)) (fun _ _ _ h => h) (Or.inl ⟨by rfl, ?_⟩) hHeld ?_ ?_
         rotate_left
         ·rintro w' ⟨s0, s1, s2, s3, s4, s5, s6, s7, s8, s9, s10, s11⟩
          go_simp
          with_reducible rfl
         rotate_left
         ·simp only [Act.put, S1, S2, S3, i64_w, i32_w]
          rfl
         refine one_ (i := 5) (N := some 65) M6 rfl rfl (one_of HT_.out (by kernel_rfl)) (by decide) (fun K hK => ?_)
         refine goes_ Try.func22 (by kernel_rfl) rfl #[.agg #[.int .i64 a3_0, .int .i64 a3_1, .int .i64 a3_2, .int .i64 a3_3], .agg #[.int .i64 a4_0, .int .i64 a4_1, .int .i64 a4_2, .int .i64 a4_3]] (by rfl) rfl rfl (by (try simp only [List.map_toArray, List.map_cons, List.map_nil]); first | done | rfl | (simp only [List.length_drop, List.length_take]; rfl)) ?_
         with_reducible refine (stamp_LessTry.calls kj8 a3_0 a3_1 a3_2 a3_3 a4_0 a4_1 a4_2 a4_3 true _ A50.out).mono ?_
         rintro e w68 ⟨rfl, hb⟩
         refine ⟨_, rfl, ?_⟩
         have n0_ := Aside0.mk (blk_below (g := gb134) (o := .cells #[.int .i64 a0_0, .int .i64 a0_1] 40 (0, 0)) (by (with_reducible repeat (first | refine KN ?_ _ | refine KD ?_ | refine KA ?_ _)); exact BK134.out) hb)
         have n1_ := Aside0.mk (blk_below (g := gb135) (o := .cells #[.int .i64 a1_0, .int .i64 a1_1] 40 (0, 0)) (by (with_reducible repeat (first | refine KN ?_ _ | refine KD ?_ | refine KA ?_ _)); exact BK135.out) hb)
         have n2_ := Aside0.mk (blk_below (g := gb136) (o := .cells #[.int .i64 a2_0, .int .i64 a2_1] 40 (0, 0)) (by (with_reducible repeat (first | refine KN ?_ _ | refine KD ?_ | refine KA ?_ _)); exact BK136.out) hb)
         have n3_ := Aside0.mk (blk_below (g := gb137) (o := .cells #[.int .i64 a3_0, .int .i64 a3_1, .int .i64 a3_2, .int .i64 a3_3] 23 (0, 0)) (by (with_reducible repeat (first | refine KN ?_ _ | refine KD ?_ | refine KA ?_ _)); exact BK137.out) hb)
         have n4_ := Aside0.mk (blk_below (g := gb138) (o := .cells #[.int .i64 a4_0, .int .i64 a4_1, .int .i64 a4_2, .int .i64 a4_3] 23 (0, 0)) (by (with_reducible repeat (first | refine KN ?_ _ | refine KD ?_ | refine KA ?_ _)); exact BK138.out) hb)
         have n5_ := Aside0.mk (blk_below (g := gb139) (o := .cells #[.int .i64 a5_0, .int .i64 a5_1, .int .i64 a5_2, .int .i64 a5_3] 23 (0, 0)) (by (with_reducible repeat (first | refine KN ?_ _ | refine KD ?_ | refine KA ?_ _)); exact BK139.out) hb)
         have n6_ := Aside0.mk (below_step (by repeat (first | (with_reducible first | exact HB.out | apply below_alloc | apply pw_below_drewN | apply below_drew1 | refine below_set ?_ GE134.out | refine below_set ?_ GE135.out | refine below_set ?_ GE136.out | refine below_set ?_ GE137.out | refine below_set ?_ GE138.out | refine below_set ?_ GE139.out) | exact HB.out)) hb)
         clear BK134
         clear BK135
         clear BK136
         clear BK137
         clear BK138
         clear BK139
         clear HB
         have BK134 := n0_
         have BK135 := n1_
         have BK136 := n2_
         have BK137 := n3_
         have BK138 := n4_
         have BK139 := n5_
         have HB := n6_
         clear n0_ n1_ n2_ n3_ n4_ n5_ n6_
         (try clear hb)
         (try clear hb2)
         (try clear hk)
         (try clear hi)
         refine hK.out _ _ ⟨(blk_cell BK137.out 0).trans rfl, (blk_cell BK137.out 1).trans rfl, (blk_cell BK137.out 2).trans rfl, (blk_cell BK137.out 3).trans rfl, (blk_cell BK138.out 0).trans rfl, (blk_cell BK138.out 1).trans rfl, (blk_cell BK138.out 2).trans rfl, (blk_cell BK138.out 3).trans rfl, (blk_cell BK139.out 0).trans rfl, (blk_cell BK139.out 1).trans rfl, (blk_cell BK139.out 2).trans rfl, (blk_cell BK139.out 3).trans rfl⟩ (fun hHeld => ?_)
         clear hK K
         refine norm_ (a' := ?_) ?_ ?_
         rotate_left
         ·show Act.put _ (some 65) _ = _
          simp only [Act.put, S1, S2, S3, i64_w, i32_w]
          rfl
         refine pure_ (i := 6) (N := some 66) (v := ?_) (a' := ?_) M7 rfl rfl (any_of HT_.out (by kernel_rfl)) (fun _ _ _ h => h) (Or.inl ⟨by rfl, ?_⟩) ?_ ?_
         rotate_left
         ·intro w'
          go_simp
          with_reducible rfl
         rotate_left
         ·simp only [Act.put, S1, S2, S3, i64_w, i32_w]
          rfl
         refine pure_ (i := 7) (N := some 67) (v := ?_) (a' := ?_) M8 rfl rfl (any_of HT_.out (by kernel_rfl)) (fun _ _ _ h => h) (Or.inl ⟨by rfl, ?_⟩) ?_ ?_
         rotate_left
         ·intro w'
          go_simp
          with_reducible rfl
         rotate_left
         ·simp only [Act.put, S1, S2, S3, i64_w, i32_w]
          rfl
         refine pure_ (i := 8) (N := some 68) (v := undef) (a' := ?_) M9 rfl rfl (any_of HT_.out (by kernel_rfl)) (fun _ _ _ h => h) (Or.inr ⟨by rfl, rfl⟩) ?_ ?_
         rotate_left
         ·simp only [Act.put, S1, S2, S3, i64_w, i32_w]
          rfl
         refine pure_ (i := 9) (N := some 69) (v := undef) (a' := ?_) M10 rfl rfl (any_of HT_.out (by kernel_rfl)) (fun _ _ _ h => h) (Or.inr ⟨by rfl, rfl⟩) ?_ ?_
         rotate_left
         ·simp only [Act.put, S1, S2, S3, i64_w, i32_w]
          rfl
         refine pure_ (i := 10) (N := some 70) (v := undef) (a' := ?_) M11 rfl rfl (any_of HT_.out (by kernel_rfl)) (fun _ _ _ h => h) (Or.inr ⟨by rfl, rfl⟩) ?_ ?_
         rotate_left
         ·simp only [Act.put, S1, S2, S3, i64_w, i32_w]
          rfl
         refine pure_ (i := 11) (N := some 71) (v := undef) (a' := ?_) M12 rfl rfl (any_of HT_.out (by kernel_rfl)) (fun _ _ _ h => h) (Or.inr ⟨by rfl, rfl⟩) ?_ ?_
         rotate_left
         ·simp only [Act.put, S1, S2, S3, i64_w, i32_w]
          rfl
         refine pure_ (i := 12) (N := some 72) (v := ?_) (a' := ?_) M13 rfl rfl (any_of HT_.out (by kernel_rfl)) (fun _ _ _ h => h) (Or.inl ⟨by rfl, ?_⟩) ?_ ?_
         rotate_left
         ·intro w'
          go_simp
          with_reducible rfl
         rotate_left
         ·simp only [Act.put, S1, S2, S3, i64_w, i32_w]
          rfl
         refine pure_ (i := 13) (N := some 73) (v := ?_) (a' := ?_) M14 rfl rfl (any_of HT_.out (by kernel_rfl)) (fun _ _ _ h => h) (Or.inl ⟨by rfl, ?_⟩) ?_ ?_
         rotate_left
         ·intro w'
          go_simp
          with_reducible rfl
         rotate_left
         ·simp only [Act.put, S1, S2, S3, i64_w, i32_w]
          rfl
         refine pure_ (i := 14) (N := some 74) (v := ?_) (a' := ?_) M15 rfl rfl (any_of HT_.out (by kernel_rfl)) (fun _ _ _ h => h) (Or.inl ⟨by rfl, ?_⟩) ?_ ?_
         rotate_left
         ·intro w'
          go_simp
          with_reducible rfl
         rotate_left
         ·simp only [Act.put, S1, S2, S3, i64_w, i32_w]
          rfl
         refine take_ (i := 15) (N := some 75) (v := ?_) (a' := ?_) M16 rfl rfl (take_ofW HT_.out HW_.out (by kernel_rfl)) (fun _ _ _ h => h) (Or.inl ⟨by rfl, ?_⟩) hHeld ?_ ?_
         rotate_left
         ·rintro w' ⟨s0, s1, s2, s3, s4, s5, s6, s7, s8, s9, s10, s11⟩
          go_simp
          with_reducible rfl
         rotate_left
         ·simp only [Act.put, S1, S2, S3, i64_w, i32_w]
          rfl
         refine take_ (i := 16) (N := some 76) (v := ?_) (a' := ?_) M17 rfl rfl (take_ofW HT_.out HW_.out (by kernel_rfl)) (fun _ _ _ h => h) (Or.inl ⟨by rfl, ?_⟩) hHeld ?_ ?_
         rotate_left
         ·rintro w' ⟨s0, s1, s2, s3, s4, s5, s6, s7, s8, s9, s10, s11⟩
          go_simp
          with_reducible rfl
         rotate_left
         ·simp only [Act.put, S1, S2, S3, i64_w, i32_w]
          rfl
         refine one_ (i := 17) (N := some 77) M18 rfl rfl (one_of HT_.out (by kernel_rfl)) (by decide) (fun K hK => ?_)
         refine goes_ Try.func22 (by kernel_rfl) rfl #[.agg #[.int .i64 a3_0, .int .i64 a3_1, .int .i64 a3_2, .int .i64 a3_3], .agg #[.int .i64 a4_0, .int .i64 a4_1, .int .i64 a4_2, .int .i64 a4_3]] (by rfl) rfl rfl (by (try simp only [List.map_toArray, List.map_cons, List.map_nil]); first | done | rfl | (simp only [List.length_drop, List.length_take]; rfl)) ?_
         with_reducible refine (stamp_LessTry.calls kj8 a3_0 a3_1 a3_2 a3_3 a4_0 a4_1 a4_2 a4_3 true _ A53.out).mono ?_
         rintro e w69 ⟨rfl, hb⟩
         refine ⟨_, rfl, ?_⟩
         have n0_ := Aside0.mk (blk_below (g := gb134) (o := .cells #[.int .i64 a0_0, .int .i64 a0_1] 40 (0, 0)) (by (with_reducible repeat (first | refine KN ?_ _ | refine KD ?_ | refine KA ?_ _)); exact BK134.out) hb)
         have n1_ := Aside0.mk (blk_below (g := gb135) (o := .cells #[.int .i64 a1_0, .int .i64 a1_1] 40 (0, 0)) (by (with_reducible repeat (first | refine KN ?_ _ | refine KD ?_ | refine KA ?_ _)); exact BK135.out) hb)
         have n2_ := Aside0.mk (blk_below (g := gb136) (o := .cells #[.int .i64 a2_0, .int .i64 a2_1] 40 (0, 0)) (by (with_reducible repeat (first | refine KN ?_ _ | refine KD ?_ | refine KA ?_ _)); exact BK136.out) hb)
         have n3_ := Aside0.mk (blk_below (g := gb137) (o := .cells #[.int .i64 a3_0, .int .i64 a3_1, .int .i64 a3_2, .int .i64 a3_3] 23 (0, 0)) (by (with_reducible repeat (first | refine KN ?_ _ | refine KD ?_ | refine KA ?_ _)); exact BK137.out) hb)
         have n4_ := Aside0.mk (blk_below (g := gb138) (o := .cells #[.int .i64 a4_0, .int .i64 a4_1, .int .i64 a4_2, .int .i64 a4_3] 23 (0, 0)) (by (with_reducible repeat (first | refine KN ?_ _ | refine KD ?_ | refine KA ?_ _)); exact BK138.out) hb)
         have n5_ := Aside0.mk (blk_below (g := gb139) (o := .cells #[.int .i64 a5_0, .int .i64 a5_1, .int .i64 a5_2, .int .i64 a5_3] 23 (0, 0)) (by (with_reducible repeat (first | refine KN ?_ _ | refine KD ?_ | refine KA ?_ _)); exact BK139.out) hb)
         have n6_ := Aside0.mk (below_step (by repeat (first | (with_reducible first | exact HB.out | apply below_alloc | apply pw_below_drewN | apply below_drew1 | refine below_set ?_ GE134.out | refine below_set ?_ GE135.out | refine below_set ?_ GE136.out | refine below_set ?_ GE137.out | refine below_set ?_ GE138.out | refine below_set ?_ GE139.out) | exact HB.out)) hb)
         clear BK134
         clear BK135
         clear BK136
         clear BK137
         clear BK138
         clear BK139
         clear HB
         have BK134 := n0_
         have BK135 := n1_
         have BK136 := n2_
         have BK137 := n3_
         have BK138 := n4_
         have BK139 := n5_
         have HB := n6_
         clear n0_ n1_ n2_ n3_ n4_ n5_ n6_
         (try clear hb)
         (try clear hb2)
         (try clear hk)
         (try clear hi)
         refine hK.out _ _ ⟨(blk_cell BK137.out 0).trans rfl, (blk_cell BK137.out 1).trans rfl, (blk_cell BK137.out 2).trans rfl, (blk_cell BK137.out 3).trans rfl, (blk_cell BK138.out 0).trans rfl, (blk_cell BK138.out 1).trans rfl, (blk_cell BK138.out 2).trans rfl, (blk_cell BK138.out 3).trans rfl, (blk_cell BK139.out 0).trans rfl, (blk_cell BK139.out 1).trans rfl, (blk_cell BK139.out 2).trans rfl, (blk_cell BK139.out 3).trans rfl⟩ (fun hHeld => ?_)
         clear hK K
         refine norm_ (a' := ?_) ?_ ?_
         rotate_left
         ·show Act.put _ (some 77) _ = _
          simp only [Act.put, S1, S2, S3, i64_w, i32_w]
          rfl
         refine pure_ (i := 18) (N := some 78) (v := ?_) (a' := ?_) M19 rfl rfl (any_of HT_.out (by kernel_rfl)) (fun _ _ _ h => h) (Or.inl ⟨by rfl, ?_⟩) ?_ ?_
         rotate_left
         ·intro w'
          go_simp
          with_reducible rfl
         rotate_left
         ·simp only [Act.put, S1, S2, S3, i64_w, i32_w]
          rfl
         refine take_ (i := 19) (N := some 79) (v := ?_) (a' := ?_) M20 rfl rfl (take_ofW HT_.out HW_.out (by kernel_rfl)) (fun _ _ _ h => h) (Or.inl ⟨by rfl, ?_⟩) hHeld ?_ ?_
         rotate_left
         ·rintro w' ⟨s0, s1, s2, s3, s4, s5, s6, s7, s8, s9, s10, s11⟩
          go_simp
          with_reducible rfl
         rotate_left
         ·simp only [Act.put, S1, S2, S3, i64_w, i32_w]
          rfl
         refine take_ (i := 20) (N := some 80) (v := ?_) (a' := ?_) M21 rfl rfl (take_ofW HT_.out HW_.out (by kernel_rfl)) (fun _ _ _ h => h) (Or.inl ⟨by rfl, ?_⟩) hHeld ?_ ?_
         rotate_left
         ·rintro w' ⟨s0, s1, s2, s3, s4, s5, s6, s7, s8, s9, s10, s11⟩
          go_simp
          with_reducible rfl
         rotate_left
         ·simp only [Act.put, S1, S2, S3, i64_w, i32_w]
          rfl
         refine one_ (i := 21) (N := some 81) M22 rfl rfl (one_of HT_.out (by kernel_rfl)) (by decide) (fun K hK => ?_)
         refine goes_ Try.func22 (by kernel_rfl) rfl #[.agg #[.int .i64 a4_0, .int .i64 a4_1, .int .i64 a4_2, .int .i64 a4_3], .agg #[.int .i64 a3_0, .int .i64 a3_1, .int .i64 a3_2, .int .i64 a3_3]] (by rfl) rfl rfl (by (try simp only [List.map_toArray, List.map_cons, List.map_nil]); first | done | rfl | (simp only [List.length_drop, List.length_take]; rfl)) ?_
         with_reducible refine (stamp_LessTry.calls kj8 a4_0 a4_1 a4_2 a4_3 a3_0 a3_1 a3_2 a3_3 false _ A54.out).mono ?_
         rintro e w70 ⟨rfl, hb⟩
         refine ⟨_, rfl, ?_⟩
         have n0_ := Aside0.mk (blk_below (g := gb134) (o := .cells #[.int .i64 a0_0, .int .i64 a0_1] 40 (0, 0)) (by (with_reducible repeat (first | refine KN ?_ _ | refine KD ?_ | refine KA ?_ _)); exact BK134.out) hb)
         have n1_ := Aside0.mk (blk_below (g := gb135) (o := .cells #[.int .i64 a1_0, .int .i64 a1_1] 40 (0, 0)) (by (with_reducible repeat (first | refine KN ?_ _ | refine KD ?_ | refine KA ?_ _)); exact BK135.out) hb)
         have n2_ := Aside0.mk (blk_below (g := gb136) (o := .cells #[.int .i64 a2_0, .int .i64 a2_1] 40 (0, 0)) (by (with_reducible repeat (first | refine KN ?_ _ | refine KD ?_ | refine KA ?_ _)); exact BK136.out) hb)
         have n3_ := Aside0.mk (blk_below (g := gb137) (o := .cells #[.int .i64 a3_0, .int .i64 a3_1, .int .i64 a3_2, .int .i64 a3_3] 23 (0, 0)) (by (with_reducible repeat (first | refine KN ?_ _ | refine KD ?_ | refine KA ?_ _)); exact BK137.out) hb)
         have n4_ := Aside0.mk (blk_below (g := gb138) (o := .cells #[.int .i64 a4_0, .int .i64 a4_1, .int .i64 a4_2, .int .i64 a4_3] 23 (0, 0)) (by (with_reducible repeat (first | refine KN ?_ _ | refine KD ?_ | refine KA ?_ _)); exact BK138.out) hb)
         have n5_ := Aside0.mk (blk_below (g := gb139) (o := .cells #[.int .i64 a5_0, .int .i64 a5_1, .int .i64 a5_2, .int .i64 a5_3] 23 (0, 0)) (by (with_reducible repeat (first | refine KN ?_ _ | refine KD ?_ | refine KA ?_ _)); exact BK139.out) hb)
         have n6_ := Aside0.mk (below_step (by repeat (first | (with_reducible first | exact HB.out | apply below_alloc | apply pw_below_drewN | apply below_drew1 | refine below_set ?_ GE134.out | refine below_set ?_ GE135.out | refine below_set ?_ GE136.out | refine below_set ?_ GE137.out | refine below_set ?_ GE138.out | refine below_set ?_ GE139.out) | exact HB.out)) hb)
         clear BK134
         clear BK135
         clear BK136
         clear BK137
         clear BK138
         clear BK139
         clear HB
         have BK134 := n0_
         have BK135 := n1_
         have BK136 := n2_
         have BK137 := n3_
         have BK138 := n4_
         have BK139 := n5_
         have HB := n6_
         clear n0_ n1_ n2_ n3_ n4_ n5_ n6_
         (try clear hb)
         (try clear hb2)
         (try clear hk)
         (try clear hi)
         refine hK.out _ _ ⟨(blk_cell BK137.out 0).trans rfl, (blk_cell BK137.out 1).trans rfl, (blk_cell BK137.out 2).trans rfl, (blk_cell BK137.out 3).trans rfl, (blk_cell BK138.out 0).trans rfl, (blk_cell BK138.out 1).trans rfl, (blk_cell BK138.out 2).trans rfl, (blk_cell BK138.out 3).trans rfl, (blk_cell BK139.out 0).trans rfl, (blk_cell BK139.out 1).trans rfl, (blk_cell BK139.out 2).trans rfl, (blk_cell BK139.out 3).trans rfl⟩ (fun hHeld => ?_)
         clear hK K
         refine norm_ (a' := ?_) ?_ ?_
         rotate_left
         ·show Act.put _ (some 81) _ = _
          simp only [Act.put, S1, S2, S3, i64_w, i32_w]
          rfl
         refine pure_ (i := 22) (N := some 82) (v := ?_) (a' := ?_) M23 rfl rfl (any_of HT_.out (by kernel_rfl)) (fun _ _ _ h => h) (Or.inl ⟨by rfl, ?_⟩) ?_ ?_
         rotate_left
         ·intro w'
          go_simp
          with_reducible rfl
         rotate_left
         ·simp only [Act.put, S1, S2, S3, i64_w, i32_w]
          rfl
         refine pure_ (i := 23) (N := some 83) (v := ?_) (a' := ?_) M24 rfl rfl (any_of HT_.out (by kernel_rfl)) (fun _ _ _ h => h) (Or.inl ⟨by rfl, ?_⟩) ?_ ?_
         rotate_left
         ·intro w'
          go_simp
          with_reducible rfl
         rotate_left
         ·simp only [Act.put, S1, S2, S3, i64_w, i32_w]
          rfl
         refine pure_ (i := 24) (N := some 84) (v := ?_) (a' := ?_) M25 rfl rfl (any_of HT_.out (by kernel_rfl)) (fun _ _ _ h => h) (Or.inl ⟨by rfl, ?_⟩) ?_ ?_
         rotate_left
         ·intro w'
          go_simp
          with_reducible rfl
         rotate_left
         ·simp only [Act.put, S1, S2, S3, i64_w, i32_w]
          rfl
         refine pure_ (i := 25) (N := some 85) (v := ?_) (a' := ?_) M26 rfl rfl (any_of HT_.out (by kernel_rfl)) (fun _ _ _ h => h) (Or.inl ⟨by rfl, ?_⟩) ?_ ?_
         rotate_left
         ·intro w'
          go_simp
          with_reducible rfl
         rotate_left
         ·simp only [Act.put, S1, S2, S3, i64_w, i32_w]
          rfl
         refine take_ (i := 26) (N := some 86) (v := ?_) (a' := ?_) M27 rfl rfl (take_ofW HT_.out HW_.out (by kernel_rfl)) (fun _ _ _ h => h) (Or.inl ⟨by rfl, ?_⟩) hHeld ?_ ?_
         rotate_left
         ·rintro w' ⟨s0, s1, s2, s3, s4, s5, s6, s7, s8, s9, s10, s11⟩
          go_simp
          with_reducible rfl
         rotate_left
         ·simp only [Act.put, S1, S2, S3, i64_w, i32_w]
          rfl
         refine take_ (i := 27) (N := some 87) (v := ?_) (a' := ?_) M28 rfl rfl (take_ofW HT_.out HW_.out (by kernel_rfl)) (fun _ _ _ h => h) (Or.inl ⟨by rfl, ?_⟩) hHeld ?_ ?_
         rotate_left
         ·rintro w' ⟨s0, s1, s2, s3, s4, s5, s6, s7, s8, s9, s10, s11⟩
          go_simp
          with_reducible rfl
         rotate_left
         ·simp only [Act.put, S1, S2, S3, i64_w, i32_w]
          rfl
         refine one_ (i := 28) (N := some 88) M29 rfl rfl (one_of HT_.out (by kernel_rfl)) (by decide) (fun K hK => ?_)
         refine goes_ Try.func22 (by kernel_rfl) rfl #[.agg #[.int .i64 a3_0, .int .i64 a3_1, .int .i64 a3_2, .int .i64 a3_3], .agg #[.int .i64 a4_0, .int .i64 a4_1, .int .i64 a4_2, .int .i64 a4_3]] (by rfl) rfl rfl (by (try simp only [List.map_toArray, List.map_cons, List.map_nil]); first | done | rfl | (simp only [List.length_drop, List.length_take]; rfl)) ?_
         with_reducible refine (stamp_LessTry.calls kj8 a3_0 a3_1 a3_2 a3_3 a4_0 a4_1 a4_2 a4_3 true _ A56.out).mono ?_
         rintro e w71 ⟨rfl, hb⟩
         refine ⟨_, rfl, ?_⟩
         have n0_ := Aside0.mk (blk_below (g := gb134) (o := .cells #[.int .i64 a0_0, .int .i64 a0_1] 40 (0, 0)) (by (with_reducible repeat (first | refine KN ?_ _ | refine KD ?_ | refine KA ?_ _)); exact BK134.out) hb)
         have n1_ := Aside0.mk (blk_below (g := gb135) (o := .cells #[.int .i64 a1_0, .int .i64 a1_1] 40 (0, 0)) (by (with_reducible repeat (first | refine KN ?_ _ | refine KD ?_ | refine KA ?_ _)); exact BK135.out) hb)
         have n2_ := Aside0.mk (blk_below (g := gb136) (o := .cells #[.int .i64 a2_0, .int .i64 a2_1] 40 (0, 0)) (by (with_reducible repeat (first | refine KN ?_ _ | refine KD ?_ | refine KA ?_ _)); exact BK136.out) hb)
         have n3_ := Aside0.mk (blk_below (g := gb137) (o := .cells #[.int .i64 a3_0, .int .i64 a3_1, .int .i64 a3_2, .int .i64 a3_3] 23 (0, 0)) (by (with_reducible repeat (first | refine KN ?_ _ | refine KD ?_ | refine KA ?_ _)); exact BK137.out) hb)
         have n4_ := Aside0.mk (blk_below (g := gb138) (o := .cells #[.int .i64 a4_0, .int .i64 a4_1, .int .i64 a4_2, .int .i64 a4_3] 23 (0, 0)) (by (with_reducible repeat (first | refine KN ?_ _ | refine KD ?_ | refine KA ?_ _)); exact BK138.out) hb)
         have n5_ := Aside0.mk (blk_below (g := gb139) (o := .cells #[.int .i64 a5_0, .int .i64 a5_1, .int .i64 a5_2, .int .i64 a5_3] 23 (0, 0)) (by (with_reducible repeat (first | refine KN ?_ _ | refine KD ?_ | refine KA ?_ _)); exact BK139.out) hb)
         have n6_ := Aside0.mk (below_step (by repeat (first | (with_reducible first | exact HB.out | apply below_alloc | apply pw_below_drewN | apply below_drew1 | refine below_set ?_ GE134.out | refine below_set ?_ GE135.out | refine below_set ?_ GE136.out | refine below_set ?_ GE137.out | refine below_set ?_ GE138.out | refine below_set ?_ GE139.out) | exact HB.out)) hb)
         clear BK134
         clear BK135
         clear BK136
         clear BK137
         clear BK138
         clear BK139
         clear HB
         have BK134 := n0_
         have BK135 := n1_
         have BK136 := n2_
         have BK137 := n3_
         have BK138 := n4_
         have BK139 := n5_
         have HB := n6_
         clear n0_ n1_ n2_ n3_ n4_ n5_ n6_
         (try clear hb)
         (try clear hb2)
         (try clear hk)
         (try clear hi)
         refine hK.out _ _ ⟨(blk_cell BK137.out 0).trans rfl, (blk_cell BK137.out 1).trans rfl, (blk_cell BK137.out 2).trans rfl, (blk_cell BK137.out 3).trans rfl, (blk_cell BK138.out 0).trans rfl, (blk_cell BK138.out 1).trans rfl, (blk_cell BK138.out 2).trans rfl, (blk_cell BK138.out 3).trans rfl, (blk_cell BK139.out 0).trans rfl, (blk_cell BK139.out 1).trans rfl, (blk_cell BK139.out 2).trans rfl, (blk_cell BK139.out 3).trans rfl⟩ (fun hHeld => ?_)
         clear hK K
         refine norm_ (a' := ?_) ?_ ?_
         rotate_left
         ·show Act.put _ (some 88) _ = _
          simp only [Act.put, S1, S2, S3, i64_w, i32_w]
          rfl
         refine pure_ (i := 29) (N := some 89) (v := ?_) (a' := ?_) M30 rfl rfl (any_of HT_.out (by kernel_rfl)) (fun _ _ _ h => h) (Or.inl ⟨by rfl, ?_⟩) ?_ ?_
         rotate_left
         ·intro w'
          go_simp
          with_reducible rfl
         rotate_left
         ·simp only [Act.put, S1, S2, S3, i64_w, i32_w]
          rfl
         refine take_ (i := 30) (N := some 90) (v := ?_) (a' := ?_) M31 rfl rfl (take_ofW HT_.out HW_.out (by kernel_rfl)) (fun _ _ _ h => h) (Or.inl ⟨by rfl, ?_⟩) hHeld ?_ ?_
         rotate_left
         ·rintro w' ⟨s0, s1, s2, s3, s4, s5, s6, s7, s8, s9, s10, s11⟩
          go_simp
          with_reducible rfl
         rotate_left
         ·simp only [Act.put, S1, S2, S3, i64_w, i32_w]
          rfl
         refine take_ (i := 31) (N := some 91) (v := ?_) (a' := ?_) M32 rfl rfl (take_ofW HT_.out HW_.out (by kernel_rfl)) (fun _ _ _ h => h) (Or.inl ⟨by rfl, ?_⟩) hHeld ?_ ?_
         rotate_left
         ·rintro w' ⟨s0, s1, s2, s3, s4, s5, s6, s7, s8, s9, s10, s11⟩
          go_simp
          with_reducible rfl
         rotate_left
         ·simp only [Act.put, S1, S2, S3, i64_w, i32_w]
          rfl
         refine one_ (i := 32) (N := some 92) M33 rfl rfl (one_of HT_.out (by kernel_rfl)) (by decide) (fun K hK => ?_)
         refine goes_ Try.func22 (by kernel_rfl) rfl #[.agg #[.int .i64 a4_0, .int .i64 a4_1, .int .i64 a4_2, .int .i64 a4_3], .agg #[.int .i64 a5_0, .int .i64 a5_1, .int .i64 a5_2, .int .i64 a5_3]] (by rfl) rfl rfl (by (try simp only [List.map_toArray, List.map_cons, List.map_nil]); first | done | rfl | (simp only [List.length_drop, List.length_take]; rfl)) ?_
         with_reducible refine (stamp_LessTry.calls kj8 a4_0 a4_1 a4_2 a4_3 a5_0 a5_1 a5_2 a5_3 false _ A57.out).mono ?_
         rintro e w72 ⟨rfl, hb⟩
         refine ⟨_, rfl, ?_⟩
         have n0_ := Aside0.mk (blk_below (g := gb134) (o := .cells #[.int .i64 a0_0, .int .i64 a0_1] 40 (0, 0)) (by (with_reducible repeat (first | refine KN ?_ _ | refine KD ?_ | refine KA ?_ _)); exact BK134.out) hb)
         have n1_ := Aside0.mk (blk_below (g := gb135) (o := .cells #[.int .i64 a1_0, .int .i64 a1_1] 40 (0, 0)) (by (with_reducible repeat (first | refine KN ?_ _ | refine KD ?_ | refine KA ?_ _)); exact BK135.out) hb)
         have n2_ := Aside0.mk (blk_below (g := gb136) (o := .cells #[.int .i64 a2_0, .int .i64 a2_1] 40 (0, 0)) (by (with_reducible repeat (first | refine KN ?_ _ | refine KD ?_ | refine KA ?_ _)); exact BK136.out) hb)
         have n3_ := Aside0.mk (blk_below (g := gb137) (o := .cells #[.int .i64 a3_0, .int .i64 a3_1, .int .i64 a3_2, .int .i64 a3_3] 23 (0, 0)) (by (with_reducible repeat (first | refine KN ?_ _ | refine KD ?_ | refine KA ?_ _)); exact BK137.out) hb)
         have n4_ := Aside0.mk (blk_below (g := gb138) (o := .cells #[.int .i64 a4_0, .int .i64 a4_1, .int .i64 a4_2, .int .i64 a4_3] 23 (0, 0)) (by (with_reducible repeat (first | refine KN ?_ _ | refine KD ?_ | refine KA ?_ _)); exact BK138.out) hb)
         have n5_ := Aside0.mk (blk_below (g := gb139) (o := .cells #[.int .i64 a5_0, .int .i64 a5_1, .int .i64 a5_2, .int .i64 a5_3] 23 (0, 0)) (by (with_reducible repeat (first | refine KN ?_ _ | refine KD ?_ | refine KA ?_ _)); exact BK139.out) hb)
         have n6_ := Aside0.mk (below_step (by repeat (first | (with_reducible first | exact HB.out | apply below_alloc | apply pw_below_drewN | apply below_drew1 | refine below_set ?_ GE134.out | refine below_set ?_ GE135.out | refine below_set ?_ GE136.out | refine below_set ?_ GE137.out | refine below_set ?_ GE138.out | refine below_set ?_ GE139.out) | exact HB.out)) hb)
         clear BK134
         clear BK135
         clear BK136
         clear BK137
         clear BK138
         clear BK139
         clear HB
         have BK134 := n0_
         have BK135 := n1_
         have BK136 := n2_
         have BK137 := n3_
         have BK138 := n4_
         have BK139 := n5_
         have HB := n6_
         clear n0_ n1_ n2_ n3_ n4_ n5_ n6_
         (try clear hb)
         (try clear hb2)
         (try clear hk)
         (try clear hi)
         refine hK.out _ _ ⟨(blk_cell BK137.out 0).trans rfl, (blk_cell BK137.out 1).trans rfl, (blk_cell BK137.out 2).trans rfl, (blk_cell BK137.out 3).trans rfl, (blk_cell BK138.out 0).trans rfl, (blk_cell BK138.out 1).trans rfl, (blk_cell BK138.out 2).trans rfl, (blk_cell BK138.out 3).trans rfl, (blk_cell BK139.out 0).trans rfl, (blk_cell BK139.out 1).trans rfl, (blk_cell BK139.out 2).trans rfl, (blk_cell BK139.out 3).trans rfl⟩ (fun hHeld => ?_)
         clear hK K
         refine norm_ (a' := ?_) ?_ ?_
         rotate_left
         ·show Act.put _ (some 92) _ = _
          simp only [Act.put, S1, S2, S3, i64_w, i32_w]
          rfl
         refine pure_ (i := 33) (N := some 93) (v := ?_) (a' := ?_) M34 rfl rfl (any_of HT_.out (by kernel_rfl)) (fun _ _ _ h => h) (Or.inl ⟨by rfl, ?_⟩) ?_ ?_
         rotate_left
         ·intro w'
          go_simp
          with_reducible rfl
         rotate_left
         ·simp only [Act.put, S1, S2, S3, i64_w, i32_w]
          rfl
         refine pure_ (i := 34) (N := some 94) (v := ?_) (a' := ?_) M35 rfl rfl (any_of HT_.out (by kernel_rfl)) (fun _ _ _ h => h) (Or.inl ⟨by rfl, ?_⟩) ?_ ?_
         rotate_left
         ·intro w'
          go_simp
          with_reducible rfl
         rotate_left
         ·simp only [Act.put, S1, S2, S3, i64_w, i32_w]
          rfl
         refine pure_ (i := 35) (N := some 95) (v := undef) (a' := ?_) M36 rfl rfl (any_of HT_.out (by kernel_rfl)) (fun _ _ _ h => h) (Or.inr ⟨by rfl, rfl⟩) ?_ ?_
         rotate_left
         ·simp only [Act.put, S1, S2, S3, i64_w, i32_w]
          rfl
         refine pure_ (i := 36) (N := some 96) (v := undef) (a' := ?_) M37 rfl rfl (any_of HT_.out (by kernel_rfl)) (fun _ _ _ h => h) (Or.inr ⟨by rfl, rfl⟩) ?_ ?_
         rotate_left
         ·simp only [Act.put, S1, S2, S3, i64_w, i32_w]
          rfl
         refine pure_ (i := 37) (N := some 97) (v := undef) (a' := ?_) M38 rfl rfl (any_of HT_.out (by kernel_rfl)) (fun _ _ _ h => h) (Or.inr ⟨by rfl, rfl⟩) ?_ ?_
         rotate_left
         ·simp only [Act.put, S1, S2, S3, i64_w, i32_w]
          rfl
         refine pure_ (i := 38) (N := some 98) (v := undef) (a' := ?_) M39 rfl rfl (any_of HT_.out (by kernel_rfl)) (fun _ _ _ h => h) (Or.inr ⟨by rfl, rfl⟩) ?_ ?_
         rotate_left
         ·simp only [Act.put, S1, S2, S3, i64_w, i32_w]
          rfl
         refine pure_ (i := 39) (N := some 99) (v := ?_) (a' := ?_) M40 rfl rfl (any_of HT_.out (by kernel_rfl)) (fun _ _ _ h => h) (Or.inl ⟨by rfl, ?_⟩) ?_ ?_
         rotate_left
         ·intro w'
          go_simp
          with_reducible rfl
         rotate_left
         ·simp only [Act.put, S1, S2, S3, i64_w, i32_w]
          rfl
         refine pure_ (i := 40) (N := some 100) (v := ?_) (a' := ?_) M41 rfl rfl (any_of HT_.out (by kernel_rfl)) (fun _ _ _ h => h) (Or.inl ⟨by rfl, ?_⟩) ?_ ?_
         rotate_left
         ·intro w'
          go_simp
          with_reducible rfl
         rotate_left
         ·simp only [Act.put, S1, S2, S3, i64_w, i32_w]
          rfl
         refine pure_ (i := 41) (N := some 101) (v := ?_) (a' := ?_) M42 rfl rfl (any_of HT_.out (by kernel_rfl)) (fun _ _ _ h => h) (Or.inl ⟨by rfl, ?_⟩) ?_ ?_
         rotate_left
         ·intro w'
          go_simp
          with_reducible rfl
         rotate_left
         ·simp only [Act.put, S1, S2, S3, i64_w, i32_w]
          rfl
         refine pure_ (i := 42) (N := some 14) (v := ?_) (a' := ?_) M43 rfl rfl (any_of HT_.out (by kernel_rfl)) (fun _ _ _ h => h) (Or.inl ⟨by rfl, ?_⟩) ?_ ?_
         rotate_left
         ·intro w'
          go_simp
          with_reducible rfl
         rotate_left
         ·simp only [Act.put, S1, S2, S3, i64_w, i32_w]
          rfl
         refine done_ (done_of HT_.out (by kernel_rfl)) ?_
         try go_wp2
         go_meet
         case rel => exact ⟨_, (!false), (by first | rfl | (simp; done) | (simp [*]; done)), H', ⟨by have := HJ8.out; first | omega | exact Nat.le_refl _⟩, ⟨by (with_reducible repeat (first | refine KN ?_ _ | refine KD ?_ | refine KA ?_ _)); exact BK134.out⟩, ⟨by (with_reducible repeat (first | refine KN ?_ _ | refine KD ?_ | refine KA ?_ _)); exact BK135.out⟩, ⟨by (with_reducible repeat (first | refine KN ?_ _ | refine KD ?_ | refine KA ?_ _)); exact BK136.out⟩, ⟨by (with_reducible repeat (first | refine KN ?_ _ | refine KD ?_ | refine KA ?_ _)); exact BK137.out⟩, ⟨by (with_reducible repeat (first | refine KN ?_ _ | refine KD ?_ | refine KA ?_ _)); exact BK138.out⟩, ⟨by (with_reducible repeat (first | refine KN ?_ _ | refine KD ?_ | refine KA ?_ _)); exact BK139.out⟩, ⟨by repeat (first | (with_reducible first | exact HB.out | apply below_alloc | apply pw_below_drewN | apply below_drew1 | refine below_set ?_ GE134.out | refine below_set ?_ GE135.out | refine below_set ?_ GE136.out | refine below_set ?_ GE137.out | refine below_set ?_ GE138.out | refine below_set ?_ GE139.out) | exact HB.out)⟩⟩
      ·rw [if_neg c52] at H
       have c52b0 : ((a3_0 == a4_0 && (a3_1 == a4_1 && (a3_2 == a4_2 && (a3_3 == a4_3)))) == false) = false := by simpa using c52
       (try (have c52b1 : decide ((a3_0 == a4_0 && (a3_1 == a4_1 && (a3_2 == a4_2 && (a3_3 == a4_3)))) = false) = false := by simpa using c52))
       (try (have c52b2 : ((a3_0 == a4_0 && (a3_1 == a4_1 && (a3_2 == a4_2 && (a3_3 == a4_3)))) == false) = false := by simpa using c52))
       (try (have c52b3 : ¬ ((a3_0 == a4_0 && (a3_1 == a4_1 && (a3_2 == a4_2 && (a3_3 == a4_3)))) = false) := by simpa using c52))
       clear c52
       (first | rw [c52b0] | (simp only [i64_w, i32_w]; rw [c52b0]) | skip)
       exact (NT.no_ (by repeat (first | exact NT.none_ | exact NT.false_ | exact NT.not_ | exact j1_nt0 _ _ _ _ _ | exact j1_nt1 _ _ _ _ _ _ | exact j0_nt2 _ _ _ _ _ _ _ _ _ _ _ _ _ _ _ _ _ | exact j1_nt3 _ _ _ _ _ _ | refine NT.bind_ fun _ => ?_ | refine NT.no_if ?_ | refine NT.yes_if ?_ | refine NT.ite_ ?_ ?_)) H hr_.out).elim
     ·replace c51 := Bool.eq_false_iff.mpr c51
      subst c51
      have H1 : ((stamp_LessTry.f kj8 a4_0 a4_1 a4_2 a4_3 a3_0 a3_1 a3_2 a3_3).bind fun t162 => (if ((a3_0 == a4_0 && (a3_1 == a4_1 && (a3_2 == a4_2 && (a3_3 == a4_3)))) == (!t162)) = true then ((stamp_LessTry.f kj8 a3_0 a3_1 a3_2 a3_3 a4_0 a4_1 a4_2 a4_3).bind fun _t164 => ((stamp_LessTry.f kj8 a3_0 a3_1 a3_2 a3_3 a4_0 a4_1 a4_2 a4_3).bind fun _t166 => (j1 kj8 x13_8 (!false) a0_0 a0_1 a1_0 a1_1))) else (j1 kj8 x13_8 false a0_0 a0_1 a1_0 a1_1))) = some r := by rw [if_neg (show ¬ (false = true) by decide)] at H; exact H
      clear H
      have H := H1
      clear H1
      replace H := Option.bind_eq_some_iff.mp H
      obtain ⟨t162, A730, H⟩ := H
      replace H : (if ((a3_0 == a4_0 && (a3_1 == a4_1 && (a3_2 == a4_2 && (a3_3 == a4_3)))) == (!t162)) = true then ((stamp_LessTry.f kj8 a3_0 a3_1 a3_2 a3_3 a4_0 a4_1 a4_2 a4_3).bind fun _t164 => ((stamp_LessTry.f kj8 a3_0 a3_1 a3_2 a3_3 a4_0 a4_1 a4_2 a4_3).bind fun _t166 => (j1 kj8 x13_8 (!false) a0_0 a0_1 a1_0 a1_1))) else (j1 kj8 x13_8 false a0_0 a0_1 a1_0 a1_1)) = some r := H
      have A73 := Aside0.mk A730
      clear A730
      by_cases c74 : ((a3_0 == a4_0 && (a3_1 == a4_1 && (a3_2 == a4_2 && (a3_3 == a4_3)))) == (!t162)) = true
      ·rw [if_pos c74] at H
       have c74b0 : ((a3_0 == a4_0 && (a3_1 == a4_1 && (a3_2 == a4_2 && (a3_3 == a4_3)))) == (!t162)) = true := c74
       (try (have c74b1 : decide ((a3_0 == a4_0 && (a3_1 == a4_1 && (a3_2 == a4_2 && (a3_3 == a4_3)))) = (!t162)) = true := by simpa using c74))
       (try (have c74b2 : ((a3_0 == a4_0 && (a3_1 == a4_1 && (a3_2 == a4_2 && (a3_3 == a4_3)))) == (!t162)) = true := by simpa using c74))
       clear c74
       replace H := Option.bind_eq_some_iff.mp H
       obtain ⟨_t164, A750, H⟩ := H
       obtain rfl : false = _t164 := Option.some.inj (Eq.trans (Eq.symm (Aside0.out (by assumption))) A750)
       replace H : ((stamp_LessTry.f kj8 a3_0 a3_1 a3_2 a3_3 a4_0 a4_1 a4_2 a4_3).bind fun _t166 => (j1 kj8 x13_8 (!false) a0_0 a0_1 a1_0 a1_1)) = some r := H
       have A75 := Aside0.mk A750
       clear A750
       replace H := Option.bind_eq_some_iff.mp H
       obtain ⟨_t166, A760, H⟩ := H
       obtain rfl : false = _t166 := Option.some.inj (Eq.trans (Eq.symm (Aside0.out (by assumption))) A760)
       replace H : (j1 kj8 x13_8 (!false) a0_0 a0_1 a1_0 a1_1) = some r := H
       have A76 := Aside0.mk A760
       clear A760
       have H' := Aside0.mk H
       clear H
       try go_wp2
       have n0_ := Aside0.mk (blk_drew BK134.out)
       have n1_ := Aside0.mk (blk_drew BK135.out)
       have n2_ := Aside0.mk (blk_drew BK136.out)
       have n3_ := Aside0.mk (blk_drew BK137.out)
       have n4_ := Aside0.mk (blk_drew BK138.out)
       have n5_ := Aside0.mk (blk_drew BK139.out)
       have n6_ := Aside0.mk (below_drew1 HB.out)
       clear BK134
       clear BK135
       clear BK136
       clear BK137
       clear BK138
       clear BK139
       clear HB
       have BK134 := n0_
       have BK135 := n1_
       have BK136 := n2_
       have BK137 := n3_
       have BK138 := n4_
       have BK139 := n5_
       have HB := n6_
       clear n0_ n1_ n2_ n3_ n4_ n5_ n6_
       refine start_ (n := 43) (S := fun w' => w'.cell? ⟨gb137, 0, none⟩ = some (.int .i64 a3_0) ∧ w'.cell? ⟨gb137, 1, none⟩ = some (.int .i64 a3_1) ∧ w'.cell? ⟨gb137, 2, none⟩ = some (.int .i64 a3_2) ∧ w'.cell? ⟨gb137, 3, none⟩ = some (.int .i64 a3_3) ∧ w'.cell? ⟨gb138, 0, none⟩ = some (.int .i64 a4_0) ∧ w'.cell? ⟨gb138, 1, none⟩ = some (.int .i64 a4_1) ∧ w'.cell? ⟨gb138, 2, none⟩ = some (.int .i64 a4_2) ∧ w'.cell? ⟨gb138, 3, none⟩ = some (.int .i64 a4_3)) (ds := []) M0 (by kernel_rfl) rfl rfl ⟨(blk_cell BK137.out 0).trans rfl, (blk_cell BK137.out 1).trans rfl, (blk_cell BK137.out 2).trans rfl, (blk_cell BK137.out 3).trans rfl, (blk_cell BK138.out 0).trans rfl, (blk_cell BK138.out 1).trans rfl, (blk_cell BK138.out 2).trans rfl, (blk_cell BK138.out 3).trans rfl⟩ (fun hHeld => ?_); refine with_tabW antipodelaw6_StampLine.tab4 antipodelaw6_StampLine.bits4 (fun HT_ HW_ => ?_)
       generalize wc.drew = w77 at BK134 BK135 BK136 BK137 BK138 BK139 HB hHeld ⊢
       refine take_ (i := 0) (N := some 60) (v := ?_) (a' := ?_) M1 rfl rfl (take_ofW HT_.out HW_.out (by kernel_rfl)) (fun _ _ _ h => h) (Or.inl ⟨by rfl, ?_⟩) hHeld ?_ ?_
       rotate_left
       ·rintro w' ⟨s0, s1, s2, s3, s4, s5, s6, s7⟩
        go_simp
        with_reducible rfl
       rotate_left
       ·simp only [Act.put, S1, S2, S3, i64_w, i32_w]
        rfl
       refine take_ (i := 1) (N := some 61) (v := ?_) (a' := ?_) M2 rfl rfl (take_ofW HT_.out HW_.out (by kernel_rfl)) (fun _ _ _ h => h) (Or.inl ⟨by rfl, ?_⟩) hHeld ?_ ?_
       rotate_left
       ·rintro w' ⟨s0, s1, s2, s3, s4, s5, s6, s7⟩
        go_simp
        with_reducible rfl
       rotate_left
       ·simp only [Act.put, S1, S2, S3, i64_w, i32_w]
        rfl
       refine pure_ (i := 2) (N := some 62) (v := ?_) (a' := ?_) M3 rfl rfl (any_of HT_.out (by kernel_rfl)) (fun _ _ _ h => h) (Or.inl ⟨by rfl, ?_⟩) ?_ ?_
       rotate_left
       ·intro w'
        go_simp
        with_reducible rfl
       rotate_left
       ·simp only [Act.put, S1, S2, S3, i64_w, i32_w]
        rfl
       refine take_ (i := 3) (N := some 63) (v := ?_) (a' := ?_) M4 rfl rfl (take_ofW HT_.out HW_.out (by kernel_rfl)) (fun _ _ _ h => h) (Or.inl ⟨by rfl, ?_⟩) hHeld ?_ ?_
       rotate_left
       ·rintro w' ⟨s0, s1, s2, s3, s4, s5, s6, s7⟩
        go_simp
        with_reducible rfl
       rotate_left
       ·simp only [Act.put, S1, S2, S3, i64_w, i32_w]
        rfl
       refine take_ (i := 4) (N := some 64) (v := ?_) (a' := ?_) M5 rfl rfl (take_ofW HT_.out HW_.out (by kernel_rfl)) (fun _ _ _ h => h) (Or.inl ⟨by rfl, ?_⟩) hHeld ?_ ?_
       rotate_left
       ·rintro w' ⟨s0, s1, s2, s3, s4, s5, s6, s7⟩
        go_simp
        with_reducible rfl
       rotate_left
       ·simp only [Act.put, S1, S2, S3, i64_w, i32_w]
        rfl
       refine one_ (i := 5) (N := some 65) M6 rfl rfl (one_of HT_.out (by kernel_rfl)) (by decide) (fun K hK => ?_)
       refine goes_ Try.func22 (by kernel_rfl) rfl #[.agg #[.int .i64 a3_0, .int .i64 a3_1, .int .i64 a3_2, .int .i64 a3_3], .agg #[.int .i64 a4_0, .int .i64 a4_1, .int .i64 a4_2, .int .i64 a4_3]] (by rfl) rfl rfl (by (try simp only [List.map_toArray, List.map_cons, List.map_nil]); first | done | rfl | (simp only [List.length_drop, List.length_take]; rfl)) ?_
       with_reducible refine (stamp_LessTry.calls kj8 a3_0 a3_1 a3_2 a3_3 a4_0 a4_1 a4_2 a4_3 false _ A50.out).mono ?_
       rintro e w78 ⟨rfl, hb⟩
       refine ⟨_, rfl, ?_⟩
       have n0_ := Aside0.mk (blk_below (g := gb134) (o := .cells #[.int .i64 a0_0, .int .i64 a0_1] 40 (0, 0)) (by (with_reducible repeat (first | refine KN ?_ _ | refine KD ?_ | refine KA ?_ _)); exact BK134.out) hb)
       have n1_ := Aside0.mk (blk_below (g := gb135) (o := .cells #[.int .i64 a1_0, .int .i64 a1_1] 40 (0, 0)) (by (with_reducible repeat (first | refine KN ?_ _ | refine KD ?_ | refine KA ?_ _)); exact BK135.out) hb)
       have n2_ := Aside0.mk (blk_below (g := gb136) (o := .cells #[.int .i64 a2_0, .int .i64 a2_1] 40 (0, 0)) (by (with_reducible repeat (first | refine KN ?_ _ | refine KD ?_ | refine KA ?_ _)); exact BK136.out) hb)
       have n3_ := Aside0.mk (blk_below (g := gb137) (o := .cells #[.int .i64 a3_0, .int .i64 a3_1, .int .i64 a3_2, .int .i64 a3_3] 23 (0, 0)) (by (with_reducible repeat (first | refine KN ?_ _ | refine KD ?_ | refine KA ?_ _)); exact BK137.out) hb)
       have n4_ := Aside0.mk (blk_below (g := gb138) (o := .cells #[.int .i64 a4_0, .int .i64 a4_1, .int .i64 a4_2, .int .i64 a4_3] 23 (0, 0)) (by (with_reducible repeat (first | refine KN ?_ _ | refine KD ?_ | refine KA ?_ _)); exact BK138.out) hb)
       have n5_ := Aside0.mk (blk_below (g := gb139) (o := .cells #[.int .i64 a5_0, .int .i64 a5_1, .int .i64 a5_2, .int .i64 a5_3] 23 (0, 0)) (by (with_reducible repeat (first | refine KN ?_ _ | refine KD ?_ | refine KA ?_ _)); exact BK139.out) hb)
       have n6_ := Aside0.mk (below_step (by repeat (first | (with_reducible first | exact HB.out | apply below_alloc | apply pw_below_drewN | apply below_drew1 | refine below_set ?_ GE134.out | refine below_set ?_ GE135.out | refine below_set ?_ GE136.out | refine below_set ?_ GE137.out | refine below_set ?_ GE138.out | refine below_set ?_ GE139.out) | exact HB.out)) hb)
       clear BK134
       clear BK135
       clear BK136
       clear BK137
       clear BK138
       clear BK139
       clear HB
       have BK134 := n0_
       have BK135 := n1_
       have BK136 := n2_
       have BK137 := n3_
       have BK138 := n4_
       have BK139 := n5_
       have HB := n6_
       clear n0_ n1_ n2_ n3_ n4_ n5_ n6_
       (try clear hb)
       (try clear hb2)
       (try clear hk)
       (try clear hi)
       refine hK.out _ _ ⟨(blk_cell BK137.out 0).trans rfl, (blk_cell BK137.out 1).trans rfl, (blk_cell BK137.out 2).trans rfl, (blk_cell BK137.out 3).trans rfl, (blk_cell BK138.out 0).trans rfl, (blk_cell BK138.out 1).trans rfl, (blk_cell BK138.out 2).trans rfl, (blk_cell BK138.out 3).trans rfl⟩ (fun hHeld => ?_)
       clear hK K
       refine norm_ (a' := ?_) ?_ ?_
       rotate_left
       ·show Act.put _ (some 65) _ = _
        simp only [Act.put, S1, S2, S3, i64_w, i32_w]
        rfl
       refine pure_ (i := 6) (N := some 66) (v := ?_) (a' := ?_) M7 rfl rfl (any_of HT_.out (by kernel_rfl)) (fun _ _ _ h => h) (Or.inl ⟨by rfl, ?_⟩) ?_ ?_
       rotate_left
       ·intro w'
        go_simp
        with_reducible rfl
       rotate_left
       ·simp only [Act.put, S1, S2, S3, i64_w, i32_w]
        rfl
       refine pure_ (i := 7) (N := some 67) (v := ?_) (a' := ?_) M8 rfl rfl (any_of HT_.out (by kernel_rfl)) (fun _ _ _ h => h) (Or.inl ⟨by rfl, ?_⟩) ?_ ?_
       rotate_left
       ·intro w'
        go_simp
        with_reducible rfl
       rotate_left
       ·simp only [Act.put, S1, S2, S3, i64_w, i32_w]
        rfl
       refine take_ (i := 8) (N := some 68) (v := ?_) (a' := ?_) M9 rfl rfl (take_ofW HT_.out HW_.out (by kernel_rfl)) (fun _ _ _ h => h) (Or.inl ⟨by rfl, ?_⟩) hHeld ?_ ?_
       rotate_left
       ·rintro w' ⟨s0, s1, s2, s3, s4, s5, s6, s7⟩
        go_simp
        with_reducible rfl
       rotate_left
       ·simp only [Act.put, S1, S2, S3, i64_w, i32_w]
        rfl
       refine take_ (i := 9) (N := some 69) (v := ?_) (a' := ?_) M10 rfl rfl (take_ofW HT_.out HW_.out (by kernel_rfl)) (fun _ _ _ h => h) (Or.inl ⟨by rfl, ?_⟩) hHeld ?_ ?_
       rotate_left
       ·rintro w' ⟨s0, s1, s2, s3, s4, s5, s6, s7⟩
        go_simp
        with_reducible rfl
       rotate_left
       ·simp only [Act.put, S1, S2, S3, i64_w, i32_w]
        rfl
       refine one_ (i := 10) (N := some 70) M11 rfl rfl (one_of HT_.out (by kernel_rfl)) (by decide) (fun K hK => ?_)
       refine goes_ Try.func22 (by kernel_rfl) rfl #[.agg #[.int .i64 a4_0, .int .i64 a4_1, .int .i64 a4_2, .int .i64 a4_3], .agg #[.int .i64 a3_0, .int .i64 a3_1, .int .i64 a3_2, .int .i64 a3_3]] (by rfl) rfl rfl (by (try simp only [List.map_toArray, List.map_cons, List.map_nil]); first | done | rfl | (simp only [List.length_drop, List.length_take]; rfl)) ?_
       with_reducible refine (stamp_LessTry.calls kj8 a4_0 a4_1 a4_2 a4_3 a3_0 a3_1 a3_2 a3_3 t162 _ A73.out).mono ?_
       rintro e w79 ⟨rfl, hb⟩
       refine ⟨_, rfl, ?_⟩
       have n0_ := Aside0.mk (blk_below (g := gb134) (o := .cells #[.int .i64 a0_0, .int .i64 a0_1] 40 (0, 0)) (by (with_reducible repeat (first | refine KN ?_ _ | refine KD ?_ | refine KA ?_ _)); exact BK134.out) hb)
       have n1_ := Aside0.mk (blk_below (g := gb135) (o := .cells #[.int .i64 a1_0, .int .i64 a1_1] 40 (0, 0)) (by (with_reducible repeat (first | refine KN ?_ _ | refine KD ?_ | refine KA ?_ _)); exact BK135.out) hb)
       have n2_ := Aside0.mk (blk_below (g := gb136) (o := .cells #[.int .i64 a2_0, .int .i64 a2_1] 40 (0, 0)) (by (with_reducible repeat (first | refine KN ?_ _ | refine KD ?_ | refine KA ?_ _)); exact BK136.out) hb)
       have n3_ := Aside0.mk (blk_below (g := gb137) (o := .cells #[.int .i64 a3_0, .int .i64 a3_1, .int .i64 a3_2, .int .i64 a3_3] 23 (0, 0)) (by (with_reducible repeat (first | refine KN ?_ _ | refine KD ?_ | refine KA ?_ _)); exact BK137.out) hb)
       have n4_ := Aside0.mk (blk_below (g := gb138) (o := .cells #[.int .i64 a4_0, .int .i64 a4_1, .int .i64 a4_2, .int .i64 a4_3] 23 (0, 0)) (by (with_reducible repeat (first | refine KN ?_ _ | refine KD ?_ | refine KA ?_ _)); exact BK138.out) hb)
       have n5_ := Aside0.mk (blk_below (g := gb139) (o := .cells #[.int .i64 a5_0, .int .i64 a5_1, .int .i64 a5_2, .int .i64 a5_3] 23 (0, 0)) (by (with_reducible repeat (first | refine KN ?_ _ | refine KD ?_ | refine KA ?_ _)); exact BK139.out) hb)
       have n6_ := Aside0.mk (below_step (by repeat (first | (with_reducible first | exact HB.out | apply below_alloc | apply pw_below_drewN | apply below_drew1 | refine below_set ?_ GE134.out | refine below_set ?_ GE135.out | refine below_set ?_ GE136.out | refine below_set ?_ GE137.out | refine below_set ?_ GE138.out | refine below_set ?_ GE139.out) | exact HB.out)) hb)
       clear BK134
       clear BK135
       clear BK136
       clear BK137
       clear BK138
       clear BK139
       clear HB
       have BK134 := n0_
       have BK135 := n1_
       have BK136 := n2_
       have BK137 := n3_
       have BK138 := n4_
       have BK139 := n5_
       have HB := n6_
       clear n0_ n1_ n2_ n3_ n4_ n5_ n6_
       (try clear hb)
       (try clear hb2)
       (try clear hk)
       (try clear hi)
       refine hK.out _ _ ⟨(blk_cell BK137.out 0).trans rfl, (blk_cell BK137.out 1).trans rfl, (blk_cell BK137.out 2).trans rfl, (blk_cell BK137.out 3).trans rfl, (blk_cell BK138.out 0).trans rfl, (blk_cell BK138.out 1).trans rfl, (blk_cell BK138.out 2).trans rfl, (blk_cell BK138.out 3).trans rfl⟩ (fun hHeld => ?_)
       clear hK K
       refine norm_ (a' := ?_) ?_ ?_
       rotate_left
       ·show Act.put _ (some 70) _ = _
        simp only [Act.put, S1, S2, S3, i64_w, i32_w]
        rfl
       refine pure_ (i := 11) (N := some 71) (v := ?_) (a' := ?_) M12 rfl rfl (any_of HT_.out (by kernel_rfl)) (fun _ _ _ h => h) (Or.inl ⟨by rfl, ?_⟩) ?_ ?_
       rotate_left
       ·intro w'
        go_simp
        with_reducible rfl
       rotate_left
       ·simp only [Act.put, S1, S2, S3, i64_w, i32_w]
        rfl
       refine pure_ (i := 12) (N := some 72) (v := ?_) (a' := ?_) M13 rfl rfl (any_of HT_.out (by kernel_rfl)) (fun _ _ _ h => h) (Or.inl ⟨by rfl, ?_⟩) ?_ ?_
       rotate_left
       ·intro w'
        go_simp
        with_reducible rfl
       rotate_left
       ·simp only [Act.put, S1, S2, S3, i64_w, i32_w]
        rfl
       refine pure_ (i := 13) (N := some 73) (v := ?_) (a' := ?_) M14 rfl rfl (any_of HT_.out (by kernel_rfl)) (fun _ _ _ h => h) (Or.inl ⟨by rfl, ?_⟩) ?_ ?_
       rotate_left
       ·intro w'
        go_simp
        with_reducible rfl
       rotate_left
       ·simp only [Act.put, S1, S2, S3, i64_w, i32_w]
        rfl
       refine pure_ (i := 14) (N := some 74) (v := ?_) (a' := ?_) M15 rfl rfl (any_of HT_.out (by kernel_rfl)) (fun _ _ _ h => h) (Or.inl ⟨by rfl, ?_⟩) ?_ ?_
       rotate_left
       ·intro w'
        go_simp
        with_reducible rfl
       rotate_left
       ·simp only [Act.put, S1, S2, S3, i64_w, i32_w]
        rfl
       refine take_ (i := 15) (N := some 75) (v := ?_) (a' := ?_) M16 rfl rfl (take_ofW HT_.out HW_.out (by kernel_rfl)) (fun _ _ _ h => h) (Or.inl ⟨by rfl, ?_⟩) hHeld ?_ ?_
       rotate_left
       ·rintro w' ⟨s0, s1, s2, s3, s4, s5, s6, s7⟩
        go_simp
        with_reducible rfl
       rotate_left
       ·simp only [Act.put, S1, S2, S3, i64_w, i32_w]
        rfl
       refine take_ (i := 16) (N := some 76) (v := ?_) (a' := ?_) M17 rfl rfl (take_ofW HT_.out HW_.out (by kernel_rfl)) (fun _ _ _ h => h) (Or.inl ⟨by rfl, ?_⟩) hHeld ?_ ?_
       rotate_left
       ·rintro w' ⟨s0, s1, s2, s3, s4, s5, s6, s7⟩
        go_simp
        with_reducible rfl
       rotate_left
       ·simp only [Act.put, S1, S2, S3, i64_w, i32_w]
        rfl
       refine one_ (i := 17) (N := some 77) M18 rfl rfl (one_of HT_.out (by kernel_rfl)) (by decide) (fun K hK => ?_)
       refine goes_ Try.func22 (by kernel_rfl) rfl #[.agg #[.int .i64 a3_0, .int .i64 a3_1, .int .i64 a3_2, .int .i64 a3_3], .agg #[.int .i64 a4_0, .int .i64 a4_1, .int .i64 a4_2, .int .i64 a4_3]] (by rfl) rfl rfl (by (try simp only [List.map_toArray, List.map_cons, List.map_nil]); first | done | rfl | (simp only [List.length_drop, List.length_take]; rfl)) ?_
       with_reducible refine (stamp_LessTry.calls kj8 a3_0 a3_1 a3_2 a3_3 a4_0 a4_1 a4_2 a4_3 false _ A75.out).mono ?_
       rintro e w80 ⟨rfl, hb⟩
       refine ⟨_, rfl, ?_⟩
       have n0_ := Aside0.mk (blk_below (g := gb134) (o := .cells #[.int .i64 a0_0, .int .i64 a0_1] 40 (0, 0)) (by (with_reducible repeat (first | refine KN ?_ _ | refine KD ?_ | refine KA ?_ _)); exact BK134.out) hb)
       have n1_ := Aside0.mk (blk_below (g := gb135) (o := .cells #[.int .i64 a1_0, .int .i64 a1_1] 40 (0, 0)) (by (with_reducible repeat (first | refine KN ?_ _ | refine KD ?_ | refine KA ?_ _)); exact BK135.out) hb)
       have n2_ := Aside0.mk (blk_below (g := gb136) (o := .cells #[.int .i64 a2_0, .int .i64 a2_1] 40 (0, 0)) (by (with_reducible repeat (first | refine KN ?_ _ | refine KD ?_ | refine KA ?_ _)); exact BK136.out) hb)
       have n3_ := Aside0.mk (blk_below (g := gb137) (o := .cells #[.int .i64 a3_0, .int .i64 a3_1, .int .i64 a3_2, .int .i64 a3_3] 23 (0, 0)) (by (with_reducible repeat (first | refine KN ?_ _ | refine KD ?_ | refine KA ?_ _)); exact BK137.out) hb)
       have n4_ := Aside0.mk (blk_below (g := gb138) (o := .cells #[.int .i64 a4_0, .int .i64 a4_1, .int .i64 a4_2, .int .i64 a4_3] 23 (0, 0)) (by (with_reducible repeat (first | refine KN ?_ _ | refine KD ?_ | refine KA ?_ _)); exact BK138.out) hb)
       have n5_ := Aside0.mk (blk_below (g := gb139) (o := .cells #[.int .i64 a5_0, .int .i64 a5_1, .int .i64 a5_2, .int .i64 a5_3] 23 (0, 0)) (by (with_reducible repeat (first | refine KN ?_ _ | refine KD ?_ | refine KA ?_ _)); exact BK139.out) hb)
       have n6_ := Aside0.mk (below_step (by repeat (first | (with_reducible first | exact HB.out | apply below_alloc | apply pw_below_drewN | apply below_drew1 | refine below_set ?_ GE134.out | refine below_set ?_ GE135.out | refine below_set ?_ GE136.out | refine below_set ?_ GE137.out | refine below_set ?_ GE138.out | refine below_set ?_ GE139.out) | exact HB.out)) hb)
       clear BK134
       clear BK135
       clear BK136
       clear BK137
       clear BK138
       clear BK139
       clear HB
       have BK134 := n0_
       have BK135 := n1_
       have BK136 := n2_
       have BK137 := n3_
       have BK138 := n4_
       have BK139 := n5_
       have HB := n6_
       clear n0_ n1_ n2_ n3_ n4_ n5_ n6_
       (try clear hb)
       (try clear hb2)
       (try clear hk)
       (try clear hi)
       refine hK.out _ _ ⟨(blk_cell BK137.out 0).trans rfl, (blk_cell BK137.out 1).trans rfl, (blk_cell BK137.out 2).trans rfl, (blk_cell BK137.out 3).trans rfl, (blk_cell BK138.out 0).trans rfl, (blk_cell BK138.out 1).trans rfl, (blk_cell BK138.out 2).trans rfl, (blk_cell BK138.out 3).trans rfl⟩ (fun hHeld => ?_)
       clear hK K
       refine norm_ (a' := ?_) ?_ ?_
       rotate_left
       ·show Act.put _ (some 77) _ = _
        simp only [Act.put, S1, S2, S3, i64_w, i32_w]
        rfl
       refine pure_ (i := 18) (N := some 78) (v := ?_) (a' := ?_) M19 rfl rfl (any_of HT_.out (by kernel_rfl)) (fun _ _ _ h => h) (Or.inl ⟨by rfl, ?_⟩) ?_ ?_
       rotate_left
       ·intro w'
        go_simp
        with_reducible rfl
       rotate_left
       ·simp only [Act.put, S1, S2, S3, i64_w, i32_w]
        rfl
       refine pure_ (i := 19) (N := some 79) (v := undef) (a' := ?_) M20 rfl rfl (any_of HT_.out (by kernel_rfl)) (fun _ _ _ h => h) (Or.inr ⟨by rfl, rfl⟩) ?_ ?_
       rotate_left
       ·simp only [Act.put, S1, S2, S3, i64_w, i32_w]
        rfl
       refine pure_ (i := 20) (N := some 80) (v := undef) (a' := ?_) M21 rfl rfl (any_of HT_.out (by kernel_rfl)) (fun _ _ _ h => h) (Or.inr ⟨by rfl, rfl⟩) ?_ ?_
       rotate_left
       ·simp only [Act.put, S1, S2, S3, i64_w, i32_w]
        rfl
       refine pure_ (i := 21) (N := some 81) (v := undef) (a' := ?_) M22 rfl rfl (any_of HT_.out (by kernel_rfl)) (fun _ _ _ h => h) (Or.inr ⟨by rfl, rfl⟩) ?_ ?_
       rotate_left
       ·simp only [Act.put, S1, S2, S3, i64_w, i32_w]
        rfl
       refine pure_ (i := 22) (N := some 82) (v := ?_) (a' := ?_) M23 rfl rfl (any_of HT_.out (by kernel_rfl)) (fun _ _ _ h => h) (Or.inl ⟨by rfl, ?_⟩) ?_ ?_
       rotate_left
       ·intro w'
        go_simp
        with_reducible rfl
       rotate_left
       ·simp only [Act.put, S1, S2, S3, i64_w, i32_w]
        rfl
       refine pure_ (i := 23) (N := some 83) (v := ?_) (a' := ?_) M24 rfl rfl (any_of HT_.out (by kernel_rfl)) (fun _ _ _ h => h) (Or.inl ⟨by rfl, ?_⟩) ?_ ?_
       rotate_left
       ·intro w'
        go_simp
        with_reducible rfl
       rotate_left
       ·simp only [Act.put, S1, S2, S3, i64_w, i32_w]
        rfl
       refine pure_ (i := 24) (N := some 84) (v := ?_) (a' := ?_) M25 rfl rfl (any_of HT_.out (by kernel_rfl)) (fun _ _ _ h => h) (Or.inl ⟨by rfl, ?_⟩) ?_ ?_
       rotate_left
       ·intro w'
        go_simp
        with_reducible rfl
       rotate_left
       ·simp only [Act.put, S1, S2, S3, i64_w, i32_w]
        rfl
       refine pure_ (i := 25) (N := some 85) (v := ?_) (a' := ?_) M26 rfl rfl (any_of HT_.out (by kernel_rfl)) (fun _ _ _ h => h) (Or.inl ⟨by rfl, ?_⟩) ?_ ?_
       rotate_left
       ·intro w'
        go_simp
        with_reducible rfl
       rotate_left
       ·simp only [Act.put, S1, S2, S3, i64_w, i32_w]
        rfl
       refine take_ (i := 26) (N := some 86) (v := ?_) (a' := ?_) M27 rfl rfl (take_ofW HT_.out HW_.out (by kernel_rfl)) (fun _ _ _ h => h) (Or.inl ⟨by rfl, ?_⟩) hHeld ?_ ?_
       rotate_left
       ·rintro w' ⟨s0, s1, s2, s3, s4, s5, s6, s7⟩
        go_simp
        with_reducible rfl
       rotate_left
       ·simp only [Act.put, S1, S2, S3, i64_w, i32_w]
        rfl
       refine take_ (i := 27) (N := some 87) (v := ?_) (a' := ?_) M28 rfl rfl (take_ofW HT_.out HW_.out (by kernel_rfl)) (fun _ _ _ h => h) (Or.inl ⟨by rfl, ?_⟩) hHeld ?_ ?_
       rotate_left
       ·rintro w' ⟨s0, s1, s2, s3, s4, s5, s6, s7⟩
        go_simp
        with_reducible rfl
       rotate_left
       ·simp only [Act.put, S1, S2, S3, i64_w, i32_w]
        rfl
       refine one_ (i := 28) (N := some 88) M29 rfl rfl (one_of HT_.out (by kernel_rfl)) (by decide) (fun K hK => ?_)
       refine goes_ Try.func22 (by kernel_rfl) rfl #[.agg #[.int .i64 a3_0, .int .i64 a3_1, .int .i64 a3_2, .int .i64 a3_3], .agg #[.int .i64 a4_0, .int .i64 a4_1, .int .i64 a4_2, .int .i64 a4_3]] (by rfl) rfl rfl (by (try simp only [List.map_toArray, List.map_cons, List.map_nil]); first | done | rfl | (simp only [List.length_drop, List.length_take]; rfl)) ?_
       with_reducible refine (stamp_LessTry.calls kj8 a3_0 a3_1 a3_2 a3_3 a4_0 a4_1 a4_2 a4_3 false _ A76.out).mono ?_
       rintro e w81 ⟨rfl, hb⟩
       refine ⟨_, rfl, ?_⟩
       have n0_ := Aside0.mk (blk_below (g := gb134) (o := .cells #[.int .i64 a0_0, .int .i64 a0_1] 40 (0, 0)) (by (with_reducible repeat (first | refine KN ?_ _ | refine KD ?_ | refine KA ?_ _)); exact BK134.out) hb)
       have n1_ := Aside0.mk (blk_below (g := gb135) (o := .cells #[.int .i64 a1_0, .int .i64 a1_1] 40 (0, 0)) (by (with_reducible repeat (first | refine KN ?_ _ | refine KD ?_ | refine KA ?_ _)); exact BK135.out) hb)
       have n2_ := Aside0.mk (blk_below (g := gb136) (o := .cells #[.int .i64 a2_0, .int .i64 a2_1] 40 (0, 0)) (by (with_reducible repeat (first | refine KN ?_ _ | refine KD ?_ | refine KA ?_ _)); exact BK136.out) hb)
       have n3_ := Aside0.mk (blk_below (g := gb137) (o := .cells #[.int .i64 a3_0, .int .i64 a3_1, .int .i64 a3_2, .int .i64 a3_3] 23 (0, 0)) (by (with_reducible repeat (first | refine KN ?_ _ | refine KD ?_ | refine KA ?_ _)); exact BK137.out) hb)
       have n4_ := Aside0.mk (blk_below (g := gb138) (o := .cells #[.int .i64 a4_0, .int .i64 a4_1, .int .i64 a4_2, .int .i64 a4_3] 23 (0, 0)) (by (with_reducible repeat (first | refine KN ?_ _ | refine KD ?_ | refine KA ?_ _)); exact BK138.out) hb)
       have n5_ := Aside0.mk (blk_below (g := gb139) (o := .cells #[.int .i64 a5_0, .int .i64 a5_1, .int .i64 a5_2, .int .i64 a5_3] 23 (0, 0)) (by (with_reducible repeat (first | refine KN ?_ _ | refine KD ?_ | refine KA ?_ _)); exact BK139.out) hb)
       have n6_ := Aside0.mk (below_step (by repeat (first | (with_reducible first | exact HB.out | apply below_alloc | apply pw_below_drewN | apply below_drew1 | refine below_set ?_ GE134.out | refine below_set ?_ GE135.out | refine below_set ?_ GE136.out | refine below_set ?_ GE137.out | refine below_set ?_ GE138.out | refine below_set ?_ GE139.out) | exact HB.out)) hb)
       clear BK134
       clear BK135
       clear BK136
       clear BK137
       clear BK138
       clear BK139
       clear HB
       have BK134 := n0_
       have BK135 := n1_
       have BK136 := n2_
       have BK137 := n3_
       have BK138 := n4_
       have BK139 := n5_
       have HB := n6_
       clear n0_ n1_ n2_ n3_ n4_ n5_ n6_
       (try clear hb)
       (try clear hb2)
       (try clear hk)
       (try clear hi)
       refine hK.out _ _ ⟨(blk_cell BK137.out 0).trans rfl, (blk_cell BK137.out 1).trans rfl, (blk_cell BK137.out 2).trans rfl, (blk_cell BK137.out 3).trans rfl, (blk_cell BK138.out 0).trans rfl, (blk_cell BK138.out 1).trans rfl, (blk_cell BK138.out 2).trans rfl, (blk_cell BK138.out 3).trans rfl⟩ (fun hHeld => ?_)
       clear hK K
       refine norm_ (a' := ?_) ?_ ?_
       rotate_left
       ·show Act.put _ (some 88) _ = _
        simp only [Act.put, S1, S2, S3, i64_w, i32_w]
        rfl
       refine pure_ (i := 29) (N := some 89) (v := ?_) (a' := ?_) M30 rfl rfl (any_of HT_.out (by kernel_rfl)) (fun _ _ _ h => h) (Or.inl ⟨by rfl, ?_⟩) ?_ ?_
       rotate_left
       ·intro w'
        go_simp
        with_reducible rfl
       rotate_left
       ·simp only [Act.put, S1, S2, S3, i64_w, i32_w]
        rfl
       refine pure_ (i := 30) (N := some 90) (v := undef) (a' := ?_) M31 rfl rfl (any_of HT_.out (by kernel_rfl)) (fun _ _ _ h => h) (Or.inr ⟨by rfl, rfl⟩) ?_ ?_
       rotate_left
       ·simp only [Act.put, S1, S2, S3, i64_w, i32_w]
        rfl
       refine pure_ (i := 31) (N := some 91) (v := undef) (a' := ?_) M32 rfl rfl (any_of HT_.out (by kernel_rfl)) (fun _ _ _ h => h) (Or.inr ⟨by rfl, rfl⟩) ?_ ?_
       rotate_left
       ·simp only [Act.put, S1, S2, S3, i64_w, i32_w]
        rfl
       refine pure_ (i := 32) (N := some 92) (v := undef) (a' := ?_) M33 rfl rfl (any_of HT_.out (by kernel_rfl)) (fun _ _ _ h => h) (Or.inr ⟨by rfl, rfl⟩) ?_ ?_
       rotate_left
       ·simp only [Act.put, S1, S2, S3, i64_w, i32_w]
        rfl
       refine pure_ (i := 33) (N := some 93) (v := ?_) (a' := ?_) M34 rfl rfl (any_of HT_.out (by kernel_rfl)) (fun _ _ _ h => h) (Or.inl ⟨by rfl, ?_⟩) ?_ ?_
       rotate_left
       ·intro w'
        go_simp
        with_reducible rfl
       rotate_left
       ·simp only [Act.put, S1, S2, S3, i64_w, i32_w]
        rfl
       refine pure_ (i := 34) (N := some 94) (v := ?_) (a' := ?_) M35 rfl rfl (any_of HT_.out (by kernel_rfl)) (fun _ _ _ h => h) (Or.inl ⟨by rfl, ?_⟩) ?_ ?_
       rotate_left
       ·intro w'
        go_simp
        with_reducible rfl
       rotate_left
       ·simp only [Act.put, S1, S2, S3, i64_w, i32_w]
        rfl
       refine pure_ (i := 35) (N := some 95) (v := undef) (a' := ?_) M36 rfl rfl (any_of HT_.out (by kernel_rfl)) (fun _ _ _ h => h) (Or.inr ⟨by rfl, rfl⟩) ?_ ?_
       rotate_left
       ·simp only [Act.put, S1, S2, S3, i64_w, i32_w]
        rfl
       refine pure_ (i := 36) (N := some 96) (v := undef) (a' := ?_) M37 rfl rfl (any_of HT_.out (by kernel_rfl)) (fun _ _ _ h => h) (Or.inr ⟨by rfl, rfl⟩) ?_ ?_
       rotate_left
       ·simp only [Act.put, S1, S2, S3, i64_w, i32_w]
        rfl
       refine pure_ (i := 37) (N := some 97) (v := undef) (a' := ?_) M38 rfl rfl (any_of HT_.out (by kernel_rfl)) (fun _ _ _ h => h) (Or.inr ⟨by rfl, rfl⟩) ?_ ?_
       rotate_left
       ·simp only [Act.put, S1, S2, S3, i64_w, i32_w]
        rfl
       refine pure_ (i := 38) (N := some 98) (v := undef) (a' := ?_) M39 rfl rfl (any_of HT_.out (by kernel_rfl)) (fun _ _ _ h => h) (Or.inr ⟨by rfl, rfl⟩) ?_ ?_
       rotate_left
       ·simp only [Act.put, S1, S2, S3, i64_w, i32_w]
        rfl
       refine pure_ (i := 39) (N := some 99) (v := ?_) (a' := ?_) M40 rfl rfl (any_of HT_.out (by kernel_rfl)) (fun _ _ _ h => h) (Or.inl ⟨by rfl, ?_⟩) ?_ ?_
       rotate_left
       ·intro w'
        go_simp
        with_reducible rfl
       rotate_left
       ·simp only [Act.put, S1, S2, S3, i64_w, i32_w]
        rfl
       refine pure_ (i := 40) (N := some 100) (v := ?_) (a' := ?_) M41 rfl rfl (any_of HT_.out (by kernel_rfl)) (fun _ _ _ h => h) (Or.inl ⟨by rfl, ?_⟩) ?_ ?_
       rotate_left
       ·intro w'
        go_simp
        with_reducible rfl
       rotate_left
       ·simp only [Act.put, S1, S2, S3, i64_w, i32_w]
        rfl
       refine pure_ (i := 41) (N := some 101) (v := ?_) (a' := ?_) M42 rfl rfl (any_of HT_.out (by kernel_rfl)) (fun _ _ _ h => h) (Or.inl ⟨by rfl, ?_⟩) ?_ ?_
       rotate_left
       ·intro w'
        go_simp
        with_reducible rfl
       rotate_left
       ·simp only [Act.put, S1, S2, S3, i64_w, i32_w]
        rfl
       refine pure_ (i := 42) (N := some 14) (v := ?_) (a' := ?_) M43 rfl rfl (any_of HT_.out (by kernel_rfl)) (fun _ _ _ h => h) (Or.inl ⟨by rfl, ?_⟩) ?_ ?_
       rotate_left
       ·intro w'
        go_simp
        with_reducible rfl
       rotate_left
       ·simp only [Act.put, S1, S2, S3, i64_w, i32_w]
        rfl
       refine done_ (done_of HT_.out (by kernel_rfl)) ?_
       try go_wp2
       go_meet
       case rel => exact ⟨_, (!false), (by first | rfl | (simp; done) | (simp [*]; done)), H', ⟨by have := HJ8.out; first | omega | exact Nat.le_refl _⟩, ⟨by (with_reducible repeat (first | refine KN ?_ _ | refine KD ?_ | refine KA ?_ _)); exact BK134.out⟩, ⟨by (with_reducible repeat (first | refine KN ?_ _ | refine KD ?_ | refine KA ?_ _)); exact BK135.out⟩, ⟨by (with_reducible repeat (first | refine KN ?_ _ | refine KD ?_ | refine KA ?_ _)); exact BK136.out⟩, ⟨by (with_reducible repeat (first | refine KN ?_ _ | refine KD ?_ | refine KA ?_ _)); exact BK137.out⟩, ⟨by (with_reducible repeat (first | refine KN ?_ _ | refine KD ?_ | refine KA ?_ _)); exact BK138.out⟩, ⟨by (with_reducible repeat (first | refine KN ?_ _ | refine KD ?_ | refine KA ?_ _)); exact BK139.out⟩, ⟨by repeat (first | (with_reducible first | exact HB.out | apply below_alloc | apply pw_below_drewN | apply below_drew1 | refine below_set ?_ GE134.out | refine below_set ?_ GE135.out | refine below_set ?_ GE136.out | refine below_set ?_ GE137.out | refine below_set ?_ GE138.out | refine below_set ?_ GE139.out) | exact HB.out)⟩⟩
      ·rw [if_neg c74] at H
       have c74b0 : ((a3_0 == a4_0 && (a3_1 == a4_1 && (a3_2 == a4_2 && (a3_3 == a4_3)))) == (!t162)) = false := by simpa using c74
       (try (have c74b1 : decide ((a3_0 == a4_0 && (a3_1 == a4_1 && (a3_2 == a4_2 && (a3_3 == a4_3)))) = (!t162)) = false := by simpa using c74))
       (try (have c74b2 : ((a3_0 == a4_0 && (a3_1 == a4_1 && (a3_2 == a4_2 && (a3_3 == a4_3)))) == (!t162)) = false := by simpa using c74))
       (try (have c74b3 : ¬ ((a3_0 == a4_0 && (a3_1 == a4_1 && (a3_2 == a4_2 && (a3_3 == a4_3)))) = (!t162)) := by simpa using c74))
       clear c74
       exact (NT.no_ (by repeat (first | exact NT.none_ | exact NT.false_ | exact NT.not_ | exact j1_nt0 _ _ _ _ _ | exact j1_nt1 _ _ _ _ _ _ | exact j0_nt2 _ _ _ _ _ _ _ _ _ _ _ _ _ _ _ _ _ | exact j1_nt3 _ _ _ _ _ _ | refine NT.bind_ fun _ => ?_ | refine NT.no_if ?_ | refine NT.yes_if ?_ | refine NT.ite_ ?_ ?_)) H hr_.out).elim
    case rest =>
     clear HC49
     try clear c2
     try clear p2
     try clear c5
     try clear c7
     try clear c22
     try clear c51
     try clear c52
     try clear c52b0
     try clear c52b1
     try clear c52b2
     try clear c74
     try clear c74b0
     try clear c74b1
     try clear c74b2
     obtain ⟨kq, x14_48, rfl, HA, HJ48, BK134, BK135, BK136, BK137, BK138, BK139, HB⟩ := hcut
     cases kq with
     | zero => exact absurd HA.out (by simp [j1])
     | succ kj48 =>
      have H := HA.out
      clear HA
      simp only [j1] at H
      replace H := Option.bind_eq_some_iff.mp H
      obtain ⟨⟨t167, t168⟩, A820, H⟩ := H
      replace H : (if x13_8 = true then (if x14_48 = true then (if (t167 == a0_0 && (t168 == a0_1)) = true then ((stamp_Less.f kj48 t167 t168 a0_0 a0_1).bind fun t170 => (if t170 = true then (some false) else ((stamp_Less.f kj48 t167 t168 a1_0 a1_1).bind fun t171 => (some (!t171))))) else (if (t167 == a1_0 && (t168 == a1_1)) = true then ((stamp_Less.f kj48 t167 t168 a0_0 a0_1).bind fun t172 => (if t172 = true then (some false) else ((stamp_Less.f kj48 t167 t168 a1_0 a1_1).bind fun t173 => (some (!t173))))) else (some false))) else (some false)) else (some false)) = some r := H
      have A82 := Aside0.mk A820
      clear A820
      by_cases c83 : x13_8 = true
      ·subst c83
       have H1 : (if x14_48 = true then (if (t167 == a0_0 && (t168 == a0_1)) = true then ((stamp_Less.f kj48 t167 t168 a0_0 a0_1).bind fun t170 => (if t170 = true then (some false) else ((stamp_Less.f kj48 t167 t168 a1_0 a1_1).bind fun t171 => (some (!t171))))) else (if (t167 == a1_0 && (t168 == a1_1)) = true then ((stamp_Less.f kj48 t167 t168 a0_0 a0_1).bind fun t172 => (if t172 = true then (some false) else ((stamp_Less.f kj48 t167 t168 a1_0 a1_1).bind fun t173 => (some (!t173))))) else (some false))) else (some false)) = some r := by rw [if_pos rfl] at H; exact H
       clear H
       have H := H1
       clear H1
       by_cases c84 : x14_48 = true
       ·subst c84
        have H1 : (if (t167 == a0_0 && (t168 == a0_1)) = true then ((stamp_Less.f kj48 t167 t168 a0_0 a0_1).bind fun t170 => (if t170 = true then (some false) else ((stamp_Less.f kj48 t167 t168 a1_0 a1_1).bind fun t171 => (some (!t171))))) else (if (t167 == a1_0 && (t168 == a1_1)) = true then ((stamp_Less.f kj48 t167 t168 a0_0 a0_1).bind fun t172 => (if t172 = true then (some false) else ((stamp_Less.f kj48 t167 t168 a1_0 a1_1).bind fun t173 => (some (!t173))))) else (some false))) = some r := by rw [if_pos rfl] at H; exact H
        clear H
        have H := H1
        clear H1
        by_cases c85 : (t167 == a0_0 && (t168 == a0_1)) = true
        ·rw [if_pos c85] at H
         have c85b0 : (t167 == a0_0 && (t168 == a0_1)) = true := c85
         (try (have c85b1 : decide (t167 = a0_0 && (t168 == a0_1)) = true := by simpa using c85))
         (try (have c85b2 : (t167 == a0_0 && (t168 == a0_1)) = true := by simpa using c85))
         clear c85
         replace H := Option.bind_eq_some_iff.mp H
         obtain ⟨t170, A860, H⟩ := H
         replace H : (if t170 = true then (some false) else ((stamp_Less.f kj48 t167 t168 a1_0 a1_1).bind fun t171 => (some (!t171)))) = some r := H
         have A86 := Aside0.mk A860
         clear A860
         by_cases c87 : t170 = true
         ·subst c87
          have H1 : (some false) = some r := by rw [if_pos rfl] at H; exact H
          clear H
          have H := H1
          clear H1
          exact absurd ((Option.some.inj H).trans hr_.out) (by decide)
         ·replace c87 := Bool.eq_false_iff.mpr c87
          subst c87
          have H1 : ((stamp_Less.f kj48 t167 t168 a1_0 a1_1).bind fun t171 => (some (!t171))) = some r := by rw [if_neg (show ¬ (false = true) by decide)] at H; exact H
          clear H
          have H := H1
          clear H1
          replace H := Option.bind_eq_some_iff.mp H
          obtain ⟨t171, A880, H⟩ := H
          replace H : (some (!t171)) = some r := H
          have A88 := Aside0.mk A880
          clear A880
          obtain rfl := Option.some.inj H
          have hnb89 := NB134_135.out
          have hnc89 := NB135_134.out
          have hnb90 := NB134_136.out
          have hnc90 := NB136_134.out
          have hnb91 := NB134_137.out
          have hnc91 := NB137_134.out
          have hnb92 := NB134_138.out
          have hnc92 := NB138_134.out
          have hnb93 := NB134_139.out
          have hnc93 := NB139_134.out
          have hcz94_0 : wc.cell? ⟨gb134, 0, none⟩ = some (.int .i64 a0_0) := (blk_cell BK134.out 0).trans rfl
          have hcz94_1 : wc.cell? ⟨gb134, 1, none⟩ = some (.int .i64 a0_1) := (blk_cell BK134.out 1).trans rfl
          have hfz94_0 := blk_frozen BK134.out 0
          have hfz94_1 := blk_frozen BK134.out 1
          have hnb95 := NB135_136.out
          have hnc95 := NB136_135.out
          have hnb96 := NB135_137.out
          have hnc96 := NB137_135.out
          have hnb97 := NB135_138.out
          have hnc97 := NB138_135.out
          have hnb98 := NB135_139.out
          have hnc98 := NB139_135.out
          have hcz99_0 : wc.cell? ⟨gb135, 0, none⟩ = some (.int .i64 a1_0) := (blk_cell BK135.out 0).trans rfl
          have hcz99_1 : wc.cell? ⟨gb135, 1, none⟩ = some (.int .i64 a1_1) := (blk_cell BK135.out 1).trans rfl
          have hfz99_0 := blk_frozen BK135.out 0
          have hfz99_1 := blk_frozen BK135.out 1
          go_wp2_with (first | ((with_reducible refine gate_callee (f := 20) rfl ?_); refine goesL_ (some 104) rfl rfl Try.func20 (by kernel_rfl) rfl #[.agg #[.int .i64 a0_0, .int .i64 a0_1], .agg #[.int .i64 a1_0, .int .i64 a1_1]] rfl (by (try simp only [List.map_toArray, List.map_cons, List.map_nil]); first | done | rfl | (simp only [List.length_drop, List.length_take]; rfl)) ?_; (with_reducible refine (stamp_Max.calls kj48 a0_0 a0_1 a1_0 a1_1 t167 t168 _ A82.out).mono ?_); rintro e w100 ⟨rfl, hb⟩; refine ⟨_, rfl, ?_⟩; have n0_ := Aside0.mk (blk_below (g := gb134) (o := .cells #[.int .i64 a0_0, .int .i64 a0_1] 40 (0, 0)) (by (with_reducible repeat (first | refine KN ?_ _ | refine KD ?_ | refine KA ?_ _)); exact BK134.out) hb); have n1_ := Aside0.mk (blk_below (g := gb135) (o := .cells #[.int .i64 a1_0, .int .i64 a1_1] 40 (0, 0)) (by (with_reducible repeat (first | refine KN ?_ _ | refine KD ?_ | refine KA ?_ _)); exact BK135.out) hb); have n2_ := Aside0.mk (blk_below (g := gb136) (o := .cells #[.int .i64 a2_0, .int .i64 a2_1] 40 (0, 0)) (by (with_reducible repeat (first | refine KN ?_ _ | refine KD ?_ | refine KA ?_ _)); exact BK136.out) hb); have n3_ := Aside0.mk (blk_below (g := gb137) (o := .cells #[.int .i64 a3_0, .int .i64 a3_1, .int .i64 a3_2, .int .i64 a3_3] 23 (0, 0)) (by (with_reducible repeat (first | refine KN ?_ _ | refine KD ?_ | refine KA ?_ _)); exact BK137.out) hb); have n4_ := Aside0.mk (blk_below (g := gb138) (o := .cells #[.int .i64 a4_0, .int .i64 a4_1, .int .i64 a4_2, .int .i64 a4_3] 23 (0, 0)) (by (with_reducible repeat (first | refine KN ?_ _ | refine KD ?_ | refine KA ?_ _)); exact BK138.out) hb); have n5_ := Aside0.mk (blk_below (g := gb139) (o := .cells #[.int .i64 a5_0, .int .i64 a5_1, .int .i64 a5_2, .int .i64 a5_3] 23 (0, 0)) (by (with_reducible repeat (first | refine KN ?_ _ | refine KD ?_ | refine KA ?_ _)); exact BK139.out) hb); have n6_ := Aside0.mk (below_step (by repeat (first | (with_reducible first | exact HB.out | apply below_alloc | apply pw_below_drewN | apply below_drew1 | refine below_set ?_ GE134.out | refine below_set ?_ GE135.out | refine below_set ?_ GE136.out | refine below_set ?_ GE137.out | refine below_set ?_ GE138.out | refine below_set ?_ GE139.out) | exact HB.out)) hb); clear BK134; clear BK135; clear BK136; clear BK137; clear BK138; clear BK139; clear HB; have BK134 := n0_; have BK135 := n1_; have BK136 := n2_; have BK137 := n3_; have BK138 := n4_; have BK139 := n5_; have HB := n6_; clear n0_ n1_ n2_ n3_ n4_ n5_ n6_; (try clear hb); (try clear hb2); (try clear hk); (try clear hi)) | ((with_reducible refine gate_dst (N := 15) rfl ?_); refine box_event ?hg (N := 15) ?hd (cs := #[.int .i64 0, .int .i64 0]) (t := 40) ?hr ?_; (case hd => rfl); (case hg => rfl); (case hr => first | (go_simp; done) | (go_simp; rfl)); intro gb169 hg w101 hbox hb; have n0_ := Aside0.mk (blk_below (g := gb134) (o := .cells #[.int .i64 a0_0, .int .i64 a0_1] 40 (0, 0)) (by (with_reducible repeat (first | refine KN ?_ _ | refine KD ?_ | refine KA ?_ _)); exact BK134.out) hb); have n1_ := Aside0.mk (blk_below (g := gb135) (o := .cells #[.int .i64 a1_0, .int .i64 a1_1] 40 (0, 0)) (by (with_reducible repeat (first | refine KN ?_ _ | refine KD ?_ | refine KA ?_ _)); exact BK135.out) hb); have n2_ := Aside0.mk (blk_below (g := gb136) (o := .cells #[.int .i64 a2_0, .int .i64 a2_1] 40 (0, 0)) (by (with_reducible repeat (first | refine KN ?_ _ | refine KD ?_ | refine KA ?_ _)); exact BK136.out) hb); have n3_ := Aside0.mk (blk_below (g := gb137) (o := .cells #[.int .i64 a3_0, .int .i64 a3_1, .int .i64 a3_2, .int .i64 a3_3] 23 (0, 0)) (by (with_reducible repeat (first | refine KN ?_ _ | refine KD ?_ | refine KA ?_ _)); exact BK137.out) hb); have n4_ := Aside0.mk (blk_below (g := gb138) (o := .cells #[.int .i64 a4_0, .int .i64 a4_1, .int .i64 a4_2, .int .i64 a4_3] 23 (0, 0)) (by (with_reducible repeat (first | refine KN ?_ _ | refine KD ?_ | refine KA ?_ _)); exact BK138.out) hb); have n5_ := Aside0.mk (blk_below (g := gb139) (o := .cells #[.int .i64 a5_0, .int .i64 a5_1, .int .i64 a5_2, .int .i64 a5_3] 23 (0, 0)) (by (with_reducible repeat (first | refine KN ?_ _ | refine KD ?_ | refine KA ?_ _)); exact BK139.out) hb); have n6_ := Aside0.mk (below_step (by repeat (first | (with_reducible first | exact HB.out | apply below_alloc | apply pw_below_drewN | apply below_drew1 | refine below_set ?_ GE134.out | refine below_set ?_ GE135.out | refine below_set ?_ GE136.out | refine below_set ?_ GE137.out | refine below_set ?_ GE138.out | refine below_set ?_ GE139.out) | exact HB.out)) hb); have n7_ := Aside0.mk (hbox); have n8_ := Aside0.mk ((by rw [hg]; exact (below_size (by repeat (first | (with_reducible first | exact HB.out | apply below_alloc | apply pw_below_drewN | apply below_drew1 | refine below_set ?_ GE134.out | refine below_set ?_ GE135.out | refine below_set ?_ GE136.out | refine below_set ?_ GE137.out | refine below_set ?_ GE138.out | refine below_set ?_ GE139.out) | exact HB.out))) : w.heap.size ≤ gb169)); have n9_ := Aside0.mk ((by rw [hg]; exact (below_size (by repeat (first | (with_reducible first | exact HB.out | apply below_alloc | apply pw_below_drewN | apply below_drew1 | refine below_set ?_ GE134.out | refine below_set ?_ GE135.out | refine below_set ?_ GE136.out | refine below_set ?_ GE137.out | refine below_set ?_ GE138.out | refine below_set ?_ GE139.out) | exact HB.out))) : w.heap.size ≤ gb169)); have n10_ := Aside0.mk ((by rw [hg]; exact Nat.ne_of_lt (blk_lt (g := gb134) (o := .cells #[.int .i64 a0_0, .int .i64 a0_1] 40 (0, 0)) (by (with_reducible repeat (first | refine KN ?_ _ | refine KD ?_ | refine KA ?_ _)); exact BK134.out)) : gb134 ≠ gb169)); have n11_ := Aside0.mk ((by rw [hg]; exact Nat.ne_of_gt (blk_lt (g := gb134) (o := .cells #[.int .i64 a0_0, .int .i64 a0_1] 40 (0, 0)) (by (with_reducible repeat (first | refine KN ?_ _ | refine KD ?_ | refine KA ?_ _)); exact BK134.out)) : gb169 ≠ gb134)); have n12_ := Aside0.mk ((by rw [hg]; exact Nat.ne_of_lt (blk_lt (g := gb135) (o := .cells #[.int .i64 a1_0, .int .i64 a1_1] 40 (0, 0)) (by (with_reducible repeat (first | refine KN ?_ _ | refine KD ?_ | refine KA ?_ _)); exact BK135.out)) : gb135 ≠ gb169)); have n13_ := Aside0.mk ((by rw [hg]; exact Nat.ne_of_gt (blk_lt (g := gb135) (o := .cells #[.int .i64 a1_0, .int .i64 a1_1] 40 (0, 0)) (by (with_reducible repeat (first | refine KN ?_ _ | refine KD ?_ | refine KA ?_ _)); exact BK135.out)) : gb169 ≠ gb135)); have n14_ := Aside0.mk ((by rw [hg]; exact Nat.ne_of_lt (blk_lt (g := gb136) (o := .cells #[.int .i64 a2_0, .int .i64 a2_1] 40 (0, 0)) (by (with_reducible repeat (first | refine KN ?_ _ | refine KD ?_ | refine KA ?_ _)); exact BK136.out)) : gb136 ≠ gb169)); have n15_ := Aside0.mk ((by rw [hg]; exact Nat.ne_of_gt (blk_lt (g := gb136) (o := .cells #[.int .i64 a2_0, .int .i64 a2_1] 40 (0, 0)) (by (with_reducible repeat (first | refine KN ?_ _ | refine KD ?_ | refine KA ?_ _)); exact BK136.out)) : gb169 ≠ gb136)); have n16_ := Aside0.mk ((by rw [hg]; exact Nat.ne_of_lt (blk_lt (g := gb137) (o := .cells #[.int .i64 a3_0, .int .i64 a3_1, .int .i64 a3_2, .int .i64 a3_3] 23 (0, 0)) (by (with_reducible repeat (first | refine KN ?_ _ | refine KD ?_ | refine KA ?_ _)); exact BK137.out)) : gb137 ≠ gb169)); have n17_ := Aside0.mk ((by rw [hg]; exact Nat.ne_of_gt (blk_lt (g := gb137) (o := .cells #[.int .i64 a3_0, .int .i64 a3_1, .int .i64 a3_2, .int .i64 a3_3] 23 (0, 0)) (by (with_reducible repeat (first | refine KN ?_ _ | refine KD ?_ | refine KA ?_ _)); exact BK137.out)) : gb169 ≠ gb137)); have n18_ := Aside0.mk ((by rw [hg]; exact Nat.ne_of_lt (blk_lt (g := gb138) (o := .cells #[.int .i64 a4_0, .int .i64 a4_1, .int .i64 a4_2, .int .i64 a4_3] 23 (0, 0)) (by (with_reducible repeat (first | refine KN ?_ _ | refine KD ?_ | refine KA ?_ _)); exact BK138.out)) : gb138 ≠ gb169)); have n19_ := Aside0.mk ((by rw [hg]; exact Nat.ne_of_gt (blk_lt (g := gb138) (o := .cells #[.int .i64 a4_0, .int .i64 a4_1, .int .i64 a4_2, .int .i64 a4_3] 23 (0, 0)) (by (with_reducible repeat (first | refine KN ?_ _ | refine KD ?_ | refine KA ?_ _)); exact BK138.out)) : gb169 ≠ gb138)); have n20_ := Aside0.mk ((by rw [hg]; exact Nat.ne_of_lt (blk_lt (g := gb139) (o := .cells #[.int .i64 a5_0, .int .i64 a5_1, .int .i64 a5_2, .int .i64 a5_3] 23 (0, 0)) (by (with_reducible repeat (first | refine KN ?_ _ | refine KD ?_ | refine KA ?_ _)); exact BK139.out)) : gb139 ≠ gb169)); have n21_ := Aside0.mk ((by rw [hg]; exact Nat.ne_of_gt (blk_lt (g := gb139) (o := .cells #[.int .i64 a5_0, .int .i64 a5_1, .int .i64 a5_2, .int .i64 a5_3] 23 (0, 0)) (by (with_reducible repeat (first | refine KN ?_ _ | refine KD ?_ | refine KA ?_ _)); exact BK139.out)) : gb169 ≠ gb139)); clear BK134; clear BK135; clear BK136; clear BK137; clear BK138; clear BK139; clear HB; have BK134 := n0_; have BK135 := n1_; have BK136 := n2_; have BK137 := n3_; have BK138 := n4_; have BK139 := n5_; have HB := n6_; have BK169 := n7_; have GW169 := n8_; have GE169 := n9_; have NB134_169 := n10_; have NB169_134 := n11_; have NB135_169 := n12_; have NB169_135 := n13_; have NB136_169 := n14_; have NB169_136 := n15_; have NB137_169 := n16_; have NB169_137 := n17_; have NB138_169 := n18_; have NB169_138 := n19_; have NB139_169 := n20_; have NB169_139 := n21_; clear n0_ n1_ n2_ n3_ n4_ n5_ n6_ n7_ n8_ n9_ n10_ n11_ n12_ n13_ n14_ n15_ n16_ n17_ n18_ n19_ n20_ n21_; clear hb hbox hg; have hnb102 := NB169_134.out; have hnc102 := NB134_169.out; have hnb103 := NB169_135.out; have hnc103 := NB135_169.out; have hnb104 := NB169_136.out; have hnc104 := NB136_169.out; have hnb105 := NB169_137.out; have hnc105 := NB137_169.out; have hnb106 := NB169_138.out; have hnc106 := NB138_169.out; have hnb107 := NB169_139.out; have hnc107 := NB139_169.out; have hcz108_0 : w101.cell? ⟨gb169, 0, none⟩ = some (.int .i64 0) := (blk_cell BK169.out 0).trans rfl; have hcz108_1 : w101.cell? ⟨gb169, 1, none⟩ = some (.int .i64 0) := (blk_cell BK169.out 1).trans rfl; have hfz108_0 := blk_frozen BK169.out 0; have hfz108_1 := blk_frozen BK169.out 1; have hcz109_0 : w101.cell? ⟨gb134, 0, none⟩ = some (.int .i64 a0_0) := (blk_cell BK134.out 0).trans rfl; have hcz109_1 : w101.cell? ⟨gb134, 1, none⟩ = some (.int .i64 a0_1) := (blk_cell BK134.out 1).trans rfl; have hfz109_0 := blk_frozen BK134.out 0; have hfz109_1 := blk_frozen BK134.out 1) | (go_at_call 18; (with_reducible refine (stamp_Less.calls kj48 t167 t168 a0_0 a0_1 false _ A86.out).mono ?_); rintro e w110 ⟨rfl, hb⟩; have n0_ := Aside0.mk (blk_below (g := gb134) (o := .cells #[.int .i64 a0_0, .int .i64 a0_1] 40 (0, 0)) (by (with_reducible repeat (first | refine KN ?_ _ | refine KD ?_ | refine KA ?_ _)); refine blk_far ?_ NB134_169.out _; (with_reducible repeat (first | refine KN ?_ _ | refine KD ?_ | refine KA ?_ _)); refine blk_far ?_ NB134_169.out _; (with_reducible repeat (first | refine KN ?_ _ | refine KD ?_ | refine KA ?_ _)); exact BK134.out) hb); have n1_ := Aside0.mk (blk_below (g := gb135) (o := .cells #[.int .i64 a1_0, .int .i64 a1_1] 40 (0, 0)) (by (with_reducible repeat (first | refine KN ?_ _ | refine KD ?_ | refine KA ?_ _)); refine blk_far ?_ NB135_169.out _; (with_reducible repeat (first | refine KN ?_ _ | refine KD ?_ | refine KA ?_ _)); refine blk_far ?_ NB135_169.out _; (with_reducible repeat (first | refine KN ?_ _ | refine KD ?_ | refine KA ?_ _)); exact BK135.out) hb); have n2_ := Aside0.mk (blk_below (g := gb136) (o := .cells #[.int .i64 a2_0, .int .i64 a2_1] 40 (0, 0)) (by (with_reducible repeat (first | refine KN ?_ _ | refine KD ?_ | refine KA ?_ _)); refine blk_far ?_ NB136_169.out _; (with_reducible repeat (first | refine KN ?_ _ | refine KD ?_ | refine KA ?_ _)); refine blk_far ?_ NB136_169.out _; (with_reducible repeat (first | refine KN ?_ _ | refine KD ?_ | refine KA ?_ _)); exact BK136.out) hb); have n3_ := Aside0.mk (blk_below (g := gb137) (o := .cells #[.int .i64 a3_0, .int .i64 a3_1, .int .i64 a3_2, .int .i64 a3_3] 23 (0, 0)) (by (with_reducible repeat (first | refine KN ?_ _ | refine KD ?_ | refine KA ?_ _)); refine blk_far ?_ NB137_169.out _; (with_reducible repeat (first | refine KN ?_ _ | refine KD ?_ | refine KA ?_ _)); refine blk_far ?_ NB137_169.out _; (with_reducible repeat (first | refine KN ?_ _ | refine KD ?_ | refine KA ?_ _)); exact BK137.out) hb); have n4_ := Aside0.mk (blk_below (g := gb138) (o := .cells #[.int .i64 a4_0, .int .i64 a4_1, .int .i64 a4_2, .int .i64 a4_3] 23 (0, 0)) (by (with_reducible repeat (first | refine KN ?_ _ | refine KD ?_ | refine KA ?_ _)); refine blk_far ?_ NB138_169.out _; (with_reducible repeat (first | refine KN ?_ _ | refine KD ?_ | refine KA ?_ _)); refine blk_far ?_ NB138_169.out _; (with_reducible repeat (first | refine KN ?_ _ | refine KD ?_ | refine KA ?_ _)); exact BK138.out) hb); have n5_ := Aside0.mk (blk_below (g := gb139) (o := .cells #[.int .i64 a5_0, .int .i64 a5_1, .int .i64 a5_2, .int .i64 a5_3] 23 (0, 0)) (by (with_reducible repeat (first | refine KN ?_ _ | refine KD ?_ | refine KA ?_ _)); refine blk_far ?_ NB139_169.out _; (with_reducible repeat (first | refine KN ?_ _ | refine KD ?_ | refine KA ?_ _)); refine blk_far ?_ NB139_169.out _; (with_reducible repeat (first | refine KN ?_ _ | refine KD ?_ | refine KA ?_ _)); exact BK139.out) hb); have n6_ := Aside0.mk (blk_below (g := gb169) (o := .cells #[.int .i64 t167, .int .i64 t168] 40 (0, 0)) (by (with_reducible repeat (first | refine KN ?_ _ | refine KD ?_ | refine KA ?_ _)); refine blk_put (cs := #[.int .i64 t167, .int .i64 0]) ?_ 1 _ rfl; (with_reducible repeat (first | refine KN ?_ _ | refine KD ?_ | refine KA ?_ _)); refine blk_put (cs := #[.int .i64 0, .int .i64 0]) ?_ 0 _ rfl; (with_reducible repeat (first | refine KN ?_ _ | refine KD ?_ | refine KA ?_ _)); exact BK169.out) hb); have n7_ := Aside0.mk (below_step (by repeat (first | (with_reducible first | exact HB.out | apply below_alloc | apply pw_below_drewN | apply below_drew1 | refine below_set ?_ GE134.out | refine below_set ?_ GE135.out | refine below_set ?_ GE136.out | refine below_set ?_ GE137.out | refine below_set ?_ GE138.out | refine below_set ?_ GE139.out | refine below_set ?_ GE169.out) | exact HB.out)) hb); clear BK134; clear BK135; clear BK136; clear BK137; clear BK138; clear BK139; clear BK169; clear HB; have BK134 := n0_; have BK135 := n1_; have BK136 := n2_; have BK137 := n3_; have BK138 := n4_; have BK139 := n5_; have BK169 := n6_; have HB := n7_; clear n0_ n1_ n2_ n3_ n4_ n5_ n6_ n7_; (try clear hb); (try clear hb2); (try clear hk); (try clear hi); have hcz111_0 : w110.cell? ⟨gb169, 0, none⟩ = some (.int .i64 t167) := (blk_cell BK169.out 0).trans rfl; have hcz111_1 : w110.cell? ⟨gb169, 1, none⟩ = some (.int .i64 t168) := (blk_cell BK169.out 1).trans rfl; have hfz111_0 := blk_frozen BK169.out 0; have hfz111_1 := blk_frozen BK169.out 1; have hcz112_0 : w110.cell? ⟨gb135, 0, none⟩ = some (.int .i64 a1_0) := (blk_cell BK135.out 0).trans rfl; have hcz112_1 : w110.cell? ⟨gb135, 1, none⟩ = some (.int .i64 a1_1) := (blk_cell BK135.out 1).trans rfl; have hfz112_0 := blk_frozen BK135.out 0; have hfz112_1 := blk_frozen BK135.out 1) | (go_at_call 18; (with_reducible refine (stamp_Less.calls kj48 t167 t168 a1_0 a1_1 t171 _ A88.out).mono ?_); rintro e w113 ⟨rfl, hb⟩; have n0_ := Aside0.mk (blk_below (g := gb134) (o := .cells #[.int .i64 a0_0, .int .i64 a0_1] 40 (0, 0)) (by (with_reducible repeat (first | refine KN ?_ _ | refine KD ?_ | refine KA ?_ _)); exact BK134.out) hb); have n1_ := Aside0.mk (blk_below (g := gb135) (o := .cells #[.int .i64 a1_0, .int .i64 a1_1] 40 (0, 0)) (by (with_reducible repeat (first | refine KN ?_ _ | refine KD ?_ | refine KA ?_ _)); exact BK135.out) hb); have n2_ := Aside0.mk (blk_below (g := gb136) (o := .cells #[.int .i64 a2_0, .int .i64 a2_1] 40 (0, 0)) (by (with_reducible repeat (first | refine KN ?_ _ | refine KD ?_ | refine KA ?_ _)); exact BK136.out) hb); have n3_ := Aside0.mk (blk_below (g := gb137) (o := .cells #[.int .i64 a3_0, .int .i64 a3_1, .int .i64 a3_2, .int .i64 a3_3] 23 (0, 0)) (by (with_reducible repeat (first | refine KN ?_ _ | refine KD ?_ | refine KA ?_ _)); exact BK137.out) hb); have n4_ := Aside0.mk (blk_below (g := gb138) (o := .cells #[.int .i64 a4_0, .int .i64 a4_1, .int .i64 a4_2, .int .i64 a4_3] 23 (0, 0)) (by (with_reducible repeat (first | refine KN ?_ _ | refine KD ?_ | refine KA ?_ _)); exact BK138.out) hb); have n5_ := Aside0.mk (blk_below (g := gb139) (o := .cells #[.int .i64 a5_0, .int .i64 a5_1, .int .i64 a5_2, .int .i64 a5_3] 23 (0, 0)) (by (with_reducible repeat (first | refine KN ?_ _ | refine KD ?_ | refine KA ?_ _)); exact BK139.out) hb); have n6_ := Aside0.mk (blk_below (g := gb169) (o := .cells #[.int .i64 t167, .int .i64 t168] 40 (0, 0)) (by (with_reducible repeat (first | refine KN ?_ _ | refine KD ?_ | refine KA ?_ _)); exact BK169.out) hb); have n7_ := Aside0.mk (below_step (by repeat (first | (with_reducible first | exact HB.out | apply below_alloc | apply pw_below_drewN | apply below_drew1 | refine below_set ?_ GE134.out | refine below_set ?_ GE135.out | refine below_set ?_ GE136.out | refine below_set ?_ GE137.out | refine below_set ?_ GE138.out | refine below_set ?_ GE139.out | refine below_set ?_ GE169.out) | exact HB.out)) hb); clear BK134; clear BK135; clear BK136; clear BK137; clear BK138; clear BK139; clear BK169; clear HB; have BK134 := n0_; have BK135 := n1_; have BK136 := n2_; have BK137 := n3_; have BK138 := n4_; have BK139 := n5_; have BK169 := n6_; have HB := n7_; clear n0_ n1_ n2_ n3_ n4_ n5_ n6_ n7_; (try clear hb); (try clear hb2); (try clear hk); (try clear hi)))
          go_ret
          exact ⟨by first | rfl | (simp [errW_none, errW_some] <;> rfl) | (simp [*, errW_none, errW_some] <;> rfl), by repeat (first | (with_reducible first | exact HB.out | apply below_alloc | apply pw_below_drewN | apply below_drew1 | refine below_set ?_ GE134.out | refine below_set ?_ GE135.out | refine below_set ?_ GE136.out | refine below_set ?_ GE137.out | refine below_set ?_ GE138.out | refine below_set ?_ GE139.out | refine below_set ?_ GE169.out) | exact HB.out)⟩
        ·rw [if_neg c85] at H
         have c85b0 : (t167 == a0_0 && (t168 == a0_1)) = false := by simpa using c85
         (try (have c85b1 : decide (t167 = a0_0 && (t168 == a0_1)) = false := by simpa using c85))
         (try (have c85b2 : (t167 == a0_0 && (t168 == a0_1)) = false := by simpa using c85))
         (try (have c85b3 : ¬ (t167 = a0_0 && (t168 == a0_1)) := by simpa using c85))
         clear c85
         by_cases c114 : (t167 == a1_0 && (t168 == a1_1)) = true
         ·rw [if_pos c114] at H
          have c114b0 : (t167 == a1_0 && (t168 == a1_1)) = true := c114
          (try (have c114b1 : decide (t167 = a1_0 && (t168 == a1_1)) = true := by simpa using c114))
          (try (have c114b2 : (t167 == a1_0 && (t168 == a1_1)) = true := by simpa using c114))
          clear c114
          replace H := Option.bind_eq_some_iff.mp H
          obtain ⟨t172, A1150, H⟩ := H
          replace H : (if t172 = true then (some false) else ((stamp_Less.f kj48 t167 t168 a1_0 a1_1).bind fun t173 => (some (!t173)))) = some r := H
          have A115 := Aside0.mk A1150
          clear A1150
          by_cases c116 : t172 = true
          ·subst c116
           have H1 : (some false) = some r := by rw [if_pos rfl] at H; exact H
           clear H
           have H := H1
           clear H1
           exact absurd ((Option.some.inj H).trans hr_.out) (by decide)
          ·replace c116 := Bool.eq_false_iff.mpr c116
           subst c116
           have H1 : ((stamp_Less.f kj48 t167 t168 a1_0 a1_1).bind fun t173 => (some (!t173))) = some r := by rw [if_neg (show ¬ (false = true) by decide)] at H; exact H
           clear H
           have H := H1
           clear H1
           replace H := Option.bind_eq_some_iff.mp H
           obtain ⟨t173, A1170, H⟩ := H
           replace H : (some (!t173)) = some r := H
           have A117 := Aside0.mk A1170
           clear A1170
           obtain rfl := Option.some.inj H
           have hnb118 := NB134_135.out
           have hnc118 := NB135_134.out
           have hnb119 := NB134_136.out
           have hnc119 := NB136_134.out
           have hnb120 := NB134_137.out
           have hnc120 := NB137_134.out
           have hnb121 := NB134_138.out
           have hnc121 := NB138_134.out
           have hnb122 := NB134_139.out
           have hnc122 := NB139_134.out
           have hcz123_0 : wc.cell? ⟨gb134, 0, none⟩ = some (.int .i64 a0_0) := (blk_cell BK134.out 0).trans rfl
           have hcz123_1 : wc.cell? ⟨gb134, 1, none⟩ = some (.int .i64 a0_1) := (blk_cell BK134.out 1).trans rfl
           have hfz123_0 := blk_frozen BK134.out 0
           have hfz123_1 := blk_frozen BK134.out 1
           have hnb124 := NB135_136.out
           have hnc124 := NB136_135.out
           have hnb125 := NB135_137.out
           have hnc125 := NB137_135.out
           have hnb126 := NB135_138.out
           have hnc126 := NB138_135.out
           have hnb127 := NB135_139.out
           have hnc127 := NB139_135.out
           have hcz128_0 : wc.cell? ⟨gb135, 0, none⟩ = some (.int .i64 a1_0) := (blk_cell BK135.out 0).trans rfl
           have hcz128_1 : wc.cell? ⟨gb135, 1, none⟩ = some (.int .i64 a1_1) := (blk_cell BK135.out 1).trans rfl
           have hfz128_0 := blk_frozen BK135.out 0
           have hfz128_1 := blk_frozen BK135.out 1
           go_wp2_with (first | ((with_reducible refine gate_callee (f := 20) rfl ?_); refine goesL_ (some 104) rfl rfl Try.func20 (by kernel_rfl) rfl #[.agg #[.int .i64 a0_0, .int .i64 a0_1], .agg #[.int .i64 a1_0, .int .i64 a1_1]] rfl (by (try simp only [List.map_toArray, List.map_cons, List.map_nil]); first | done | rfl | (simp only [List.length_drop, List.length_take]; rfl)) ?_; (with_reducible refine (stamp_Max.calls kj48 a0_0 a0_1 a1_0 a1_1 t167 t168 _ A82.out).mono ?_); rintro e w129 ⟨rfl, hb⟩; refine ⟨_, rfl, ?_⟩; have n0_ := Aside0.mk (blk_below (g := gb134) (o := .cells #[.int .i64 a0_0, .int .i64 a0_1] 40 (0, 0)) (by (with_reducible repeat (first | refine KN ?_ _ | refine KD ?_ | refine KA ?_ _)); exact BK134.out) hb); have n1_ := Aside0.mk (blk_below (g := gb135) (o := .cells #[.int .i64 a1_0, .int .i64 a1_1] 40 (0, 0)) (by (with_reducible repeat (first | refine KN ?_ _ | refine KD ?_ | refine KA ?_ _)); exact BK135.out) hb); have n2_ := Aside0.mk (blk_below (g := gb136) (o := .cells #[.int .i64 a2_0, .int .i64 a2_1] 40 (0, 0)) (by (with_reducible repeat (first | refine KN ?_ _ | refine KD ?_ | refine KA ?_ _)); exact BK136.out) hb); have n3_ := Aside0.mk (blk_below (g := gb137) (o := .cells #[.int .i64 a3_0, .int .i64 a3_1, .int .i64 a3_2, .int .i64 a3_3] 23 (0, 0)) (by (with_reducible repeat (first | refine KN ?_ _ | refine KD ?_ | refine KA ?_ _)); exact BK137.out) hb); have n4_ := Aside0.mk (blk_below (g := gb138) (o := .cells #[.int .i64 a4_0, .int .i64 a4_1, .int .i64 a4_2, .int .i64 a4_3] 23 (0, 0)) (by (with_reducible repeat (first | refine KN ?_ _ | refine KD ?_ | refine KA ?_ _)); exact BK138.out) hb); have n5_ := Aside0.mk (blk_below (g := gb139) (o := .cells #[.int .i64 a5_0, .int .i64 a5_1, .int .i64 a5_2, .int .i64 a5_3] 23 (0, 0)) (by (with_reducible repeat (first | refine KN ?_ _ | refine KD ?_ | refine KA ?_ _)); exact BK139.out) hb); have n6_ := Aside0.mk (below_step (by repeat (first | (with_reducible first | exact HB.out | apply below_alloc | apply pw_below_drewN | apply below_drew1 | refine below_set ?_ GE134.out | refine below_set ?_ GE135.out | refine below_set ?_ GE136.out | refine below_set ?_ GE137.out | refine below_set ?_ GE138.out | refine below_set ?_ GE139.out) | exact HB.out)) hb); clear BK134; clear BK135; clear BK136; clear BK137; clear BK138; clear BK139; clear HB; have BK134 := n0_; have BK135 := n1_; have BK136 := n2_; have BK137 := n3_; have BK138 := n4_; have BK139 := n5_; have HB := n6_; clear n0_ n1_ n2_ n3_ n4_ n5_ n6_; (try clear hb); (try clear hb2); (try clear hk); (try clear hi)) | ((with_reducible refine gate_dst (N := 15) rfl ?_); refine box_event ?hg (N := 15) ?hd (cs := #[.int .i64 0, .int .i64 0]) (t := 40) ?hr ?_; (case hd => rfl); (case hg => rfl); (case hr => first | (go_simp; done) | (go_simp; rfl)); intro gb169 hg w130 hbox hb; have n0_ := Aside0.mk (blk_below (g := gb134) (o := .cells #[.int .i64 a0_0, .int .i64 a0_1] 40 (0, 0)) (by (with_reducible repeat (first | refine KN ?_ _ | refine KD ?_ | refine KA ?_ _)); exact BK134.out) hb); have n1_ := Aside0.mk (blk_below (g := gb135) (o := .cells #[.int .i64 a1_0, .int .i64 a1_1] 40 (0, 0)) (by (with_reducible repeat (first | refine KN ?_ _ | refine KD ?_ | refine KA ?_ _)); exact BK135.out) hb); have n2_ := Aside0.mk (blk_below (g := gb136) (o := .cells #[.int .i64 a2_0, .int .i64 a2_1] 40 (0, 0)) (by (with_reducible repeat (first | refine KN ?_ _ | refine KD ?_ | refine KA ?_ _)); exact BK136.out) hb); have n3_ := Aside0.mk (blk_below (g := gb137) (o := .cells #[.int .i64 a3_0, .int .i64 a3_1, .int .i64 a3_2, .int .i64 a3_3] 23 (0, 0)) (by (with_reducible repeat (first | refine KN ?_ _ | refine KD ?_ | refine KA ?_ _)); exact BK137.out) hb); have n4_ := Aside0.mk (blk_below (g := gb138) (o := .cells #[.int .i64 a4_0, .int .i64 a4_1, .int .i64 a4_2, .int .i64 a4_3] 23 (0, 0)) (by (with_reducible repeat (first | refine KN ?_ _ | refine KD ?_ | refine KA ?_ _)); exact BK138.out) hb); have n5_ := Aside0.mk (blk_below (g := gb139) (o := .cells #[.int .i64 a5_0, .int .i64 a5_1, .int .i64 a5_2, .int .i64 a5_3] 23 (0, 0)) (by (with_reducible repeat (first | refine KN ?_ _ | refine KD ?_ | refine KA ?_ _)); exact BK139.out) hb); have n6_ := Aside0.mk (below_step (by repeat (first | (with_reducible first | exact HB.out | apply below_alloc | apply pw_below_drewN | apply below_drew1 | refine below_set ?_ GE134.out | refine below_set ?_ GE135.out | refine below_set ?_ GE136.out | refine below_set ?_ GE137.out | refine below_set ?_ GE138.out | refine below_set ?_ GE139.out) | exact HB.out)) hb); have n7_ := Aside0.mk (hbox); have n8_ := Aside0.mk ((by rw [hg]; exact (below_size (by repeat (first | (with_reducible first | exact HB.out | apply below_alloc | apply pw_below_drewN | apply below_drew1 | refine below_set ?_ GE134.out | refine below_set ?_ GE135.out | refine below_set ?_ GE136.out | refine below_set ?_ GE137.out | refine below_set ?_ GE138.out | refine below_set ?_ GE139.out) | exact HB.out))) : w.heap.size ≤ gb169)); have n9_ := Aside0.mk ((by rw [hg]; exact (below_size (by repeat (first | (with_reducible first | exact HB.out | apply below_alloc | apply pw_below_drewN | apply below_drew1 | refine below_set ?_ GE134.out | refine below_set ?_ GE135.out | refine below_set ?_ GE136.out | refine below_set ?_ GE137.out | refine below_set ?_ GE138.out | refine below_set ?_ GE139.out) | exact HB.out))) : w.heap.size ≤ gb169)); have n10_ := Aside0.mk ((by rw [hg]; exact Nat.ne_of_lt (blk_lt (g := gb134) (o := .cells #[.int .i64 a0_0, .int .i64 a0_1] 40 (0, 0)) (by (with_reducible repeat (first | refine KN ?_ _ | refine KD ?_ | refine KA ?_ _)); exact BK134.out)) : gb134 ≠ gb169)); have n11_ := Aside0.mk ((by rw [hg]; exact Nat.ne_of_gt (blk_lt (g := gb134) (o := .cells #[.int .i64 a0_0, .int .i64 a0_1] 40 (0, 0)) (by (with_reducible repeat (first | refine KN ?_ _ | refine KD ?_ | refine KA ?_ _)); exact BK134.out)) : gb169 ≠ gb134)); have n12_ := Aside0.mk ((by rw [hg]; exact Nat.ne_of_lt (blk_lt (g := gb135) (o := .cells #[.int .i64 a1_0, .int .i64 a1_1] 40 (0, 0)) (by (with_reducible repeat (first | refine KN ?_ _ | refine KD ?_ | refine KA ?_ _)); exact BK135.out)) : gb135 ≠ gb169)); have n13_ := Aside0.mk ((by rw [hg]; exact Nat.ne_of_gt (blk_lt (g := gb135) (o := .cells #[.int .i64 a1_0, .int .i64 a1_1] 40 (0, 0)) (by (with_reducible repeat (first | refine KN ?_ _ | refine KD ?_ | refine KA ?_ _)); exact BK135.out)) : gb169 ≠ gb135)); have n14_ := Aside0.mk ((by rw [hg]; exact Nat.ne_of_lt (blk_lt (g := gb136) (o := .cells #[.int .i64 a2_0, .int .i64 a2_1] 40 (0, 0)) (by (with_reducible repeat (first | refine KN ?_ _ | refine KD ?_ | refine KA ?_ _)); exact BK136.out)) : gb136 ≠ gb169)); have n15_ := Aside0.mk ((by rw [hg]; exact Nat.ne_of_gt (blk_lt (g := gb136) (o := .cells #[.int .i64 a2_0, .int .i64 a2_1] 40 (0, 0)) (by (with_reducible repeat (first | refine KN ?_ _ | refine KD ?_ | refine KA ?_ _)); exact BK136.out)) : gb169 ≠ gb136)); have n16_ := Aside0.mk ((by rw [hg]; exact Nat.ne_of_lt (blk_lt (g := gb137) (o := .cells #[.int .i64 a3_0, .int .i64 a3_1, .int .i64 a3_2, .int .i64 a3_3] 23 (0, 0)) (by (with_reducible repeat (first | refine KN ?_ _ | refine KD ?_ | refine KA ?_ _)); exact BK137.out)) : gb137 ≠ gb169)); have n17_ := Aside0.mk ((by rw [hg]; exact Nat.ne_of_gt (blk_lt (g := gb137) (o := .cells #[.int .i64 a3_0, .int .i64 a3_1, .int .i64 a3_2, .int .i64 a3_3] 23 (0, 0)) (by (with_reducible repeat (first | refine KN ?_ _ | refine KD ?_ | refine KA ?_ _)); exact BK137.out)) : gb169 ≠ gb137)); have n18_ := Aside0.mk ((by rw [hg]; exact Nat.ne_of_lt (blk_lt (g := gb138) (o := .cells #[.int .i64 a4_0, .int .i64 a4_1, .int .i64 a4_2, .int .i64 a4_3] 23 (0, 0)) (by (with_reducible repeat (first | refine KN ?_ _ | refine KD ?_ | refine KA ?_ _)); exact BK138.out)) : gb138 ≠ gb169)); have n19_ := Aside0.mk ((by rw [hg]; exact Nat.ne_of_gt (blk_lt (g := gb138) (o := .cells #[.int .i64 a4_0, .int .i64 a4_1, .int .i64 a4_2, .int .i64 a4_3] 23 (0, 0)) (by (with_reducible repeat (first | refine KN ?_ _ | refine KD ?_ | refine KA ?_ _)); exact BK138.out)) : gb169 ≠ gb138)); have n20_ := Aside0.mk ((by rw [hg]; exact Nat.ne_of_lt (blk_lt (g := gb139) (o := .cells #[.int .i64 a5_0, .int .i64 a5_1, .int .i64 a5_2, .int .i64 a5_3] 23 (0, 0)) (by (with_reducible repeat (first | refine KN ?_ _ | refine KD ?_ | refine KA ?_ _)); exact BK139.out)) : gb139 ≠ gb169)); have n21_ := Aside0.mk ((by rw [hg]; exact Nat.ne_of_gt (blk_lt (g := gb139) (o := .cells #[.int .i64 a5_0, .int .i64 a5_1, .int .i64 a5_2, .int .i64 a5_3] 23 (0, 0)) (by (with_reducible repeat (first | refine KN ?_ _ | refine KD ?_ | refine KA ?_ _)); exact BK139.out)) : gb169 ≠ gb139)); clear BK134; clear BK135; clear BK136; clear BK137; clear BK138; clear BK139; clear HB; have BK134 := n0_; have BK135 := n1_; have BK136 := n2_; have BK137 := n3_; have BK138 := n4_; have BK139 := n5_; have HB := n6_; have BK169 := n7_; have GW169 := n8_; have GE169 := n9_; have NB134_169 := n10_; have NB169_134 := n11_; have NB135_169 := n12_; have NB169_135 := n13_; have NB136_169 := n14_; have NB169_136 := n15_; have NB137_169 := n16_; have NB169_137 := n17_; have NB138_169 := n18_; have NB169_138 := n19_; have NB139_169 := n20_; have NB169_139 := n21_; clear n0_ n1_ n2_ n3_ n4_ n5_ n6_ n7_ n8_ n9_ n10_ n11_ n12_ n13_ n14_ n15_ n16_ n17_ n18_ n19_ n20_ n21_; clear hb hbox hg; have hnb131 := NB169_134.out; have hnc131 := NB134_169.out; have hnb132 := NB169_135.out; have hnc132 := NB135_169.out; have hnb133 := NB169_136.out; have hnc133 := NB136_169.out; have hnb134 := NB169_137.out; have hnc134 := NB137_169.out; have hnb135 := NB169_138.out; have hnc135 := NB138_169.out; have hnb136 := NB169_139.out; have hnc136 := NB139_169.out; have hcz137_0 : w130.cell? ⟨gb169, 0, none⟩ = some (.int .i64 0) := (blk_cell BK169.out 0).trans rfl; have hcz137_1 : w130.cell? ⟨gb169, 1, none⟩ = some (.int .i64 0) := (blk_cell BK169.out 1).trans rfl; have hfz137_0 := blk_frozen BK169.out 0; have hfz137_1 := blk_frozen BK169.out 1; have hcz138_0 : w130.cell? ⟨gb134, 0, none⟩ = some (.int .i64 a0_0) := (blk_cell BK134.out 0).trans rfl; have hcz138_1 : w130.cell? ⟨gb134, 1, none⟩ = some (.int .i64 a0_1) := (blk_cell BK134.out 1).trans rfl; have hfz138_0 := blk_frozen BK134.out 0; have hfz138_1 := blk_frozen BK134.out 1; have hcz139_0 : w130.cell? ⟨gb135, 0, none⟩ = some (.int .i64 a1_0) := (blk_cell BK135.out 0).trans rfl; have hcz139_1 : w130.cell? ⟨gb135, 1, none⟩ = some (.int .i64 a1_1) := (blk_cell BK135.out 1).trans rfl; have hfz139_0 := blk_frozen BK135.out 0; have hfz139_1 := blk_frozen BK135.out 1) | (go_at_call 18; (with_reducible refine (stamp_Less.calls kj48 t167 t168 a0_0 a0_1 false _ A115.out).mono ?_); rintro e w140 ⟨rfl, hb⟩; have n0_ := Aside0.mk (blk_below (g := gb134) (o := .cells #[.int .i64 a0_0, .int .i64 a0_1] 40 (0, 0)) (by (with_reducible repeat (first | refine KN ?_ _ | refine KD ?_ | refine KA ?_ _)); refine blk_far ?_ NB134_169.out _; (with_reducible repeat (first | refine KN ?_ _ | refine KD ?_ | refine KA ?_ _)); refine blk_far ?_ NB134_169.out _; (with_reducible repeat (first | refine KN ?_ _ | refine KD ?_ | refine KA ?_ _)); exact BK134.out) hb); have n1_ := Aside0.mk (blk_below (g := gb135) (o := .cells #[.int .i64 a1_0, .int .i64 a1_1] 40 (0, 0)) (by (with_reducible repeat (first | refine KN ?_ _ | refine KD ?_ | refine KA ?_ _)); refine blk_far ?_ NB135_169.out _; (with_reducible repeat (first | refine KN ?_ _ | refine KD ?_ | refine KA ?_ _)); refine blk_far ?_ NB135_169.out _; (with_reducible repeat (first | refine KN ?_ _ | refine KD ?_ | refine KA ?_ _)); exact BK135.out) hb); have n2_ := Aside0.mk (blk_below (g := gb136) (o := .cells #[.int .i64 a2_0, .int .i64 a2_1] 40 (0, 0)) (by (with_reducible repeat (first | refine KN ?_ _ | refine KD ?_ | refine KA ?_ _)); refine blk_far ?_ NB136_169.out _; (with_reducible repeat (first | refine KN ?_ _ | refine KD ?_ | refine KA ?_ _)); refine blk_far ?_ NB136_169.out _; (with_reducible repeat (first | refine KN ?_ _ | refine KD ?_ | refine KA ?_ _)); exact BK136.out) hb); have n3_ := Aside0.mk (blk_below (g := gb137) (o := .cells #[.int .i64 a3_0, .int .i64 a3_1, .int .i64 a3_2, .int .i64 a3_3] 23 (0, 0)) (by (with_reducible repeat (first | refine KN ?_ _ | refine KD ?_ | refine KA ?_ _)); refine blk_far ?_ NB137_169.out _; (with_reducible repeat (first | refine KN ?_ _ | refine KD ?_ | refine KA ?_ _)); refine blk_far ?_ NB137_169.out _; (with_reducible repeat (first | refine KN ?_ _ | refine KD ?_ | refine KA ?_ _)); exact BK137.out) hb); have n4_ := Aside0.mk (blk_below (g := gb138) (o := .cells #[.int .i64 a4_0, .int .i64 a4_1, .int .i64 a4_2, .int .i64 a4_3] 23 (0, 0)) (by (with_reducible repeat (first | refine KN ?_ _ | refine KD ?_ | refine KA ?_ _)); refine blk_far ?_ NB138_169.out _; (with_reducible repeat (first | refine KN ?_ _ | refine KD ?_ | refine KA ?_ _)); refine blk_far ?_ NB138_169.out _; (with_reducible repeat (first | refine KN ?_ _ | refine KD ?_ | refine KA ?_ _)); exact BK138.out) hb); have n5_ := Aside0.mk (blk_below (g := gb139) (o := .cells #[.int .i64 a5_0, .int .i64 a5_1, .int .i64 a5_2, .int .i64 a5_3] 23 (0, 0)) (by (with_reducible repeat (first | refine KN ?_ _ | refine KD ?_ | refine KA ?_ _)); refine blk_far ?_ NB139_169.out _; (with_reducible repeat (first | refine KN ?_ _ | refine KD ?_ | refine KA ?_ _)); refine blk_far ?_ NB139_169.out _; (with_reducible repeat (first | refine KN ?_ _ | refine KD ?_ | refine KA ?_ _)); exact BK139.out) hb); have n6_ := Aside0.mk (blk_below (g := gb169) (o := .cells #[.int .i64 t167, .int .i64 t168] 40 (0, 0)) (by (with_reducible repeat (first | refine KN ?_ _ | refine KD ?_ | refine KA ?_ _)); refine blk_put (cs := #[.int .i64 t167, .int .i64 0]) ?_ 1 _ rfl; (with_reducible repeat (first | refine KN ?_ _ | refine KD ?_ | refine KA ?_ _)); refine blk_put (cs := #[.int .i64 0, .int .i64 0]) ?_ 0 _ rfl; (with_reducible repeat (first | refine KN ?_ _ | refine KD ?_ | refine KA ?_ _)); exact BK169.out) hb); have n7_ := Aside0.mk (below_step (by repeat (first | (with_reducible first | exact HB.out | apply below_alloc | apply pw_below_drewN | apply below_drew1 | refine below_set ?_ GE134.out | refine below_set ?_ GE135.out | refine below_set ?_ GE136.out | refine below_set ?_ GE137.out | refine below_set ?_ GE138.out | refine below_set ?_ GE139.out | refine below_set ?_ GE169.out) | exact HB.out)) hb); clear BK134; clear BK135; clear BK136; clear BK137; clear BK138; clear BK139; clear BK169; clear HB; have BK134 := n0_; have BK135 := n1_; have BK136 := n2_; have BK137 := n3_; have BK138 := n4_; have BK139 := n5_; have BK169 := n6_; have HB := n7_; clear n0_ n1_ n2_ n3_ n4_ n5_ n6_ n7_; (try clear hb); (try clear hb2); (try clear hk); (try clear hi); have hcz141_0 : w140.cell? ⟨gb169, 0, none⟩ = some (.int .i64 t167) := (blk_cell BK169.out 0).trans rfl; have hcz141_1 : w140.cell? ⟨gb169, 1, none⟩ = some (.int .i64 t168) := (blk_cell BK169.out 1).trans rfl; have hfz141_0 := blk_frozen BK169.out 0; have hfz141_1 := blk_frozen BK169.out 1; have hcz142_0 : w140.cell? ⟨gb135, 0, none⟩ = some (.int .i64 a1_0) := (blk_cell BK135.out 0).trans rfl; have hcz142_1 : w140.cell? ⟨gb135, 1, none⟩ = some (.int .i64 a1_1) := (blk_cell BK135.out 1).trans rfl; have hfz142_0 := blk_frozen BK135.out 0; have hfz142_1 := blk_frozen BK135.out 1) | (go_at_call 18; (with_reducible refine (stamp_Less.calls kj48 t167 t168 a1_0 a1_1 t173 _ A117.out).mono ?_); rintro e w143 ⟨rfl, hb⟩; have n0_ := Aside0.mk (blk_below (g := gb134) (o := .cells #[.int .i64 a0_0, .int .i64 a0_1] 40 (0, 0)) (by (with_reducible repeat (first | refine KN ?_ _ | refine KD ?_ | refine KA ?_ _)); exact BK134.out) hb); have n1_ := Aside0.mk (blk_below (g := gb135) (o := .cells #[.int .i64 a1_0, .int .i64 a1_1] 40 (0, 0)) (by (with_reducible repeat (first | refine KN ?_ _ | refine KD ?_ | refine KA ?_ _)); exact BK135.out) hb); have n2_ := Aside0.mk (blk_below (g := gb136) (o := .cells #[.int .i64 a2_0, .int .i64 a2_1] 40 (0, 0)) (by (with_reducible repeat (first | refine KN ?_ _ | refine KD ?_ | refine KA ?_ _)); exact BK136.out) hb); have n3_ := Aside0.mk (blk_below (g := gb137) (o := .cells #[.int .i64 a3_0, .int .i64 a3_1, .int .i64 a3_2, .int .i64 a3_3] 23 (0, 0)) (by (with_reducible repeat (first | refine KN ?_ _ | refine KD ?_ | refine KA ?_ _)); exact BK137.out) hb); have n4_ := Aside0.mk (blk_below (g := gb138) (o := .cells #[.int .i64 a4_0, .int .i64 a4_1, .int .i64 a4_2, .int .i64 a4_3] 23 (0, 0)) (by (with_reducible repeat (first | refine KN ?_ _ | refine KD ?_ | refine KA ?_ _)); exact BK138.out) hb); have n5_ := Aside0.mk (blk_below (g := gb139) (o := .cells #[.int .i64 a5_0, .int .i64 a5_1, .int .i64 a5_2, .int .i64 a5_3] 23 (0, 0)) (by (with_reducible repeat (first | refine KN ?_ _ | refine KD ?_ | refine KA ?_ _)); exact BK139.out) hb); have n6_ := Aside0.mk (blk_below (g := gb169) (o := .cells #[.int .i64 t167, .int .i64 t168] 40 (0, 0)) (by (with_reducible repeat (first | refine KN ?_ _ | refine KD ?_ | refine KA ?_ _)); exact BK169.out) hb); have n7_ := Aside0.mk (below_step (by repeat (first | (with_reducible first | exact HB.out | apply below_alloc | apply pw_below_drewN | apply below_drew1 | refine below_set ?_ GE134.out | refine below_set ?_ GE135.out | refine below_set ?_ GE136.out | refine below_set ?_ GE137.out | refine below_set ?_ GE138.out | refine below_set ?_ GE139.out | refine below_set ?_ GE169.out) | exact HB.out)) hb); clear BK134; clear BK135; clear BK136; clear BK137; clear BK138; clear BK139; clear BK169; clear HB; have BK134 := n0_; have BK135 := n1_; have BK136 := n2_; have BK137 := n3_; have BK138 := n4_; have BK139 := n5_; have BK169 := n6_; have HB := n7_; clear n0_ n1_ n2_ n3_ n4_ n5_ n6_ n7_; (try clear hb); (try clear hb2); (try clear hk); (try clear hi)))
           go_ret
           exact ⟨by first | rfl | (simp [errW_none, errW_some] <;> rfl) | (simp [*, errW_none, errW_some] <;> rfl), by repeat (first | (with_reducible first | exact HB.out | apply below_alloc | apply pw_below_drewN | apply below_drew1 | refine below_set ?_ GE134.out | refine below_set ?_ GE135.out | refine below_set ?_ GE136.out | refine below_set ?_ GE137.out | refine below_set ?_ GE138.out | refine below_set ?_ GE139.out | refine below_set ?_ GE169.out) | exact HB.out)⟩
         ·rw [if_neg c114] at H
          have c114b0 : (t167 == a1_0 && (t168 == a1_1)) = false := by simpa using c114
          (try (have c114b1 : decide (t167 = a1_0 && (t168 == a1_1)) = false := by simpa using c114))
          (try (have c114b2 : (t167 == a1_0 && (t168 == a1_1)) = false := by simpa using c114))
          (try (have c114b3 : ¬ (t167 = a1_0 && (t168 == a1_1)) := by simpa using c114))
          clear c114
          exact absurd ((Option.some.inj H).trans hr_.out) (by decide)
       ·replace c84 := Bool.eq_false_iff.mpr c84
        subst c84
        have H1 : (some false) = some r := by rw [if_neg (show ¬ (false = true) by decide)] at H; exact H
        clear H
        have H := H1
        clear H1
        exact absurd ((Option.some.inj H).trans hr_.out) (by decide)
      ·replace c83 := Bool.eq_false_iff.mpr c83
       subst c83
       have H1 : (some false) = some r := by rw [if_neg (show ¬ (false = true) by decide)] at H; exact H
       clear H
       have H := H1
       clear H1
       exact absurd ((Option.some.inj H).trans hr_.out) (by decide)
 ·replace c8 := Bool.eq_false_iff.mpr c8
  subst c8
  have H1 : (some false) = some r := by rw [if_neg (show ¬ (false = true) by decide)] at H; exact H
  clear H
  have H := H1
  clear H1
  exact absurd ((Option.some.inj H).trans hr_.out) (by decide)

end Go.Proofs.Ytloonjdkiafafaa.QL


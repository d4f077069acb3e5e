/- Written by a program of this session (wip/myprint.sh): contracts of Go functions of the translation: each call comes to what the Lean function of its name says. -/
import Derived.Test.YtpoejopnjkcdpaaZQAx0
import Derived.Test.YtpoejopnjkcdpaaZQAx1
namespace Go.Proofs.Ytpoejopnjkcdpaa.QA
open Go.RowKit Go.Proofs.YtpoejopnjkcdpaaW.PrintWords Go.Proofs.YtpoejopnjkcdpaaW.PrintLast Go.Proofs.YtpoejopnjkcdpaaW.PrintMore
attribute [local go_sem] max2_int min2_int max_two min_two max_three min_three max_four min_four   -- for this text's walks alone
set_option linter.unusedVariables false
set_option linter.unusedSimpArgs false
attribute [local go_sem high] eqA39
mutual
def antipoderef29_Same.j0 : Nat → Bool → Int → Int → Int → Int → ByteArray → List Int → Int → Int → Int → Int → Int → Int → Int → Int → Int → ByteArray → List Int → Int → Int → Int → Int → Int → Option (Bool)
 | 0, _, _, _, _, _, _, _, _, _, _, _, _, _, _, _, _, _, _, _, _, _, _, _ => none
 | k + 1, x54, x183000, x183001, x183002, x183003, x183004, x183005, x183006, x183007, x183008, x183009, x183010, x184000, x184001, x184002, x184003, x184004, x184005, x184006, x184007, x184008, x184009, x184010 => if x54 = true then (some false) else (antipoderef29_Same.l0 k 0 x183000 x183001 x183002 x183003 x183004 x183005 x183006 x183007 x183008 x183009 x183010 x184000 x184001 x184002 x184003 x184004 x184005 x184006 x184007 x184008 x184009 x184010)
def antipoderef29_Same.l0 : Nat → Int → Int → Int → Int → Int → ByteArray → List Int → Int → Int → Int → Int → Int → Int → Int → Int → Int → ByteArray → List Int → Int → Int → Int → Int → Int → Option (Bool)
 | 0, _, _, _, _, _, _, _, _, _, _, _, _, _, _, _, _, _, _, _, _, _, _, _ => none
 | k + 1, x5, x183000, x183001, x183002, x183003, x183004, x183005, x183006, x183007, x183008, x183009, x183010, x184000, x184001, x184002, x184003, x184004, x184005, x184006, x184007, x184008, x184009, x184010 => if x5 < (x183005.length : Int) then (if 0 ≤ x5 then (if x5 < (x184005.length : Int) then (if (rd x183005 x5) = (rd x184005 x5) then (antipoderef29_Same.l0 k (wrap64 (x5 + 1)) x183000 x183001 x183002 x183003 x183004 x183005 x183006 x183007 x183008 x183009 x183010 x184000 x184001 x184002 x184003 x184004 x184005 x184006 x184007 x184008 x184009 x184010) else (some false)) else (none)) else (none)) else (some true)
end
def antipoderef29_Same.f (k : Nat) (a0_0 : Int) (a0_1 : Int) (a0_2 : Int) (a0_3 : Int) (a0_4 : ByteArray) (l0_5 : List Int) (a0_6 : Int) (a0_7 : Int) (a0_8 : Int) (a0_9 : Int) (a0_10 : Int) (a1_0 : Int) (a1_1 : Int) (a1_2 : Int) (a1_3 : Int) (a1_4 : ByteArray) (l1_5 : List Int) (a1_6 : Int) (a1_7 : Int) (a1_8 : Int) (a1_9 : Int) (a1_10 : Int) : Option (Bool) := if a0_0 = a1_0 then (if a0_1 = a1_1 then (if a0_2 = a1_2 then (if a0_3 = a1_3 then (if a0_4.toList = a1_4.toList then (if (!(a0_6 == a1_6) || (!(a0_7 == a1_7) || (!(a0_8 == a1_8) || (!(a0_9 == a1_9) || (!(a0_10 == a1_10)))))) = true then (antipoderef29_Same.j0 k true a0_0 a0_1 a0_2 a0_3 a0_4 l0_5 a0_6 a0_7 a0_8 a0_9 a0_10 a1_0 a1_1 a1_2 a1_3 a1_4 l1_5 a1_6 a1_7 a1_8 a1_9 a1_10) else (antipoderef29_Same.j0 k ((l0_5.length : Int) != (l1_5.length : Int)) a0_0 a0_1 a0_2 a0_3 a0_4 l0_5 a0_6 a0_7 a0_8 a0_9 a0_10 a1_0 a1_1 a1_2 a1_3 a1_4 l1_5 a1_6 a1_7 a1_8 a1_9 a1_10)) else (antipoderef29_Same.j0 k true a0_0 a0_1 a0_2 a0_3 a0_4 l0_5 a0_6 a0_7 a0_8 a0_9 a0_10 a1_0 a1_1 a1_2 a1_3 a1_4 l1_5 a1_6 a1_7 a1_8 a1_9 a1_10)) else (antipoderef29_Same.j0 k true a0_0 a0_1 a0_2 a0_3 a0_4 l0_5 a0_6 a0_7 a0_8 a0_9 a0_10 a1_0 a1_1 a1_2 a1_3 a1_4 l1_5 a1_6 a1_7 a1_8 a1_9 a1_10)) else (antipoderef29_Same.j0 k true a0_0 a0_1 a0_2 a0_3 a0_4 l0_5 a0_6 a0_7 a0_8 a0_9 a0_10 a1_0 a1_1 a1_2 a1_3 a1_4 l1_5 a1_6 a1_7 a1_8 a1_9 a1_10)) else (antipoderef29_Same.j0 k true a0_0 a0_1 a0_2 a0_3 a0_4 l0_5 a0_6 a0_7 a0_8 a0_9 a0_10 a1_0 a1_1 a1_2 a1_3 a1_4 l1_5 a1_6 a1_7 a1_8 a1_9 a1_10)) else (antipoderef29_Same.j0 k true a0_0 a0_1 a0_2 a0_3 a0_4 l0_5 a0_6 a0_7 a0_8 a0_9 a0_10 a1_0 a1_1 a1_2 a1_3 a1_4 l1_5 a1_6 a1_7 a1_8 a1_9 a1_10)
set_option maxHeartbeats 8000000 in
set_option maxRecDepth 100000 in
theorem antipoderef29_Same.calls (k : Nat) (a0_0 : Int) (a0_1 : Int) (a0_2 : Int) (a0_3 : Int) (a0_4 : ByteArray) (A0_5 : Option Addr) (c0_5 : Nat) (l0_5 : List Int) (a0_6 : Int) (a0_7 : Int) (a0_8 : Int) (a0_9 : Int) (a0_10 : Int) (a1_0 : Int) (a1_1 : Int) (a1_2 : Int) (a1_3 : Int) (a1_4 : ByteArray) (A1_5 : Option Addr) (c1_5 : Nat) (l1_5 : List Int) (a1_6 : Int) (a1_7 : Int) (a1_8 : Int) (a1_9 : Int) (a1_10 : Int) (r : Bool) (w : World) (hr0_5 : Kd.C (Kd.int .i64) w A0_5 l0_5.length l0_5) (hc0_5 : l0_5.length ≤ c0_5) (hr1_5 : Kd.C (Kd.int .i64) w A1_5 l1_5.length l1_5) (hc1_5 : l1_5.length ≤ c1_5) (h : antipoderef29_Same.f k a0_0 a0_1 a0_2 a0_3 a0_4 l0_5 a0_6 a0_7 a0_8 a0_9 a0_10 a1_0 a1_1 a1_2 a1_3 a1_4 l1_5 a1_6 a1_7 a1_8 a1_9 a1_10 = some r) :
  Calls Try.prog 18 #[.agg #[.int .i64 a0_0, .int .i64 a0_1, .int .i64 a0_2, .int .i64 a0_3, .string a0_4, .slice A0_5 l0_5.length c0_5, .int .u16 a0_6, .int .u16 a0_7, .int .u16 a0_8, .int .i64 a0_9, .int .i64 a0_10], .agg #[.int .i64 a1_0, .int .i64 a1_1, .int .i64 a1_2, .int .i64 a1_3, .string a1_4, .slice A1_5 l1_5.length c1_5, .int .u16 a1_6, .int .u16 a1_7, .int .u16 a1_8, .int .i64 a1_9, .int .i64 a1_10]] w fun e w' => e = .returned (.bool r) ∧ Below w.heap.size w w' := by
 have hu41 := Try.underlying41
 have hu39 := Try.underlying39
 have HR0_5 := Aside0.mk hr0_5
 have HC0_5 := Aside0.mk hc0_5
 clear hr0_5 hc0_5
 have HR1_5 := Aside0.mk hr1_5
 have HC1_5 := Aside0.mk hc1_5
 clear hr1_5 hc1_5
 have HB := Aside0.mk (Below.refl w.heap.size w)
 have H : (if a0_0 = a1_0 then (if a0_1 = a1_1 then (if a0_2 = a1_2 then (if a0_3 = a1_3 then (if a0_4.toList = a1_4.toList then (if (!(a0_6 == a1_6) || (!(a0_7 == a1_7) || (!(a0_8 == a1_8) || (!(a0_9 == a1_9) || (!(a0_10 == a1_10)))))) = true then (antipoderef29_Same.j0 k true a0_0 a0_1 a0_2 a0_3 a0_4 l0_5 a0_6 a0_7 a0_8 a0_9 a0_10 a1_0 a1_1 a1_2 a1_3 a1_4 l1_5 a1_6 a1_7 a1_8 a1_9 a1_10) else (antipoderef29_Same.j0 k ((l0_5.length : Int) != (l1_5.length : Int)) a0_0 a0_1 a0_2 a0_3 a0_4 l0_5 a0_6 a0_7 a0_8 a0_9 a0_10 a1_0 a1_1 a1_2 a1_3 a1_4 l1_5 a1_6 a1_7 a1_8 a1_9 a1_10)) else (antipoderef29_Same.j0 k true a0_0 a0_1 a0_2 a0_3 a0_4 l0_5 a0_6 a0_7 a0_8 a0_9 a0_10 a1_0 a1_1 a1_2 a1_3 a1_4 l1_5 a1_6 a1_7 a1_8 a1_9 a1_10)) else (antipoderef29_Same.j0 k true a0_0 a0_1 a0_2 a0_3 a0_4 l0_5 a0_6 a0_7 a0_8 a0_9 a0_10 a1_0 a1_1 a1_2 a1_3 a1_4 l1_5 a1_6 a1_7 a1_8 a1_9 a1_10)) else (antipoderef29_Same.j0 k true a0_0 a0_1 a0_2 a0_3 a0_4 l0_5 a0_6 a0_7 a0_8 a0_9 a0_10 a1_0 a1_1 a1_2 a1_3 a1_4 l1_5 a1_6 a1_7 a1_8 a1_9 a1_10)) else (antipoderef29_Same.j0 k true a0_0 a0_1 a0_2 a0_3 a0_4 l0_5 a0_6 a0_7 a0_8 a0_9 a0_10 a1_0 a1_1 a1_2 a1_3 a1_4 l1_5 a1_6 a1_7 a1_8 a1_9 a1_10)) else (antipoderef29_Same.j0 k true a0_0 a0_1 a0_2 a0_3 a0_4 l0_5 a0_6 a0_7 a0_8 a0_9 a0_10 a1_0 a1_1 a1_2 a1_3 a1_4 l1_5 a1_6 a1_7 a1_8 a1_9 a1_10)) = some r := h
 clear h
 have HC3 := Aside0.mk H
 clear H
 go_enter Try.func18, Try.ntmps18
 go_upto_region 1 with (first | ((with_reducible refine gate_dst (N := 2) rfl ?_); (try (refine gate_guard (by rfl) ?_; dsimp only)); refine box_event ?hg (N := 2) ?hd (cs := #[.int .i64 a0_0, .int .i64 a0_1, .int .i64 a0_2, .int .i64 a0_3, .string a0_4, .slice A0_5 l0_5.length c0_5, .int .u16 a0_6, .int .u16 a0_7, .int .u16 a0_8, .int .i64 a0_9, .int .i64 a0_10]) (t := 41) ?hr ?_; (case hd => rfl); (case hg => rfl); (case hr => first | (go_simp; done) | (go_simp; rfl)); intro gb182 hg w4 hbox hb; have n0_ := Aside0.mk (below_step (by repeat (first | (with_reducible first | exact HB.out | apply below_alloc | apply pw_below_drewN | apply below_drew1) | exact HB.out)) hb); have n1_ := Aside0.mk (hbox); have n2_ := Aside0.mk ((by rw [hg]; exact (below_size (by repeat (first | (with_reducible first | exact HB.out | apply below_alloc | apply pw_below_drewN | apply below_drew1) | exact HB.out))) : w.heap.size ≤ gb182)); have n3_ := Aside0.mk ((by rw [hg]; exact (below_size (by repeat (first | (with_reducible first | exact HB.out | apply below_alloc | apply pw_below_drewN | apply below_drew1) | exact HB.out))) : w.heap.size ≤ gb182)); clear HB; have HB := n0_; have BK182 := n1_; have GW182 := n2_; have GE182 := n3_; clear n0_ n1_ n2_ n3_; clear hb hbox hg) | ((with_reducible refine gate_dst (N := 3) rfl ?_); (try (refine gate_guard (by rfl) ?_; dsimp only)); refine box_event ?hg (N := 3) ?hd (cs := #[.int .i64 a1_0, .int .i64 a1_1, .int .i64 a1_2, .int .i64 a1_3, .string a1_4, .slice A1_5 l1_5.length c1_5, .int .u16 a1_6, .int .u16 a1_7, .int .u16 a1_8, .int .i64 a1_9, .int .i64 a1_10]) (t := 41) ?hr ?_; (case hd => rfl); (case hg => rfl); (case hr => first | (go_simp; done) | (go_simp; rfl)); intro gb183 hg w5 hbox hb; have n0_ := Aside0.mk (blk_below (g := gb182) (o := .cells #[.int .i64 a0_0, .int .i64 a0_1, .int .i64 a0_2, .int .i64 a0_3, .string a0_4, .slice A0_5 l0_5.length c0_5, .int .u16 a0_6, .int .u16 a0_7, .int .u16 a0_8, .int .i64 a0_9, .int .i64 a0_10] 41 (0, 0)) (by (with_reducible repeat (first | refine blk_drewN ?_ _ | refine blk_drew ?_ | refine blk_alloc ?_ _)); exact BK182.out) hb); have n1_ := Aside0.mk (below_step (by repeat (first | (with_reducible first | exact HB.out | apply below_alloc | apply pw_below_drewN | apply below_drew1 | refine below_set ?_ GE182.out) | exact HB.out)) hb); have n2_ := Aside0.mk (hbox); have n3_ := Aside0.mk ((by rw [hg]; exact (below_size (by repeat (first | (with_reducible first | exact HB.out | apply below_alloc | apply pw_below_drewN | apply below_drew1 | refine below_set ?_ GE182.out) | exact HB.out))) : w.heap.size ≤ gb183)); have n4_ := Aside0.mk ((by rw [hg]; exact (below_size (by repeat (first | (with_reducible first | exact HB.out | apply below_alloc | apply pw_below_drewN | apply below_drew1 | refine below_set ?_ GE182.out) | exact HB.out))) : w.heap.size ≤ gb183)); have n5_ := Aside0.mk ((by rw [hg]; exact Nat.ne_of_lt (blk_lt (g := gb182) (o := .cells #[.int .i64 a0_0, .int .i64 a0_1, .int .i64 a0_2, .int .i64 a0_3, .string a0_4, .slice A0_5 l0_5.length c0_5, .int .u16 a0_6, .int .u16 a0_7, .int .u16 a0_8, .int .i64 a0_9, .int .i64 a0_10] 41 (0, 0)) (by (with_reducible repeat (first | refine blk_drewN ?_ _ | refine blk_drew ?_ | refine blk_alloc ?_ _)); exact BK182.out)) : gb182 ≠ gb183)); have n6_ := Aside0.mk ((by rw [hg]; exact Nat.ne_of_gt (blk_lt (g := gb182) (o := .cells #[.int .i64 a0_0, .int .i64 a0_1, .int .i64 a0_2, .int .i64 a0_3, .string a0_4, .slice A0_5 l0_5.length c0_5, .int .u16 a0_6, .int .u16 a0_7, .int .u16 a0_8, .int .i64 a0_9, .int .i64 a0_10] 41 (0, 0)) (by (with_reducible repeat (first | refine blk_drewN ?_ _ | refine blk_drew ?_ | refine blk_alloc ?_ _)); exact BK182.out)) : gb183 ≠ gb182)); clear BK182; clear HB; have BK182 := n0_; have HB := n1_; have BK183 := n2_; have GW183 := n3_; have GE183 := n4_; have NB182_183 := n5_; have NB183_182 := n6_; clear n0_ n1_ n2_ n3_ n4_ n5_ n6_; clear hb hbox hg))
 repeat (go_quiet (first | ((with_reducible refine gate_dst (N := 2) rfl ?_); (try (refine gate_guard (by rfl) ?_; dsimp only)); refine box_event ?hg (N := 2) ?hd (cs := #[.int .i64 a0_0, .int .i64 a0_1, .int .i64 a0_2, .int .i64 a0_3, .string a0_4, .slice A0_5 l0_5.length c0_5, .int .u16 a0_6, .int .u16 a0_7, .int .u16 a0_8, .int .i64 a0_9, .int .i64 a0_10]) (t := 41) ?hr ?_; (case hd => rfl); (case hg => rfl); (case hr => first | (go_simp; done) | (go_simp; rfl)); intro gb182 hg w4 hbox hb; have n0_ := Aside0.mk (below_step (by repeat (first | (with_reducible first | exact HB.out | apply below_alloc | apply pw_below_drewN | apply below_drew1) | exact HB.out)) hb); have n1_ := Aside0.mk (hbox); have n2_ := Aside0.mk ((by rw [hg]; exact (below_size (by repeat (first | (with_reducible first | exact HB.out | apply below_alloc | apply pw_below_drewN | apply below_drew1) | exact HB.out))) : w.heap.size ≤ gb182)); have n3_ := Aside0.mk ((by rw [hg]; exact (below_size (by repeat (first | (with_reducible first | exact HB.out | apply below_alloc | apply pw_below_drewN | apply below_drew1) | exact HB.out))) : w.heap.size ≤ gb182)); clear HB; have HB := n0_; have BK182 := n1_; have GW182 := n2_; have GE182 := n3_; clear n0_ n1_ n2_ n3_; clear hb hbox hg) | ((with_reducible refine gate_dst (N := 3) rfl ?_); (try (refine gate_guard (by rfl) ?_; dsimp only)); refine box_event ?hg (N := 3) ?hd (cs := #[.int .i64 a1_0, .int .i64 a1_1, .int .i64 a1_2, .int .i64 a1_3, .string a1_4, .slice A1_5 l1_5.length c1_5, .int .u16 a1_6, .int .u16 a1_7, .int .u16 a1_8, .int .i64 a1_9, .int .i64 a1_10]) (t := 41) ?hr ?_; (case hd => rfl); (case hg => rfl); (case hr => first | (go_simp; done) | (go_simp; rfl)); intro gb183 hg w5 hbox hb; have n0_ := Aside0.mk (blk_below (g := gb182) (o := .cells #[.int .i64 a0_0, .int .i64 a0_1, .int .i64 a0_2, .int .i64 a0_3, .string a0_4, .slice A0_5 l0_5.length c0_5, .int .u16 a0_6, .int .u16 a0_7, .int .u16 a0_8, .int .i64 a0_9, .int .i64 a0_10] 41 (0, 0)) (by (with_reducible repeat (first | refine blk_drewN ?_ _ | refine blk_drew ?_ | refine blk_alloc ?_ _)); exact BK182.out) hb); have n1_ := Aside0.mk (below_step (by repeat (first | (with_reducible first | exact HB.out | apply below_alloc | apply pw_below_drewN | apply below_drew1 | refine below_set ?_ GE182.out) | exact HB.out)) hb); have n2_ := Aside0.mk (hbox); have n3_ := Aside0.mk ((by rw [hg]; exact (below_size (by repeat (first | (with_reducible first | exact HB.out | apply below_alloc | apply pw_below_drewN | apply below_drew1 | refine below_set ?_ GE182.out) | exact HB.out))) : w.heap.size ≤ gb183)); have n4_ := Aside0.mk ((by rw [hg]; exact (below_size (by repeat (first | (with_reducible first | exact HB.out | apply below_alloc | apply pw_below_drewN | apply below_drew1 | refine below_set ?_ GE182.out) | exact HB.out))) : w.heap.size ≤ gb183)); have n5_ := Aside0.mk ((by rw [hg]; exact Nat.ne_of_lt (blk_lt (g := gb182) (o := .cells #[.int .i64 a0_0, .int .i64 a0_1, .int .i64 a0_2, .int .i64 a0_3, .string a0_4, .slice A0_5 l0_5.length c0_5, .int .u16 a0_6, .int .u16 a0_7, .int .u16 a0_8, .int .i64 a0_9, .int .i64 a0_10] 41 (0, 0)) (by (with_reducible repeat (first | refine blk_drewN ?_ _ | refine blk_drew ?_ | refine blk_alloc ?_ _)); exact BK182.out)) : gb182 ≠ gb183)); have n6_ := Aside0.mk ((by rw [hg]; exact Nat.ne_of_gt (blk_lt (g := gb182) (o := .cells #[.int .i64 a0_0, .int .i64 a0_1, .int .i64 a0_2, .int .i64 a0_3, .string a0_4, .slice A0_5 l0_5.length c0_5, .int .u16 a0_6, .int .u16 a0_7, .int .u16 a0_8, .int .i64 a0_9, .int .i64 a0_10] 41 (0, 0)) (by (with_reducible repeat (first | refine blk_drewN ?_ _ | refine blk_drew ?_ | refine blk_alloc ?_ _)); exact BK182.out)) : gb183 ≠ gb182)); clear BK182; clear HB; have BK182 := n0_; have HB := n1_; have BK183 := n2_; have GW183 := n3_; have GE183 := n4_; have NB182_183 := n5_; have NB183_182 := n6_; clear n0_ n1_ n2_ n3_ n4_ n5_ n6_; clear hb hbox hg)); go_upto_region 1 with (first | ((with_reducible refine gate_dst (N := 2) rfl ?_); (try (refine gate_guard (by rfl) ?_; dsimp only)); refine box_event ?hg (N := 2) ?hd (cs := #[.int .i64 a0_0, .int .i64 a0_1, .int .i64 a0_2, .int .i64 a0_3, .string a0_4, .slice A0_5 l0_5.length c0_5, .int .u16 a0_6, .int .u16 a0_7, .int .u16 a0_8, .int .i64 a0_9, .int .i64 a0_10]) (t := 41) ?hr ?_; (case hd => rfl); (case hg => rfl); (case hr => first | (go_simp; done) | (go_simp; rfl)); intro gb182 hg w4 hbox hb; have n0_ := Aside0.mk (below_step (by repeat (first | (with_reducible first | exact HB.out | apply below_alloc | apply pw_below_drewN | apply below_drew1) | exact HB.out)) hb); have n1_ := Aside0.mk (hbox); have n2_ := Aside0.mk ((by rw [hg]; exact (below_size (by repeat (first | (with_reducible first | exact HB.out | apply below_alloc | apply pw_below_drewN | apply below_drew1) | exact HB.out))) : w.heap.size ≤ gb182)); have n3_ := Aside0.mk ((by rw [hg]; exact (below_size (by repeat (first | (with_reducible first | exact HB.out | apply below_alloc | apply pw_below_drewN | apply below_drew1) | exact HB.out))) : w.heap.size ≤ gb182)); clear HB; have HB := n0_; have BK182 := n1_; have GW182 := n2_; have GE182 := n3_; clear n0_ n1_ n2_ n3_; clear hb hbox hg) | ((with_reducible refine gate_dst (N := 3) rfl ?_); (try (refine gate_guard (by rfl) ?_; dsimp only)); refine box_event ?hg (N := 3) ?hd (cs := #[.int .i64 a1_0, .int .i64 a1_1, .int .i64 a1_2, .int .i64 a1_3, .string a1_4, .slice A1_5 l1_5.length c1_5, .int .u16 a1_6, .int .u16 a1_7, .int .u16 a1_8, .int .i64 a1_9, .int .i64 a1_10]) (t := 41) ?hr ?_; (case hd => rfl); (case hg => rfl); (case hr => first | (go_simp; done) | (go_simp; rfl)); intro gb183 hg w5 hbox hb; have n0_ := Aside0.mk (blk_below (g := gb182) (o := .cells #[.int .i64 a0_0, .int .i64 a0_1, .int .i64 a0_2, .int .i64 a0_3, .string a0_4, .slice A0_5 l0_5.length c0_5, .int .u16 a0_6, .int .u16 a0_7, .int .u16 a0_8, .int .i64 a0_9, .int .i64 a0_10] 41 (0, 0)) (by (with_reducible repeat (first | refine blk_drewN ?_ _ | refine blk_drew ?_ | refine blk_alloc ?_ _)); exact BK182.out) hb); have n1_ := Aside0.mk (below_step (by repeat (first | (with_reducible first | exact HB.out | apply below_alloc | apply pw_below_drewN | apply below_drew1 | refine below_set ?_ GE182.out) | exact HB.out)) hb); have n2_ := Aside0.mk (hbox); have n3_ := Aside0.mk ((by rw [hg]; exact (below_size (by repeat (first | (with_reducible first | exact HB.out | apply below_alloc | apply pw_below_drewN | apply below_drew1 | refine below_set ?_ GE182.out) | exact HB.out))) : w.heap.size ≤ gb183)); have n4_ := Aside0.mk ((by rw [hg]; exact (below_size (by repeat (first | (with_reducible first | exact HB.out | apply below_alloc | apply pw_below_drewN | apply below_drew1 | refine below_set ?_ GE182.out) | exact HB.out))) : w.heap.size ≤ gb183)); have n5_ := Aside0.mk ((by rw [hg]; exact Nat.ne_of_lt (blk_lt (g := gb182) (o := .cells #[.int .i64 a0_0, .int .i64 a0_1, .int .i64 a0_2, .int .i64 a0_3, .string a0_4, .slice A0_5 l0_5.length c0_5, .int .u16 a0_6, .int .u16 a0_7, .int .u16 a0_8, .int .i64 a0_9, .int .i64 a0_10] 41 (0, 0)) (by (with_reducible repeat (first | refine blk_drewN ?_ _ | refine blk_drew ?_ | refine blk_alloc ?_ _)); exact BK182.out)) : gb182 ≠ gb183)); have n6_ := Aside0.mk ((by rw [hg]; exact Nat.ne_of_gt (blk_lt (g := gb182) (o := .cells #[.int .i64 a0_0, .int .i64 a0_1, .int .i64 a0_2, .int .i64 a0_3, .string a0_4, .slice A0_5 l0_5.length c0_5, .int .u16 a0_6, .int .u16 a0_7, .int .u16 a0_8, .int .i64 a0_9, .int .i64 a0_10] 41 (0, 0)) (by (with_reducible repeat (first | refine blk_drewN ?_ _ | refine blk_drew ?_ | refine blk_alloc ?_ _)); exact BK182.out)) : gb183 ≠ gb182)); clear BK182; clear HB; have BK182 := n0_; have HB := n1_; have BK183 := n2_; have GW183 := n3_; have GE183 := n4_; have NB182_183 := n5_; have NB183_182 := n6_; clear n0_ n1_ n2_ n3_ n4_ n5_ n6_; clear hb hbox hg)))
 (try simp only [Act.put, List.setIfInBounds_toArray, List.set_cons_zero, List.set_cons_succ])
 go_cut [54] (fun v54 wc => ∃ (kq : Nat) (x54_2 : Bool), v54 = .bool x54_2 ∧ Aside0 (antipoderef29_Same.j0 kq x54_2 a0_0 a0_1 a0_2 a0_3 a0_4 l0_5 a0_6 a0_7 a0_8 a0_9 a0_10 a1_0 a1_1 a1_2 a1_3 a1_4 l1_5 a1_6 a1_7 a1_8 a1_9 a1_10 = some r) ∧ Aside0 (kq ≤ k) ∧ Aside0 (wc.heap[gb182]? = some (.cells #[.int .i64 a0_0, .int .i64 a0_1, .int .i64 a0_2, .int .i64 a0_3, .string a0_4, (.slice A0_5 l0_5.length c0_5), .int .u16 a0_6, .int .u16 a0_7, .int .u16 a0_8, .int .i64 a0_9, .int .i64 a0_10] 41 (0, 0))) ∧ Aside0 (wc.heap[gb183]? = some (.cells #[.int .i64 a1_0, .int .i64 a1_1, .int .i64 a1_2, .int .i64 a1_3, .string a1_4, (.slice A1_5 l1_5.length c1_5), .int .u16 a1_6, .int .u16 a1_7, .int .u16 a1_8, .int .i64 a1_9, .int .i64 a1_10] 41 (0, 0))) ∧ Aside0 (Below w.heap.size w wc))
 case first =>
  have H := HC3.out
  clear HC3
  by_cases c6 : a0_0 = a1_0
  ·rw [if_pos c6] at H
   have c6b0 : (a0_0 == a1_0) = true := beq_iff_eq.mpr c6
   have c6b1 : (a0_0 != a1_0) = false := bne_eq_false_iff_eq.mpr c6
   clear c6
   (first | rw [c6b0] | (simp only [i64_w, i32_w]; rw [c6b0]) | skip)
   by_cases c7 : a0_1 = a1_1
   ·rw [if_pos c7] at H
    have c7b0 : (a0_1 == a1_1) = true := beq_iff_eq.mpr c7
    have c7b1 : (a0_1 != a1_1) = false := bne_eq_false_iff_eq.mpr c7
    clear c7
    by_cases c8 : a0_2 = a1_2
    ·rw [if_pos c8] at H
     have c8b0 : (a0_2 == a1_2) = true := beq_iff_eq.mpr c8
     have c8b1 : (a0_2 != a1_2) = false := bne_eq_false_iff_eq.mpr c8
     clear c8
     by_cases c9 : a0_3 = a1_3
     ·rw [if_pos c9] at H
      have c9b0 : (a0_3 == a1_3) = true := beq_iff_eq.mpr c9
      have c9b1 : (a0_3 != a1_3) = false := bne_eq_false_iff_eq.mpr c9
      clear c9
      by_cases c10 : a0_4.toList = a1_4.toList
      ·rw [if_pos c10] at H
       have c10b0 : (a0_4.toList == a1_4.toList) = true := beq_iff_eq.mpr c10
       have c10b1 : (a0_4.toList != a1_4.toList) = false := bne_eq_false_iff_eq.mpr c10
       clear c10
       by_cases c11 : (!(a0_6 == a1_6) || (!(a0_7 == a1_7) || (!(a0_8 == a1_8) || (!(a0_9 == a1_9) || (!(a0_10 == a1_10)))))) = true
       ·rw [if_pos c11] at H
        have c11b0 : (!(a0_6 == a1_6) || (!(a0_7 == a1_7) || (!(a0_8 == a1_8) || (!(a0_9 == a1_9) || (!(a0_10 == a1_10)))))) = true := c11
        clear c11
        have H' := Aside0.mk H
        clear H
        have hnb12 := NB182_183.out
        have hnc12 := NB183_182.out
        have hcz13_0 : w5.cell? ⟨gb182, 0, none⟩ = some (.int .i64 a0_0) := (blk_cell BK182.out 0).trans rfl
        have hcz13_1 : w5.cell? ⟨gb182, 1, none⟩ = some (.int .i64 a0_1) := (blk_cell BK182.out 1).trans rfl
        have hcz13_2 : w5.cell? ⟨gb182, 2, none⟩ = some (.int .i64 a0_2) := (blk_cell BK182.out 2).trans rfl
        have hcz13_3 : w5.cell? ⟨gb182, 3, none⟩ = some (.int .i64 a0_3) := (blk_cell BK182.out 3).trans rfl
        have hcz13_4 : w5.cell? ⟨gb182, 4, none⟩ = some (.string a0_4) := (blk_cell BK182.out 4).trans rfl
        have hcz13_5 : w5.cell? ⟨gb182, 5, none⟩ = some (.slice A0_5 l0_5.length c0_5) := (blk_cell BK182.out 5).trans rfl
        have hcz13_6 : w5.cell? ⟨gb182, 6, none⟩ = some (.int .u16 a0_6) := (blk_cell BK182.out 6).trans rfl
        have hcz13_7 : w5.cell? ⟨gb182, 7, none⟩ = some (.int .u16 a0_7) := (blk_cell BK182.out 7).trans rfl
        have hcz13_8 : w5.cell? ⟨gb182, 8, none⟩ = some (.int .u16 a0_8) := (blk_cell BK182.out 8).trans rfl
        have hcz13_9 : w5.cell? ⟨gb182, 9, none⟩ = some (.int .i64 a0_9) := (blk_cell BK182.out 9).trans rfl
        have hcz13_10 : w5.cell? ⟨gb182, 10, none⟩ = some (.int .i64 a0_10) := (blk_cell BK182.out 10).trans rfl
        have hfz13_0 := blk_frozen BK182.out 0
        have hfz13_1 := blk_frozen BK182.out 1
        have hfz13_2 := blk_frozen BK182.out 2
        have hfz13_3 := blk_frozen BK182.out 3
        have hfz13_4 := blk_frozen BK182.out 4
        have hfz13_5 := blk_frozen BK182.out 5
        have hfz13_6 := blk_frozen BK182.out 6
        have hfz13_7 := blk_frozen BK182.out 7
        have hfz13_8 := blk_frozen BK182.out 8
        have hfz13_9 := blk_frozen BK182.out 9
        have hfz13_10 := blk_frozen BK182.out 10
        have hcz14_0 : w5.cell? ⟨gb183, 0, none⟩ = some (.int .i64 a1_0) := (blk_cell BK183.out 0).trans rfl
        have hcz14_1 : w5.cell? ⟨gb183, 1, none⟩ = some (.int .i64 a1_1) := (blk_cell BK183.out 1).trans rfl
        have hcz14_2 : w5.cell? ⟨gb183, 2, none⟩ = some (.int .i64 a1_2) := (blk_cell BK183.out 2).trans rfl
        have hcz14_3 : w5.cell? ⟨gb183, 3, none⟩ = some (.int .i64 a1_3) := (blk_cell BK183.out 3).trans rfl
        have hcz14_4 : w5.cell? ⟨gb183, 4, none⟩ = some (.string a1_4) := (blk_cell BK183.out 4).trans rfl
        have hcz14_5 : w5.cell? ⟨gb183, 5, none⟩ = some (.slice A1_5 l1_5.length c1_5) := (blk_cell BK183.out 5).trans rfl
        have hcz14_6 : w5.cell? ⟨gb183, 6, none⟩ = some (.int .u16 a1_6) := (blk_cell BK183.out 6).trans rfl
        have hcz14_7 : w5.cell? ⟨gb183, 7, none⟩ = some (.int .u16 a1_7) := (blk_cell BK183.out 7).trans rfl
        have hcz14_8 : w5.cell? ⟨gb183, 8, none⟩ = some (.int .u16 a1_8) := (blk_cell BK183.out 8).trans rfl
        have hcz14_9 : w5.cell? ⟨gb183, 9, none⟩ = some (.int .i64 a1_9) := (blk_cell BK183.out 9).trans rfl
        have hcz14_10 : w5.cell? ⟨gb183, 10, none⟩ = some (.int .i64 a1_10) := (blk_cell BK183.out 10).trans rfl
        have hfz14_0 := blk_frozen BK183.out 0
        have hfz14_1 := blk_frozen BK183.out 1
        have hfz14_2 := blk_frozen BK183.out 2
        have hfz14_3 := blk_frozen BK183.out 3
        have hfz14_4 := blk_frozen BK183.out 4
        have hfz14_5 := blk_frozen BK183.out 5
        have hfz14_6 := blk_frozen BK183.out 6
        have hfz14_7 := blk_frozen BK183.out 7
        have hfz14_8 := blk_frozen BK183.out 8
        have hfz14_9 := blk_frozen BK183.out 9
        have hfz14_10 := blk_frozen BK183.out 10
        go_wp2
        repeat (go_quiet (fail); try go_wp2)
        go_meet
        case rel => exact ⟨_, (true), (by first | rfl | (simp; done) | (simp [*]; done)), H', ⟨by first | omega | exact Nat.le_refl _⟩, ⟨by (with_reducible repeat (first | refine blk_drewN ?_ _ | refine blk_drew ?_ | refine blk_alloc ?_ _)); exact BK182.out⟩, ⟨by (with_reducible repeat (first | refine blk_drewN ?_ _ | refine blk_drew ?_ | refine blk_alloc ?_ _)); exact BK183.out⟩, ⟨by repeat (first | (with_reducible first | exact HB.out | apply below_alloc | apply pw_below_drewN | apply below_drew1 | refine below_set ?_ GE182.out | refine below_set ?_ GE183.out) | exact HB.out)⟩⟩
       ·rw [if_neg c11] at H
        have c11b0 : (!(a0_6 == a1_6) || (!(a0_7 == a1_7) || (!(a0_8 == a1_8) || (!(a0_9 == a1_9) || (!(a0_10 == a1_10)))))) = false := by simpa using c11
        clear c11
        have H' := Aside0.mk H
        clear H
        have hnb15 := NB182_183.out
        have hnc15 := NB183_182.out
        have hcz16_0 : w5.cell? ⟨gb182, 0, none⟩ = some (.int .i64 a0_0) := (blk_cell BK182.out 0).trans rfl
        have hcz16_1 : w5.cell? ⟨gb182, 1, none⟩ = some (.int .i64 a0_1) := (blk_cell BK182.out 1).trans rfl
        have hcz16_2 : w5.cell? ⟨gb182, 2, none⟩ = some (.int .i64 a0_2) := (blk_cell BK182.out 2).trans rfl
        have hcz16_3 : w5.cell? ⟨gb182, 3, none⟩ = some (.int .i64 a0_3) := (blk_cell BK182.out 3).trans rfl
        have hcz16_4 : w5.cell? ⟨gb182, 4, none⟩ = some (.string a0_4) := (blk_cell BK182.out 4).trans rfl
        have hcz16_5 : w5.cell? ⟨gb182, 5, none⟩ = some (.slice A0_5 l0_5.length c0_5) := (blk_cell BK182.out 5).trans rfl
        have hcz16_6 : w5.cell? ⟨gb182, 6, none⟩ = some (.int .u16 a0_6) := (blk_cell BK182.out 6).trans rfl
        have hcz16_7 : w5.cell? ⟨gb182, 7, none⟩ = some (.int .u16 a0_7) := (blk_cell BK182.out 7).trans rfl
        have hcz16_8 : w5.cell? ⟨gb182, 8, none⟩ = some (.int .u16 a0_8) := (blk_cell BK182.out 8).trans rfl
        have hcz16_9 : w5.cell? ⟨gb182, 9, none⟩ = some (.int .i64 a0_9) := (blk_cell BK182.out 9).trans rfl
        have hcz16_10 : w5.cell? ⟨gb182, 10, none⟩ = some (.int .i64 a0_10) := (blk_cell BK182.out 10).trans rfl
        have hfz16_0 := blk_frozen BK182.out 0
        have hfz16_1 := blk_frozen BK182.out 1
        have hfz16_2 := blk_frozen BK182.out 2
        have hfz16_3 := blk_frozen BK182.out 3
        have hfz16_4 := blk_frozen BK182.out 4
        have hfz16_5 := blk_frozen BK182.out 5
        have hfz16_6 := blk_frozen BK182.out 6
        have hfz16_7 := blk_frozen BK182.out 7
        have hfz16_8 := blk_frozen BK182.out 8
        have hfz16_9 := blk_frozen BK182.out 9
        have hfz16_10 := blk_frozen BK182.out 10
        have hcz17_0 : w5.cell? ⟨gb183, 0, none⟩ = some (.int .i64 a1_0) := (blk_cell BK183.out 0).trans rfl
        have hcz17_1 : w5.cell? ⟨gb183, 1, none⟩ = some (.int .i64 a1_1) := (blk_cell BK183.out 1).trans rfl
        have hcz17_2 : w5.cell? ⟨gb183, 2, none⟩ = some (.int .i64 a1_2) := (blk_cell BK183.out 2).trans rfl
        have hcz17_3 : w5.cell? ⟨gb183, 3, none⟩ = some (.int .i64 a1_3) := (blk_cell BK183.out 3).trans rfl
        have hcz17_4 : w5.cell? ⟨gb183, 4, none⟩ = some (.string a1_4) := (blk_cell BK183.out 4).trans rfl
        have hcz17_5 : w5.cell? ⟨gb183, 5, none⟩ = some (.slice A1_5 l1_5.length c1_5) := (blk_cell BK183.out 5).trans rfl
        have hcz17_6 : w5.cell? ⟨gb183, 6, none⟩ = some (.int .u16 a1_6) := (blk_cell BK183.out 6).trans rfl
        have hcz17_7 : w5.cell? ⟨gb183, 7, none⟩ = some (.int .u16 a1_7) := (blk_cell BK183.out 7).trans rfl
        have hcz17_8 : w5.cell? ⟨gb183, 8, none⟩ = some (.int .u16 a1_8) := (blk_cell BK183.out 8).trans rfl
        have hcz17_9 : w5.cell? ⟨gb183, 9, none⟩ = some (.int .i64 a1_9) := (blk_cell BK183.out 9).trans rfl
        have hcz17_10 : w5.cell? ⟨gb183, 10, none⟩ = some (.int .i64 a1_10) := (blk_cell BK183.out 10).trans rfl
        have hfz17_0 := blk_frozen BK183.out 0
        have hfz17_1 := blk_frozen BK183.out 1
        have hfz17_2 := blk_frozen BK183.out 2
        have hfz17_3 := blk_frozen BK183.out 3
        have hfz17_4 := blk_frozen BK183.out 4
        have hfz17_5 := blk_frozen BK183.out 5
        have hfz17_6 := blk_frozen BK183.out 6
        have hfz17_7 := blk_frozen BK183.out 7
        have hfz17_8 := blk_frozen BK183.out 8
        have hfz17_9 := blk_frozen BK183.out 9
        have hfz17_10 := blk_frozen BK183.out 10
        go_wp2
        repeat (go_quiet (fail); try go_wp2)
        go_meet
        case rel => exact ⟨_, (((l0_5.length : Int) != (l1_5.length : Int))), (by first | rfl | (simp; done) | (simp [*]; done)), H', ⟨by first | omega | exact Nat.le_refl _⟩, ⟨by (with_reducible repeat (first | refine blk_drewN ?_ _ | refine blk_drew ?_ | refine blk_alloc ?_ _)); exact BK182.out⟩, ⟨by (with_reducible repeat (first | refine blk_drewN ?_ _ | refine blk_drew ?_ | refine blk_alloc ?_ _)); exact BK183.out⟩, ⟨by repeat (first | (with_reducible first | exact HB.out | apply below_alloc | apply pw_below_drewN | apply below_drew1 | refine below_set ?_ GE182.out | refine below_set ?_ GE183.out) | exact HB.out)⟩⟩
      ·rw [if_neg c10] at H
       have c10b0 : (a0_4.toList == a1_4.toList) = false := beq_eq_false_iff_ne.mpr c10
       have c10b1 : (a0_4.toList != a1_4.toList) = true := bne_iff_ne.mpr c10
       have H' := Aside0.mk H
       clear H
       have hnb18 := NB182_183.out
       have hnc18 := NB183_182.out
       have hcz19_0 : w5.cell? ⟨gb182, 0, none⟩ = some (.int .i64 a0_0) := (blk_cell BK182.out 0).trans rfl
       have hcz19_1 : w5.cell? ⟨gb182, 1, none⟩ = some (.int .i64 a0_1) := (blk_cell BK182.out 1).trans rfl
       have hcz19_2 : w5.cell? ⟨gb182, 2, none⟩ = some (.int .i64 a0_2) := (blk_cell BK182.out 2).trans rfl
       have hcz19_3 : w5.cell? ⟨gb182, 3, none⟩ = some (.int .i64 a0_3) := (blk_cell BK182.out 3).trans rfl
       have hcz19_4 : w5.cell? ⟨gb182, 4, none⟩ = some (.string a0_4) := (blk_cell BK182.out 4).trans rfl
       have hcz19_5 : w5.cell? ⟨gb182, 5, none⟩ = some (.slice A0_5 l0_5.length c0_5) := (blk_cell BK182.out 5).trans rfl
       have hcz19_6 : w5.cell? ⟨gb182, 6, none⟩ = some (.int .u16 a0_6) := (blk_cell BK182.out 6).trans rfl
       have hcz19_7 : w5.cell? ⟨gb182, 7, none⟩ = some (.int .u16 a0_7) := (blk_cell BK182.out 7).trans rfl
       have hcz19_8 : w5.cell? ⟨gb182, 8, none⟩ = some (.int .u16 a0_8) := (blk_cell BK182.out 8).trans rfl
       have hcz19_9 : w5.cell? ⟨gb182, 9, none⟩ = some (.int .i64 a0_9) := (blk_cell BK182.out 9).trans rfl
       have hcz19_10 : w5.cell? ⟨gb182, 10, none⟩ = some (.int .i64 a0_10) := (blk_cell BK182.out 10).trans rfl
       have hfz19_0 := blk_frozen BK182.out 0
       have hfz19_1 := blk_frozen BK182.out 1
       have hfz19_2 := blk_frozen BK182.out 2
       have hfz19_3 := blk_frozen BK182.out 3
       have hfz19_4 := blk_frozen BK182.out 4
       have hfz19_5 := blk_frozen BK182.out 5
       have hfz19_6 := blk_frozen BK182.out 6
       have hfz19_7 := blk_frozen BK182.out 7
       have hfz19_8 := blk_frozen BK182.out 8
       have hfz19_9 := blk_frozen BK182.out 9
       have hfz19_10 := blk_frozen BK182.out 10
       have hcz20_0 : w5.cell? ⟨gb183, 0, none⟩ = some (.int .i64 a1_0) := (blk_cell BK183.out 0).trans rfl
       have hcz20_1 : w5.cell? ⟨gb183, 1, none⟩ = some (.int .i64 a1_1) := (blk_cell BK183.out 1).trans rfl
       have hcz20_2 : w5.cell? ⟨gb183, 2, none⟩ = some (.int .i64 a1_2) := (blk_cell BK183.out 2).trans rfl
       have hcz20_3 : w5.cell? ⟨gb183, 3, none⟩ = some (.int .i64 a1_3) := (blk_cell BK183.out 3).trans rfl
       have hcz20_4 : w5.cell? ⟨gb183, 4, none⟩ = some (.string a1_4) := (blk_cell BK183.out 4).trans rfl
       have hcz20_5 : w5.cell? ⟨gb183, 5, none⟩ = some (.slice A1_5 l1_5.length c1_5) := (blk_cell BK183.out 5).trans rfl
       have hcz20_6 : w5.cell? ⟨gb183, 6, none⟩ = some (.int .u16 a1_6) := (blk_cell BK183.out 6).trans rfl
       have hcz20_7 : w5.cell? ⟨gb183, 7, none⟩ = some (.int .u16 a1_7) := (blk_cell BK183.out 7).trans rfl
       have hcz20_8 : w5.cell? ⟨gb183, 8, none⟩ = some (.int .u16 a1_8) := (blk_cell BK183.out 8).trans rfl
       have hcz20_9 : w5.cell? ⟨gb183, 9, none⟩ = some (.int .i64 a1_9) := (blk_cell BK183.out 9).trans rfl
       have hcz20_10 : w5.cell? ⟨gb183, 10, none⟩ = some (.int .i64 a1_10) := (blk_cell BK183.out 10).trans rfl
       have hfz20_0 := blk_frozen BK183.out 0
       have hfz20_1 := blk_frozen BK183.out 1
       have hfz20_2 := blk_frozen BK183.out 2
       have hfz20_3 := blk_frozen BK183.out 3
       have hfz20_4 := blk_frozen BK183.out 4
       have hfz20_5 := blk_frozen BK183.out 5
       have hfz20_6 := blk_frozen BK183.out 6
       have hfz20_7 := blk_frozen BK183.out 7
       have hfz20_8 := blk_frozen BK183.out 8
       have hfz20_9 := blk_frozen BK183.out 9
       have hfz20_10 := blk_frozen BK183.out 10
       go_wp2
       repeat (go_quiet (fail); try go_wp2)
       go_meet
       case rel => exact ⟨_, (true), (by first | rfl | (simp; done) | (simp [*]; done)), H', ⟨by first | omega | exact Nat.le_refl _⟩, ⟨by (with_reducible repeat (first | refine blk_drewN ?_ _ | refine blk_drew ?_ | refine blk_alloc ?_ _)); exact BK182.out⟩, ⟨by (with_reducible repeat (first | refine blk_drewN ?_ _ | refine blk_drew ?_ | refine blk_alloc ?_ _)); exact BK183.out⟩, ⟨by repeat (first | (with_reducible first | exact HB.out | apply below_alloc | apply pw_below_drewN | apply below_drew1 | refine below_set ?_ GE182.out | refine below_set ?_ GE183.out) | exact HB.out)⟩⟩
     ·rw [if_neg c9] at H
      have c9b0 : (a0_3 == a1_3) = false := beq_eq_false_iff_ne.mpr c9
      have c9b1 : (a0_3 != a1_3) = true := bne_iff_ne.mpr c9
      have H' := Aside0.mk H
      clear H
      have hnb21 := NB182_183.out
      have hnc21 := NB183_182.out
      have hcz22_0 : w5.cell? ⟨gb182, 0, none⟩ = some (.int .i64 a0_0) := (blk_cell BK182.out 0).trans rfl
      have hcz22_1 : w5.cell? ⟨gb182, 1, none⟩ = some (.int .i64 a0_1) := (blk_cell BK182.out 1).trans rfl
      have hcz22_2 : w5.cell? ⟨gb182, 2, none⟩ = some (.int .i64 a0_2) := (blk_cell BK182.out 2).trans rfl
      have hcz22_3 : w5.cell? ⟨gb182, 3, none⟩ = some (.int .i64 a0_3) := (blk_cell BK182.out 3).trans rfl
      have hcz22_4 : w5.cell? ⟨gb182, 4, none⟩ = some (.string a0_4) := (blk_cell BK182.out 4).trans rfl
      have hcz22_5 : w5.cell? ⟨gb182, 5, none⟩ = some (.slice A0_5 l0_5.length c0_5) := (blk_cell BK182.out 5).trans rfl
      have hcz22_6 : w5.cell? ⟨gb182, 6, none⟩ = some (.int .u16 a0_6) := (blk_cell BK182.out 6).trans rfl
      have hcz22_7 : w5.cell? ⟨gb182, 7, none⟩ = some (.int .u16 a0_7) := (blk_cell BK182.out 7).trans rfl
      have hcz22_8 : w5.cell? ⟨gb182, 8, none⟩ = some (.int .u16 a0_8) := (blk_cell BK182.out 8).trans rfl
      have hcz22_9 : w5.cell? ⟨gb182, 9, none⟩ = some (.int .i64 a0_9) := (blk_cell BK182.out 9).trans rfl
      have hcz22_10 : w5.cell? ⟨gb182, 10, none⟩ = some (.int .i64 a0_10) := (blk_cell BK182.out 10).trans rfl
      have hfz22_0 := blk_frozen BK182.out 0
      have hfz22_1 := blk_frozen BK182.out 1
      have hfz22_2 := blk_frozen BK182.out 2
      have hfz22_3 := blk_frozen BK182.out 3
      have hfz22_4 := blk_frozen BK182.out 4
      have hfz22_5 := blk_frozen BK182.out 5
      have hfz22_6 := blk_frozen BK182.out 6
      have hfz22_7 := blk_frozen BK182.out 7
      have hfz22_8 := blk_frozen BK182.out 8
      have hfz22_9 := blk_frozen BK182.out 9
      have hfz22_10 := blk_frozen BK182.out 10
      have hcz23_0 : w5.cell? ⟨gb183, 0, none⟩ = some (.int .i64 a1_0) := (blk_cell BK183.out 0).trans rfl
      have hcz23_1 : w5.cell? ⟨gb183, 1, none⟩ = some (.int .i64 a1_1) := (blk_cell BK183.out 1).trans rfl
      have hcz23_2 : w5.cell? ⟨gb183, 2, none⟩ = some (.int .i64 a1_2) := (blk_cell BK183.out 2).trans rfl
      have hcz23_3 : w5.cell? ⟨gb183, 3, none⟩ = some (.int .i64 a1_3) := (blk_cell BK183.out 3).trans rfl
      have hcz23_4 : w5.cell? ⟨gb183, 4, none⟩ = some (.string a1_4) := (blk_cell BK183.out 4).trans rfl
      have hcz23_5 : w5.cell? ⟨gb183, 5, none⟩ = some (.slice A1_5 l1_5.length c1_5) := (blk_cell BK183.out 5).trans rfl
      have hcz23_6 : w5.cell? ⟨gb183, 6, none⟩ = some (.int .u16 a1_6) := (blk_cell BK183.out 6).trans rfl
      have hcz23_7 : w5.cell? ⟨gb183, 7, none⟩ = some (.int .u16 a1_7) := (blk_cell BK183.out 7).trans rfl
      have hcz23_8 : w5.cell? ⟨gb183, 8, none⟩ = some (.int .u16 a1_8) := (blk_cell BK183.out 8).trans rfl
      have hcz23_9 : w5.cell? ⟨gb183, 9, none⟩ = some (.int .i64 a1_9) := (blk_cell BK183.out 9).trans rfl
      have hcz23_10 : w5.cell? ⟨gb183, 10, none⟩ = some (.int .i64 a1_10) := (blk_cell BK183.out 10).trans rfl
      have hfz23_0 := blk_frozen BK183.out 0
      have hfz23_1 := blk_frozen BK183.out 1
      have hfz23_2 := blk_frozen BK183.out 2
      have hfz23_3 := blk_frozen BK183.out 3
      have hfz23_4 := blk_frozen BK183.out 4
      have hfz23_5 := blk_frozen BK183.out 5
      have hfz23_6 := blk_frozen BK183.out 6
      have hfz23_7 := blk_frozen BK183.out 7
      have hfz23_8 := blk_frozen BK183.out 8
      have hfz23_9 := blk_frozen BK183.out 9
      have hfz23_10 := blk_frozen BK183.out 10
      go_wp2
      repeat (go_quiet (fail); try go_wp2)
      go_meet
      case rel => exact ⟨_, (true), (by first | rfl | (simp; done) | (simp [*]; done)), H', ⟨by first | omega | exact Nat.le_refl _⟩, ⟨by (with_reducible repeat (first | refine blk_drewN ?_ _ | refine blk_drew ?_ | refine blk_alloc ?_ _)); exact BK182.out⟩, ⟨by (with_reducible repeat (first | refine blk_drewN ?_ _ | refine blk_drew ?_ | refine blk_alloc ?_ _)); exact BK183.out⟩, ⟨by repeat (first | (with_reducible first | exact HB.out | apply below_alloc | apply pw_below_drewN | apply below_drew1 | refine below_set ?_ GE182.out | refine below_set ?_ GE183.out) | exact HB.out)⟩⟩
    ·rw [if_neg c8] at H
     have c8b0 : (a0_2 == a1_2) = false := beq_eq_false_iff_ne.mpr c8
     have c8b1 : (a0_2 != a1_2) = true := bne_iff_ne.mpr c8
     have H' := Aside0.mk H
     clear H
     have hnb24 := NB182_183.out
     have hnc24 := NB183_182.out
     have hcz25_0 : w5.cell? ⟨gb182, 0, none⟩ = some (.int .i64 a0_0) := (blk_cell BK182.out 0).trans rfl
     have hcz25_1 : w5.cell? ⟨gb182, 1, none⟩ = some (.int .i64 a0_1) := (blk_cell BK182.out 1).trans rfl
     have hcz25_2 : w5.cell? ⟨gb182, 2, none⟩ = some (.int .i64 a0_2) := (blk_cell BK182.out 2).trans rfl
     have hcz25_3 : w5.cell? ⟨gb182, 3, none⟩ = some (.int .i64 a0_3) := (blk_cell BK182.out 3).trans rfl
     have hcz25_4 : w5.cell? ⟨gb182, 4, none⟩ = some (.string a0_4) := (blk_cell BK182.out 4).trans rfl
     have hcz25_5 : w5.cell? ⟨gb182, 5, none⟩ = some (.slice A0_5 l0_5.length c0_5) := (blk_cell BK182.out 5).trans rfl
     have hcz25_6 : w5.cell? ⟨gb182, 6, none⟩ = some (.int .u16 a0_6) := (blk_cell BK182.out 6).trans rfl
     have hcz25_7 : w5.cell? ⟨gb182, 7, none⟩ = some (.int .u16 a0_7) := (blk_cell BK182.out 7).trans rfl
     have hcz25_8 : w5.cell? ⟨gb182, 8, none⟩ = some (.int .u16 a0_8) := (blk_cell BK182.out 8).trans rfl
     have hcz25_9 : w5.cell? ⟨gb182, 9, none⟩ = some (.int .i64 a0_9) := (blk_cell BK182.out 9).trans rfl
     have hcz25_10 : w5.cell? ⟨gb182, 10, none⟩ = some (.int .i64 a0_10) := (blk_cell BK182.out 10).trans rfl
     have hfz25_0 := blk_frozen BK182.out 0
     have hfz25_1 := blk_frozen BK182.out 1
     have hfz25_2 := blk_frozen BK182.out 2
     have hfz25_3 := blk_frozen BK182.out 3
     have hfz25_4 := blk_frozen BK182.out 4
     have hfz25_5 := blk_frozen BK182.out 5
     have hfz25_6 := blk_frozen BK182.out 6
     have hfz25_7 := blk_frozen BK182.out 7
     have hfz25_8 := blk_frozen BK182.out 8
     have hfz25_9 := blk_frozen BK182.out 9
     have hfz25_10 := blk_frozen BK182.out 10
     have hcz26_0 : w5.cell? ⟨gb183, 0, none⟩ = some (.int .i64 a1_0) := (blk_cell BK183.out 0).trans rfl
     have hcz26_1 : w5.cell? ⟨gb183, 1, none⟩ = some (.int .i64 a1_1) := (blk_cell BK183.out 1).trans rfl
     have hcz26_2 : w5.cell? ⟨gb183, 2, none⟩ = some (.int .i64 a1_2) := (blk_cell BK183.out 2).trans rfl
     have hcz26_3 : w5.cell? ⟨gb183, 3, none⟩ = some (.int .i64 a1_3) := (blk_cell BK183.out 3).trans rfl
     have hcz26_4 : w5.cell? ⟨gb183, 4, none⟩ = some (.string a1_4) := (blk_cell BK183.out 4).trans rfl
     have hcz26_5 : w5.cell? ⟨gb183, 5, none⟩ = some (.slice A1_5 l1_5.length c1_5) := (blk_cell BK183.out 5).trans rfl
     have hcz26_6 : w5.cell? ⟨gb183, 6, none⟩ = some (.int .u16 a1_6) := (blk_cell BK183.out 6).trans rfl
     have hcz26_7 : w5.cell? ⟨gb183, 7, none⟩ = some (.int .u16 a1_7) := (blk_cell BK183.out 7).trans rfl
     have hcz26_8 : w5.cell? ⟨gb183, 8, none⟩ = some (.int .u16 a1_8) := (blk_cell BK183.out 8).trans rfl
     have hcz26_9 : w5.cell? ⟨gb183, 9, none⟩ = some (.int .i64 a1_9) := (blk_cell BK183.out 9).trans rfl
     have hcz26_10 : w5.cell? ⟨gb183, 10, none⟩ = some (.int .i64 a1_10) := (blk_cell BK183.out 10).trans rfl
     have hfz26_0 := blk_frozen BK183.out 0
     have hfz26_1 := blk_frozen BK183.out 1
     have hfz26_2 := blk_frozen BK183.out 2
     have hfz26_3 := blk_frozen BK183.out 3
     have hfz26_4 := blk_frozen BK183.out 4
     have hfz26_5 := blk_frozen BK183.out 5
     have hfz26_6 := blk_frozen BK183.out 6
     have hfz26_7 := blk_frozen BK183.out 7
     have hfz26_8 := blk_frozen BK183.out 8
     have hfz26_9 := blk_frozen BK183.out 9
     have hfz26_10 := blk_frozen BK183.out 10
     go_wp2
     repeat (go_quiet (fail); try go_wp2)
     go_meet
     case rel => exact ⟨_, (true), (by first | rfl | (simp; done) | (simp [*]; done)), H', ⟨by first | omega | exact Nat.le_refl _⟩, ⟨by (with_reducible repeat (first | refine blk_drewN ?_ _ | refine blk_drew ?_ | refine blk_alloc ?_ _)); exact BK182.out⟩, ⟨by (with_reducible repeat (first | refine blk_drewN ?_ _ | refine blk_drew ?_ | refine blk_alloc ?_ _)); exact BK183.out⟩, ⟨by repeat (first | (with_reducible first | exact HB.out | apply below_alloc | apply pw_below_drewN | apply below_drew1 | refine below_set ?_ GE182.out | refine below_set ?_ GE183.out) | exact HB.out)⟩⟩
   ·rw [if_neg c7] at H
    have c7b0 : (a0_1 == a1_1) = false := beq_eq_false_iff_ne.mpr c7
    have c7b1 : (a0_1 != a1_1) = true := bne_iff_ne.mpr c7
    have H' := Aside0.mk H
    clear H
    have hnb27 := NB182_183.out
    have hnc27 := NB183_182.out
    have hcz28_0 : w5.cell? ⟨gb182, 0, none⟩ = some (.int .i64 a0_0) := (blk_cell BK182.out 0).trans rfl
    have hcz28_1 : w5.cell? ⟨gb182, 1, none⟩ = some (.int .i64 a0_1) := (blk_cell BK182.out 1).trans rfl
    have hcz28_2 : w5.cell? ⟨gb182, 2, none⟩ = some (.int .i64 a0_2) := (blk_cell BK182.out 2).trans rfl
    have hcz28_3 : w5.cell? ⟨gb182, 3, none⟩ = some (.int .i64 a0_3) := (blk_cell BK182.out 3).trans rfl
    have hcz28_4 : w5.cell? ⟨gb182, 4, none⟩ = some (.string a0_4) := (blk_cell BK182.out 4).trans rfl
    have hcz28_5 : w5.cell? ⟨gb182, 5, none⟩ = some (.slice A0_5 l0_5.length c0_5) := (blk_cell BK182.out 5).trans rfl
    have hcz28_6 : w5.cell? ⟨gb182, 6, none⟩ = some (.int .u16 a0_6) := (blk_cell BK182.out 6).trans rfl
    have hcz28_7 : w5.cell? ⟨gb182, 7, none⟩ = some (.int .u16 a0_7) := (blk_cell BK182.out 7).trans rfl
    have hcz28_8 : w5.cell? ⟨gb182, 8, none⟩ = some (.int .u16 a0_8) := (blk_cell BK182.out 8).trans rfl
    have hcz28_9 : w5.cell? ⟨gb182, 9, none⟩ = some (.int .i64 a0_9) := (blk_cell BK182.out 9).trans rfl
    have hcz28_10 : w5.cell? ⟨gb182, 10, none⟩ = some (.int .i64 a0_10) := (blk_cell BK182.out 10).trans rfl
    have hfz28_0 := blk_frozen BK182.out 0
    have hfz28_1 := blk_frozen BK182.out 1
    have hfz28_2 := blk_frozen BK182.out 2
    have hfz28_3 := blk_frozen BK182.out 3
    have hfz28_4 := blk_frozen BK182.out 4
    have hfz28_5 := blk_frozen BK182.out 5
    have hfz28_6 := blk_frozen BK182.out 6
    have hfz28_7 := blk_frozen BK182.out 7
    have hfz28_8 := blk_frozen BK182.out 8
    have hfz28_9 := blk_frozen BK182.out 9
    have hfz28_10 := blk_frozen BK182.out 10
    have hcz29_0 : w5.cell? ⟨gb183, 0, none⟩ = some (.int .i64 a1_0) := (blk_cell BK183.out 0).trans rfl
    have hcz29_1 : w5.cell? ⟨gb183, 1, none⟩ = some (.int .i64 a1_1) := (blk_cell BK183.out 1).trans rfl
    have hcz29_2 : w5.cell? ⟨gb183, 2, none⟩ = some (.int .i64 a1_2) := (blk_cell BK183.out 2).trans rfl
    have hcz29_3 : w5.cell? ⟨gb183, 3, none⟩ = some (.int .i64 a1_3) := (blk_cell BK183.out 3).trans rfl
    have hcz29_4 : w5.cell? ⟨gb183, 4, none⟩ = some (.string a1_4) := (blk_cell BK183.out 4).trans rfl
    have hcz29_5 : w5.cell? ⟨gb183, 5, none⟩ = some (.slice A1_5 l1_5.length c1_5) := (blk_cell BK183.out 5).trans rfl
    have hcz29_6 : w5.cell? ⟨gb183, 6, none⟩ = some (.int .u16 a1_6) := (blk_cell BK183.out 6).trans rfl
    have hcz29_7 : w5.cell? ⟨gb183, 7, none⟩ = some (.int .u16 a1_7) := (blk_cell BK183.out 7).trans rfl
    have hcz29_8 : w5.cell? ⟨gb183, 8, none⟩ = some (.int .u16 a1_8) := (blk_cell BK183.out 8).trans rfl
    have hcz29_9 : w5.cell? ⟨gb183, 9, none⟩ = some (.int .i64 a1_9) := (blk_cell BK183.out 9).trans rfl
    have hcz29_10 : w5.cell? ⟨gb183, 10, none⟩ = some (.int .i64 a1_10) := (blk_cell BK183.out 10).trans rfl
    have hfz29_0 := blk_frozen BK183.out 0
    have hfz29_1 := blk_frozen BK183.out 1
    have hfz29_2 := blk_frozen BK183.out 2
    have hfz29_3 := blk_frozen BK183.out 3
    have hfz29_4 := blk_frozen BK183.out 4
    have hfz29_5 := blk_frozen BK183.out 5
    have hfz29_6 := blk_frozen BK183.out 6
    have hfz29_7 := blk_frozen BK183.out 7
    have hfz29_8 := blk_frozen BK183.out 8
    have hfz29_9 := blk_frozen BK183.out 9
    have hfz29_10 := blk_frozen BK183.out 10
    go_wp2
    repeat (go_quiet (fail); try go_wp2)
    go_meet
    case rel => exact ⟨_, (true), (by first | rfl | (simp; done) | (simp [*]; done)), H', ⟨by first | omega | exact Nat.le_refl _⟩, ⟨by (with_reducible repeat (first | refine blk_drewN ?_ _ | refine blk_drew ?_ | refine blk_alloc ?_ _)); exact BK182.out⟩, ⟨by (with_reducible repeat (first | refine blk_drewN ?_ _ | refine blk_drew ?_ | refine blk_alloc ?_ _)); exact BK183.out⟩, ⟨by repeat (first | (with_reducible first | exact HB.out | apply below_alloc | apply pw_below_drewN | apply below_drew1 | refine below_set ?_ GE182.out | refine below_set ?_ GE183.out) | exact HB.out)⟩⟩
  ·rw [if_neg c6] at H
   have c6b0 : (a0_0 == a1_0) = false := beq_eq_false_iff_ne.mpr c6
   have c6b1 : (a0_0 != a1_0) = true := bne_iff_ne.mpr c6
   (first | rw [c6b0] | (simp only [i64_w, i32_w]; rw [c6b0]) | skip)
   have H' := Aside0.mk H
   clear H
   have hnb30 := NB182_183.out
   have hnc30 := NB183_182.out
   have hcz31_0 : w5.cell? ⟨gb182, 0, none⟩ = some (.int .i64 a0_0) := (blk_cell BK182.out 0).trans rfl
   have hcz31_1 : w5.cell? ⟨gb182, 1, none⟩ = some (.int .i64 a0_1) := (blk_cell BK182.out 1).trans rfl
   have hcz31_2 : w5.cell? ⟨gb182, 2, none⟩ = some (.int .i64 a0_2) := (blk_cell BK182.out 2).trans rfl
   have hcz31_3 : w5.cell? ⟨gb182, 3, none⟩ = some (.int .i64 a0_3) := (blk_cell BK182.out 3).trans rfl
   have hcz31_4 : w5.cell? ⟨gb182, 4, none⟩ = some (.string a0_4) := (blk_cell BK182.out 4).trans rfl
   have hcz31_5 : w5.cell? ⟨gb182, 5, none⟩ = some (.slice A0_5 l0_5.length c0_5) := (blk_cell BK182.out 5).trans rfl
   have hcz31_6 : w5.cell? ⟨gb182, 6, none⟩ = some (.int .u16 a0_6) := (blk_cell BK182.out 6).trans rfl
   have hcz31_7 : w5.cell? ⟨gb182, 7, none⟩ = some (.int .u16 a0_7) := (blk_cell BK182.out 7).trans rfl
   have hcz31_8 : w5.cell? ⟨gb182, 8, none⟩ = some (.int .u16 a0_8) := (blk_cell BK182.out 8).trans rfl
   have hcz31_9 : w5.cell? ⟨gb182, 9, none⟩ = some (.int .i64 a0_9) := (blk_cell BK182.out 9).trans rfl
   have hcz31_10 : w5.cell? ⟨gb182, 10, none⟩ = some (.int .i64 a0_10) := (blk_cell BK182.out 10).trans rfl
   have hfz31_0 := blk_frozen BK182.out 0
   have hfz31_1 := blk_frozen BK182.out 1
   have hfz31_2 := blk_frozen BK182.out 2
   have hfz31_3 := blk_frozen BK182.out 3
   have hfz31_4 := blk_frozen BK182.out 4
   have hfz31_5 := blk_frozen BK182.out 5
   have hfz31_6 := blk_frozen BK182.out 6
   have hfz31_7 := blk_frozen BK182.out 7
   have hfz31_8 := blk_frozen BK182.out 8
   have hfz31_9 := blk_frozen BK182.out 9
   have hfz31_10 := blk_frozen BK182.out 10
   have hcz32_0 : w5.cell? ⟨gb183, 0, none⟩ = some (.int .i64 a1_0) := (blk_cell BK183.out 0).trans rfl
   have hcz32_1 : w5.cell? ⟨gb183, 1, none⟩ = some (.int .i64 a1_1) := (blk_cell BK183.out 1).trans rfl
   have hcz32_2 : w5.cell? ⟨gb183, 2, none⟩ = some (.int .i64 a1_2) := (blk_cell BK183.out 2).trans rfl
   have hcz32_3 : w5.cell? ⟨gb183, 3, none⟩ = some (.int .i64 a1_3) := (blk_cell BK183.out 3).trans rfl
   have hcz32_4 : w5.cell? ⟨gb183, 4, none⟩ = some (.string a1_4) := (blk_cell BK183.out 4).trans rfl
   have hcz32_5 : w5.cell? ⟨gb183, 5, none⟩ = some (.slice A1_5 l1_5.length c1_5) := (blk_cell BK183.out 5).trans rfl
   have hcz32_6 : w5.cell? ⟨gb183, 6, none⟩ = some (.int .u16 a1_6) := (blk_cell BK183.out 6).trans rfl
   have hcz32_7 : w5.cell? ⟨gb183, 7, none⟩ = some (.int .u16 a1_7) := (blk_cell BK183.out 7).trans rfl
   have hcz32_8 : w5.cell? ⟨gb183, 8, none⟩ = some (.int .u16 a1_8) := (blk_cell BK183.out 8).trans rfl
   have hcz32_9 : w5.cell? ⟨gb183, 9, none⟩ = some (.int .i64 a1_9) := (blk_cell BK183.out 9).trans rfl
   have hcz32_10 : w5.cell? ⟨gb183, 10, none⟩ = some (.int .i64 a1_10) := (blk_cell BK183.out 10).trans rfl
   have hfz32_0 := blk_frozen BK183.out 0
   have hfz32_1 := blk_frozen BK183.out 1
   have hfz32_2 := blk_frozen BK183.out 2
   have hfz32_3 := blk_frozen BK183.out 3
   have hfz32_4 := blk_frozen BK183.out 4
   have hfz32_5 := blk_frozen BK183.out 5
   have hfz32_6 := blk_frozen BK183.out 6
   have hfz32_7 := blk_frozen BK183.out 7
   have hfz32_8 := blk_frozen BK183.out 8
   have hfz32_9 := blk_frozen BK183.out 9
   have hfz32_10 := blk_frozen BK183.out 10
   go_wp2
   repeat (go_quiet (fail); try go_wp2)
   go_meet
   case rel => exact ⟨_, (true), (by first | rfl | (simp; done) | (simp [*]; done)), H', ⟨by first | omega | exact Nat.le_refl _⟩, ⟨by (with_reducible repeat (first | refine blk_drewN ?_ _ | refine blk_drew ?_ | refine blk_alloc ?_ _)); exact BK182.out⟩, ⟨by (with_reducible repeat (first | refine blk_drewN ?_ _ | refine blk_drew ?_ | refine blk_alloc ?_ _)); exact BK183.out⟩, ⟨by repeat (first | (with_reducible first | exact HB.out | apply below_alloc | apply pw_below_drewN | apply below_drew1 | refine below_set ?_ GE182.out | refine below_set ?_ GE183.out) | exact HB.out)⟩⟩
 case rest =>
  clear HC3
  try clear c1
  try clear c2
  try clear p2
  try clear c3
  try clear c6
  try clear c6b0
  try clear c6b1
  try clear c7
  try clear c7b0
  try clear c7b1
  try clear c8
  try clear c8b0
  try clear c8b1
  try clear c9
  try clear c9b0
  try clear c9b1
  try clear c10
  try clear c10b0
  try clear c10b1
  try clear c11
  try clear c11b0
  try clear c12
  try clear c15
  try clear c18
  try clear c21
  try clear c24
  try clear c27
  try clear c30
  try clear hcz13_0
  try clear hcz13_1
  try clear hcz13_10
  try clear hcz13_2
  try clear hcz13_3
  try clear hcz13_4
  try clear hcz13_5
  try clear hcz13_6
  try clear hcz13_7
  try clear hcz13_8
  try clear hcz13_9
  try clear hcz14_0
  try clear hcz14_1
  try clear hcz14_10
  try clear hcz14_2
  try clear hcz14_3
  try clear hcz14_4
  try clear hcz14_5
  try clear hcz14_6
  try clear hcz14_7
  try clear hcz14_8
  try clear hcz14_9
  try clear hcz16_0
  try clear hcz16_1
  try clear hcz16_10
  try clear hcz16_2
  try clear hcz16_3
  try clear hcz16_4
  try clear hcz16_5
  try clear hcz16_6
  try clear hcz16_7
  try clear hcz16_8
  try clear hcz16_9
  try clear hcz17_0
  try clear hcz17_1
  try clear hcz17_10
  try clear hcz17_2
  try clear hcz17_3
  try clear hcz17_4
  try clear hcz17_5
  try clear hcz17_6
  try clear hcz17_7
  try clear hcz17_8
  try clear hcz17_9
  try clear hcz19_0
  try clear hcz19_1
  try clear hcz19_10
  try clear hcz19_2
  try clear hcz19_3
  try clear hcz19_4
  try clear hcz19_5
  try clear hcz19_6
  try clear hcz19_7
  try clear hcz19_8
  try clear hcz19_9
  try clear hcz20_0
  try clear hcz20_1
  try clear hcz20_10
  try clear hcz20_2
  try clear hcz20_3
  try clear hcz20_4
  try clear hcz20_5
  try clear hcz20_6
  try clear hcz20_7
  try clear hcz20_8
  try clear hcz20_9
  try clear hcz22_0
  try clear hcz22_1
  try clear hcz22_10
  try clear hcz22_2
  try clear hcz22_3
  try clear hcz22_4
  try clear hcz22_5
  try clear hcz22_6
  try clear hcz22_7
  try clear hcz22_8
  try clear hcz22_9
  try clear hcz23_0
  try clear hcz23_1
  try clear hcz23_10
  try clear hcz23_2
  try clear hcz23_3
  try clear hcz23_4
  try clear hcz23_5
  try clear hcz23_6
  try clear hcz23_7
  try clear hcz23_8
  try clear hcz23_9
  try clear hcz25_0
  try clear hcz25_1
  try clear hcz25_10
  try clear hcz25_2
  try clear hcz25_3
  try clear hcz25_4
  try clear hcz25_5
  try clear hcz25_6
  try clear hcz25_7
  try clear hcz25_8
  try clear hcz25_9
  try clear hcz26_0
  try clear hcz26_1
  try clear hcz26_10
  try clear hcz26_2
  try clear hcz26_3
  try clear hcz26_4
  try clear hcz26_5
  try clear hcz26_6
  try clear hcz26_7
  try clear hcz26_8
  try clear hcz26_9
  try clear hcz28_0
  try clear hcz28_1
  try clear hcz28_10
  try clear hcz28_2
  try clear hcz28_3
  try clear hcz28_4
  try clear hcz28_5
  try clear hcz28_6
  try clear hcz28_7
  try clear hcz28_8
  try clear hcz28_9
  try clear hcz29_0
  try clear hcz29_1
  try clear hcz29_10
  try clear hcz29_2
  try clear hcz29_3
  try clear hcz29_4
  try clear hcz29_5
  try clear hcz29_6
  try clear hcz29_7
  try clear hcz29_8
  try clear hcz29_9
  try clear hcz31_0
  try clear hcz31_1
  try clear hcz31_10
  try clear hcz31_2
  try clear hcz31_3
  try clear hcz31_4
  try clear hcz31_5
  try clear hcz31_6
  try clear hcz31_7
  try clear hcz31_8
  try clear hcz31_9
  try clear hcz32_0
  try clear hcz32_1
  try clear hcz32_10
  try clear hcz32_2
  try clear hcz32_3
  try clear hcz32_4
  try clear hcz32_5
  try clear hcz32_6
  try clear hcz32_7
  try clear hcz32_8
  try clear hcz32_9
  try clear hfz13_0
  try clear hfz13_1
  try clear hfz13_10
  try clear hfz13_2
  try clear hfz13_3
  try clear hfz13_4
  try clear hfz13_5
  try clear hfz13_6
  try clear hfz13_7
  try clear hfz13_8
  try clear hfz13_9
  try clear hfz14_0
  try clear hfz14_1
  try clear hfz14_10
  try clear hfz14_2
  try clear hfz14_3
  try clear hfz14_4
  try clear hfz14_5
  try clear hfz14_6
  try clear hfz14_7
  try clear hfz14_8
  try clear hfz14_9
  try clear hfz16_0
  try clear hfz16_1
  try clear hfz16_10
  try clear hfz16_2
  try clear hfz16_3
  try clear hfz16_4
  try clear hfz16_5
  try clear hfz16_6
  try clear hfz16_7
  try clear hfz16_8
  try clear hfz16_9
  try clear hfz17_0
  try clear hfz17_1
  try clear hfz17_10
  try clear hfz17_2
  try clear hfz17_3
  try clear hfz17_4
  try clear hfz17_5
  try clear hfz17_6
  try clear hfz17_7
  try clear hfz17_8
  try clear hfz17_9
  try clear hfz19_0
  try clear hfz19_1
  try clear hfz19_10
  try clear hfz19_2
  try clear hfz19_3
  try clear hfz19_4
  try clear hfz19_5
  try clear hfz19_6
  try clear hfz19_7
  try clear hfz19_8
  try clear hfz19_9
  try clear hfz20_0
  try clear hfz20_1
  try clear hfz20_10
  try clear hfz20_2
  try clear hfz20_3
  try clear hfz20_4
  try clear hfz20_5
  try clear hfz20_6
  try clear hfz20_7
  try clear hfz20_8
  try clear hfz20_9
  try clear hfz22_0
  try clear hfz22_1
  try clear hfz22_10
  try clear hfz22_2
  try clear hfz22_3
  try clear hfz22_4
  try clear hfz22_5
  try clear hfz22_6
  try clear hfz22_7
  try clear hfz22_8
  try clear hfz22_9
  try clear hfz23_0
  try clear hfz23_1
  try clear hfz23_10
  try clear hfz23_2
  try clear hfz23_3
  try clear hfz23_4
  try clear hfz23_5
  try clear hfz23_6
  try clear hfz23_7
  try clear hfz23_8
  try clear hfz23_9
  try clear hfz25_0
  try clear hfz25_1
  try clear hfz25_10
  try clear hfz25_2
  try clear hfz25_3
  try clear hfz25_4
  try clear hfz25_5
  try clear hfz25_6
  try clear hfz25_7
  try clear hfz25_8
  try clear hfz25_9
  try clear hfz26_0
  try clear hfz26_1
  try clear hfz26_10
  try clear hfz26_2
  try clear hfz26_3
  try clear hfz26_4
  try clear hfz26_5
  try clear hfz26_6
  try clear hfz26_7
  try clear hfz26_8
  try clear hfz26_9
  try clear hfz28_0
  try clear hfz28_1
  try clear hfz28_10
  try clear hfz28_2
  try clear hfz28_3
  try clear hfz28_4
  try clear hfz28_5
  try clear hfz28_6
  try clear hfz28_7
  try clear hfz28_8
  try clear hfz28_9
  try clear hfz29_0
  try clear hfz29_1
  try clear hfz29_10
  try clear hfz29_2
  try clear hfz29_3
  try clear hfz29_4
  try clear hfz29_5
  try clear hfz29_6
  try clear hfz29_7
  try clear hfz29_8
  try clear hfz29_9
  try clear hfz31_0
  try clear hfz31_1
  try clear hfz31_10
  try clear hfz31_2
  try clear hfz31_3
  try clear hfz31_4
  try clear hfz31_5
  try clear hfz31_6
  try clear hfz31_7
  try clear hfz31_8
  try clear hfz31_9
  try clear hfz32_0
  try clear hfz32_1
  try clear hfz32_10
  try clear hfz32_2
  try clear hfz32_3
  try clear hfz32_4
  try clear hfz32_5
  try clear hfz32_6
  try clear hfz32_7
  try clear hfz32_8
  try clear hfz32_9
  obtain ⟨kq, x54_2, rfl, HA, HJ2, BK182, BK183, HB⟩ := hcut
  cases kq with
  | zero => exact absurd HA.out (by simp [antipoderef29_Same.j0])
  | succ kj2 =>
   have H := HA.out
   clear HA
   simp only [antipoderef29_Same.j0] at H
   by_cases c33 : x54_2 = true
   ·subst c33
    have H1 : (some false) = some r := by rw [if_pos rfl] at H; exact H
    clear H
    have H := H1
    clear H1
    obtain rfl := Option.some.inj H
    go_wp2
    repeat (go_quiet (fail); try go_wp2)
    go_ret
    exact ⟨by first | rfl | (simp [errW_none, errW_some] <;> rfl) | (simp [*, errW_none, errW_some] <;> rfl), by repeat (first | (with_reducible first | exact HB.out | apply below_alloc | apply pw_below_drewN | apply below_drew1 | refine below_set ?_ GE182.out | refine below_set ?_ GE183.out) | exact HB.out)⟩
   ·replace c33 := Bool.eq_false_iff.mpr c33
    subst c33
    have H1 : (antipoderef29_Same.l0 kj2 0 a0_0 a0_1 a0_2 a0_3 a0_4 l0_5 a0_6 a0_7 a0_8 a0_9 a0_10 a1_0 a1_1 a1_2 a1_3 a1_4 l1_5 a1_6 a1_7 a1_8 a1_9 a1_10) = some r := by rw [if_neg (show ¬ (false = true) by decide)] at H; exact H
    clear H
    have H := H1
    clear H1
    have H' := Aside0.mk H
    clear H
    go_wp2
    repeat (go_quiet (fail); try go_wp2)
    go_loopg [5] kj2 (fun kq v5 w' => ∃ (x5_2 : Int), v5 = .int .i64 x5_2 ∧ Aside0 (antipoderef29_Same.l0 kq x5_2 a0_0 a0_1 a0_2 a0_3 a0_4 l0_5 a0_6 a0_7 a0_8 a0_9 a0_10 a1_0 a1_1 a1_2 a1_3 a1_4 l1_5 a1_6 a1_7 a1_8 a1_9 a1_10 = some r) ∧ Aside0 (kq ≤ kj2) ∧ Aside0 (w'.heap[gb182]? = some (.cells #[.int .i64 a0_0, .int .i64 a0_1, .int .i64 a0_2, .int .i64 a0_3, .string a0_4, (.slice A0_5 l0_5.length c0_5), .int .u16 a0_6, .int .u16 a0_7, .int .u16 a0_8, .int .i64 a0_9, .int .i64 a0_10] 41 (0, 0))) ∧ Aside0 (w'.heap[gb183]? = some (.cells #[.int .i64 a1_0, .int .i64 a1_1, .int .i64 a1_2, .int .i64 a1_3, .string a1_4, (.slice A1_5 l1_5.length c1_5), .int .u16 a1_6, .int .u16 a1_7, .int .u16 a1_8, .int .i64 a1_9, .int .i64 a1_10] 41 (0, 0))) ∧ Aside0 (Below w.heap.size w w'))
    case atStart => exact ⟨(0), (by first | rfl | (simp; done) | (simp [*]; done)), H', ⟨Nat.le_refl _⟩, ⟨by (with_reducible repeat (first | refine blk_drewN ?_ _ | refine blk_drew ?_ | refine blk_alloc ?_ _)); exact BK182.out⟩, ⟨by (with_reducible repeat (first | refine blk_drewN ?_ _ | refine blk_drew ?_ | refine blk_alloc ?_ _)); exact BK183.out⟩, ⟨by repeat (first | (with_reducible first | exact HB.out | apply below_alloc | apply pw_below_drewN | apply below_drew1 | refine below_set ?_ GE182.out | refine below_set ?_ GE183.out) | exact HB.out)⟩⟩
    case round =>
     clear H'
     try clear c1
     try clear c2
     try clear p2
     try clear c3
     try clear c6
     try clear c6b0
     try clear c6b1
     try clear c7
     try clear c7b0
     try clear c7b1
     try clear c8
     try clear c8b0
     try clear c8b1
     try clear c9
     try clear c9b0
     try clear c9b1
     try clear c10
     try clear c10b0
     try clear c10b1
     try clear c11
     try clear c11b0
     try clear c12
     try clear c15
     try clear c18
     try clear c21
     try clear c24
     try clear c27
     try clear c30
     try clear c33
     try clear hcz13_0
     try clear hcz13_1
     try clear hcz13_10
     try clear hcz13_2
     try clear hcz13_3
     try clear hcz13_4
     try clear hcz13_5
     try clear hcz13_6
     try clear hcz13_7
     try clear hcz13_8
     try clear hcz13_9
     try clear hcz14_0
     try clear hcz14_1
     try clear hcz14_10
     try clear hcz14_2
     try clear hcz14_3
     try clear hcz14_4
     try clear hcz14_5
     try clear hcz14_6
     try clear hcz14_7
     try clear hcz14_8
     try clear hcz14_9
     try clear hcz16_0
     try clear hcz16_1
     try clear hcz16_10
     try clear hcz16_2
     try clear hcz16_3
     try clear hcz16_4
     try clear hcz16_5
     try clear hcz16_6
     try clear hcz16_7
     try clear hcz16_8
     try clear hcz16_9
     try clear hcz17_0
     try clear hcz17_1
     try clear hcz17_10
     try clear hcz17_2
     try clear hcz17_3
     try clear hcz17_4
     try clear hcz17_5
     try clear hcz17_6
     try clear hcz17_7
     try clear hcz17_8
     try clear hcz17_9
     try clear hcz19_0
     try clear hcz19_1
     try clear hcz19_10
     try clear hcz19_2
     try clear hcz19_3
     try clear hcz19_4
     try clear hcz19_5
     try clear hcz19_6
     try clear hcz19_7
     try clear hcz19_8
     try clear hcz19_9
     try clear hcz20_0
     try clear hcz20_1
     try clear hcz20_10
     try clear hcz20_2
     try clear hcz20_3
     try clear hcz20_4
     try clear hcz20_5
     try clear hcz20_6
     try clear hcz20_7
     try clear hcz20_8
     try clear hcz20_9
     try clear hcz22_0
     try clear hcz22_1
     try clear hcz22_10
     try clear hcz22_2
     try clear hcz22_3
     try clear hcz22_4
     try clear hcz22_5
     try clear hcz22_6
     try clear hcz22_7
     try clear hcz22_8
     try clear hcz22_9
     try clear hcz23_0
     try clear hcz23_1
     try clear hcz23_10
     try clear hcz23_2
     try clear hcz23_3
     try clear hcz23_4
     try clear hcz23_5
     try clear hcz23_6
     try clear hcz23_7
     try clear hcz23_8
     try clear hcz23_9
     try clear hcz25_0
     try clear hcz25_1
     try clear hcz25_10
     try clear hcz25_2
     try clear hcz25_3
     try clear hcz25_4
     try clear hcz25_5
     try clear hcz25_6
     try clear hcz25_7
     try clear hcz25_8
     try clear hcz25_9
     try clear hcz26_0
     try clear hcz26_1
     try clear hcz26_10
     try clear hcz26_2
     try clear hcz26_3
     try clear hcz26_4
     try clear hcz26_5
     try clear hcz26_6
     try clear hcz26_7
     try clear hcz26_8
     try clear hcz26_9
     try clear hcz28_0
     try clear hcz28_1
     try clear hcz28_10
     try clear hcz28_2
     try clear hcz28_3
     try clear hcz28_4
     try clear hcz28_5
     try clear hcz28_6
     try clear hcz28_7
     try clear hcz28_8
     try clear hcz28_9
     try clear hcz29_0
     try clear hcz29_1
     try clear hcz29_10
     try clear hcz29_2
     try clear hcz29_3
     try clear hcz29_4
     try clear hcz29_5
     try clear hcz29_6
     try clear hcz29_7
     try clear hcz29_8
     try clear hcz29_9
     try clear hcz31_0
     try clear hcz31_1
     try clear hcz31_10
     try clear hcz31_2
     try clear hcz31_3
     try clear hcz31_4
     try clear hcz31_5
     try clear hcz31_6
     try clear hcz31_7
     try clear hcz31_8
     try clear hcz31_9
     try clear hcz32_0
     try clear hcz32_1
     try clear hcz32_10
     try clear hcz32_2
     try clear hcz32_3
     try clear hcz32_4
     try clear hcz32_5
     try clear hcz32_6
     try clear hcz32_7
     try clear hcz32_8
     try clear hcz32_9
     try clear hfz13_0
     try clear hfz13_1
     try clear hfz13_10
     try clear hfz13_2
     try clear hfz13_3
     try clear hfz13_4
     try clear hfz13_5
     try clear hfz13_6
     try clear hfz13_7
     try clear hfz13_8
     try clear hfz13_9
     try clear hfz14_0
     try clear hfz14_1
     try clear hfz14_10
     try clear hfz14_2
     try clear hfz14_3
     try clear hfz14_4
     try clear hfz14_5
     try clear hfz14_6
     try clear hfz14_7
     try clear hfz14_8
     try clear hfz14_9
     try clear hfz16_0
     try clear hfz16_1
     try clear hfz16_10
     try clear hfz16_2
     try clear hfz16_3
     try clear hfz16_4
     try clear hfz16_5
     try clear hfz16_6
     try clear hfz16_7
     try clear hfz16_8
     try clear hfz16_9
     try clear hfz17_0
     try clear hfz17_1
     try clear hfz17_10
     try clear hfz17_2
     try clear hfz17_3
     try clear hfz17_4
     try clear hfz17_5
     try clear hfz17_6
     try clear hfz17_7
     try clear hfz17_8
     try clear hfz17_9
     try clear hfz19_0
     try clear hfz19_1
     try clear hfz19_10
     try clear hfz19_2
     try clear hfz19_3
     try clear hfz19_4
     try clear hfz19_5
     try clear hfz19_6
     try clear hfz19_7
     try clear hfz19_8
     try clear hfz19_9
     try clear hfz20_0
     try clear hfz20_1
     try clear hfz20_10
     try clear hfz20_2
     try clear hfz20_3
     try clear hfz20_4
     try clear hfz20_5
     try clear hfz20_6
     try clear hfz20_7
     try clear hfz20_8
     try clear hfz20_9
     try clear hfz22_0
     try clear hfz22_1
     try clear hfz22_10
     try clear hfz22_2
     try clear hfz22_3
     try clear hfz22_4
     try clear hfz22_5
     try clear hfz22_6
     try clear hfz22_7
     try clear hfz22_8
     try clear hfz22_9
     try clear hfz23_0
     try clear hfz23_1
     try clear hfz23_10
     try clear hfz23_2
     try clear hfz23_3
     try clear hfz23_4
     try clear hfz23_5
     try clear hfz23_6
     try clear hfz23_7
     try clear hfz23_8
     try clear hfz23_9
     try clear hfz25_0
     try clear hfz25_1
     try clear hfz25_10
     try clear hfz25_2
     try clear hfz25_3
     try clear hfz25_4
     try clear hfz25_5
     try clear hfz25_6
     try clear hfz25_7
     try clear hfz25_8
     try clear hfz25_9
     try clear hfz26_0
     try clear hfz26_1
     try clear hfz26_10
     try clear hfz26_2
     try clear hfz26_3
     try clear hfz26_4
     try clear hfz26_5
     try clear hfz26_6
     try clear hfz26_7
     try clear hfz26_8
     try clear hfz26_9
     try clear hfz28_0
     try clear hfz28_1
     try clear hfz28_10
     try clear hfz28_2
     try clear hfz28_3
     try clear hfz28_4
     try clear hfz28_5
     try clear hfz28_6
     try clear hfz28_7
     try clear hfz28_8
     try clear hfz28_9
     try clear hfz29_0
     try clear hfz29_1
     try clear hfz29_10
     try clear hfz29_2
     try clear hfz29_3
     try clear hfz29_4
     try clear hfz29_5
     try clear hfz29_6
     try clear hfz29_7
     try clear hfz29_8
     try clear hfz29_9
     try clear hfz31_0
     try clear hfz31_1
     try clear hfz31_10
     try clear hfz31_2
     try clear hfz31_3
     try clear hfz31_4
     try clear hfz31_5
     try clear hfz31_6
     try clear hfz31_7
     try clear hfz31_8
     try clear hfz31_9
     try clear hfz32_0
     try clear hfz32_1
     try clear hfz32_10
     try clear hfz32_2
     try clear hfz32_3
     try clear hfz32_4
     try clear hfz32_5
     try clear hfz32_6
     try clear hfz32_7
     try clear hfz32_8
     try clear hfz32_9
     try clear p2
     obtain ⟨x5_2, rfl, HA, HK2, BK182, BK183, HB⟩ := hrel
     cases gk with
     | zero => exact absurd HA.out (by simp [antipoderef29_Same.l0])
     | succ k2 =>
      have H := HA.out
      clear HA
      simp only [antipoderef29_Same.l0] at H
      by_cases c34 : x5_2 < (l0_5.length : Int)
      ·rw [if_pos c34] at H
       have c34b0 : decide (x5_2 < (l0_5.length : Int)) = true := decide_eq_true c34
       clear c34
       by_cases c35 : 0 ≤ x5_2
       ·rw [if_pos c35] at H
        have c35b0 : decide (0 ≤ x5_2) = true := decide_eq_true c35
        clear c35
        by_cases c36 : x5_2 < (l1_5.length : Int)
        ·rw [if_pos c36] at H
         have c36b0 : decide (x5_2 < (l1_5.length : Int)) = true := decide_eq_true c36
         clear c36
         by_cases c37 : (rd l0_5 x5_2) = (rd l1_5 x5_2)
         ·rw [if_pos c37] at H
          have c37b0 : ((rd l0_5 x5_2) == (rd l1_5 x5_2)) = true := beq_iff_eq.mpr c37
          have c37b1 : ((rd l0_5 x5_2) != (rd l1_5 x5_2)) = false := bne_eq_false_iff_eq.mpr c37
          clear c37
          have H' := Aside0.mk H
          clear H
          have hnb38 := NB182_183.out
          have hnc38 := NB183_182.out
          have hcz39_0 : wr.cell? ⟨gb182, 0, none⟩ = some (.int .i64 a0_0) := (blk_cell BK182.out 0).trans rfl
          have hcz39_1 : wr.cell? ⟨gb182, 1, none⟩ = some (.int .i64 a0_1) := (blk_cell BK182.out 1).trans rfl
          have hcz39_2 : wr.cell? ⟨gb182, 2, none⟩ = some (.int .i64 a0_2) := (blk_cell BK182.out 2).trans rfl
          have hcz39_3 : wr.cell? ⟨gb182, 3, none⟩ = some (.int .i64 a0_3) := (blk_cell BK182.out 3).trans rfl
          have hcz39_4 : wr.cell? ⟨gb182, 4, none⟩ = some (.string a0_4) := (blk_cell BK182.out 4).trans rfl
          have hcz39_5 : wr.cell? ⟨gb182, 5, none⟩ = some (.slice A0_5 l0_5.length c0_5) := (blk_cell BK182.out 5).trans rfl
          have hcz39_6 : wr.cell? ⟨gb182, 6, none⟩ = some (.int .u16 a0_6) := (blk_cell BK182.out 6).trans rfl
          have hcz39_7 : wr.cell? ⟨gb182, 7, none⟩ = some (.int .u16 a0_7) := (blk_cell BK182.out 7).trans rfl
          have hcz39_8 : wr.cell? ⟨gb182, 8, none⟩ = some (.int .u16 a0_8) := (blk_cell BK182.out 8).trans rfl
          have hcz39_9 : wr.cell? ⟨gb182, 9, none⟩ = some (.int .i64 a0_9) := (blk_cell BK182.out 9).trans rfl
          have hcz39_10 : wr.cell? ⟨gb182, 10, none⟩ = some (.int .i64 a0_10) := (blk_cell BK182.out 10).trans rfl
          have hfz39_0 := blk_frozen BK182.out 0
          have hfz39_1 := blk_frozen BK182.out 1
          have hfz39_2 := blk_frozen BK182.out 2
          have hfz39_3 := blk_frozen BK182.out 3
          have hfz39_4 := blk_frozen BK182.out 4
          have hfz39_5 := blk_frozen BK182.out 5
          have hfz39_6 := blk_frozen BK182.out 6
          have hfz39_7 := blk_frozen BK182.out 7
          have hfz39_8 := blk_frozen BK182.out 8
          have hfz39_9 := blk_frozen BK182.out 9
          have hfz39_10 := blk_frozen BK182.out 10
          have p184 : 0 ≤ (x5_2 : Int) := of_decide_eq_true (by first | (with_reducible assumption) | assumption)
          have q184 : x5_2 < (l0_5.length : Int) := of_decide_eq_true (by first | (with_reducible assumption) | assumption)
          obtain ⟨ad184, e184, hx184_0⟩ := Kd.at_int HR0_5.out x5_2 p184 q184
          cases e184
          replace hx184_0 := (HB.out.cell (World.block_lt_of_cell? w _ hx184_0)).trans hx184_0
          replace p184 := eq_true p184
          replace q184 := eq_true q184
          have hcz40_0 : wr.cell? ⟨gb183, 0, none⟩ = some (.int .i64 a1_0) := (blk_cell BK183.out 0).trans rfl
          have hcz40_1 : wr.cell? ⟨gb183, 1, none⟩ = some (.int .i64 a1_1) := (blk_cell BK183.out 1).trans rfl
          have hcz40_2 : wr.cell? ⟨gb183, 2, none⟩ = some (.int .i64 a1_2) := (blk_cell BK183.out 2).trans rfl
          have hcz40_3 : wr.cell? ⟨gb183, 3, none⟩ = some (.int .i64 a1_3) := (blk_cell BK183.out 3).trans rfl
          have hcz40_4 : wr.cell? ⟨gb183, 4, none⟩ = some (.string a1_4) := (blk_cell BK183.out 4).trans rfl
          have hcz40_5 : wr.cell? ⟨gb183, 5, none⟩ = some (.slice A1_5 l1_5.length c1_5) := (blk_cell BK183.out 5).trans rfl
          have hcz40_6 : wr.cell? ⟨gb183, 6, none⟩ = some (.int .u16 a1_6) := (blk_cell BK183.out 6).trans rfl
          have hcz40_7 : wr.cell? ⟨gb183, 7, none⟩ = some (.int .u16 a1_7) := (blk_cell BK183.out 7).trans rfl
          have hcz40_8 : wr.cell? ⟨gb183, 8, none⟩ = some (.int .u16 a1_8) := (blk_cell BK183.out 8).trans rfl
          have hcz40_9 : wr.cell? ⟨gb183, 9, none⟩ = some (.int .i64 a1_9) := (blk_cell BK183.out 9).trans rfl
          have hcz40_10 : wr.cell? ⟨gb183, 10, none⟩ = some (.int .i64 a1_10) := (blk_cell BK183.out 10).trans rfl
          have hfz40_0 := blk_frozen BK183.out 0
          have hfz40_1 := blk_frozen BK183.out 1
          have hfz40_2 := blk_frozen BK183.out 2
          have hfz40_3 := blk_frozen BK183.out 3
          have hfz40_4 := blk_frozen BK183.out 4
          have hfz40_5 := blk_frozen BK183.out 5
          have hfz40_6 := blk_frozen BK183.out 6
          have hfz40_7 := blk_frozen BK183.out 7
          have hfz40_8 := blk_frozen BK183.out 8
          have hfz40_9 := blk_frozen BK183.out 9
          have hfz40_10 := blk_frozen BK183.out 10
          have p185 : 0 ≤ (x5_2 : Int) := of_decide_eq_true (by first | (with_reducible assumption) | assumption)
          have q185 : x5_2 < (l1_5.length : Int) := of_decide_eq_true (by first | (with_reducible assumption) | assumption)
          obtain ⟨ad185, e185, hx185_0⟩ := Kd.at_int HR1_5.out x5_2 p185 q185
          cases e185
          replace hx185_0 := (HB.out.cell (World.block_lt_of_cell? w _ hx185_0)).trans hx185_0
          replace p185 := eq_true p185
          replace q185 := eq_true q185
          go_wp2
          repeat (go_quiet (fail); try go_wp2)
          go_roundg k2
          case measure => have := HJ2.out; have := HK2.out; omega
          case rel => exact ⟨(wrap64 (x5_2 + 1)), (by first | rfl | (simp; done) | (simp [*]; done)), H', ⟨by have := HJ2.out; have := HK2.out; omega⟩, ⟨by (with_reducible repeat (first | refine blk_drewN ?_ _ | refine blk_drew ?_ | refine blk_alloc ?_ _)); exact BK182.out⟩, ⟨by (with_reducible repeat (first | refine blk_drewN ?_ _ | refine blk_drew ?_ | refine blk_alloc ?_ _)); exact BK183.out⟩, ⟨by repeat (first | (with_reducible first | exact HB.out | apply below_alloc | apply pw_below_drewN | apply below_drew1 | refine below_set ?_ GE182.out | refine below_set ?_ GE183.out) | exact HB.out)⟩⟩
         ·rw [if_neg c37] at H
          have c37b0 : ((rd l0_5 x5_2) == (rd l1_5 x5_2)) = false := beq_eq_false_iff_ne.mpr c37
          have c37b1 : ((rd l0_5 x5_2) != (rd l1_5 x5_2)) = true := bne_iff_ne.mpr c37
          obtain rfl := Option.some.inj H
          have hnb41 := NB182_183.out
          have hnc41 := NB183_182.out
          have hcz42_0 : wr.cell? ⟨gb182, 0, none⟩ = some (.int .i64 a0_0) := (blk_cell BK182.out 0).trans rfl
          have hcz42_1 : wr.cell? ⟨gb182, 1, none⟩ = some (.int .i64 a0_1) := (blk_cell BK182.out 1).trans rfl
          have hcz42_2 : wr.cell? ⟨gb182, 2, none⟩ = some (.int .i64 a0_2) := (blk_cell BK182.out 2).trans rfl
          have hcz42_3 : wr.cell? ⟨gb182, 3, none⟩ = some (.int .i64 a0_3) := (blk_cell BK182.out 3).trans rfl
          have hcz42_4 : wr.cell? ⟨gb182, 4, none⟩ = some (.string a0_4) := (blk_cell BK182.out 4).trans rfl
          have hcz42_5 : wr.cell? ⟨gb182, 5, none⟩ = some (.slice A0_5 l0_5.length c0_5) := (blk_cell BK182.out 5).trans rfl
          have hcz42_6 : wr.cell? ⟨gb182, 6, none⟩ = some (.int .u16 a0_6) := (blk_cell BK182.out 6).trans rfl
          have hcz42_7 : wr.cell? ⟨gb182, 7, none⟩ = some (.int .u16 a0_7) := (blk_cell BK182.out 7).trans rfl
          have hcz42_8 : wr.cell? ⟨gb182, 8, none⟩ = some (.int .u16 a0_8) := (blk_cell BK182.out 8).trans rfl
          have hcz42_9 : wr.cell? ⟨gb182, 9, none⟩ = some (.int .i64 a0_9) := (blk_cell BK182.out 9).trans rfl
          have hcz42_10 : wr.cell? ⟨gb182, 10, none⟩ = some (.int .i64 a0_10) := (blk_cell BK182.out 10).trans rfl
          have hfz42_0 := blk_frozen BK182.out 0
          have hfz42_1 := blk_frozen BK182.out 1
          have hfz42_2 := blk_frozen BK182.out 2
          have hfz42_3 := blk_frozen BK182.out 3
          have hfz42_4 := blk_frozen BK182.out 4
          have hfz42_5 := blk_frozen BK182.out 5
          have hfz42_6 := blk_frozen BK182.out 6
          have hfz42_7 := blk_frozen BK182.out 7
          have hfz42_8 := blk_frozen BK182.out 8
          have hfz42_9 := blk_frozen BK182.out 9
          have hfz42_10 := blk_frozen BK182.out 10
          have p184 : 0 ≤ (x5_2 : Int) := of_decide_eq_true (by first | (with_reducible assumption) | assumption)
          have q184 : x5_2 < (l0_5.length : Int) := of_decide_eq_true (by first | (with_reducible assumption) | assumption)
          obtain ⟨ad184, e184, hx184_0⟩ := Kd.at_int HR0_5.out x5_2 p184 q184
          cases e184
          replace hx184_0 := (HB.out.cell (World.block_lt_of_cell? w _ hx184_0)).trans hx184_0
          replace p184 := eq_true p184
          replace q184 := eq_true q184
          have hcz43_0 : wr.cell? ⟨gb183, 0, none⟩ = some (.int .i64 a1_0) := (blk_cell BK183.out 0).trans rfl
          have hcz43_1 : wr.cell? ⟨gb183, 1, none⟩ = some (.int .i64 a1_1) := (blk_cell BK183.out 1).trans rfl
          have hcz43_2 : wr.cell? ⟨gb183, 2, none⟩ = some (.int .i64 a1_2) := (blk_cell BK183.out 2).trans rfl
          have hcz43_3 : wr.cell? ⟨gb183, 3, none⟩ = some (.int .i64 a1_3) := (blk_cell BK183.out 3).trans rfl
          have hcz43_4 : wr.cell? ⟨gb183, 4, none⟩ = some (.string a1_4) := (blk_cell BK183.out 4).trans rfl
          have hcz43_5 : wr.cell? ⟨gb183, 5, none⟩ = some (.slice A1_5 l1_5.length c1_5) := (blk_cell BK183.out 5).trans rfl
          have hcz43_6 : wr.cell? ⟨gb183, 6, none⟩ = some (.int .u16 a1_6) := (blk_cell BK183.out 6).trans rfl
          have hcz43_7 : wr.cell? ⟨gb183, 7, none⟩ = some (.int .u16 a1_7) := (blk_cell BK183.out 7).trans rfl
          have hcz43_8 : wr.cell? ⟨gb183, 8, none⟩ = some (.int .u16 a1_8) := (blk_cell BK183.out 8).trans rfl
          have hcz43_9 : wr.cell? ⟨gb183, 9, none⟩ = some (.int .i64 a1_9) := (blk_cell BK183.out 9).trans rfl
          have hcz43_10 : wr.cell? ⟨gb183, 10, none⟩ = some (.int .i64 a1_10) := (blk_cell BK183.out 10).trans rfl
          have hfz43_0 := blk_frozen BK183.out 0
          have hfz43_1 := blk_frozen BK183.out 1
          have hfz43_2 := blk_frozen BK183.out 2
          have hfz43_3 := blk_frozen BK183.out 3
          have hfz43_4 := blk_frozen BK183.out 4
          have hfz43_5 := blk_frozen BK183.out 5
          have hfz43_6 := blk_frozen BK183.out 6
          have hfz43_7 := blk_frozen BK183.out 7
          have hfz43_8 := blk_frozen BK183.out 8
          have hfz43_9 := blk_frozen BK183.out 9
          have hfz43_10 := blk_frozen BK183.out 10
          have p185 : 0 ≤ (x5_2 : Int) := of_decide_eq_true (by first | (with_reducible assumption) | assumption)
          have q185 : x5_2 < (l1_5.length : Int) := of_decide_eq_true (by first | (with_reducible assumption) | assumption)
          obtain ⟨ad185, e185, hx185_0⟩ := Kd.at_int HR1_5.out x5_2 p185 q185
          cases e185
          replace hx185_0 := (HB.out.cell (World.block_lt_of_cell? w _ hx185_0)).trans hx185_0
          replace p185 := eq_true p185
          replace q185 := eq_true q185
          go_wp2
          repeat (go_quiet (fail); try go_wp2)
          go_ret
          exact ⟨by first | rfl | (simp [errW_none, errW_some] <;> rfl) | (simp [*, errW_none, errW_some] <;> rfl), by repeat (first | (with_reducible first | exact HB.out | apply below_alloc | apply pw_below_drewN | apply below_drew1 | refine below_set ?_ GE182.out | refine below_set ?_ GE183.out) | exact HB.out)⟩
        ·rw [if_neg c36] at H
         exact absurd H (by simp)
       ·rw [if_neg c35] at H
        exact absurd H (by simp)
      ·rw [if_neg c34] at H
       have c34b0 : decide (x5_2 < (l0_5.length : Int)) = false := decide_eq_false c34
       clear c34
       obtain rfl := Option.some.inj H
       have hnb44 := NB182_183.out
       have hnc44 := NB183_182.out
       have hcz45_0 : wr.cell? ⟨gb182, 0, none⟩ = some (.int .i64 a0_0) := (blk_cell BK182.out 0).trans rfl
       have hcz45_1 : wr.cell? ⟨gb182, 1, none⟩ = some (.int .i64 a0_1) := (blk_cell BK182.out 1).trans rfl
       have hcz45_2 : wr.cell? ⟨gb182, 2, none⟩ = some (.int .i64 a0_2) := (blk_cell BK182.out 2).trans rfl
       have hcz45_3 : wr.cell? ⟨gb182, 3, none⟩ = some (.int .i64 a0_3) := (blk_cell BK182.out 3).trans rfl
       have hcz45_4 : wr.cell? ⟨gb182, 4, none⟩ = some (.string a0_4) := (blk_cell BK182.out 4).trans rfl
       have hcz45_5 : wr.cell? ⟨gb182, 5, none⟩ = some (.slice A0_5 l0_5.length c0_5) := (blk_cell BK182.out 5).trans rfl
       have hcz45_6 : wr.cell? ⟨gb182, 6, none⟩ = some (.int .u16 a0_6) := (blk_cell BK182.out 6).trans rfl
       have hcz45_7 : wr.cell? ⟨gb182, 7, none⟩ = some (.int .u16 a0_7) := (blk_cell BK182.out 7).trans rfl
       have hcz45_8 : wr.cell? ⟨gb182, 8, none⟩ = some (.int .u16 a0_8) := (blk_cell BK182.out 8).trans rfl
       have hcz45_9 : wr.cell? ⟨gb182, 9, none⟩ = some (.int .i64 a0_9) := (blk_cell BK182.out 9).trans rfl
       have hcz45_10 : wr.cell? ⟨gb182, 10, none⟩ = some (.int .i64 a0_10) := (blk_cell BK182.out 10).trans rfl
       have hfz45_0 := blk_frozen BK182.out 0
       have hfz45_1 := blk_frozen BK182.out 1
       have hfz45_2 := blk_frozen BK182.out 2
       have hfz45_3 := blk_frozen BK182.out 3
       have hfz45_4 := blk_frozen BK182.out 4
       have hfz45_5 := blk_frozen BK182.out 5
       have hfz45_6 := blk_frozen BK182.out 6
       have hfz45_7 := blk_frozen BK182.out 7
       have hfz45_8 := blk_frozen BK182.out 8
       have hfz45_9 := blk_frozen BK182.out 9
       have hfz45_10 := blk_frozen BK182.out 10
       go_wp2
       repeat (go_quiet (fail); try go_wp2)
       go_ret
       exact ⟨by first | rfl | (simp [errW_none, errW_some] <;> rfl) | (simp [*, errW_none, errW_some] <;> rfl), by repeat (first | (with_reducible first | exact HB.out | apply below_alloc | apply pw_below_drewN | apply below_drew1 | refine below_set ?_ GE182.out | refine below_set ?_ GE183.out) | exact HB.out)⟩
end Go.Proofs.Ytpoejopnjkcdpaa.QA


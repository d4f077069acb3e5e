/- Written by a program of this session (wip/myprint.sh): contracts of Go functions of the translation: each call comes to what the Lean function of its name says. -/
import Derived.Test.YtloonjdkiafafaaQOx0
namespace Go.Proofs.Ytloonjdkiafafaa.QO
open Go.RowKit Go.Proofs.YtloonjdkiafafaaW.PrintWords Go.Proofs.YtloonjdkiafafaaW.PrintLast Go.Proofs.YtloonjdkiafafaaW.PrintMore
attribute [local go_sem] max2_int min2_int max_two min_two max_three min_three max_four min_four   -- for this text's walks alone
set_option linter.unusedVariables false
set_option linter.unusedSimpArgs false

/-! ### antipoderef6_LessTry: function 23 (laid by hand) -/
def antipoderef6_LessTry.lt (a b c d e f g h : Int) : Bool := decide (a < e) || (decide (a = e) && (decide (b < f) || (decide (b = f) && (decide (c < g) || (decide (c = g) && decide (d < h))))))
def antipoderef6_LessTry.f (a0_0 : Int) (a0_1 : Int) (a0_2 : Int) (a0_3 : Int) (a1_0 : Int) (a1_1 : Int) (a1_2 : Int) (a1_3 : Int) : Option Bool := some (antipoderef6_LessTry.lt a0_0 a0_1 a0_2 a0_3 a1_0 a1_1 a1_2 a1_3)
def antipoderef6_LessTry.T1 : Bool × List (List Nat × List Nat) := (true, [([], []), ([0], [0]), ([], []), ([2], [2]), ([], []), ([4], [4]), ([], []), ([6], [6]), ([1, 3, 5, 7], [1, 3, 5, 7]), ([], []), ([9], [9]), ([], []), ([11], [11]), ([], []), ([13], [13]), ([], []), ([15], [15]), ([10, 12, 14, 16], [10, 12, 14, 16]), ([], []), ([], []), ([18, 8, 0, 1, 2, 3, 4, 5, 6, 7, 8, 18, 19], [8, 18]), ([19, 17, 20, 0, 1, 2, 3, 4, 5, 6, 7, 8, 9, 10, 11, 12, 13, 14, 15, 16, 17, 18, 19, 20], [17, 19])])
def antipoderef6_LessTry.B1 : List Nat := [0, 1, 0, 4, 0, 16, 0, 64, 255, 0, 512, 0, 2048, 0, 8192, 0, 32768, 130560, 0, 0, 786943, 2097151]
theorem antipoderef6_LessTry.tab1 : rtab .any (opsOf Try.f23 1) = antipoderef6_LessTry.T1 := by kernel_rfl
theorem antipoderef6_LessTry.bits1 : waitsOk antipoderef6_LessTry.T1.2 antipoderef6_LessTry.B1 = true := by kernel_rfl
set_option maxHeartbeats 8000000 in
theorem antipoderef6_LessTry.walk (x0 x1 x2 x3 y0 y1 y2 y3 : Int) (w : World) :
    Calls Try.prog 23 #[.agg #[.int .i64 x0, .int .i64 x1, .int .i64 x2, .int .i64 x3], .agg #[.int .i64 y0, .int .i64 y1, .int .i64 y2, .int .i64 y3]] w fun e w' => e = .returned (.bool (antipoderef6_LessTry.lt x0 x1 x2 x3 y0 y1 y2 y3)) ∧ Below w.heap.size w w' := by
  have hu23 := Try.underlying23
  have hu58 := Try.underlying58
  have hu3 := Try.underlying3
  have HB := Aside0.mk (Below.refl w.heap.size w)
  go_enter Try.func23, Try.ntmps23
  go_upto_region 1 with (first | ((with_reducible refine gate_dst (N := 2) rfl ?_); refine box_event ?hg (N := 2) ?hd (cs := #[.int .i64 x0, .int .i64 x1, .int .i64 x2, .int .i64 x3]) (t := 23) ?hr ?_; (case hd => rfl); (case hg => rfl); (case hr => first | (go_simp; done) | (go_simp; rfl)); intro gb124 hg w8 hbox hb; have n0_ := Aside0.mk (below_step (by repeat (first | (with_reducible first | exact HB.out | apply below_alloc | apply pw_below_drewN | apply below_drew1) | exact HB.out)) hb); have n1_ := Aside0.mk (hbox); have n2_ := Aside0.mk ((by rw [hg]; exact (below_size (by repeat (first | (with_reducible first | exact HB.out | apply below_alloc | apply pw_below_drewN | apply below_drew1) | exact HB.out))) : w.heap.size ≤ gb124)); have n3_ := Aside0.mk ((by rw [hg]; exact (below_size (by repeat (first | (with_reducible first | exact HB.out | apply below_alloc | apply pw_below_drewN | apply below_drew1) | exact HB.out))) : w.heap.size ≤ gb124)); clear HB; have HB := n0_; have BK124 := n1_; have GW124 := n2_; have GE124 := n3_; clear n0_ n1_ n2_ n3_; clear hb hbox hg) | ((with_reducible refine gate_dst (N := 3) rfl ?_); refine box_event ?hg (N := 3) ?hd (cs := #[.int .i64 y0, .int .i64 y1, .int .i64 y2, .int .i64 y3]) (t := 23) ?hr ?_; (case hd => rfl); (case hg => rfl); (case hr => first | (go_simp; done) | (go_simp; rfl)); intro gb125 hg w9 hbox hb; have n0_ := Aside0.mk (blk_below (g := gb124) (o := .cells #[.int .i64 x0, .int .i64 x1, .int .i64 x2, .int .i64 x3] 23 (0, 0)) (by (with_reducible repeat (first | refine blk_drewN ?_ _ | refine blk_drew ?_ | refine blk_alloc ?_ _)); exact BK124.out) hb); have n1_ := Aside0.mk (below_step (by repeat (first | (with_reducible first | exact HB.out | apply below_alloc | apply pw_below_drewN | apply below_drew1 | refine below_set ?_ GE124.out) | exact HB.out)) hb); have n2_ := Aside0.mk (hbox); have n3_ := Aside0.mk ((by rw [hg]; exact (below_size (by repeat (first | (with_reducible first | exact HB.out | apply below_alloc | apply pw_below_drewN | apply below_drew1 | refine below_set ?_ GE124.out) | exact HB.out))) : w.heap.size ≤ gb125)); have n4_ := Aside0.mk ((by rw [hg]; exact (below_size (by repeat (first | (with_reducible first | exact HB.out | apply below_alloc | apply pw_below_drewN | apply below_drew1 | refine below_set ?_ GE124.out) | exact HB.out))) : w.heap.size ≤ gb125)); have n5_ := Aside0.mk ((by rw [hg]; exact Nat.ne_of_lt (blk_lt (g := gb124) (o := .cells #[.int .i64 x0, .int .i64 x1, .int .i64 x2, .int .i64 x3] 23 (0, 0)) (by (with_reducible repeat (first | refine blk_drewN ?_ _ | refine blk_drew ?_ | refine blk_alloc ?_ _)); exact BK124.out)) : gb124 ≠ gb125)); have n6_ := Aside0.mk ((by rw [hg]; exact Nat.ne_of_gt (blk_lt (g := gb124) (o := .cells #[.int .i64 x0, .int .i64 x1, .int .i64 x2, .int .i64 x3] 23 (0, 0)) (by (with_reducible repeat (first | refine blk_drewN ?_ _ | refine blk_drew ?_ | refine blk_alloc ?_ _)); exact BK124.out)) : gb125 ≠ gb124)); clear BK124; clear HB; have BK124 := n0_; have HB := n1_; have BK125 := n2_; have GW125 := n3_; have GE125 := n4_; have NB124_125 := n5_; have NB125_124 := n6_; clear n0_ n1_ n2_ n3_ n4_ n5_ n6_; clear hb hbox hg))
  (try simp only [Act.put, List.setIfInBounds_toArray, List.set_cons_zero, List.set_cons_succ])
  go_cut [5, 6] (fun v5 v6 wc => ∃ g1 g2 : Nat, v5 = .pointer (some ⟨g1, 0, none⟩) ∧ v6 = .pointer (some ⟨g2, 0, none⟩) ∧ Aside0 (wc.heap[g1]? = some (.cells #[.int .i64 x0, .int .i64 x1, .int .i64 x2, .int .i64 x3] 58 (0, 0))) ∧ Aside0 (wc.heap[g2]? = some (.cells #[.int .i64 y0, .int .i64 y1, .int .i64 y2, .int .i64 y3] 58 (0, 0))) ∧ Aside0 (Below w.heap.size w wc))
  case first =>
    have n0_ := Aside0.mk (blk_drew BK124.out)
    have n1_ := Aside0.mk (blk_drew BK125.out)
    have n2_ := Aside0.mk (below_drew1 HB.out)
    clear BK124
    clear BK125
    clear HB
    have BK124 := n0_
    have BK125 := n1_
    have HB := n2_
    clear n0_ n1_ n2_
    refine start_ (n := 22) (S := fun w' => w'.cell? ⟨gb124, 0, none⟩ = some (.int .i64 x0) ∧ w'.cell? ⟨gb124, 1, none⟩ = some (.int .i64 x1) ∧ w'.cell? ⟨gb124, 2, none⟩ = some (.int .i64 x2) ∧ w'.cell? ⟨gb124, 3, none⟩ = some (.int .i64 x3) ∧ w'.cell? ⟨gb125, 0, none⟩ = some (.int .i64 y0) ∧ w'.cell? ⟨gb125, 1, none⟩ = some (.int .i64 y1) ∧ w'.cell? ⟨gb125, 2, none⟩ = some (.int .i64 y2) ∧ w'.cell? ⟨gb125, 3, none⟩ = some (.int .i64 y3)) (ds := []) #[false, false, false, false, false, false, false, false, false, false, false, false, false, false, false, false, false, false, false, false, false, false] (by kernel_rfl) rfl rfl ⟨(blk_cell BK124.out 0).trans rfl, (blk_cell BK124.out 1).trans rfl, (blk_cell BK124.out 2).trans rfl, (blk_cell BK124.out 3).trans rfl, (blk_cell BK125.out 0).trans rfl, (blk_cell BK125.out 1).trans rfl, (blk_cell BK125.out 2).trans rfl, (blk_cell BK125.out 3).trans rfl⟩ (fun hHeld => ?_); refine with_tabW antipoderef6_LessTry.tab1 antipoderef6_LessTry.bits1 (fun HT_ HW_ => ?_)
    generalize w9.drew = w10 at BK124 BK125 HB hHeld ⊢
    refine pure_ (i := 0) (N := some 8) (v := ?_) (a' := ?_) #[true, false, false, false, false, false, false, false, false, false, false, false, false, false, false, false, false, false, false, false, false, false] rfl rfl (any_of HT_.out (by kernel_rfl)) (fun _ _ _ h => h) (Or.inl ⟨by rfl, ?_⟩) ?_ ?_
    rotate_left
    · intro w'
      go_simp
      with_reducible rfl
    rotate_left
    · simp only [Act.put, List.setIfInBounds_toArray, List.set_cons_zero, List.set_cons_succ, i64_w, i32_w]
      rfl
    refine take_ (i := 1) (N := some 9) (v := ?_) (a' := ?_) #[true, true, false, false, false, false, false, false, false, false, false, false, false, false, false, false, false, false, false, false, false, false] rfl rfl (take_ofW HT_.out HW_.out (by kernel_rfl)) (fun _ _ _ h => h) (Or.inl ⟨by rfl, ?_⟩) hHeld ?_ ?_
    rotate_left
    · rintro w' ⟨s0, s1, s2, s3, s4, s5, s6, s7⟩
      go_simp
      with_reducible rfl
    rotate_left
    · simp only [Act.put, List.setIfInBounds_toArray, List.set_cons_zero, List.set_cons_succ, i64_w, i32_w]
      rfl
    refine pure_ (i := 2) (N := some 10) (v := ?_) (a' := ?_) #[true, true, true, false, false, false, false, false, false, false, false, false, false, false, false, false, false, false, false, false, false, false] rfl rfl (any_of HT_.out (by kernel_rfl)) (fun _ _ _ h => h) (Or.inl ⟨by rfl, ?_⟩) ?_ ?_
    rotate_left
    · intro w'
      go_simp
      with_reducible rfl
    rotate_left
    · simp only [Act.put, List.setIfInBounds_toArray, List.set_cons_zero, List.set_cons_succ, i64_w, i32_w]
      rfl
    refine take_ (i := 3) (N := some 11) (v := ?_) (a' := ?_) #[true, true, true, true, false, false, false, false, false, false, false, false, false, false, false, false, false, false, false, false, false, false] rfl rfl (take_ofW HT_.out HW_.out (by kernel_rfl)) (fun _ _ _ h => h) (Or.inl ⟨by rfl, ?_⟩) hHeld ?_ ?_
    rotate_left
    · rintro w' ⟨s0, s1, s2, s3, s4, s5, s6, s7⟩
      go_simp
      with_reducible rfl
    rotate_left
    · simp only [Act.put, List.setIfInBounds_toArray, List.set_cons_zero, List.set_cons_succ, i64_w, i32_w]
      rfl
    refine pure_ (i := 4) (N := some 12) (v := ?_) (a' := ?_) #[true, true, true, true, true, false, false, false, false, false, false, false, false, false, false, false, false, false, false, false, false, false] rfl rfl (any_of HT_.out (by kernel_rfl)) (fun _ _ _ h => h) (Or.inl ⟨by rfl, ?_⟩) ?_ ?_
    rotate_left
    · intro w'
      go_simp
      with_reducible rfl
    rotate_left
    · simp only [Act.put, List.setIfInBounds_toArray, List.set_cons_zero, List.set_cons_succ, i64_w, i32_w]
      rfl
    refine take_ (i := 5) (N := some 13) (v := ?_) (a' := ?_) #[true, true, true, true, true, true, false, false, false, false, false, false, false, false, false, false, false, false, false, false, false, false] rfl rfl (take_ofW HT_.out HW_.out (by kernel_rfl)) (fun _ _ _ h => h) (Or.inl ⟨by rfl, ?_⟩) hHeld ?_ ?_
    rotate_left
    · rintro w' ⟨s0, s1, s2, s3, s4, s5, s6, s7⟩
      go_simp
      with_reducible rfl
    rotate_left
    · simp only [Act.put, List.setIfInBounds_toArray, List.set_cons_zero, List.set_cons_succ, i64_w, i32_w]
      rfl
    refine pure_ (i := 6) (N := some 14) (v := ?_) (a' := ?_) #[true, true, true, true, true, true, true, false, false, false, false, false, false, false, false, false, false, false, false, false, false, false] rfl rfl (any_of HT_.out (by kernel_rfl)) (fun _ _ _ h => h) (Or.inl ⟨by rfl, ?_⟩) ?_ ?_
    rotate_left
    · intro w'
      go_simp
      with_reducible rfl
    rotate_left
    · simp only [Act.put, List.setIfInBounds_toArray, List.set_cons_zero, List.set_cons_succ, i64_w, i32_w]
      rfl
    refine take_ (i := 7) (N := some 15) (v := ?_) (a' := ?_) #[true, true, true, true, true, true, true, true, false, false, false, false, false, false, false, false, false, false, false, false, false, false] rfl rfl (take_ofW HT_.out HW_.out (by kernel_rfl)) (fun _ _ _ h => h) (Or.inl ⟨by rfl, ?_⟩) hHeld ?_ ?_
    rotate_left
    · rintro w' ⟨s0, s1, s2, s3, s4, s5, s6, s7⟩
      go_simp
      with_reducible rfl
    rotate_left
    · simp only [Act.put, List.setIfInBounds_toArray, List.set_cons_zero, List.set_cons_succ, i64_w, i32_w]
      rfl
    refine pure_ (i := 8) (N := some 16) (v := ?_) (a' := ?_) #[true, true, true, true, true, true, true, true, true, false, false, false, false, false, false, false, false, false, false, false, false, false] rfl rfl (any_of HT_.out (by kernel_rfl)) (fun _ _ _ h => h) (Or.inl ⟨by rfl, ?_⟩) ?_ ?_
    rotate_left
    · intro w'
      go_simp
      with_reducible rfl
    rotate_left
    · simp only [Act.put, List.setIfInBounds_toArray, List.set_cons_zero, List.set_cons_succ, i64_w, i32_w]
      rfl
    refine pure_ (i := 9) (N := some 17) (v := ?_) (a' := ?_) #[true, true, true, true, true, true, true, true, true, true, false, false, false, false, false, false, false, false, false, false, false, false] rfl rfl (any_of HT_.out (by kernel_rfl)) (fun _ _ _ h => h) (Or.inl ⟨by rfl, ?_⟩) ?_ ?_
    rotate_left
    · intro w'
      go_simp
      with_reducible rfl
    rotate_left
    · simp only [Act.put, List.setIfInBounds_toArray, List.set_cons_zero, List.set_cons_succ, i64_w, i32_w]
      rfl
    refine take_ (i := 10) (N := some 18) (v := ?_) (a' := ?_) #[true, true, true, true, true, true, true, true, true, true, true, false, false, false, false, false, false, false, false, false, false, false] rfl rfl (take_ofW HT_.out HW_.out (by kernel_rfl)) (fun _ _ _ h => h) (Or.inl ⟨by rfl, ?_⟩) hHeld ?_ ?_
    rotate_left
    · rintro w' ⟨s0, s1, s2, s3, s4, s5, s6, s7⟩
      go_simp
      with_reducible rfl
    rotate_left
    · simp only [Act.put, List.setIfInBounds_toArray, List.set_cons_zero, List.set_cons_succ, i64_w, i32_w]
      rfl
    refine pure_ (i := 11) (N := some 19) (v := ?_) (a' := ?_) #[true, true, true, true, true, true, true, true, true, true, true, true, false, false, false, false, false, false, false, false, false, false] rfl rfl (any_of HT_.out (by kernel_rfl)) (fun _ _ _ h => h) (Or.inl ⟨by rfl, ?_⟩) ?_ ?_
    rotate_left
    · intro w'
      go_simp
      with_reducible rfl
    rotate_left
    · simp only [Act.put, List.setIfInBounds_toArray, List.set_cons_zero, List.set_cons_succ, i64_w, i32_w]
      rfl
    refine take_ (i := 12) (N := some 20) (v := ?_) (a' := ?_) #[true, true, true, true, true, true, true, true, true, true, true, true, true, false, false, false, false, false, false, false, false, false] rfl rfl (take_ofW HT_.out HW_.out (by kernel_rfl)) (fun _ _ _ h => h) (Or.inl ⟨by rfl, ?_⟩) hHeld ?_ ?_
    rotate_left
    · rintro w' ⟨s0, s1, s2, s3, s4, s5, s6, s7⟩
      go_simp
      with_reducible rfl
    rotate_left
    · simp only [Act.put, List.setIfInBounds_toArray, List.set_cons_zero, List.set_cons_succ, i64_w, i32_w]
      rfl
    refine pure_ (i := 13) (N := some 21) (v := ?_) (a' := ?_) #[true, true, true, true, true, true, true, true, true, true, true, true, true, true, false, false, false, false, false, false, false, false] rfl rfl (any_of HT_.out (by kernel_rfl)) (fun _ _ _ h => h) (Or.inl ⟨by rfl, ?_⟩) ?_ ?_
    rotate_left
    · intro w'
      go_simp
      with_reducible rfl
    rotate_left
    · simp only [Act.put, List.setIfInBounds_toArray, List.set_cons_zero, List.set_cons_succ, i64_w, i32_w]
      rfl
    refine take_ (i := 14) (N := some 22) (v := ?_) (a' := ?_) #[true, true, true, true, true, true, true, true, true, true, true, true, true, true, true, false, false, false, false, false, false, false] rfl rfl (take_ofW HT_.out HW_.out (by kernel_rfl)) (fun _ _ _ h => h) (Or.inl ⟨by rfl, ?_⟩) hHeld ?_ ?_
    rotate_left
    · rintro w' ⟨s0, s1, s2, s3, s4, s5, s6, s7⟩
      go_simp
      with_reducible rfl
    rotate_left
    · simp only [Act.put, List.setIfInBounds_toArray, List.set_cons_zero, List.set_cons_succ, i64_w, i32_w]
      rfl
    refine pure_ (i := 15) (N := some 23) (v := ?_) (a' := ?_) #[true, true, true, true, true, true, true, true, true, true, true, true, true, true, true, true, false, false, false, false, false, false] rfl rfl (any_of HT_.out (by kernel_rfl)) (fun _ _ _ h => h) (Or.inl ⟨by rfl, ?_⟩) ?_ ?_
    rotate_left
    · intro w'
      go_simp
      with_reducible rfl
    rotate_left
    · simp only [Act.put, List.setIfInBounds_toArray, List.set_cons_zero, List.set_cons_succ, i64_w, i32_w]
      rfl
    refine take_ (i := 16) (N := some 24) (v := ?_) (a' := ?_) #[true, true, true, true, true, true, true, true, true, true, true, true, true, true, true, true, true, false, false, false, false, false] rfl rfl (take_ofW HT_.out HW_.out (by kernel_rfl)) (fun _ _ _ h => h) (Or.inl ⟨by rfl, ?_⟩) hHeld ?_ ?_
    rotate_left
    · rintro w' ⟨s0, s1, s2, s3, s4, s5, s6, s7⟩
      go_simp
      with_reducible rfl
    rotate_left
    · simp only [Act.put, List.setIfInBounds_toArray, List.set_cons_zero, List.set_cons_succ, i64_w, i32_w]
      rfl
    refine pure_ (i := 17) (N := some 25) (v := ?_) (a' := ?_) #[true, true, true, true, true, true, true, true, true, true, true, true, true, true, true, true, true, true, false, false, false, false] rfl rfl (any_of HT_.out (by kernel_rfl)) (fun _ _ _ h => h) (Or.inl ⟨by rfl, ?_⟩) ?_ ?_
    rotate_left
    · intro w'
      go_simp
      with_reducible rfl
    rotate_left
    · simp only [Act.put, List.setIfInBounds_toArray, List.set_cons_zero, List.set_cons_succ, i64_w, i32_w]
      rfl
    refine two_ (i := 18) (j := 19) (Ni := some 5) (Nj := some 6) #[true, true, true, true, true, true, true, true, true, true, true, true, true, true, true, true, true, true, true, false, false, false] #[true, true, true, true, true, true, true, true, true, true, true, true, true, true, true, true, true, true, false, true, false, false] rfl rfl rfl rfl (by kernel_rfl) (by decide) (by decide) (fun K hK => ?_) (fun K hK => ?_)
    · refine value_ (by rfl) rfl (w1 := w10.alloc (.cells #[.int .i64 0, .int .i64 0, .int .i64 0, .int .i64 0] 58 (0, 0))) (v := .pointer (some ⟨w10.heap.size, 0, none⟩)) ?hr ?_
      case hr => go_simp
      have n0_ := Aside0.mk (blk_alloc BK124.out (.cells #[.int .i64 0, .int .i64 0, .int .i64 0, .int .i64 0] 58 (0, 0)))
      have n1_ := Aside0.mk (blk_alloc BK125.out (.cells #[.int .i64 0, .int .i64 0, .int .i64 0, .int .i64 0] 58 (0, 0)))
      have n2_ := Aside0.mk (below_alloc HB.out (.cells #[.int .i64 0, .int .i64 0, .int .i64 0, .int .i64 0] 58 (0, 0)))
      have n3_ := Aside0.mk (blk_new w10 (.cells #[.int .i64 0, .int .i64 0, .int .i64 0, .int .i64 0] 58 (0, 0)))
      have n4_ := Aside0.mk (below_size HB.out)
      have ne4_ := Aside0.mk (Nat.ne_of_lt (blk_lt BK124.out))
      have ne5_ := Aside0.mk (Nat.ne_of_lt (blk_lt BK125.out))
      clear BK124 BK125 HB
      generalize w10.alloc (.cells #[.int .i64 0, .int .i64 0, .int .i64 0, .int .i64 0] 58 (0, 0)) = w11 at *
      generalize w10.heap.size = gA at *
      refine hK.out _ _ ⟨(blk_cell n0_.out 0).trans rfl, (blk_cell n0_.out 1).trans rfl, (blk_cell n0_.out 2).trans rfl, (blk_cell n0_.out 3).trans rfl, (blk_cell n1_.out 0).trans rfl, (blk_cell n1_.out 1).trans rfl, (blk_cell n1_.out 2).trans rfl, (blk_cell n1_.out 3).trans rfl⟩ (fun hHeld => ?_)
      refine norm_ (a' := ?_) ?_ ?_
      rotate_left
      · show Act.put _ (some 5) _ = _
        simp only [Act.put, List.setIfInBounds_toArray, List.set_cons_zero, List.set_cons_succ, i64_w, i32_w]
        rfl
      refine one_ (i := 19) (N := some 6) #[true, true, true, true, true, true, true, true, true, true, true, true, true, true, true, true, true, true, true, true, false, false] rfl rfl (one_of HT_.out (by kernel_rfl)) (by decide) (fun K hK => ?_)
      refine value_ (by rfl) rfl (w1 := w11.alloc (.cells #[.int .i64 0, .int .i64 0, .int .i64 0, .int .i64 0] 58 (0, 0))) (v := .pointer (some ⟨w11.heap.size, 0, none⟩)) ?hr ?_
      case hr => go_simp
      have p0_ := Aside0.mk (blk_alloc n0_.out (.cells #[.int .i64 0, .int .i64 0, .int .i64 0, .int .i64 0] 58 (0, 0)))
      have p1_ := Aside0.mk (blk_alloc n1_.out (.cells #[.int .i64 0, .int .i64 0, .int .i64 0, .int .i64 0] 58 (0, 0)))
      have p2_ := Aside0.mk (below_alloc n2_.out (.cells #[.int .i64 0, .int .i64 0, .int .i64 0, .int .i64 0] 58 (0, 0)))
      have p3_ := Aside0.mk (blk_alloc n3_.out (.cells #[.int .i64 0, .int .i64 0, .int .i64 0, .int .i64 0] 58 (0, 0)))
      have p4_ := Aside0.mk (blk_new w11 (.cells #[.int .i64 0, .int .i64 0, .int .i64 0, .int .i64 0] 58 (0, 0)))
      have p5_ := Aside0.mk (below_size n2_.out)
      have p6_ := Aside0.mk (Nat.ne_of_lt (blk_lt n3_.out))
      have p7_ := Aside0.mk (Nat.ne_of_lt (blk_lt n0_.out))
      have p8_ := Aside0.mk (Nat.ne_of_lt (blk_lt n1_.out))
      clear n0_ n1_ n2_ n3_
      generalize w11.alloc (.cells #[.int .i64 0, .int .i64 0, .int .i64 0, .int .i64 0] 58 (0, 0)) = w12 at *
      generalize w11.heap.size = gB at *
      refine hK.out _ _ ⟨(blk_cell p0_.out 0).trans rfl, (blk_cell p0_.out 1).trans rfl, (blk_cell p0_.out 2).trans rfl, (blk_cell p0_.out 3).trans rfl, (blk_cell p1_.out 0).trans rfl, (blk_cell p1_.out 1).trans rfl, (blk_cell p1_.out 2).trans rfl, (blk_cell p1_.out 3).trans rfl⟩ (fun hHeld => ?_)
      refine norm_ (a' := ?_) ?_ ?_
      rotate_left
      · show Act.put _ (some 6) _ = _
        simp only [Act.put, List.setIfInBounds_toArray, List.set_cons_zero, List.set_cons_succ, i64_w, i32_w]
        rfl
      refine one_ (i := 20) (N := none) #[true, true, true, true, true, true, true, true, true, true, true, true, true, true, true, true, true, true, true, true, true, false] rfl rfl (one_of HT_.out (by kernel_rfl)) (by decide) (fun K hK => ?_)
      refine skip_ (by rfl) rfl (w1 := ((((w12).setCell ⟨gA, 0, none⟩ (.int .i64 x0)).setCell ⟨gA, 1, none⟩ (.int .i64 x1)).setCell ⟨gA, 2, none⟩ (.int .i64 x2)).setCell ⟨gA, 3, none⟩ (.int .i64 x3)) ?hr ?_
      case hr =>
        have c0_ : World.cell? (w12) ⟨gA, 0, none⟩ = some (.int .i64 0) := (blk_cell p3_.out 0).trans rfl
        have f0_ := blk_frozen p3_.out 0
        have s0_ := blk_set p3_.out 0 (.int .i64 x0)
        have c1_ : World.cell? ((w12).setCell ⟨gA, 0, none⟩ (.int .i64 x0)) ⟨gA, 1, none⟩ = some (.int .i64 0) := (blk_cell s0_ 1).trans rfl
        have f1_ := blk_frozen s0_ 1
        have s1_ := blk_set s0_ 1 (.int .i64 x1)
        have c2_ : World.cell? (((w12).setCell ⟨gA, 0, none⟩ (.int .i64 x0)).setCell ⟨gA, 1, none⟩ (.int .i64 x1)) ⟨gA, 2, none⟩ = some (.int .i64 0) := (blk_cell s1_ 2).trans rfl
        have f2_ := blk_frozen s1_ 2
        have s2_ := blk_set s1_ 2 (.int .i64 x2)
        have c3_ : World.cell? ((((w12).setCell ⟨gA, 0, none⟩ (.int .i64 x0)).setCell ⟨gA, 1, none⟩ (.int .i64 x1)).setCell ⟨gA, 2, none⟩ (.int .i64 x2)) ⟨gA, 3, none⟩ = some (.int .i64 0) := (blk_cell s2_ 3).trans rfl
        have f3_ := blk_frozen s2_ 3
        have s3_ := blk_set s2_ 3 (.int .i64 x3)
        clear s0_ s1_ s2_ s3_
        go_simp
      have q0_ := Aside0.mk (blk_far (blk_far (blk_far (blk_far p0_.out (p := ⟨gA, 0, none⟩) (show gb124 ≠ gA from ne4_.out) (.int .i64 x0)) (p := ⟨gA, 1, none⟩) (show gb124 ≠ gA from ne4_.out) (.int .i64 x1)) (p := ⟨gA, 2, none⟩) (show gb124 ≠ gA from ne4_.out) (.int .i64 x2)) (p := ⟨gA, 3, none⟩) (show gb124 ≠ gA from ne4_.out) (.int .i64 x3))
      have q1_ := Aside0.mk (blk_far (blk_far (blk_far (blk_far p1_.out (p := ⟨gA, 0, none⟩) (show gb125 ≠ gA from ne5_.out) (.int .i64 x0)) (p := ⟨gA, 1, none⟩) (show gb125 ≠ gA from ne5_.out) (.int .i64 x1)) (p := ⟨gA, 2, none⟩) (show gb125 ≠ gA from ne5_.out) (.int .i64 x2)) (p := ⟨gA, 3, none⟩) (show gb125 ≠ gA from ne5_.out) (.int .i64 x3))
      have q2_ := Aside0.mk (below_set (below_set (below_set (below_set p2_.out n4_.out (j := 0) (v := .int .i64 x0)) n4_.out (j := 1) (v := .int .i64 x1)) n4_.out (j := 2) (v := .int .i64 x2)) n4_.out (j := 3) (v := .int .i64 x3))
      have q3_ : Aside0 ((World.heap (((((w12).setCell ⟨gA, 0, none⟩ (.int .i64 x0)).setCell ⟨gA, 1, none⟩ (.int .i64 x1)).setCell ⟨gA, 2, none⟩ (.int .i64 x2)).setCell ⟨gA, 3, none⟩ (.int .i64 x3)))[gA]? = some (.cells #[.int .i64 x0, .int .i64 x1, .int .i64 x2, .int .i64 x3] 58 (0, 0))) := ⟨(blk_set (blk_set (blk_set (blk_set p3_.out 0 (.int .i64 x0)) 1 (.int .i64 x1)) 2 (.int .i64 x2)) 3 (.int .i64 x3))⟩
      have q4_ := Aside0.mk (blk_far (blk_far (blk_far (blk_far p4_.out (p := ⟨gA, 0, none⟩) (show gB ≠ gA from (Ne.symm p6_.out)) (.int .i64 x0)) (p := ⟨gA, 1, none⟩) (show gB ≠ gA from (Ne.symm p6_.out)) (.int .i64 x1)) (p := ⟨gA, 2, none⟩) (show gB ≠ gA from (Ne.symm p6_.out)) (.int .i64 x2)) (p := ⟨gA, 3, none⟩) (show gB ≠ gA from (Ne.symm p6_.out)) (.int .i64 x3))
      clear p0_ p1_ p2_ p3_ p4_
      generalize ((((w12).setCell ⟨gA, 0, none⟩ (.int .i64 x0)).setCell ⟨gA, 1, none⟩ (.int .i64 x1)).setCell ⟨gA, 2, none⟩ (.int .i64 x2)).setCell ⟨gA, 3, none⟩ (.int .i64 x3) = w13 at *
      refine hK.out _ _ ⟨(blk_cell q0_.out 0).trans rfl, (blk_cell q0_.out 1).trans rfl, (blk_cell q0_.out 2).trans rfl, (blk_cell q0_.out 3).trans rfl, (blk_cell q1_.out 0).trans rfl, (blk_cell q1_.out 1).trans rfl, (blk_cell q1_.out 2).trans rfl, (blk_cell q1_.out 3).trans rfl⟩ (fun hHeld => ?_)
      refine one_ (i := 21) (N := none) #[true, true, true, true, true, true, true, true, true, true, true, true, true, true, true, true, true, true, true, true, true, true] rfl rfl (one_of HT_.out (by kernel_rfl)) (by decide) (fun K hK => ?_)
      refine skip_ (by rfl) rfl (w1 := ((((w13).setCell ⟨gB, 0, none⟩ (.int .i64 y0)).setCell ⟨gB, 1, none⟩ (.int .i64 y1)).setCell ⟨gB, 2, none⟩ (.int .i64 y2)).setCell ⟨gB, 3, none⟩ (.int .i64 y3)) ?hr ?_
      case hr =>
        have c0_ : World.cell? (w13) ⟨gB, 0, none⟩ = some (.int .i64 0) := (blk_cell q4_.out 0).trans rfl
        have f0_ := blk_frozen q4_.out 0
        have s0_ := blk_set q4_.out 0 (.int .i64 y0)
        have c1_ : World.cell? ((w13).setCell ⟨gB, 0, none⟩ (.int .i64 y0)) ⟨gB, 1, none⟩ = some (.int .i64 0) := (blk_cell s0_ 1).trans rfl
        have f1_ := blk_frozen s0_ 1
        have s1_ := blk_set s0_ 1 (.int .i64 y1)
        have c2_ : World.cell? (((w13).setCell ⟨gB, 0, none⟩ (.int .i64 y0)).setCell ⟨gB, 1, none⟩ (.int .i64 y1)) ⟨gB, 2, none⟩ = some (.int .i64 0) := (blk_cell s1_ 2).trans rfl
        have f2_ := blk_frozen s1_ 2
        have s2_ := blk_set s1_ 2 (.int .i64 y2)
        have c3_ : World.cell? ((((w13).setCell ⟨gB, 0, none⟩ (.int .i64 y0)).setCell ⟨gB, 1, none⟩ (.int .i64 y1)).setCell ⟨gB, 2, none⟩ (.int .i64 y2)) ⟨gB, 3, none⟩ = some (.int .i64 0) := (blk_cell s2_ 3).trans rfl
        have f3_ := blk_frozen s2_ 3
        have s3_ := blk_set s2_ 3 (.int .i64 y3)
        clear s0_ s1_ s2_ s3_
        go_simp
      have r0_ := Aside0.mk (blk_far (blk_far (blk_far (blk_far q0_.out (p := ⟨gB, 0, none⟩) (show gb124 ≠ gB from p7_.out) (.int .i64 y0)) (p := ⟨gB, 1, none⟩) (show gb124 ≠ gB from p7_.out) (.int .i64 y1)) (p := ⟨gB, 2, none⟩) (show gb124 ≠ gB from p7_.out) (.int .i64 y2)) (p := ⟨gB, 3, none⟩) (show gb124 ≠ gB from p7_.out) (.int .i64 y3))
      have r1_ := Aside0.mk (blk_far (blk_far (blk_far (blk_far q1_.out (p := ⟨gB, 0, none⟩) (show gb125 ≠ gB from p8_.out) (.int .i64 y0)) (p := ⟨gB, 1, none⟩) (show gb125 ≠ gB from p8_.out) (.int .i64 y1)) (p := ⟨gB, 2, none⟩) (show gb125 ≠ gB from p8_.out) (.int .i64 y2)) (p := ⟨gB, 3, none⟩) (show gb125 ≠ gB from p8_.out) (.int .i64 y3))
      have r2_ := Aside0.mk (below_set (below_set (below_set (below_set q2_.out p5_.out (j := 0) (v := .int .i64 y0)) p5_.out (j := 1) (v := .int .i64 y1)) p5_.out (j := 2) (v := .int .i64 y2)) p5_.out (j := 3) (v := .int .i64 y3))
      have r3_ := Aside0.mk (blk_far (blk_far (blk_far (blk_far q3_.out (p := ⟨gB, 0, none⟩) (show gA ≠ gB from p6_.out) (.int .i64 y0)) (p := ⟨gB, 1, none⟩) (show gA ≠ gB from p6_.out) (.int .i64 y1)) (p := ⟨gB, 2, none⟩) (show gA ≠ gB from p6_.out) (.int .i64 y2)) (p := ⟨gB, 3, none⟩) (show gA ≠ gB from p6_.out) (.int .i64 y3))
      have r4_ : Aside0 ((World.heap (((((w13).setCell ⟨gB, 0, none⟩ (.int .i64 y0)).setCell ⟨gB, 1, none⟩ (.int .i64 y1)).setCell ⟨gB, 2, none⟩ (.int .i64 y2)).setCell ⟨gB, 3, none⟩ (.int .i64 y3)))[gB]? = some (.cells #[.int .i64 y0, .int .i64 y1, .int .i64 y2, .int .i64 y3] 58 (0, 0))) := ⟨(blk_set (blk_set (blk_set (blk_set q4_.out 0 (.int .i64 y0)) 1 (.int .i64 y1)) 2 (.int .i64 y2)) 3 (.int .i64 y3))⟩
      clear q0_ q1_ q2_ q3_ q4_
      generalize ((((w13).setCell ⟨gB, 0, none⟩ (.int .i64 y0)).setCell ⟨gB, 1, none⟩ (.int .i64 y1)).setCell ⟨gB, 2, none⟩ (.int .i64 y2)).setCell ⟨gB, 3, none⟩ (.int .i64 y3) = w14 at *
      refine hK.out _ _ ⟨(blk_cell r0_.out 0).trans rfl, (blk_cell r0_.out 1).trans rfl, (blk_cell r0_.out 2).trans rfl, (blk_cell r0_.out 3).trans rfl, (blk_cell r1_.out 0).trans rfl, (blk_cell r1_.out 1).trans rfl, (blk_cell r1_.out 2).trans rfl, (blk_cell r1_.out 3).trans rfl⟩ (fun hHeld => ?_)
      refine done_ (done_of HT_.out (by kernel_rfl)) ?_
      try go_wp2
      go_meet
      case rel => exact ⟨gA, gB, rfl, rfl, r3_, r4_, r2_⟩
    · refine value_ (by rfl) rfl (w1 := w10.alloc (.cells #[.int .i64 0, .int .i64 0, .int .i64 0, .int .i64 0] 58 (0, 0))) (v := .pointer (some ⟨w10.heap.size, 0, none⟩)) ?hr ?_
      case hr => go_simp
      have n0_ := Aside0.mk (blk_alloc BK124.out (.cells #[.int .i64 0, .int .i64 0, .int .i64 0, .int .i64 0] 58 (0, 0)))
      have n1_ := Aside0.mk (blk_alloc BK125.out (.cells #[.int .i64 0, .int .i64 0, .int .i64 0, .int .i64 0] 58 (0, 0)))
      have n2_ := Aside0.mk (below_alloc HB.out (.cells #[.int .i64 0, .int .i64 0, .int .i64 0, .int .i64 0] 58 (0, 0)))
      have n3_ := Aside0.mk (blk_new w10 (.cells #[.int .i64 0, .int .i64 0, .int .i64 0, .int .i64 0] 58 (0, 0)))
      have n4_ := Aside0.mk (below_size HB.out)
      have ne4_ := Aside0.mk (Nat.ne_of_lt (blk_lt BK124.out))
      have ne5_ := Aside0.mk (Nat.ne_of_lt (blk_lt BK125.out))
      clear BK124 BK125 HB
      generalize w10.alloc (.cells #[.int .i64 0, .int .i64 0, .int .i64 0, .int .i64 0] 58 (0, 0)) = w11 at *
      generalize w10.heap.size = gA at *
      refine hK.out _ _ ⟨(blk_cell n0_.out 0).trans rfl, (blk_cell n0_.out 1).trans rfl, (blk_cell n0_.out 2).trans rfl, (blk_cell n0_.out 3).trans rfl, (blk_cell n1_.out 0).trans rfl, (blk_cell n1_.out 1).trans rfl, (blk_cell n1_.out 2).trans rfl, (blk_cell n1_.out 3).trans rfl⟩ (fun hHeld => ?_)
      refine norm_ (a' := ?_) ?_ ?_
      rotate_left
      · show Act.put _ (some 6) _ = _
        simp only [Act.put, List.setIfInBounds_toArray, List.set_cons_zero, List.set_cons_succ, i64_w, i32_w]
        rfl
      refine one_ (i := 18) (N := some 5) #[true, true, true, true, true, true, true, true, true, true, true, true, true, true, true, true, true, true, true, true, false, false] rfl rfl (one_of HT_.out (by kernel_rfl)) (by decide) (fun K hK => ?_)
      refine value_ (by rfl) rfl (w1 := w11.alloc (.cells #[.int .i64 0, .int .i64 0, .int .i64 0, .int .i64 0] 58 (0, 0))) (v := .pointer (some ⟨w11.heap.size, 0, none⟩)) ?hr ?_
      case hr => go_simp
      have p0_ := Aside0.mk (blk_alloc n0_.out (.cells #[.int .i64 0, .int .i64 0, .int .i64 0, .int .i64 0] 58 (0, 0)))
      have p1_ := Aside0.mk (blk_alloc n1_.out (.cells #[.int .i64 0, .int .i64 0, .int .i64 0, .int .i64 0] 58 (0, 0)))
      have p2_ := Aside0.mk (below_alloc n2_.out (.cells #[.int .i64 0, .int .i64 0, .int .i64 0, .int .i64 0] 58 (0, 0)))
      have p3_ := Aside0.mk (blk_alloc n3_.out (.cells #[.int .i64 0, .int .i64 0, .int .i64 0, .int .i64 0] 58 (0, 0)))
      have p4_ := Aside0.mk (blk_new w11 (.cells #[.int .i64 0, .int .i64 0, .int .i64 0, .int .i64 0] 58 (0, 0)))
      have p5_ := Aside0.mk (below_size n2_.out)
      have p6_ := Aside0.mk (Nat.ne_of_lt (blk_lt n3_.out))
      have p7_ := Aside0.mk (Nat.ne_of_lt (blk_lt n0_.out))
      have p8_ := Aside0.mk (Nat.ne_of_lt (blk_lt n1_.out))
      clear n0_ n1_ n2_ n3_
      generalize w11.alloc (.cells #[.int .i64 0, .int .i64 0, .int .i64 0, .int .i64 0] 58 (0, 0)) = w12 at *
      generalize w11.heap.size = gB at *
      refine hK.out _ _ ⟨(blk_cell p0_.out 0).trans rfl, (blk_cell p0_.out 1).trans rfl, (blk_cell p0_.out 2).trans rfl, (blk_cell p0_.out 3).trans rfl, (blk_cell p1_.out 0).trans rfl, (blk_cell p1_.out 1).trans rfl, (blk_cell p1_.out 2).trans rfl, (blk_cell p1_.out 3).trans rfl⟩ (fun hHeld => ?_)
      refine norm_ (a' := ?_) ?_ ?_
      rotate_left
      · show Act.put _ (some 5) _ = _
        simp only [Act.put, List.setIfInBounds_toArray, List.set_cons_zero, List.set_cons_succ, i64_w, i32_w]
        rfl
      refine one_ (i := 20) (N := none) #[true, true, true, true, true, true, true, true, true, true, true, true, true, true, true, true, true, true, true, true, true, false] rfl rfl (one_of HT_.out (by kernel_rfl)) (by decide) (fun K hK => ?_)
      refine skip_ (by rfl) rfl (w1 := ((((w12).setCell ⟨gB, 0, none⟩ (.int .i64 x0)).setCell ⟨gB, 1, none⟩ (.int .i64 x1)).setCell ⟨gB, 2, none⟩ (.int .i64 x2)).setCell ⟨gB, 3, none⟩ (.int .i64 x3)) ?hr ?_
      case hr =>
        have c0_ : World.cell? (w12) ⟨gB, 0, none⟩ = some (.int .i64 0) := (blk_cell p4_.out 0).trans rfl
        have f0_ := blk_frozen p4_.out 0
        have s0_ := blk_set p4_.out 0 (.int .i64 x0)
        have c1_ : World.cell? ((w12).setCell ⟨gB, 0, none⟩ (.int .i64 x0)) ⟨gB, 1, none⟩ = some (.int .i64 0) := (blk_cell s0_ 1).trans rfl
        have f1_ := blk_frozen s0_ 1
        have s1_ := blk_set s0_ 1 (.int .i64 x1)
        have c2_ : World.cell? (((w12).setCell ⟨gB, 0, none⟩ (.int .i64 x0)).setCell ⟨gB, 1, none⟩ (.int .i64 x1)) ⟨gB, 2, none⟩ = some (.int .i64 0) := (blk_cell s1_ 2).trans rfl
        have f2_ := blk_frozen s1_ 2
        have s2_ := blk_set s1_ 2 (.int .i64 x2)
        have c3_ : World.cell? ((((w12).setCell ⟨gB, 0, none⟩ (.int .i64 x0)).setCell ⟨gB, 1, none⟩ (.int .i64 x1)).setCell ⟨gB, 2, none⟩ (.int .i64 x2)) ⟨gB, 3, none⟩ = some (.int .i64 0) := (blk_cell s2_ 3).trans rfl
        have f3_ := blk_frozen s2_ 3
        have s3_ := blk_set s2_ 3 (.int .i64 x3)
        clear s0_ s1_ s2_ s3_
        go_simp
      have q0_ := Aside0.mk (blk_far (blk_far (blk_far (blk_far p0_.out (p := ⟨gB, 0, none⟩) (show gb124 ≠ gB from p7_.out) (.int .i64 x0)) (p := ⟨gB, 1, none⟩) (show gb124 ≠ gB from p7_.out) (.int .i64 x1)) (p := ⟨gB, 2, none⟩) (show gb124 ≠ gB from p7_.out) (.int .i64 x2)) (p := ⟨gB, 3, none⟩) (show gb124 ≠ gB from p7_.out) (.int .i64 x3))
      have q1_ := Aside0.mk (blk_far (blk_far (blk_far (blk_far p1_.out (p := ⟨gB, 0, none⟩) (show gb125 ≠ gB from p8_.out) (.int .i64 x0)) (p := ⟨gB, 1, none⟩) (show gb125 ≠ gB from p8_.out) (.int .i64 x1)) (p := ⟨gB, 2, none⟩) (show gb125 ≠ gB from p8_.out) (.int .i64 x2)) (p := ⟨gB, 3, none⟩) (show gb125 ≠ gB from p8_.out) (.int .i64 x3))
      have q2_ := Aside0.mk (below_set (below_set (below_set (below_set p2_.out p5_.out (j := 0) (v := .int .i64 x0)) p5_.out (j := 1) (v := .int .i64 x1)) p5_.out (j := 2) (v := .int .i64 x2)) p5_.out (j := 3) (v := .int .i64 x3))
      have q3_ : Aside0 ((World.heap (((((w12).setCell ⟨gB, 0, none⟩ (.int .i64 x0)).setCell ⟨gB, 1, none⟩ (.int .i64 x1)).setCell ⟨gB, 2, none⟩ (.int .i64 x2)).setCell ⟨gB, 3, none⟩ (.int .i64 x3)))[gB]? = some (.cells #[.int .i64 x0, .int .i64 x1, .int .i64 x2, .int .i64 x3] 58 (0, 0))) := ⟨(blk_set (blk_set (blk_set (blk_set p4_.out 0 (.int .i64 x0)) 1 (.int .i64 x1)) 2 (.int .i64 x2)) 3 (.int .i64 x3))⟩
      have q4_ := Aside0.mk (blk_far (blk_far (blk_far (blk_far p3_.out (p := ⟨gB, 0, none⟩) (show gA ≠ gB from p6_.out) (.int .i64 x0)) (p := ⟨gB, 1, none⟩) (show gA ≠ gB from p6_.out) (.int .i64 x1)) (p := ⟨gB, 2, none⟩) (show gA ≠ gB from p6_.out) (.int .i64 x2)) (p := ⟨gB, 3, none⟩) (show gA ≠ gB from p6_.out) (.int .i64 x3))
      clear p0_ p1_ p2_ p3_ p4_
      generalize ((((w12).setCell ⟨gB, 0, none⟩ (.int .i64 x0)).setCell ⟨gB, 1, none⟩ (.int .i64 x1)).setCell ⟨gB, 2, none⟩ (.int .i64 x2)).setCell ⟨gB, 3, none⟩ (.int .i64 x3) = w13 at *
      refine hK.out _ _ ⟨(blk_cell q0_.out 0).trans rfl, (blk_cell q0_.out 1).trans rfl, (blk_cell q0_.out 2).trans rfl, (blk_cell q0_.out 3).trans rfl, (blk_cell q1_.out 0).trans rfl, (blk_cell q1_.out 1).trans rfl, (blk_cell q1_.out 2).trans rfl, (blk_cell q1_.out 3).trans rfl⟩ (fun hHeld => ?_)
      refine one_ (i := 21) (N := none) #[true, true, true, true, true, true, true, true, true, true, true, true, true, true, true, true, true, true, true, true, true, true] rfl rfl (one_of HT_.out (by kernel_rfl)) (by decide) (fun K hK => ?_)
      refine skip_ (by rfl) rfl (w1 := ((((w13).setCell ⟨gA, 0, none⟩ (.int .i64 y0)).setCell ⟨gA, 1, none⟩ (.int .i64 y1)).setCell ⟨gA, 2, none⟩ (.int .i64 y2)).setCell ⟨gA, 3, none⟩ (.int .i64 y3)) ?hr ?_
      case hr =>
        have c0_ : World.cell? (w13) ⟨gA, 0, none⟩ = some (.int .i64 0) := (blk_cell q4_.out 0).trans rfl
        have f0_ := blk_frozen q4_.out 0
        have s0_ := blk_set q4_.out 0 (.int .i64 y0)
        have c1_ : World.cell? ((w13).setCell ⟨gA, 0, none⟩ (.int .i64 y0)) ⟨gA, 1, none⟩ = some (.int .i64 0) := (blk_cell s0_ 1).trans rfl
        have f1_ := blk_frozen s0_ 1
        have s1_ := blk_set s0_ 1 (.int .i64 y1)
        have c2_ : World.cell? (((w13).setCell ⟨gA, 0, none⟩ (.int .i64 y0)).setCell ⟨gA, 1, none⟩ (.int .i64 y1)) ⟨gA, 2, none⟩ = some (.int .i64 0) := (blk_cell s1_ 2).trans rfl
        have f2_ := blk_frozen s1_ 2
        have s2_ := blk_set s1_ 2 (.int .i64 y2)
        have c3_ : World.cell? ((((w13).setCell ⟨gA, 0, none⟩ (.int .i64 y0)).setCell ⟨gA, 1, none⟩ (.int .i64 y1)).setCell ⟨gA, 2, none⟩ (.int .i64 y2)) ⟨gA, 3, none⟩ = some (.int .i64 0) := (blk_cell s2_ 3).trans rfl
        have f3_ := blk_frozen s2_ 3
        have s3_ := blk_set s2_ 3 (.int .i64 y3)
        clear s0_ s1_ s2_ s3_
        go_simp
      have r0_ := Aside0.mk (blk_far (blk_far (blk_far (blk_far q0_.out (p := ⟨gA, 0, none⟩) (show gb124 ≠ gA from ne4_.out) (.int .i64 y0)) (p := ⟨gA, 1, none⟩) (show gb124 ≠ gA from ne4_.out) (.int .i64 y1)) (p := ⟨gA, 2, none⟩) (show gb124 ≠ gA from ne4_.out) (.int .i64 y2)) (p := ⟨gA, 3, none⟩) (show gb124 ≠ gA from ne4_.out) (.int .i64 y3))
      have r1_ := Aside0.mk (blk_far (blk_far (blk_far (blk_far q1_.out (p := ⟨gA, 0, none⟩) (show gb125 ≠ gA from ne5_.out) (.int .i64 y0)) (p := ⟨gA, 1, none⟩) (show gb125 ≠ gA from ne5_.out) (.int .i64 y1)) (p := ⟨gA, 2, none⟩) (show gb125 ≠ gA from ne5_.out) (.int .i64 y2)) (p := ⟨gA, 3, none⟩) (show gb125 ≠ gA from ne5_.out) (.int .i64 y3))
      have r2_ := Aside0.mk (below_set (below_set (below_set (below_set q2_.out n4_.out (j := 0) (v := .int .i64 y0)) n4_.out (j := 1) (v := .int .i64 y1)) n4_.out (j := 2) (v := .int .i64 y2)) n4_.out (j := 3) (v := .int .i64 y3))
      have r3_ := Aside0.mk (blk_far (blk_far (blk_far (blk_far q3_.out (p := ⟨gA, 0, none⟩) (show gB ≠ gA from (Ne.symm p6_.out)) (.int .i64 y0)) (p := ⟨gA, 1, none⟩) (show gB ≠ gA from (Ne.symm p6_.out)) (.int .i64 y1)) (p := ⟨gA, 2, none⟩) (show gB ≠ gA from (Ne.symm p6_.out)) (.int .i64 y2)) (p := ⟨gA, 3, none⟩) (show gB ≠ gA from (Ne.symm p6_.out)) (.int .i64 y3))
      have r4_ : Aside0 ((World.heap (((((w13).setCell ⟨gA, 0, none⟩ (.int .i64 y0)).setCell ⟨gA, 1, none⟩ (.int .i64 y1)).setCell ⟨gA, 2, none⟩ (.int .i64 y2)).setCell ⟨gA, 3, none⟩ (.int .i64 y3)))[gA]? = some (.cells #[.int .i64 y0, .int .i64 y1, .int .i64 y2, .int .i64 y3] 58 (0, 0))) := ⟨(blk_set (blk_set (blk_set (blk_set q4_.out 0 (.int .i64 y0)) 1 (.int .i64 y1)) 2 (.int .i64 y2)) 3 (.int .i64 y3))⟩
      clear q0_ q1_ q2_ q3_ q4_
      generalize ((((w13).setCell ⟨gA, 0, none⟩ (.int .i64 y0)).setCell ⟨gA, 1, none⟩ (.int .i64 y1)).setCell ⟨gA, 2, none⟩ (.int .i64 y2)).setCell ⟨gA, 3, none⟩ (.int .i64 y3) = w14 at *
      refine hK.out _ _ ⟨(blk_cell r0_.out 0).trans rfl, (blk_cell r0_.out 1).trans rfl, (blk_cell r0_.out 2).trans rfl, (blk_cell r0_.out 3).trans rfl, (blk_cell r1_.out 0).trans rfl, (blk_cell r1_.out 1).trans rfl, (blk_cell r1_.out 2).trans rfl, (blk_cell r1_.out 3).trans rfl⟩ (fun hHeld => ?_)
      refine done_ (done_of HT_.out (by kernel_rfl)) ?_
      try go_wp2
      go_meet
      case rel => exact ⟨gB, gA, rfl, rfl, r3_, r4_, r2_⟩
  case rest =>
    obtain ⟨g1, g2, rfl, rfl, K1, K2, HB2⟩ := hcut
    have cx0 : wc.cell? ⟨g1, 0, none⟩ = some (.int .i64 x0) := (blk_cell K1.out 0).trans rfl
    have cx1 : wc.cell? ⟨g1, 1, none⟩ = some (.int .i64 x1) := (blk_cell K1.out 1).trans rfl
    have cx2 : wc.cell? ⟨g1, 2, none⟩ = some (.int .i64 x2) := (blk_cell K1.out 2).trans rfl
    have cx3 : wc.cell? ⟨g1, 3, none⟩ = some (.int .i64 x3) := (blk_cell K1.out 3).trans rfl
    have cy0 : wc.cell? ⟨g2, 0, none⟩ = some (.int .i64 y0) := (blk_cell K2.out 0).trans rfl
    have cy1 : wc.cell? ⟨g2, 1, none⟩ = some (.int .i64 y1) := (blk_cell K2.out 1).trans rfl
    have cy2 : wc.cell? ⟨g2, 2, none⟩ = some (.int .i64 y2) := (blk_cell K2.out 2).trans rfl
    have cy3 : wc.cell? ⟨g2, 3, none⟩ = some (.int .i64 y3) := (blk_cell K2.out 3).trans rfl
    by_cases e0 : x0 = y0
    · have b0 : (x0 != y0) = false := bne_eq_false_iff_eq.mpr e0
      have f0 : decide (x0 < y0) = false := decide_eq_false (by omega)
      by_cases e1 : x1 = y1
      · have b1 : (x1 != y1) = false := bne_eq_false_iff_eq.mpr e1
        have f1 : decide (x1 < y1) = false := decide_eq_false (by omega)
        by_cases e2 : x2 = y2
        · have b2 : (x2 != y2) = false := bne_eq_false_iff_eq.mpr e2
          have f2 : decide (x2 < y2) = false := decide_eq_false (by omega)
          by_cases e3 : x3 = y3
          · have b3 : (x3 != y3) = false := bne_eq_false_iff_eq.mpr e3
            have f3 : decide (x3 < y3) = false := decide_eq_false (by omega)
            go_wp2
            refine wp_loop_rounds 5 ?_
            rw [rounds_succ]
            go_wp2
            go_quiet (fail)
            go_wp2
            rw [rounds_succ]
            go_wp2
            go_quiet (fail)
            go_wp2
            rw [rounds_succ]
            go_wp2
            go_quiet (fail)
            go_wp2
            rw [rounds_succ]
            go_wp2
            go_quiet (fail)
            go_wp2
            rw [rounds_succ]
            go_wp2
            go_ret
            exact ⟨by simp [antipoderef6_LessTry.lt, *], by repeat (first | exact HB2.out | apply pw_below_drewN)⟩
          · have b3 : (x3 != y3) = true := bne_iff_ne.mpr e3
            go_wp2
            refine wp_loop_rounds 4 ?_
            rw [rounds_succ]
            go_wp2
            go_quiet (fail)
            go_wp2
            rw [rounds_succ]
            go_wp2
            go_quiet (fail)
            go_wp2
            rw [rounds_succ]
            go_wp2
            go_quiet (fail)
            go_wp2
            rw [rounds_succ]
            go_wp2
            go_quiet (fail)
            go_wp2
            go_quiet (fail)
            go_wp2
            go_ret
            exact ⟨by simp [antipoderef6_LessTry.lt, *], by repeat (first | exact HB2.out | apply pw_below_drewN)⟩
        · have b2 : (x2 != y2) = true := bne_iff_ne.mpr e2
          go_wp2
          refine wp_loop_rounds 3 ?_
          rw [rounds_succ]
          go_wp2
          go_quiet (fail)
          go_wp2
          rw [rounds_succ]
          go_wp2
          go_quiet (fail)
          go_wp2
          rw [rounds_succ]
          go_wp2
          go_quiet (fail)
          go_wp2
          go_quiet (fail)
          go_wp2
          go_ret
          exact ⟨by simp [antipoderef6_LessTry.lt, *], by repeat (first | exact HB2.out | apply pw_below_drewN)⟩
      · have b1 : (x1 != y1) = true := bne_iff_ne.mpr e1
        go_wp2
        refine wp_loop_rounds 2 ?_
        rw [rounds_succ]
        go_wp2
        go_quiet (fail)
        go_wp2
        rw [rounds_succ]
        go_wp2
        go_quiet (fail)
        go_wp2
        go_quiet (fail)
        go_wp2
        go_ret
        exact ⟨by simp [antipoderef6_LessTry.lt, *], by repeat (first | exact HB2.out | apply pw_below_drewN)⟩
    · have b0 : (x0 != y0) = true := bne_iff_ne.mpr e0
      go_wp2
      refine wp_loop_rounds 1 ?_
      rw [rounds_succ]
      go_wp2
      go_quiet (fail)
      go_wp2
      go_quiet (fail)
      go_wp2
      go_ret
      exact ⟨by simp [antipoderef6_LessTry.lt, *], by repeat (first | exact HB2.out | apply pw_below_drewN)⟩
theorem antipoderef6_LessTry.calls (a0_0 : Int) (a0_1 : Int) (a0_2 : Int) (a0_3 : Int) (a1_0 : Int) (a1_1 : Int) (a1_2 : Int) (a1_3 : Int) (r : Bool) (w : World) (h : antipoderef6_LessTry.f a0_0 a0_1 a0_2 a0_3 a1_0 a1_1 a1_2 a1_3 = some r) :
    Calls Try.prog 23 #[.agg #[.int .i64 a0_0, .int .i64 a0_1, .int .i64 a0_2, .int .i64 a0_3], .agg #[.int .i64 a1_0, .int .i64 a1_1, .int .i64 a1_2, .int .i64 a1_3]] w fun e w' => e = .returned (.bool r) ∧ Below w.heap.size w w' := by
  obtain rfl := Option.some.inj h
  exact antipoderef6_LessTry.walk a0_0 a0_1 a0_2 a0_3 a1_0 a1_1 a1_2 a1_3 w


end Go.Proofs.Ytloonjdkiafafaa.QO

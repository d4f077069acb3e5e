/- Written by a program of this session (wip/myprint.sh): contracts of Go functions of the translation: each call comes to what the Lean function of its name says. -/
import Derived.Test.YtpoejopnjkcdpaaZQAx0
import Derived.Test.YtpoejopnjkcdpaaZQAx7
import Derived.Test.YtpoejopnjkcdpaaZQAx10
namespace Go.Proofs.Ytpoejopnjkcdpaa.QA
open Go.RowKit Go.Proofs.YtpoejopnjkcdpaaW.PrintWords Go.Proofs.YtpoejopnjkcdpaaW.PrintLast Go.Proofs.YtpoejopnjkcdpaaW.PrintMore
attribute [local go_sem] max2_int min2_int max_two min_two max_three min_three max_four min_four   -- for this text's walks alone
set_option linter.unusedVariables false
set_option linter.unusedSimpArgs false
mutual
def antipoderef29_bytes.j2 : Nat → List Int → Int → Int → Int → Int → ByteArray → List Int → Int → Int → Int → Int → Int → Option (List Int × Bool)
 | 0, _, _, _, _, _, _, _, _, _, _, _, _ => none
 | k + 1, x5, x249000, x249001, x249002, x249003, x249004, x249005, x249006, x249007, x249008, x249009, x249010 => (antipoderef29_Decode.f k x5 9).bind fun t286 => (if (t286.length : Int) = 1 then (if 0 < (t286.length : Int) then ((antipoderef29_Same.f k ((rd_T41 t286 0).f0) ((rd_T41 t286 0).f1) ((rd_T41 t286 0).f2) ((rd_T41 t286 0).f3) ((rd_T41 t286 0).f4) ((rd_T41 t286 0).f5) ((rd_T41 t286 0).f6.f0) ((rd_T41 t286 0).f6.f1) ((rd_T41 t286 0).f6.f2) ((rd_T41 t286 0).f6.f3) ((rd_T41 t286 0).f6.f4) x249000 x249001 x249002 x249003 x249004 x249005 x249006 x249007 x249008 x249009 x249010).bind fun t290 => (some (x5, t290))) else (none)) else (some (x5, false)))
def antipoderef29_bytes.j0 : Nat → Int → Int → Bool → Int → Int → Int → Int → ByteArray → List Int → Int → Int → Int → Int → Int → Option (List Int × Bool)
 | 0, _, _, _, _, _, _, _, _, _, _, _, _, _, _ => none
 | k + 1, x4, x13, x30, x249000, x249001, x249002, x249003, x249004, x249005, x249006, x249007, x249008, x249009, x249010 => if x30 = true then ((some (([5, 8, 9] : List Int) : List Int)).bind fun y255 => (if 0 ≤ (wrap64 (x249000 - 3)) then (if (wrap64 (x249000 - 3)) < (y255.length : Int) then (antipoderef29_bytes.j2 k (([rd y255 (wrap64 (x249000 - 3)), (x249002) % 256] : List Int)) x249000 x249001 x249002 x249003 x249004 x249005 x249006 x249007 x249008 x249009 x249010) else (none)) else (none))) else (if x13 = 6 then (if (x249004.size : Int) > 255 then (some (([] : List Int), false)) else ((some (([10, x4, ((x249004.size : Int)) % 256] : List Int) : List Int)).bind fun y262 => (if y262.length + x249004.size < 140737488355328 then (antipoderef29_bytes.j2 k (y262 ++ bytesOf x249004) x249000 x249001 x249002 x249003 x249004 x249005 x249006 x249007 x249008 x249009 x249010) else (none)))) else (if x13 = 7 then (if (x249005.length : Int) = 2 then (if 0 < (x249005.length : Int) then ((antipoderef29_small.f (rd x249005 0) 255).bind fun t269 => (if t269 = true then (if 1 < (x249005.length : Int) then ((antipoderef29_small.f (rd x249005 1) 255).bind fun t271 => (antipoderef29_bytes.j1 k x4 (!t271) x249000 x249001 x249002 x249003 x249004 x249005 x249006 x249007 x249008 x249009 x249010)) else (none)) else (antipoderef29_bytes.j1 k x4 true x249000 x249001 x249002 x249003 x249004 x249005 x249006 x249007 x249008 x249009 x249010))) else (none)) else (antipoderef29_bytes.j1 k x4 true x249000 x249001 x249002 x249003 x249004 x249005 x249006 x249007 x249008 x249009 x249010)) else (if x13 = 8 then (antipoderef29_bytes.j2 k (([12, x4] : List Int)) x249000 x249001 x249002 x249003 x249004 x249005 x249006 x249007 x249008 x249009 x249010) else (if x13 = 9 then (antipoderef29_bytes.j2 k (([13, x4, (x249002) % 256] : List Int)) x249000 x249001 x249002 x249003 x249004 x249005 x249006 x249007 x249008 x249009 x249010) else (if x13 = 12 then (antipoderef29_bytes.j2 k (([14, x4, (x249002) % 256, (wrap64 (Int.tdiv x249003 256)) % 256, (Int.tmod x249003 256) % 256] : List Int)) x249000 x249001 x249002 x249003 x249004 x249005 x249006 x249007 x249008 x249009 x249010) else (some (([] : List Int), false)))))))
def antipoderef29_bytes.j1 : Nat → Int → Bool → Int → Int → Int → Int → ByteArray → List Int → Int → Int → Int → Int → Int → Option (List Int × Bool)
 | 0, _, _, _, _, _, _, _, _, _, _, _, _, _ => none
 | k + 1, x4, x81, x249000, x249001, x249002, x249003, x249004, x249005, x249006, x249007, x249008, x249009, x249010 => if x81 = true then (some (([] : List Int), false)) else (if 0 < (x249005.length : Int) then (if 1 < (x249005.length : Int) then (antipoderef29_bytes.j2 k (([11, x4, (rd x249005 0) % 256, (rd x249005 1) % 256] : List Int)) x249000 x249001 x249002 x249003 x249004 x249005 x249006 x249007 x249008 x249009 x249010) else (none)) else (none))
end
def antipoderef29_bytes.f (k : Nat) (a0_0 : Int) (a0_1 : Int) (a0_2 : Int) (a0_3 : Int) (a0_4 : ByteArray) (l0_5 : List Int) (a0_6 : Int) (a0_7 : Int) (a0_8 : Int) (a0_9 : Int) (a0_10 : Int) : Option (List Int × Bool) := if a0_0 = 1 then (antipoderef29_bytes.j2 k (([0, (wrap64 (a0_1 - 1)) % 256] : List Int)) a0_0 a0_1 a0_2 a0_3 a0_4 l0_5 a0_6 a0_7 a0_8 a0_9 a0_10) else (if a0_0 = 2 then (antipoderef29_bytes.j2 k (([4, (wrap64 (a0_1 - 1)) % 256, (wrap64 (Int.tdiv a0_3 256)) % 256, (Int.tmod a0_3 256) % 256] : List Int)) a0_0 a0_1 a0_2 a0_3 a0_4 l0_5 a0_6 a0_7 a0_8 a0_9 a0_10) else (if a0_0 = 3 then (antipoderef29_bytes.j0 k ((wrap64 (a0_1 - 1)) % 256) a0_0 (a0_0 == 3) a0_0 a0_1 a0_2 a0_3 a0_4 l0_5 a0_6 a0_7 a0_8 a0_9 a0_10) else (if a0_0 = 4 then (antipoderef29_bytes.j0 k ((wrap64 (a0_1 - 1)) % 256) a0_0 (a0_0 == 4) a0_0 a0_1 a0_2 a0_3 a0_4 l0_5 a0_6 a0_7 a0_8 a0_9 a0_10) else (antipoderef29_bytes.j0 k ((wrap64 (a0_1 - 1)) % 256) a0_0 (a0_0 == 5) a0_0 a0_1 a0_2 a0_3 a0_4 l0_5 a0_6 a0_7 a0_8 a0_9 a0_10))))
def antipoderef29_bytes.T21 : Bool × List (List Nat × List Nat) := (true, [([], []), ([], []), ([1], [1]), ([2], [2]), ([3], [3]), ([4], [4]), ([], []), ([6], [6]), ([7], [7]), ([8], [8]), ([9], [9]), ([0, 5, 10], [0, 5, 10]), ([11, 0, 1, 2, 3, 4, 5, 6, 7, 8, 9, 10, 11], [11])])
def antipoderef29_bytes.B21 : List Nat := [0, 0, 2, 6, 14, 30, 0, 64, 192, 448, 960, 2047, 4095]
theorem antipoderef29_bytes.tab21 : rtab .any (opsOf Try.f22 21) = antipoderef29_bytes.T21 := by kernel_rfl
theorem antipoderef29_bytes.bits21 : waitsOk antipoderef29_bytes.T21.2 antipoderef29_bytes.B21 = true := by kernel_rfl
def antipoderef29_bytes.T29 : Bool × List (List Nat × List Nat) := (true, [([], []), ([], []), ([1], [1]), ([2], [2]), ([3], [3]), ([4], [4]), ([5, 4], [4, 5]), ([6, 4], [4, 6]), ([4], [4]), ([7, 8, 4, 4], [4, 7, 8]), ([4, 9], [4, 9]), ([0, 9, 0], [0]), ([10, 11, 0, 1, 2, 3, 4, 5, 6, 7, 8, 9, 10, 11], [10])])
def antipoderef29_bytes.B29 : List Nat := [0, 0, 2, 6, 14, 30, 62, 126, 30, 510, 1022, 1023, 4095]
theorem antipoderef29_bytes.tab29 : rtab .any (opsOf Try.f22 29) = antipoderef29_bytes.T29 := by kernel_rfl
theorem antipoderef29_bytes.bits29 : waitsOk antipoderef29_bytes.T29.2 antipoderef29_bytes.B29 = true := by kernel_rfl
set_option maxHeartbeats 8000000 in
set_option maxRecDepth 100000 in
theorem antipoderef29_bytes.calls (k : Nat) (a0_0 : Int) (a0_1 : Int) (a0_2 : Int) (a0_3 : Int) (a0_4 : ByteArray) (A0_5 : Option Addr) (c0_5 : Nat) (l0_5 : List Int) (a0_6 : Int) (a0_7 : Int) (a0_8 : Int) (a0_9 : Int) (a0_10 : Int) (r1 : List Int) (r2 : Bool) (w : World) (hr0_5 : Kd.C (Kd.int .i64) w A0_5 l0_5.length l0_5) (hc0_5 : l0_5.length ≤ c0_5) (h : antipoderef29_bytes.f k a0_0 a0_1 a0_2 a0_3 a0_4 l0_5 a0_6 a0_7 a0_8 a0_9 a0_10 = some (r1, r2)) :
  Calls Try.prog 22 #[.agg #[.int .i64 a0_0, .int .i64 a0_1, .int .i64 a0_2, .int .i64 a0_3, .string a0_4, .slice A0_5 l0_5.length c0_5, .int .u16 a0_6, .int .u16 a0_7, .int .u16 a0_8, .int .i64 a0_9, .int .i64 a0_10]] w fun e w' => ∃ v0_ : Value, e = .returned (.tuple #[v0_, .bool r2]) ∧ Kd.R (Kd.int .u8) 5 w' w.heap.size (fun _ => True) v0_ r1 ∧ Below w.heap.size w w' := by
 have hu41 := Try.underlying41
 have HR0_5 := Aside0.mk hr0_5
 have HC0_5 := Aside0.mk hc0_5
 clear hr0_5 hc0_5
 have HB := Aside0.mk (Below.refl w.heap.size w)
 have H : (if a0_0 = 1 then (antipoderef29_bytes.j2 k (([0, (wrap64 (a0_1 - 1)) % 256] : List Int)) a0_0 a0_1 a0_2 a0_3 a0_4 l0_5 a0_6 a0_7 a0_8 a0_9 a0_10) else (if a0_0 = 2 then (antipoderef29_bytes.j2 k (([4, (wrap64 (a0_1 - 1)) % 256, (wrap64 (Int.tdiv a0_3 256)) % 256, (Int.tmod a0_3 256) % 256] : List Int)) a0_0 a0_1 a0_2 a0_3 a0_4 l0_5 a0_6 a0_7 a0_8 a0_9 a0_10) else (if a0_0 = 3 then (antipoderef29_bytes.j0 k ((wrap64 (a0_1 - 1)) % 256) a0_0 (a0_0 == 3) a0_0 a0_1 a0_2 a0_3 a0_4 l0_5 a0_6 a0_7 a0_8 a0_9 a0_10) else (if a0_0 = 4 then (antipoderef29_bytes.j0 k ((wrap64 (a0_1 - 1)) % 256) a0_0 (a0_0 == 4) a0_0 a0_1 a0_2 a0_3 a0_4 l0_5 a0_6 a0_7 a0_8 a0_9 a0_10) else (antipoderef29_bytes.j0 k ((wrap64 (a0_1 - 1)) % 256) a0_0 (a0_0 == 5) a0_0 a0_1 a0_2 a0_3 a0_4 l0_5 a0_6 a0_7 a0_8 a0_9 a0_10))))) = some (r1, r2) := h
 clear h
 have HC2 := Aside0.mk H
 clear H
 go_enter Try.func22, Try.ntmps22
 go_upto_block 0 with (first | ((with_reducible refine gate_dst (N := 1) rfl ?_); refine box_event ?hg (N := 1) ?hd (cs := #[.int .i64 a0_0, .int .i64 a0_1, .int .i64 a0_2, .int .i64 a0_3, .string a0_4, .slice A0_5 l0_5.length c0_5, .int .u16 a0_6, .int .u16 a0_7, .int .u16 a0_8, .int .i64 a0_9, .int .i64 a0_10]) (t := 41) ?hr ?_; (case hd => rfl); (case hg => rfl); (case hr => first | (go_simp; done) | (go_simp; rfl)); intro gb248 hg w3 hbox hb; have n0_ := Aside0.mk (below_step (by repeat (first | (with_reducible first | exact HB.out | apply below_alloc | apply pw_below_drewN | apply below_drew1) | exact HB.out)) hb); have n1_ := Aside0.mk (hbox); have n2_ := Aside0.mk ((by rw [hg]; exact (below_size (by repeat (first | (with_reducible first | exact HB.out | apply below_alloc | apply pw_below_drewN | apply below_drew1) | exact HB.out))) : w.heap.size ≤ gb248)); have n3_ := Aside0.mk ((by rw [hg]; exact (below_size (by repeat (first | (with_reducible first | exact HB.out | apply below_alloc | apply pw_below_drewN | apply below_drew1) | exact HB.out))) : w.heap.size ≤ gb248)); clear HB; have HB := n0_; have BK248 := n1_; have GW248 := n2_; have GE248 := n3_; clear n0_ n1_ n2_ n3_; clear hb hbox hg; have hcz4_0 : w3.cell? ⟨gb248, 0, none⟩ = some (.int .i64 a0_0) := (blk_cell BK248.out 0).trans rfl; have hcz4_1 : w3.cell? ⟨gb248, 1, none⟩ = some (.int .i64 a0_1) := (blk_cell BK248.out 1).trans rfl; have hcz4_2 : w3.cell? ⟨gb248, 2, none⟩ = some (.int .i64 a0_2) := (blk_cell BK248.out 2).trans rfl; have hcz4_3 : w3.cell? ⟨gb248, 3, none⟩ = some (.int .i64 a0_3) := (blk_cell BK248.out 3).trans rfl; have hcz4_4 : w3.cell? ⟨gb248, 4, none⟩ = some (.string a0_4) := (blk_cell BK248.out 4).trans rfl; have hcz4_5 : w3.cell? ⟨gb248, 5, none⟩ = some (.slice A0_5 l0_5.length c0_5) := (blk_cell BK248.out 5).trans rfl; have hcz4_6 : w3.cell? ⟨gb248, 6, none⟩ = some (.int .u16 a0_6) := (blk_cell BK248.out 6).trans rfl; have hcz4_7 : w3.cell? ⟨gb248, 7, none⟩ = some (.int .u16 a0_7) := (blk_cell BK248.out 7).trans rfl; have hcz4_8 : w3.cell? ⟨gb248, 8, none⟩ = some (.int .u16 a0_8) := (blk_cell BK248.out 8).trans rfl; have hcz4_9 : w3.cell? ⟨gb248, 9, none⟩ = some (.int .i64 a0_9) := (blk_cell BK248.out 9).trans rfl; have hcz4_10 : w3.cell? ⟨gb248, 10, none⟩ = some (.int .i64 a0_10) := (blk_cell BK248.out 10).trans rfl; have hfz4_0 := blk_frozen BK248.out 0; have hfz4_1 := blk_frozen BK248.out 1; have hfz4_2 := blk_frozen BK248.out 2; have hfz4_3 := blk_frozen BK248.out 3; have hfz4_4 := blk_frozen BK248.out 4; have hfz4_5 := blk_frozen BK248.out 5; have hfz4_6 := blk_frozen BK248.out 6; have hfz4_7 := blk_frozen BK248.out 7; have hfz4_8 := blk_frozen BK248.out 8; have hfz4_9 := blk_frozen BK248.out 9; have hfz4_10 := blk_frozen BK248.out 10))
 (try simp only [Act.put, List.setIfInBounds_toArray, List.set_cons_zero, List.set_cons_succ])
 go_cut [5] (fun v5 wc => ∃ (kq : Nat) (x5_1 : List Int), Aside0 (antipoderef29_bytes.j2 kq x5_1 a0_0 a0_1 a0_2 a0_3 a0_4 l0_5 a0_6 a0_7 a0_8 a0_9 a0_10 = some (r1, r2)) ∧ Aside0 (kq ≤ k) ∧ Aside0 (Kd.R (Kd.int .u8) 5 wc w.heap.size (fun _ => True) v5 x5_1) ∧ Aside0 (wc.heap[gb248]? = some (.cells #[.int .i64 a0_0, .int .i64 a0_1, .int .i64 a0_2, .int .i64 a0_3, .string a0_4, (.slice A0_5 l0_5.length c0_5), .int .u16 a0_6, .int .u16 a0_7, .int .u16 a0_8, .int .i64 a0_9, .int .i64 a0_10] 41 (0, 0))) ∧ Aside0 (Below w.heap.size w wc))
 case first =>
  have H := HC2.out
  clear HC2
  by_cases c5 : a0_0 = 1
  ·rw [if_pos c5] at H
   have c5b0 : (a0_0 == 1) = true := beq_iff_eq.mpr c5
   have c5b1 : (a0_0 != 1) = false := bne_eq_false_iff_eq.mpr c5
   clear c5
   (first | rw [c5b0] | (simp only [i64_w, i32_w]; rw [c5b0]) | skip)
   obtain ⟨y249, hy249⟩ : ∃ y_ : List Int, y_ = (([0, (wrap64 (a0_1 - 1)) % 256] : List Int)) := ⟨_, rfl⟩
   replace H : (antipoderef29_bytes.j2 k y249 a0_0 a0_1 a0_2 a0_3 a0_4 l0_5 a0_6 a0_7 a0_8 a0_9 a0_10) = some (r1, r2) := by first | (rw [hy249]; with_reducible exact H) | (have H2_ := (Option.bind_some _ _).symm.trans H; rw [hy249]; with_reducible exact H2_) | (have H2_ := (Option.bind_some _ _).symm.trans H; with_reducible exact H2_) | with_reducible exact H | (rw [hy249]; exact H) | exact H
   have Ny249 := Aside0.mk hy249
   clear hy249
   have H' := Aside0.mk H
   clear H
   go_wp2_with (first | ((with_reducible refine gate_dst (N := 17) rfl ?_); refine Kd.R_lit (Kd.int .u8) _ 5 ?hg (N := 17) ?hd (xs := ([0, (wrap64 (a0_1 - 1)) % 256] : List Int)) (inner := [.int .u8 0, .int .u8 ((wrap64 (a0_1 - 1)) % 256)]) (ok := fun _ => True) (okp := fun _ => True) ?hr ?hp (fun _ hk => hk) trivial (Below.refl _ _) (Nat.le_refl _) (by simp) ?_; (case hd => rfl); (case hg => rfl); (case hr => first | (go_simp; done) | (go_simp; rfl)); (case hp => exact (Reps.one (show Kd.M (Kd.int .u8) _ _ _ 0 [.int .u8 0] from rfl) (Reps.one (show Kd.M (Kd.int .u8) _ _ _ ((wrap64 (a0_1 - 1)) % 256) [.int .u8 ((wrap64 (a0_1 - 1)) % 256)] from rfl) (Reps.none _ _)))); intro v250 w6 ho7 hb hg_ hnew_; clear hg_ hnew_; (first | rw [← Ny249.out] at ho7 | (simp only [Int.reduceToNat] at ho7; rw [← Ny249.out] at ho7)); have n0_ := Aside0.mk (Kd.R_lower ho7 (below_size (by repeat (first | (with_reducible first | exact HB.out | apply below_alloc | apply pw_below_drewN | apply below_drew1 | refine below_set ?_ GE248.out) | exact HB.out)))); have n1_ := Aside0.mk (blk_below (g := gb248) (o := .cells #[.int .i64 a0_0, .int .i64 a0_1, .int .i64 a0_2, .int .i64 a0_3, .string a0_4, .slice A0_5 l0_5.length c0_5, .int .u16 a0_6, .int .u16 a0_7, .int .u16 a0_8, .int .i64 a0_9, .int .i64 a0_10] 41 (0, 0)) (by (with_reducible repeat (first | refine blk_drewN ?_ _ | refine blk_drew ?_ | refine blk_alloc ?_ _)); exact BK248.out) hb); have n2_ := Aside0.mk (below_step (by repeat (first | (with_reducible first | exact HB.out | apply below_alloc | apply pw_below_drewN | apply below_drew1 | refine below_set ?_ GE248.out) | exact HB.out)) hb); clear BK248; clear HB; have HO251 := n0_; have BK248 := n1_; have HB := n2_; clear n0_ n1_ n2_; clear hb ho7))
   go_meet
   case rel => exact ⟨_, (y249), H', ⟨by first | omega | exact Nat.le_refl _⟩, ⟨by (with_reducible repeat (first | apply Kd.R_alloc | apply Kd.R_drewN | apply Kd.R_drew)); exact HO251.out⟩, ⟨by (with_reducible repeat (first | refine blk_drewN ?_ _ | refine blk_drew ?_ | refine blk_alloc ?_ _)); exact BK248.out⟩, ⟨by repeat (first | (with_reducible first | exact HB.out | apply below_alloc | apply pw_below_drewN | apply below_drew1 | refine below_set ?_ GE248.out) | exact HB.out)⟩⟩
  ·rw [if_neg c5] at H
   have c5b0 : (a0_0 == 1) = false := beq_eq_false_iff_ne.mpr c5
   have c5b1 : (a0_0 != 1) = true := bne_iff_ne.mpr c5
   (first | rw [c5b0] | (simp only [i64_w, i32_w]; rw [c5b0]) | skip)
   by_cases c8 : a0_0 = 2
   ·rw [if_pos c8] at H
    have c8b0 : (a0_0 == 2) = true := beq_iff_eq.mpr c8
    have c8b1 : (a0_0 != 2) = false := bne_eq_false_iff_eq.mpr c8
    clear c8
    obtain ⟨y252, hy252⟩ : ∃ y_ : List Int, y_ = (([4, (wrap64 (a0_1 - 1)) % 256, (wrap64 (Int.tdiv a0_3 256)) % 256, (Int.tmod a0_3 256) % 256] : List Int)) := ⟨_, rfl⟩
    replace H : (antipoderef29_bytes.j2 k y252 a0_0 a0_1 a0_2 a0_3 a0_4 l0_5 a0_6 a0_7 a0_8 a0_9 a0_10) = some (r1, r2) := by first | (rw [hy252]; with_reducible exact H) | (have H2_ := (Option.bind_some _ _).symm.trans H; rw [hy252]; with_reducible exact H2_) | (have H2_ := (Option.bind_some _ _).symm.trans H; with_reducible exact H2_) | with_reducible exact H | (rw [hy252]; exact H) | exact H
    have Ny252 := Aside0.mk hy252
    clear hy252
    have H' := Aside0.mk H
    clear H
    have hcz9_0 : w3.cell? ⟨gb248, 0, none⟩ = some (.int .i64 a0_0) := (blk_cell BK248.out 0).trans rfl
    have hcz9_1 : w3.cell? ⟨gb248, 1, none⟩ = some (.int .i64 a0_1) := (blk_cell BK248.out 1).trans rfl
    have hcz9_2 : w3.cell? ⟨gb248, 2, none⟩ = some (.int .i64 a0_2) := (blk_cell BK248.out 2).trans rfl
    have hcz9_3 : w3.cell? ⟨gb248, 3, none⟩ = some (.int .i64 a0_3) := (blk_cell BK248.out 3).trans rfl
    have hcz9_4 : w3.cell? ⟨gb248, 4, none⟩ = some (.string a0_4) := (blk_cell BK248.out 4).trans rfl
    have hcz9_5 : w3.cell? ⟨gb248, 5, none⟩ = some (.slice A0_5 l0_5.length c0_5) := (blk_cell BK248.out 5).trans rfl
    have hcz9_6 : w3.cell? ⟨gb248, 6, none⟩ = some (.int .u16 a0_6) := (blk_cell BK248.out 6).trans rfl
    have hcz9_7 : w3.cell? ⟨gb248, 7, none⟩ = some (.int .u16 a0_7) := (blk_cell BK248.out 7).trans rfl
    have hcz9_8 : w3.cell? ⟨gb248, 8, none⟩ = some (.int .u16 a0_8) := (blk_cell BK248.out 8).trans rfl
    have hcz9_9 : w3.cell? ⟨gb248, 9, none⟩ = some (.int .i64 a0_9) := (blk_cell BK248.out 9).trans rfl
    have hcz9_10 : w3.cell? ⟨gb248, 10, none⟩ = some (.int .i64 a0_10) := (blk_cell BK248.out 10).trans rfl
    have hfz9_0 := blk_frozen BK248.out 0
    have hfz9_1 := blk_frozen BK248.out 1
    have hfz9_2 := blk_frozen BK248.out 2
    have hfz9_3 := blk_frozen BK248.out 3
    have hfz9_4 := blk_frozen BK248.out 4
    have hfz9_5 := blk_frozen BK248.out 5
    have hfz9_6 := blk_frozen BK248.out 6
    have hfz9_7 := blk_frozen BK248.out 7
    have hfz9_8 := blk_frozen BK248.out 8
    have hfz9_9 := blk_frozen BK248.out 9
    have hfz9_10 := blk_frozen BK248.out 10
    go_wp2_with (first | ((with_reducible refine gate_dst (N := 29) rfl ?_); refine Kd.R_lit (Kd.int .u8) _ 5 ?hg (N := 29) ?hd (xs := ([4, (wrap64 (a0_1 - 1)) % 256, (wrap64 (Int.tdiv a0_3 256)) % 256, (Int.tmod a0_3 256) % 256] : List Int)) (inner := [.int .u8 4, .int .u8 ((wrap64 (a0_1 - 1)) % 256), .int .u8 ((wrap64 (Int.tdiv a0_3 256)) % 256), .int .u8 ((Int.tmod a0_3 256) % 256)]) (ok := fun _ => True) (okp := fun _ => True) ?hr ?hp (fun _ hk => hk) trivial (Below.refl _ _) (Nat.le_refl _) (by simp) ?_; (case hd => rfl); (case hg => rfl); (case hr => first | (go_simp; done) | (go_simp; rfl)); (case hp => exact (Reps.one (show Kd.M (Kd.int .u8) _ _ _ 4 [.int .u8 4] from rfl) (Reps.one (show Kd.M (Kd.int .u8) _ _ _ ((wrap64 (a0_1 - 1)) % 256) [.int .u8 ((wrap64 (a0_1 - 1)) % 256)] from rfl) (Reps.one (show Kd.M (Kd.int .u8) _ _ _ ((wrap64 (Int.tdiv a0_3 256)) % 256) [.int .u8 ((wrap64 (Int.tdiv a0_3 256)) % 256)] from rfl) (Reps.one (show Kd.M (Kd.int .u8) _ _ _ ((Int.tmod a0_3 256) % 256) [.int .u8 ((Int.tmod a0_3 256) % 256)] from rfl) (Reps.none _ _)))))); intro v253 w10 ho11 hb hg_ hnew_; clear hg_ hnew_; (first | rw [← Ny252.out] at ho11 | (simp only [Int.reduceToNat] at ho11; rw [← Ny252.out] at ho11)); have n0_ := Aside0.mk (Kd.R_lower ho11 (below_size (by repeat (first | (with_reducible first | exact HB.out | apply below_alloc | apply pw_below_drewN | apply below_drew1 | refine below_set ?_ GE248.out) | exact HB.out)))); have n1_ := Aside0.mk (blk_below (g := gb248) (o := .cells #[.int .i64 a0_0, .int .i64 a0_1, .int .i64 a0_2, .int .i64 a0_3, .string a0_4, .slice A0_5 l0_5.length c0_5, .int .u16 a0_6, .int .u16 a0_7, .int .u16 a0_8, .int .i64 a0_9, .int .i64 a0_10] 41 (0, 0)) (by (with_reducible repeat (first | refine blk_drewN ?_ _ | refine blk_drew ?_ | refine blk_alloc ?_ _)); exact BK248.out) hb); have n2_ := Aside0.mk (below_step (by repeat (first | (with_reducible first | exact HB.out | apply below_alloc | apply pw_below_drewN | apply below_drew1 | refine below_set ?_ GE248.out) | exact HB.out)) hb); clear BK248; clear HB; have HO254 := n0_; have BK248 := n1_; have HB := n2_; clear n0_ n1_ n2_; clear hb ho11))
    go_meet
    case rel => exact ⟨_, (y252), H', ⟨by first | omega | exact Nat.le_refl _⟩, ⟨by (with_reducible repeat (first | apply Kd.R_alloc | apply Kd.R_drewN | apply Kd.R_drew)); exact HO254.out⟩, ⟨by (with_reducible repeat (first | refine blk_drewN ?_ _ | refine blk_drew ?_ | refine blk_alloc ?_ _)); exact BK248.out⟩, ⟨by repeat (first | (with_reducible first | exact HB.out | apply below_alloc | apply pw_below_drewN | apply below_drew1 | refine below_set ?_ GE248.out) | exact HB.out)⟩⟩
   ·rw [if_neg c8] at H
    have c8b0 : (a0_0 == 2) = false := beq_eq_false_iff_ne.mpr c8
    have c8b1 : (a0_0 != 2) = true := bne_iff_ne.mpr c8
    have HC12 := Aside0.mk H
    clear H
    go_upto_if 30 with (fail)
    go_cut [30] (fun v30 wc => ∃ (kq : Nat) (x30_11 : Bool), v30 = .bool x30_11 ∧ Aside0 (antipoderef29_bytes.j0 kq ((wrap64 (a0_1 - 1)) % 256) a0_0 x30_11 a0_0 a0_1 a0_2 a0_3 a0_4 l0_5 a0_6 a0_7 a0_8 a0_9 a0_10 = some (r1, r2)) ∧ Aside0 (kq ≤ k) ∧ Aside0 (wc.heap[gb248]? = some (.cells #[.int .i64 a0_0, .int .i64 a0_1, .int .i64 a0_2, .int .i64 a0_3, .string a0_4, (.slice A0_5 l0_5.length c0_5), .int .u16 a0_6, .int .u16 a0_7, .int .u16 a0_8, .int .i64 a0_9, .int .i64 a0_10] 41 (0, 0))) ∧ Aside0 (Below w.heap.size w wc))
    case first =>
     have H := HC12.out
     clear HC12
     by_cases c13 : a0_0 = 3
     ·rw [if_pos c13] at H
      have c13b0 : (a0_0 == 3) = true := beq_iff_eq.mpr c13
      have c13b1 : (a0_0 != 3) = false := bne_eq_false_iff_eq.mpr c13
      clear c13
      (first | rw [c13b0] | (simp only [i64_w, i32_w]; rw [c13b0]) | skip)
      have H' := Aside0.mk H
      clear H
      go_wp2
      go_meet
      case rel => exact ⟨_, ((a0_0 == 3)), (by first | rfl | (simp; done) | (simp [*]; done)), H', ⟨by first | omega | exact Nat.le_refl _⟩, ⟨by (with_reducible repeat (first | refine blk_drewN ?_ _ | refine blk_drew ?_ | refine blk_alloc ?_ _)); exact BK248.out⟩, ⟨by repeat (first | (with_reducible first | exact HB.out | apply below_alloc | apply pw_below_drewN | apply below_drew1 | refine below_set ?_ GE248.out) | exact HB.out)⟩⟩
     ·rw [if_neg c13] at H
      have c13b0 : (a0_0 == 3) = false := beq_eq_false_iff_ne.mpr c13
      have c13b1 : (a0_0 != 3) = true := bne_iff_ne.mpr c13
      (first | rw [c13b0] | (simp only [i64_w, i32_w]; rw [c13b0]) | skip)
      by_cases c14 : a0_0 = 4
      ·rw [if_pos c14] at H
       have c14b0 : (a0_0 == 4) = true := beq_iff_eq.mpr c14
       have c14b1 : (a0_0 != 4) = false := bne_eq_false_iff_eq.mpr c14
       clear c14
       have H' := Aside0.mk H
       clear H
       go_wp2
       go_meet
       case rel => exact ⟨_, ((a0_0 == 4)), (by first | rfl | (simp; done) | (simp [*]; done)), H', ⟨by first | omega | exact Nat.le_refl _⟩, ⟨by (with_reducible repeat (first | refine blk_drewN ?_ _ | refine blk_drew ?_ | refine blk_alloc ?_ _)); exact BK248.out⟩, ⟨by repeat (first | (with_reducible first | exact HB.out | apply below_alloc | apply pw_below_drewN | apply below_drew1 | refine below_set ?_ GE248.out) | exact HB.out)⟩⟩
      ·rw [if_neg c14] at H
       have c14b0 : (a0_0 == 4) = false := beq_eq_false_iff_ne.mpr c14
       have c14b1 : (a0_0 != 4) = true := bne_iff_ne.mpr c14
       have H' := Aside0.mk H
       clear H
       go_wp2
       go_meet
       case rel => exact ⟨_, ((a0_0 == 5)), (by first | rfl | (simp; done) | (simp [*]; done)), H', ⟨by first | omega | exact Nat.le_refl _⟩, ⟨by (with_reducible repeat (first | refine blk_drewN ?_ _ | refine blk_drew ?_ | refine blk_alloc ?_ _)); exact BK248.out⟩, ⟨by repeat (first | (with_reducible first | exact HB.out | apply below_alloc | apply pw_below_drewN | apply below_drew1 | refine below_set ?_ GE248.out) | exact HB.out)⟩⟩
    case rest =>
     clear HC12
     try clear c1
     try clear c2
     try clear p2
     try clear c5
     try clear c5b0
     try clear c5b1
     try clear p6
     try clear c8
     try clear c8b0
     try clear c8b1
     try clear c13
     try clear c13b0
     try clear c13b1
     try clear c14
     try clear c14b0
     try clear c14b1
     try clear hcz4_0
     try clear hcz4_1
     try clear hcz4_10
     try clear hcz4_2
     try clear hcz4_3
     try clear hcz4_4
     try clear hcz4_5
     try clear hcz4_6
     try clear hcz4_7
     try clear hcz4_8
     try clear hcz4_9
     try clear hcz9_0
     try clear hcz9_1
     try clear hcz9_10
     try clear hcz9_2
     try clear hcz9_3
     try clear hcz9_4
     try clear hcz9_5
     try clear hcz9_6
     try clear hcz9_7
     try clear hcz9_8
     try clear hcz9_9
     try clear hfz4_0
     try clear hfz4_1
     try clear hfz4_10
     try clear hfz4_2
     try clear hfz4_3
     try clear hfz4_4
     try clear hfz4_5
     try clear hfz4_6
     try clear hfz4_7
     try clear hfz4_8
     try clear hfz4_9
     try clear hfz9_0
     try clear hfz9_1
     try clear hfz9_10
     try clear hfz9_2
     try clear hfz9_3
     try clear hfz9_4
     try clear hfz9_5
     try clear hfz9_6
     try clear hfz9_7
     try clear hfz9_8
     try clear hfz9_9
     obtain ⟨kq, x30_11, rfl, HA, HJ11, BK248, HB⟩ := hcut
     cases kq with
     | zero => exact absurd HA.out (by simp [antipoderef29_bytes.j0])
     | succ kj11 =>
      have H := HA.out
      clear HA
      simp only [antipoderef29_bytes.j0] at H
      by_cases c15 : x30_11 = true
      ·subst c15
       have H1 : ((some (([5, 8, 9] : List Int) : List Int)).bind fun y255 => (if 0 ≤ (wrap64 (a0_0 - 3)) then (if (wrap64 (a0_0 - 3)) < (y255.length : Int) then (antipoderef29_bytes.j2 kj11 (([rd y255 (wrap64 (a0_0 - 3)), (a0_2) % 256] : List Int)) a0_0 a0_1 a0_2 a0_3 a0_4 l0_5 a0_6 a0_7 a0_8 a0_9 a0_10) else (none)) else (none))) = some (r1, r2) := by rw [if_pos rfl] at H; exact H
       clear H
       have H := H1
       clear H1
       obtain ⟨y255, hy255⟩ : ∃ y_ : List Int, y_ = (([5, 8, 9] : List Int)) := ⟨_, rfl⟩
       replace H : (if 0 ≤ (wrap64 (a0_0 - 3)) then (if (wrap64 (a0_0 - 3)) < (y255.length : Int) then (antipoderef29_bytes.j2 kj11 (([rd y255 (wrap64 (a0_0 - 3)), (a0_2) % 256] : List Int)) a0_0 a0_1 a0_2 a0_3 a0_4 l0_5 a0_6 a0_7 a0_8 a0_9 a0_10) else (none)) else (none)) = some (r1, r2) := by first | (rw [hy255]; with_reducible exact H) | (have H2_ := (Option.bind_some _ _).symm.trans H; rw [hy255]; with_reducible exact H2_) | (have H2_ := (Option.bind_some _ _).symm.trans H; with_reducible exact H2_) | with_reducible exact H | (rw [hy255]; exact H) | exact H
       have Ny255 := Aside0.mk hy255
       clear hy255
       obtain ⟨ji16, hji16⟩ : ∃ j_ : Int, (wrap64 (a0_0 - 3)) = j_ := ⟨_, rfl⟩
       replace H : (if 0 ≤ (ji16) then (if (ji16) < (y255.length : Int) then (antipoderef29_bytes.j2 kj11 (([rd y255 (ji16), (a0_2) % 256] : List Int)) a0_0 a0_1 a0_2 a0_3 a0_4 l0_5 a0_6 a0_7 a0_8 a0_9 a0_10) else (none)) else (none)) = some (r1, r2) := by first | (rw [hji16] at H; exact H) | (simp only [hji16] at H ⊢; exact H)
       have hji16w : (IntKind.i64.wrap (a0_0 - 3)) = ji16 := (i64_w _).trans hji16
       by_cases c17 : 0 ≤ (ji16)
       ·rw [if_pos c17] at H
        have c17b0 : decide (0 ≤ (ji16)) = true := decide_eq_true c17
        clear c17
        by_cases c18 : (ji16) < (y255.length : Int)
        ·rw [if_pos c18] at H
         have c18b0 : decide ((ji16) < (y255.length : Int)) = true := decide_eq_true c18
         clear c18
         obtain ⟨y259, hy259⟩ : ∃ y_ : List Int, y_ = (([rd y255 (ji16), (a0_2) % 256] : List Int)) := ⟨_, rfl⟩
         replace H : (antipoderef29_bytes.j2 kj11 y259 a0_0 a0_1 a0_2 a0_3 a0_4 l0_5 a0_6 a0_7 a0_8 a0_9 a0_10) = some (r1, r2) := by first | (rw [hy259]; with_reducible exact H) | (have H2_ := (Option.bind_some _ _).symm.trans H; rw [hy259]; with_reducible exact H2_) | (have H2_ := (Option.bind_some _ _).symm.trans H; with_reducible exact H2_) | with_reducible exact H | (rw [hy259]; exact H) | exact H
         have Ny259 := Aside0.mk hy259
         clear hy259
         have H' := Aside0.mk H
         clear H
         go_wp2_with (first | ((with_reducible refine gate_dst (N := 34) rfl ?_); refine Kd.R_lit (Kd.int .u8) _ 5 ?hg (N := 34) ?hd (xs := ([5, 8, 9] : List Int)) (inner := [.int .u8 5, .int .u8 8, .int .u8 9]) (ok := fun _ => True) (okp := fun _ => True) ?hr ?hp (fun _ hk => hk) trivial (Below.refl _ _) (Nat.le_refl _) (by simp) ?_; (case hd => rfl); (case hg => rfl); (case hr => first | (go_simp; done) | (go_simp; rfl)); (case hp => exact (Reps.one (show Kd.M (Kd.int .u8) _ _ _ 5 [.int .u8 5] from rfl) (Reps.one (show Kd.M (Kd.int .u8) _ _ _ 8 [.int .u8 8] from rfl) (Reps.one (show Kd.M (Kd.int .u8) _ _ _ 9 [.int .u8 9] from rfl) (Reps.none _ _))))); intro v256 w19 ho20 hb hg_ hnew_; clear hg_ hnew_; (first | rw [← Ny255.out] at ho20 | (simp only [Int.reduceToNat] at ho20; rw [← Ny255.out] at ho20)); have n0_ := Aside0.mk (Kd.R_lower ho20 (below_size (by repeat (first | (with_reducible first | exact HB.out | apply below_alloc | apply pw_below_drewN | apply below_drew1 | refine below_set ?_ GE248.out) | exact HB.out)))); have n1_ := Aside0.mk (blk_below (g := gb248) (o := .cells #[.int .i64 a0_0, .int .i64 a0_1, .int .i64 a0_2, .int .i64 a0_3, .string a0_4, .slice A0_5 l0_5.length c0_5, .int .u16 a0_6, .int .u16 a0_7, .int .u16 a0_8, .int .i64 a0_9, .int .i64 a0_10] 41 (0, 0)) (by (with_reducible repeat (first | refine blk_drewN ?_ _ | refine blk_drew ?_ | refine blk_alloc ?_ _)); exact BK248.out) hb); have n2_ := Aside0.mk (below_step (by repeat (first | (with_reducible first | exact HB.out | apply below_alloc | apply pw_below_drewN | apply below_drew1 | refine below_set ?_ GE248.out) | exact HB.out)) hb); clear BK248; clear HB; have HO257 := n0_; have BK248 := n1_; have HB := n2_; clear n0_ n1_ n2_; clear hb ho20; have hcz21_0 : w19.cell? ⟨gb248, 0, none⟩ = some (.int .i64 a0_0) := (blk_cell BK248.out 0).trans rfl; have hcz21_1 : w19.cell? ⟨gb248, 1, none⟩ = some (.int .i64 a0_1) := (blk_cell BK248.out 1).trans rfl; have hcz21_2 : w19.cell? ⟨gb248, 2, none⟩ = some (.int .i64 a0_2) := (blk_cell BK248.out 2).trans rfl; have hcz21_3 : w19.cell? ⟨gb248, 3, none⟩ = some (.int .i64 a0_3) := (blk_cell BK248.out 3).trans rfl; have hcz21_4 : w19.cell? ⟨gb248, 4, none⟩ = some (.string a0_4) := (blk_cell BK248.out 4).trans rfl; have hcz21_5 : w19.cell? ⟨gb248, 5, none⟩ = some (.slice A0_5 l0_5.length c0_5) := (blk_cell BK248.out 5).trans rfl; have hcz21_6 : w19.cell? ⟨gb248, 6, none⟩ = some (.int .u16 a0_6) := (blk_cell BK248.out 6).trans rfl; have hcz21_7 : w19.cell? ⟨gb248, 7, none⟩ = some (.int .u16 a0_7) := (blk_cell BK248.out 7).trans rfl; have hcz21_8 : w19.cell? ⟨gb248, 8, none⟩ = some (.int .u16 a0_8) := (blk_cell BK248.out 8).trans rfl; have hcz21_9 : w19.cell? ⟨gb248, 9, none⟩ = some (.int .i64 a0_9) := (blk_cell BK248.out 9).trans rfl; have hcz21_10 : w19.cell? ⟨gb248, 10, none⟩ = some (.int .i64 a0_10) := (blk_cell BK248.out 10).trans rfl; have hfz21_0 := blk_frozen BK248.out 0; have hfz21_1 := blk_frozen BK248.out 1; have hfz21_2 := blk_frozen BK248.out 2; have hfz21_3 := blk_frozen BK248.out 3; have hfz21_4 := blk_frozen BK248.out 4; have hfz21_5 := blk_frozen BK248.out 5; have hfz21_6 := blk_frozen BK248.out 6; have hfz21_7 := blk_frozen BK248.out 7; have hfz21_8 := blk_frozen BK248.out 8; have hfz21_9 := blk_frozen BK248.out 9; have hfz21_10 := blk_frozen BK248.out 10; obtain ⟨Ao22, co22, eo22⟩ := Kd.R_slice HO257.out; subst eo22; have p258 : 0 ≤ ((ji16) : Int) := of_decide_eq_true (by first | (with_reducible assumption) | assumption); have q258 : (ji16) < (y255.length : Int) := of_decide_eq_true (by first | (with_reducible assumption) | assumption); obtain ⟨ad258, e258, hx258_0⟩ := Kd.at_int (Kd.R_reads' HO257.out).2.2 (ji16) p258 q258; cases e258; replace p258 := eq_true p258; replace q258 := eq_true q258) | ((with_reducible refine gate_dst (N := 44) rfl ?_); refine Kd.R_lit (Kd.int .u8) _ 5 ?hg (N := 44) ?hd (xs := ([rd y255 (ji16), (a0_2) % 256] : List Int)) (inner := [.int .u8 (rd y255 (ji16)), .int .u8 ((a0_2) % 256)]) (ok := fun _ => True) (okp := fun _ => True) ?hr ?hp (fun _ hk => hk) trivial (Below.refl _ _) (Nat.le_refl _) (by simp) ?_; (case hd => rfl); (case hg => rfl); (case hr => first | (go_simp; done) | (go_simp; rfl)); (case hp => exact (Reps.one (show Kd.M (Kd.int .u8) _ _ _ (rd y255 (ji16)) [.int .u8 (rd y255 (ji16))] from rfl) (Reps.one (show Kd.M (Kd.int .u8) _ _ _ ((a0_2) % 256) [.int .u8 ((a0_2) % 256)] from rfl) (Reps.none _ _)))); intro v260 w23 ho24 hb hg_ hnew_; clear hg_ hnew_; (first | rw [← Ny259.out] at ho24 | (simp only [Int.reduceToNat] at ho24; rw [← Ny259.out] at ho24)); have n0_ := Aside0.mk (Kd.R_elder' (by (with_reducible repeat (first | apply Kd.R_alloc | apply Kd.R_drewN | apply Kd.R_drew)); exact HO257.out) (Kd.R_base ho24) hb); have n1_ := Aside0.mk (Kd.R_lower (Kd.R_new' ho24 (Kd.R_lt (by (with_reducible repeat (first | apply Kd.R_alloc | apply Kd.R_drewN | apply Kd.R_drew)); exact HO257.out))) (below_size (by repeat (first | (with_reducible first | exact HB.out | apply below_alloc | apply pw_below_drewN | apply below_drew1 | refine below_set ?_ GE248.out) | exact HB.out)))); have n2_ := Aside0.mk (blk_below (g := gb248) (o := .cells #[.int .i64 a0_0, .int .i64 a0_1, .int .i64 a0_2, .int .i64 a0_3, .string a0_4, .slice A0_5 l0_5.length c0_5, .int .u16 a0_6, .int .u16 a0_7, .int .u16 a0_8, .int .i64 a0_9, .int .i64 a0_10] 41 (0, 0)) (by (with_reducible repeat (first | refine blk_drewN ?_ _ | refine blk_drew ?_ | refine blk_alloc ?_ _)); exact BK248.out) hb); have n3_ := Aside0.mk (below_step (by repeat (first | (with_reducible first | exact HB.out | apply below_alloc | apply pw_below_drewN | apply below_drew1 | refine below_set ?_ GE248.out) | exact HB.out)) hb); clear HO257; clear BK248; clear HB; have HO257 := n0_; have HO261 := n1_; have BK248 := n2_; have HB := n3_; clear n0_ n1_ n2_ n3_; clear hb ho24))
         go_meet
         case rel => exact ⟨_, (y259), H', ⟨by have := HJ11.out; first | omega | exact Nat.le_refl _⟩, ⟨by (with_reducible repeat (first | apply Kd.R_alloc | apply Kd.R_drewN | apply Kd.R_drew)); exact Kd.R_mono HO261.out (fun _ hk => trivial)⟩, ⟨by (with_reducible repeat (first | refine blk_drewN ?_ _ | refine blk_drew ?_ | refine blk_alloc ?_ _)); exact BK248.out⟩, ⟨by repeat (first | (with_reducible first | exact HB.out | apply below_alloc | apply pw_below_drewN | apply below_drew1 | refine below_set ?_ GE248.out) | exact HB.out)⟩⟩
        ·rw [if_neg c18] at H
         exact absurd H (by simp)
       ·rw [if_neg c17] at H
        exact absurd H (by simp)
      ·replace c15 := Bool.eq_false_iff.mpr c15
       subst c15
       have H1 : (if a0_0 = 6 then (if (a0_4.size : Int) > 255 then (some (([] : List Int), false)) else ((some (([10, ((wrap64 (a0_1 - 1)) % 256), ((a0_4.size : Int)) % 256] : List Int) : List Int)).bind fun y262 => (if y262.length + a0_4.size < 140737488355328 then (antipoderef29_bytes.j2 kj11 (y262 ++ bytesOf a0_4) a0_0 a0_1 a0_2 a0_3 a0_4 l0_5 a0_6 a0_7 a0_8 a0_9 a0_10) else (none)))) else (if a0_0 = 7 then (if (l0_5.length : Int) = 2 then (if 0 < (l0_5.length : Int) then ((antipoderef29_small.f (rd l0_5 0) 255).bind fun t269 => (if t269 = true then (if 1 < (l0_5.length : Int) then ((antipoderef29_small.f (rd l0_5 1) 255).bind fun t271 => (antipoderef29_bytes.j1 kj11 ((wrap64 (a0_1 - 1)) % 256) (!t271) a0_0 a0_1 a0_2 a0_3 a0_4 l0_5 a0_6 a0_7 a0_8 a0_9 a0_10)) else (none)) else (antipoderef29_bytes.j1 kj11 ((wrap64 (a0_1 - 1)) % 256) true a0_0 a0_1 a0_2 a0_3 a0_4 l0_5 a0_6 a0_7 a0_8 a0_9 a0_10))) else (none)) else (antipoderef29_bytes.j1 kj11 ((wrap64 (a0_1 - 1)) % 256) true a0_0 a0_1 a0_2 a0_3 a0_4 l0_5 a0_6 a0_7 a0_8 a0_9 a0_10)) else (if a0_0 = 8 then (antipoderef29_bytes.j2 kj11 (([12, ((wrap64 (a0_1 - 1)) % 256)] : List Int)) a0_0 a0_1 a0_2 a0_3 a0_4 l0_5 a0_6 a0_7 a0_8 a0_9 a0_10) else (if a0_0 = 9 then (antipoderef29_bytes.j2 kj11 (([13, ((wrap64 (a0_1 - 1)) % 256), (a0_2) % 256] : List Int)) a0_0 a0_1 a0_2 a0_3 a0_4 l0_5 a0_6 a0_7 a0_8 a0_9 a0_10) else (if a0_0 = 12 then (antipoderef29_bytes.j2 kj11 (([14, ((wrap64 (a0_1 - 1)) % 256), (a0_2) % 256, (wrap64 (Int.tdiv a0_3 256)) % 256, (Int.tmod a0_3 256) % 256] : List Int)) a0_0 a0_1 a0_2 a0_3 a0_4 l0_5 a0_6 a0_7 a0_8 a0_9 a0_10) else (some (([] : List Int), false))))))) = some (r1, r2) := by rw [if_neg (show ¬ (false = true) by decide)] at H; exact H
       clear H
       have H := H1
       clear H1
       by_cases c25 : a0_0 = 6
       ·rw [if_pos c25] at H
        have c25b0 : (a0_0 == 6) = true := beq_iff_eq.mpr c25
        have c25b1 : (a0_0 != 6) = false := bne_eq_false_iff_eq.mpr c25
        clear c25
        by_cases c26 : (a0_4.size : Int) > 255
        ·rw [if_pos c26] at H
         have c26b0 : decide (255 < (a0_4.size : Int)) = true := decide_eq_true c26
         have c26b1 : decide (255 < a0_4.size) = true := decide_eq_true (by omega)
         clear c26
         simp only [Option.some.injEq, Prod.mk.injEq] at H
         obtain ⟨rfl, rfl⟩ := H
         have hcz27_0 : wc.cell? ⟨gb248, 0, none⟩ = some (.int .i64 a0_0) := (blk_cell BK248.out 0).trans rfl
         have hcz27_1 : wc.cell? ⟨gb248, 1, none⟩ = some (.int .i64 a0_1) := (blk_cell BK248.out 1).trans rfl
         have hcz27_2 : wc.cell? ⟨gb248, 2, none⟩ = some (.int .i64 a0_2) := (blk_cell BK248.out 2).trans rfl
         have hcz27_3 : wc.cell? ⟨gb248, 3, none⟩ = some (.int .i64 a0_3) := (blk_cell BK248.out 3).trans rfl
         have hcz27_4 : wc.cell? ⟨gb248, 4, none⟩ = some (.string a0_4) := (blk_cell BK248.out 4).trans rfl
         have hcz27_5 : wc.cell? ⟨gb248, 5, none⟩ = some (.slice A0_5 l0_5.length c0_5) := (blk_cell BK248.out 5).trans rfl
         have hcz27_6 : wc.cell? ⟨gb248, 6, none⟩ = some (.int .u16 a0_6) := (blk_cell BK248.out 6).trans rfl
         have hcz27_7 : wc.cell? ⟨gb248, 7, none⟩ = some (.int .u16 a0_7) := (blk_cell BK248.out 7).trans rfl
         have hcz27_8 : wc.cell? ⟨gb248, 8, none⟩ = some (.int .u16 a0_8) := (blk_cell BK248.out 8).trans rfl
         have hcz27_9 : wc.cell? ⟨gb248, 9, none⟩ = some (.int .i64 a0_9) := (blk_cell BK248.out 9).trans rfl
         have hcz27_10 : wc.cell? ⟨gb248, 10, none⟩ = some (.int .i64 a0_10) := (blk_cell BK248.out 10).trans rfl
         have hfz27_0 := blk_frozen BK248.out 0
         have hfz27_1 := blk_frozen BK248.out 1
         have hfz27_2 := blk_frozen BK248.out 2
         have hfz27_3 := blk_frozen BK248.out 3
         have hfz27_4 := blk_frozen BK248.out 4
         have hfz27_5 := blk_frozen BK248.out 5
         have hfz27_6 := blk_frozen BK248.out 6
         have hfz27_7 := blk_frozen BK248.out 7
         have hfz27_8 := blk_frozen BK248.out 8
         have hfz27_9 := blk_frozen BK248.out 9
         have hfz27_10 := blk_frozen BK248.out 10
         go_wp2
         go_ret2
         exact ⟨_, by first | rfl | (simp [errW_none, errW_some] <;> rfl) | (simp [*, errW_none, errW_some] <;> rfl), by first | exact Kd.R_nil _ _ _ _ _ | exact Kd.N_nil _ _ _ _ _ | exact Kd.V_nil _ _ _ _ _ | exact Kd.Q_nil _ _ _ _ _ | exact Kd.S_nil _ _ _ _ _, by repeat (first | (with_reducible first | exact HB.out | apply below_alloc | apply pw_below_drewN | apply below_drew1 | refine below_set ?_ GE248.out) | exact HB.out)⟩
        ·rw [if_neg c26] at H
         have c26b0 : decide (255 < (a0_4.size : Int)) = false := decide_eq_false c26
         have c26b1 : decide (255 < a0_4.size) = false := decide_eq_false (by omega)
         clear c26
         obtain ⟨y262, hy262⟩ : ∃ y_ : List Int, y_ = (([10, ((wrap64 (a0_1 - 1)) % 256), ((a0_4.size : Int)) % 256] : List Int)) := ⟨_, rfl⟩
         replace H : (if y262.length + a0_4.size < 140737488355328 then (antipoderef29_bytes.j2 kj11 (y262 ++ bytesOf a0_4) a0_0 a0_1 a0_2 a0_3 a0_4 l0_5 a0_6 a0_7 a0_8 a0_9 a0_10) else (none)) = some (r1, r2) := by first | (rw [hy262]; with_reducible exact H) | (have H2_ := (Option.bind_some _ _).symm.trans H; rw [hy262]; with_reducible exact H2_) | (have H2_ := (Option.bind_some _ _).symm.trans H; with_reducible exact H2_) | with_reducible exact H | (rw [hy262]; exact H) | exact H
         have Ny262 := Aside0.mk hy262
         clear hy262
         by_cases c28 : y262.length + a0_4.size < 140737488355328
         ·rw [if_pos c28] at H
          have LMc28 := Aside0.mk c28
          clear c28
          obtain ⟨y265, hy265⟩ : ∃ y_ : List Int, y_ = (y262 ++ bytesOf a0_4) := ⟨_, rfl⟩
          replace H : (antipoderef29_bytes.j2 kj11 y265 a0_0 a0_1 a0_2 a0_3 a0_4 l0_5 a0_6 a0_7 a0_8 a0_9 a0_10) = some (r1, r2) := by first | (rw [hy265]; with_reducible exact H) | (have H2_ := (Option.bind_some _ _).symm.trans H; rw [hy265]; with_reducible exact H2_) | (have H2_ := (Option.bind_some _ _).symm.trans H; with_reducible exact H2_) | with_reducible exact H | (rw [hy265]; exact H) | exact H
          have Ny265 := Aside0.mk hy265
          clear hy265
          have H' := Aside0.mk H
          clear H
          have hcz29_0 : wc.cell? ⟨gb248, 0, none⟩ = some (.int .i64 a0_0) := (blk_cell BK248.out 0).trans rfl
          have hcz29_1 : wc.cell? ⟨gb248, 1, none⟩ = some (.int .i64 a0_1) := (blk_cell BK248.out 1).trans rfl
          have hcz29_2 : wc.cell? ⟨gb248, 2, none⟩ = some (.int .i64 a0_2) := (blk_cell BK248.out 2).trans rfl
          have hcz29_3 : wc.cell? ⟨gb248, 3, none⟩ = some (.int .i64 a0_3) := (blk_cell BK248.out 3).trans rfl
          have hcz29_4 : wc.cell? ⟨gb248, 4, none⟩ = some (.string a0_4) := (blk_cell BK248.out 4).trans rfl
          have hcz29_5 : wc.cell? ⟨gb248, 5, none⟩ = some (.slice A0_5 l0_5.length c0_5) := (blk_cell BK248.out 5).trans rfl
          have hcz29_6 : wc.cell? ⟨gb248, 6, none⟩ = some (.int .u16 a0_6) := (blk_cell BK248.out 6).trans rfl
          have hcz29_7 : wc.cell? ⟨gb248, 7, none⟩ = some (.int .u16 a0_7) := (blk_cell BK248.out 7).trans rfl
          have hcz29_8 : wc.cell? ⟨gb248, 8, none⟩ = some (.int .u16 a0_8) := (blk_cell BK248.out 8).trans rfl
          have hcz29_9 : wc.cell? ⟨gb248, 9, none⟩ = some (.int .i64 a0_9) := (blk_cell BK248.out 9).trans rfl
          have hcz29_10 : wc.cell? ⟨gb248, 10, none⟩ = some (.int .i64 a0_10) := (blk_cell BK248.out 10).trans rfl
          have hfz29_0 := blk_frozen BK248.out 0
          have hfz29_1 := blk_frozen BK248.out 1
          have hfz29_2 := blk_frozen BK248.out 2
          have hfz29_3 := blk_frozen BK248.out 3
          have hfz29_4 := blk_frozen BK248.out 4
          have hfz29_5 := blk_frozen BK248.out 5
          have hfz29_6 := blk_frozen BK248.out 6
          have hfz29_7 := blk_frozen BK248.out 7
          have hfz29_8 := blk_frozen BK248.out 8
          have hfz29_9 := blk_frozen BK248.out 9
          have hfz29_10 := blk_frozen BK248.out 10
          go_wp2_with (first | ((with_reducible refine gate_dst (N := 56) rfl ?_); refine Kd.R_lit (Kd.int .u8) _ 5 ?hg (N := 56) ?hd (xs := ([10, ((wrap64 (a0_1 - 1)) % 256), ((a0_4.size : Int)) % 256] : List Int)) (inner := [.int .u8 10, .int .u8 ((wrap64 (a0_1 - 1)) % 256), .int .u8 (((a0_4.size : Int)) % 256)]) (ok := fun _ => True) (okp := fun _ => True) ?hr ?hp (fun _ hk => hk) trivial (Below.refl _ _) (Nat.le_refl _) (by simp) ?_; (case hd => rfl); (case hg => rfl); (case hr => first | (go_simp; done) | (go_simp; rfl)); (case hp => exact (Reps.one (show Kd.M (Kd.int .u8) _ _ _ 10 [.int .u8 10] from rfl) (Reps.one (show Kd.M (Kd.int .u8) _ _ _ ((wrap64 (a0_1 - 1)) % 256) [.int .u8 ((wrap64 (a0_1 - 1)) % 256)] from rfl) (Reps.one (show Kd.M (Kd.int .u8) _ _ _ (((a0_4.size : Int)) % 256) [.int .u8 (((a0_4.size : Int)) % 256)] from rfl) (Reps.none _ _))))); intro v263 w30 ho31 hb hg_ hnew_; clear hg_ hnew_; (first | rw [← Ny262.out] at ho31 | (simp only [Int.reduceToNat] at ho31; rw [← Ny262.out] at ho31)); have n0_ := Aside0.mk (Kd.R_lower ho31 (below_size (by repeat (first | (with_reducible first | exact HB.out | apply below_alloc | apply pw_below_drewN | apply below_drew1 | refine below_set ?_ GE248.out) | exact HB.out)))); have n1_ := Aside0.mk (blk_below (g := gb248) (o := .cells #[.int .i64 a0_0, .int .i64 a0_1, .int .i64 a0_2, .int .i64 a0_3, .string a0_4, .slice A0_5 l0_5.length c0_5, .int .u16 a0_6, .int .u16 a0_7, .int .u16 a0_8, .int .i64 a0_9, .int .i64 a0_10] 41 (0, 0)) (by (with_reducible repeat (first | refine blk_drewN ?_ _ | refine blk_drew ?_ | refine blk_alloc ?_ _)); exact BK248.out) hb); have n2_ := Aside0.mk (below_step (by repeat (first | (with_reducible first | exact HB.out | apply below_alloc | apply pw_below_drewN | apply below_drew1 | refine below_set ?_ GE248.out) | exact HB.out)) hb); clear BK248; clear HB; have HO264 := n0_; have BK248 := n1_; have HB := n2_; clear n0_ n1_ n2_; clear hb ho31; have hcz32_0 : w30.cell? ⟨gb248, 0, none⟩ = some (.int .i64 a0_0) := (blk_cell BK248.out 0).trans rfl; have hcz32_1 : w30.cell? ⟨gb248, 1, none⟩ = some (.int .i64 a0_1) := (blk_cell BK248.out 1).trans rfl; have hcz32_2 : w30.cell? ⟨gb248, 2, none⟩ = some (.int .i64 a0_2) := (blk_cell BK248.out 2).trans rfl; have hcz32_3 : w30.cell? ⟨gb248, 3, none⟩ = some (.int .i64 a0_3) := (blk_cell BK248.out 3).trans rfl; have hcz32_4 : w30.cell? ⟨gb248, 4, none⟩ = some (.string a0_4) := (blk_cell BK248.out 4).trans rfl; have hcz32_5 : w30.cell? ⟨gb248, 5, none⟩ = some (.slice A0_5 l0_5.length c0_5) := (blk_cell BK248.out 5).trans rfl; have hcz32_6 : w30.cell? ⟨gb248, 6, none⟩ = some (.int .u16 a0_6) := (blk_cell BK248.out 6).trans rfl; have hcz32_7 : w30.cell? ⟨gb248, 7, none⟩ = some (.int .u16 a0_7) := (blk_cell BK248.out 7).trans rfl; have hcz32_8 : w30.cell? ⟨gb248, 8, none⟩ = some (.int .u16 a0_8) := (blk_cell BK248.out 8).trans rfl; have hcz32_9 : w30.cell? ⟨gb248, 9, none⟩ = some (.int .i64 a0_9) := (blk_cell BK248.out 9).trans rfl; have hcz32_10 : w30.cell? ⟨gb248, 10, none⟩ = some (.int .i64 a0_10) := (blk_cell BK248.out 10).trans rfl; have hfz32_0 := blk_frozen BK248.out 0; have hfz32_1 := blk_frozen BK248.out 1; have hfz32_2 := blk_frozen BK248.out 2; have hfz32_3 := blk_frozen BK248.out 3; have hfz32_4 := blk_frozen BK248.out 4; have hfz32_5 := blk_frozen BK248.out 5; have hfz32_6 := blk_frozen BK248.out 6; have hfz32_7 := blk_frozen BK248.out 7; have hfz32_8 := blk_frozen BK248.out 8; have hfz32_9 := blk_frozen BK248.out 9; have hfz32_10 := blk_frozen BK248.out 10) | (at_builtin; refine print_append_str (w0 := w) w.heap.size rfl (.tmp 56) _ 22 9 5 rfl Try.underlying22 Try.underlying9 info5 v263 y262 a0_4 rfl rfl ?aO ?aB ?aS ?aL ?_; (case aB => exact (by repeat (first | (with_reducible first | exact HB.out | apply below_alloc | apply pw_below_drewN | apply below_drew1 | refine below_set ?_ GE248.out) | exact HB.out))); (case aO => exact (Kd.own_of_R (by (with_reducible repeat (first | apply Kd.R_alloc | apply Kd.R_drewN | apply Kd.R_drew)); exact HO264.out))); (case aS => exact (below_size (by repeat (first | (with_reducible first | exact HB.out | apply below_alloc | apply pw_below_drewN | apply below_drew1 | refine below_set ?_ GE248.out) | exact HB.out)))); (case aL => have := LMc28.out; omega); intro v266 w33 ho0 hb hg; have ho := Kd.R_of_own (h1 := fun _ => rfl) (ok := fun _ => True) ho0 (fun _ _ => trivial); clear ho0; have hat := True.intro; rw [← Ny265.out] at ho; change Kd.R (Kd.int .u8) 5 w33 w.heap.size (fun _ => True) v266 y265 at ho; have n0_ := Aside0.mk (blk_grown (g := gb248) (o := .cells #[.int .i64 a0_0, .int .i64 a0_1, .int .i64 a0_2, .int .i64 a0_3, .string a0_4, .slice A0_5 l0_5.length c0_5, .int .u16 a0_6, .int .u16 a0_7, .int .u16 a0_8, .int .i64 a0_9, .int .i64 a0_10] 41 (0, 0)) (by (with_reducible repeat (first | refine blk_drewN ?_ _ | refine blk_drew ?_ | refine blk_alloc ?_ _)); exact BK248.out) hg (Kd.R_ne HO264.out BK248.out (by decide))); have n1_ := Aside0.mk (hb); have n2_ := Aside0.mk (ho); clear BK248; clear HB; clear HO264; have BK248 := n0_; have HB := n1_; have HO267 := n2_; clear n0_ n1_ n2_; clear ho hb hg hat))
          go_meet
          case rel => exact ⟨_, (y265), H', ⟨by have := HJ11.out; first | omega | exact Nat.le_refl _⟩, ⟨by (with_reducible repeat (first | apply Kd.R_alloc | apply Kd.R_drewN | apply Kd.R_drew)); exact HO267.out⟩, ⟨by (with_reducible repeat (first | refine blk_drewN ?_ _ | refine blk_drew ?_ | refine blk_alloc ?_ _)); exact BK248.out⟩, ⟨by repeat (first | (with_reducible first | exact HB.out | apply below_alloc | apply pw_below_drewN | apply below_drew1 | refine below_set ?_ GE248.out) | exact HB.out)⟩⟩
         ·rw [if_neg c28] at H
          exact absurd H (by simp)
       ·rw [if_neg c25] at H
        have c25b0 : (a0_0 == 6) = false := beq_eq_false_iff_ne.mpr c25
        have c25b1 : (a0_0 != 6) = true := bne_iff_ne.mpr c25
        by_cases c34 : a0_0 = 7
        ·rw [if_pos c34] at H
         have c34b0 : (a0_0 == 7) = true := beq_iff_eq.mpr c34
         have c34b1 : (a0_0 != 7) = false := bne_eq_false_iff_eq.mpr c34
         clear c34
         have HC35 := Aside0.mk H
         clear H
         go_upto_region 19 with (fail)
         go_cut [81] (fun v81 wc => ∃ (kq : Nat) (x81_34 : Bool), v81 = .bool x81_34 ∧ Aside0 (antipoderef29_bytes.j1 kq ((wrap64 (a0_1 - 1)) % 256) x81_34 a0_0 a0_1 a0_2 a0_3 a0_4 l0_5 a0_6 a0_7 a0_8 a0_9 a0_10 = some (r1, r2)) ∧ Aside0 (kq ≤ kj11) ∧ Aside0 (wc.heap[gb248]? = some (.cells #[.int .i64 a0_0, .int .i64 a0_1, .int .i64 a0_2, .int .i64 a0_3, .string a0_4, (.slice A0_5 l0_5.length c0_5), .int .u16 a0_6, .int .u16 a0_7, .int .u16 a0_8, .int .i64 a0_9, .int .i64 a0_10] 41 (0, 0))) ∧ Aside0 (Below w.heap.size w wc))
         case first =>
          have H := HC35.out
          clear HC35
          by_cases c36 : (l0_5.length : Int) = 2
          ·rw [if_pos c36] at H
           have c36b0 : ((l0_5.length : Int) == 2) = true := beq_iff_eq.mpr c36
           have c36b1 : ((l0_5.length : Int) != 2) = false := bne_eq_false_iff_eq.mpr c36
           clear c36
           (first | rw [c36b0] | (simp only [i64_w, i32_w]; rw [c36b0]) | skip)
           by_cases c37 : 0 < (l0_5.length : Int)
           ·rw [if_pos c37] at H
            have c37b0 : decide (0 < (l0_5.length : Int)) = true := decide_eq_true c37
            have c37b1 : decide (0 < l0_5.length) = true := decide_eq_true (by omega)
            clear c37
            replace H := Option.bind_eq_some_iff.mp H
            obtain ⟨t269, A380, H⟩ := H
            replace H : (if t269 = true then (if 1 < (l0_5.length : Int) then ((antipoderef29_small.f (rd l0_5 1) 255).bind fun t271 => (antipoderef29_bytes.j1 kj11 ((wrap64 (a0_1 - 1)) % 256) (!t271) a0_0 a0_1 a0_2 a0_3 a0_4 l0_5 a0_6 a0_7 a0_8 a0_9 a0_10)) else (none)) else (antipoderef29_bytes.j1 kj11 ((wrap64 (a0_1 - 1)) % 256) true a0_0 a0_1 a0_2 a0_3 a0_4 l0_5 a0_6 a0_7 a0_8 a0_9 a0_10)) = some (r1, r2) := H
            have A38 := Aside0.mk A380
            clear A380
            by_cases c39 : t269 = true
            ·subst c39
             have H1 : (if 1 < (l0_5.length : Int) then ((antipoderef29_small.f (rd l0_5 1) 255).bind fun t271 => (antipoderef29_bytes.j1 kj11 ((wrap64 (a0_1 - 1)) % 256) (!t271) a0_0 a0_1 a0_2 a0_3 a0_4 l0_5 a0_6 a0_7 a0_8 a0_9 a0_10)) else (none)) = some (r1, r2) := by rw [if_pos rfl] at H; exact H
             clear H
             have H := H1
             clear H1
             by_cases c40 : 1 < (l0_5.length : Int)
             ·rw [if_pos c40] at H
              have c40b0 : decide (1 < (l0_5.length : Int)) = true := decide_eq_true c40
              have c40b1 : decide (1 < l0_5.length) = true := decide_eq_true (by omega)
              clear c40
              replace H := Option.bind_eq_some_iff.mp H
              obtain ⟨t271, A410, H⟩ := H
              replace H : (antipoderef29_bytes.j1 kj11 ((wrap64 (a0_1 - 1)) % 256) (!t271) a0_0 a0_1 a0_2 a0_3 a0_4 l0_5 a0_6 a0_7 a0_8 a0_9 a0_10) = some (r1, r2) := H
              have A41 := Aside0.mk A410
              clear A410
              have H' := Aside0.mk H
              clear H
              have hcz42_0 : wc.cell? ⟨gb248, 0, none⟩ = some (.int .i64 a0_0) := (blk_cell BK248.out 0).trans rfl
              have hcz42_1 : wc.cell? ⟨gb248, 1, none⟩ = some (.int .i64 a0_1) := (blk_cell BK248.out 1).trans rfl
              have hcz42_2 : wc.cell? ⟨gb248, 2, none⟩ = some (.int .i64 a0_2) := (blk_cell BK248.out 2).trans rfl
              have hcz42_3 : wc.cell? ⟨gb248, 3, none⟩ = some (.int .i64 a0_3) := (blk_cell BK248.out 3).trans rfl
              have hcz42_4 : wc.cell? ⟨gb248, 4, none⟩ = some (.string a0_4) := (blk_cell BK248.out 4).trans rfl
              have hcz42_5 : wc.cell? ⟨gb248, 5, none⟩ = some (.slice A0_5 l0_5.length c0_5) := (blk_cell BK248.out 5).trans rfl
              have hcz42_6 : wc.cell? ⟨gb248, 6, none⟩ = some (.int .u16 a0_6) := (blk_cell BK248.out 6).trans rfl
              have hcz42_7 : wc.cell? ⟨gb248, 7, none⟩ = some (.int .u16 a0_7) := (blk_cell BK248.out 7).trans rfl
              have hcz42_8 : wc.cell? ⟨gb248, 8, none⟩ = some (.int .u16 a0_8) := (blk_cell BK248.out 8).trans rfl
              have hcz42_9 : wc.cell? ⟨gb248, 9, none⟩ = some (.int .i64 a0_9) := (blk_cell BK248.out 9).trans rfl
              have hcz42_10 : wc.cell? ⟨gb248, 10, none⟩ = some (.int .i64 a0_10) := (blk_cell BK248.out 10).trans rfl
              have hfz42_0 := blk_frozen BK248.out 0
              have hfz42_1 := blk_frozen BK248.out 1
              have hfz42_2 := blk_frozen BK248.out 2
              have hfz42_3 := blk_frozen BK248.out 3
              have hfz42_4 := blk_frozen BK248.out 4
              have hfz42_5 := blk_frozen BK248.out 5
              have hfz42_6 := blk_frozen BK248.out 6
              have hfz42_7 := blk_frozen BK248.out 7
              have hfz42_8 := blk_frozen BK248.out 8
              have hfz42_9 := blk_frozen BK248.out 9
              have hfz42_10 := blk_frozen BK248.out 10
              have p268 : 0 ≤ (0 : Int) := (by omega)
              have q268 : 0 < (l0_5.length : Int) := of_decide_eq_true (by first | (with_reducible assumption) | assumption)
              obtain ⟨ad268, e268, hx268_0⟩ := Kd.at_int HR0_5.out 0 p268 q268
              cases e268
              have qi268 : (0 < l0_5.length) = True := eq_true (by omega)
              (try rw [show ((0 : Int)).toNat = 0 from rfl] at hx268_0)
              (try rw [Addr.add_zero'] at hx268_0)
              replace hx268_0 := (HB.out.cell (World.block_lt_of_cell? w _ hx268_0)).trans hx268_0
              replace p268 := eq_true p268
              replace q268 := eq_true q268
              go_wp2_with (first | (go_at_call 28; (with_reducible refine (antipoderef29_small.calls (rd l0_5 0) 255 true _ A38.out).mono ?_); rintro e w' ⟨rfl, ⟨nd, rfl⟩⟩; have p270 : 0 ≤ (1 : Int) := (by omega); have q270 : 1 < (l0_5.length : Int) := of_decide_eq_true (by first | (with_reducible assumption) | assumption); obtain ⟨ad270, e270, hx270_0⟩ := Kd.at_int HR0_5.out 1 p270 q270; obtain rfl : ad268 = ad270 := (by injection e270); (try simp only [show (1 : Int).toNat = 1 from rfl, Nat.reduceMul, Nat.reduceEqDiff, Go.Addr.add, ↓reduceIte] at hx270_0); have qi270 : (1 < l0_5.length) = True := eq_true (by omega); (try rw [show ((1 : Int)).toNat = 1 from rfl] at hx270_0); replace hx270_0 := (HB.out.cell (World.block_lt_of_cell? w _ hx270_0)).trans hx270_0; replace p270 := eq_true p270; replace q270 := eq_true q270) | (go_at_call 28; (with_reducible refine (antipoderef29_small.calls (rd l0_5 1) 255 t271 _ A41.out).mono ?_); rintro e w' ⟨rfl, ⟨nd, rfl⟩⟩))
              go_meet
              case rel => exact ⟨_, (!t271), (by first | rfl | (simp; done) | (simp [*]; done)), H', ⟨by have := HJ11.out; first | omega | exact Nat.le_refl _⟩, ⟨by (with_reducible repeat (first | refine blk_drewN ?_ _ | refine blk_drew ?_ | refine blk_alloc ?_ _)); exact BK248.out⟩, ⟨by repeat (first | (with_reducible first | exact HB.out | apply below_alloc | apply pw_below_drewN | apply below_drew1 | refine below_set ?_ GE248.out) | exact HB.out)⟩⟩
             ·rw [if_neg c40] at H
              exact absurd H (by simp)
            ·replace c39 := Bool.eq_false_iff.mpr c39
             subst c39
             have H1 : (antipoderef29_bytes.j1 kj11 ((wrap64 (a0_1 - 1)) % 256) true a0_0 a0_1 a0_2 a0_3 a0_4 l0_5 a0_6 a0_7 a0_8 a0_9 a0_10) = some (r1, r2) := by rw [if_neg (show ¬ (false = true) by decide)] at H; exact H
             clear H
             have H := H1
             clear H1
             have H' := Aside0.mk H
             clear H
             have hcz43_0 : wc.cell? ⟨gb248, 0, none⟩ = some (.int .i64 a0_0) := (blk_cell BK248.out 0).trans rfl
             have hcz43_1 : wc.cell? ⟨gb248, 1, none⟩ = some (.int .i64 a0_1) := (blk_cell BK248.out 1).trans rfl
             have hcz43_2 : wc.cell? ⟨gb248, 2, none⟩ = some (.int .i64 a0_2) := (blk_cell BK248.out 2).trans rfl
             have hcz43_3 : wc.cell? ⟨gb248, 3, none⟩ = some (.int .i64 a0_3) := (blk_cell BK248.out 3).trans rfl
             have hcz43_4 : wc.cell? ⟨gb248, 4, none⟩ = some (.string a0_4) := (blk_cell BK248.out 4).trans rfl
             have hcz43_5 : wc.cell? ⟨gb248, 5, none⟩ = some (.slice A0_5 l0_5.length c0_5) := (blk_cell BK248.out 5).trans rfl
             have hcz43_6 : wc.cell? ⟨gb248, 6, none⟩ = some (.int .u16 a0_6) := (blk_cell BK248.out 6).trans rfl
             have hcz43_7 : wc.cell? ⟨gb248, 7, none⟩ = some (.int .u16 a0_7) := (blk_cell BK248.out 7).trans rfl
             have hcz43_8 : wc.cell? ⟨gb248, 8, none⟩ = some (.int .u16 a0_8) := (blk_cell BK248.out 8).trans rfl
             have hcz43_9 : wc.cell? ⟨gb248, 9, none⟩ = some (.int .i64 a0_9) := (blk_cell BK248.out 9).trans rfl
             have hcz43_10 : wc.cell? ⟨gb248, 10, none⟩ = some (.int .i64 a0_10) := (blk_cell BK248.out 10).trans rfl
             have hfz43_0 := blk_frozen BK248.out 0
             have hfz43_1 := blk_frozen BK248.out 1
             have hfz43_2 := blk_frozen BK248.out 2
             have hfz43_3 := blk_frozen BK248.out 3
             have hfz43_4 := blk_frozen BK248.out 4
             have hfz43_5 := blk_frozen BK248.out 5
             have hfz43_6 := blk_frozen BK248.out 6
             have hfz43_7 := blk_frozen BK248.out 7
             have hfz43_8 := blk_frozen BK248.out 8
             have hfz43_9 := blk_frozen BK248.out 9
             have hfz43_10 := blk_frozen BK248.out 10
             have p268 : 0 ≤ (0 : Int) := (by omega)
             have q268 : 0 < (l0_5.length : Int) := of_decide_eq_true (by first | (with_reducible assumption) | assumption)
             obtain ⟨ad268, e268, hx268_0⟩ := Kd.at_int HR0_5.out 0 p268 q268
             cases e268
             have qi268 : (0 < l0_5.length) = True := eq_true (by omega)
             (try rw [show ((0 : Int)).toNat = 0 from rfl] at hx268_0)
             (try rw [Addr.add_zero'] at hx268_0)
             replace hx268_0 := (HB.out.cell (World.block_lt_of_cell? w _ hx268_0)).trans hx268_0
             replace p268 := eq_true p268
             replace q268 := eq_true q268
             go_wp2_with (first | (go_at_call 28; (with_reducible refine (antipoderef29_small.calls (rd l0_5 0) 255 false _ A38.out).mono ?_); rintro e w' ⟨rfl, ⟨nd, rfl⟩⟩))
             go_meet
             case rel => exact ⟨_, (true), (by first | rfl | (simp; done) | (simp [*]; done)), H', ⟨by have := HJ11.out; first | omega | exact Nat.le_refl _⟩, ⟨by (with_reducible repeat (first | refine blk_drewN ?_ _ | refine blk_drew ?_ | refine blk_alloc ?_ _)); exact BK248.out⟩, ⟨by repeat (first | (with_reducible first | exact HB.out | apply below_alloc | apply pw_below_drewN | apply below_drew1 | refine below_set ?_ GE248.out) | exact HB.out)⟩⟩
           ·rw [if_neg c37] at H
            exact absurd H (by simp)
          ·rw [if_neg c36] at H
           have c36b0 : ((l0_5.length : Int) == 2) = false := beq_eq_false_iff_ne.mpr c36
           have c36b1 : ((l0_5.length : Int) != 2) = true := bne_iff_ne.mpr c36
           (first | rw [c36b0] | (simp only [i64_w, i32_w]; rw [c36b0]) | skip)
           have H' := Aside0.mk H
           clear H
           have hcz44_0 : wc.cell? ⟨gb248, 0, none⟩ = some (.int .i64 a0_0) := (blk_cell BK248.out 0).trans rfl
           have hcz44_1 : wc.cell? ⟨gb248, 1, none⟩ = some (.int .i64 a0_1) := (blk_cell BK248.out 1).trans rfl
           have hcz44_2 : wc.cell? ⟨gb248, 2, none⟩ = some (.int .i64 a0_2) := (blk_cell BK248.out 2).trans rfl
           have hcz44_3 : wc.cell? ⟨gb248, 3, none⟩ = some (.int .i64 a0_3) := (blk_cell BK248.out 3).trans rfl
           have hcz44_4 : wc.cell? ⟨gb248, 4, none⟩ = some (.string a0_4) := (blk_cell BK248.out 4).trans rfl
           have hcz44_5 : wc.cell? ⟨gb248, 5, none⟩ = some (.slice A0_5 l0_5.length c0_5) := (blk_cell BK248.out 5).trans rfl
           have hcz44_6 : wc.cell? ⟨gb248, 6, none⟩ = some (.int .u16 a0_6) := (blk_cell BK248.out 6).trans rfl
           have hcz44_7 : wc.cell? ⟨gb248, 7, none⟩ = some (.int .u16 a0_7) := (blk_cell BK248.out 7).trans rfl
           have hcz44_8 : wc.cell? ⟨gb248, 8, none⟩ = some (.int .u16 a0_8) := (blk_cell BK248.out 8).trans rfl
           have hcz44_9 : wc.cell? ⟨gb248, 9, none⟩ = some (.int .i64 a0_9) := (blk_cell BK248.out 9).trans rfl
           have hcz44_10 : wc.cell? ⟨gb248, 10, none⟩ = some (.int .i64 a0_10) := (blk_cell BK248.out 10).trans rfl
           have hfz44_0 := blk_frozen BK248.out 0
           have hfz44_1 := blk_frozen BK248.out 1
           have hfz44_2 := blk_frozen BK248.out 2
           have hfz44_3 := blk_frozen BK248.out 3
           have hfz44_4 := blk_frozen BK248.out 4
           have hfz44_5 := blk_frozen BK248.out 5
           have hfz44_6 := blk_frozen BK248.out 6
           have hfz44_7 := blk_frozen BK248.out 7
           have hfz44_8 := blk_frozen BK248.out 8
           have hfz44_9 := blk_frozen BK248.out 9
           have hfz44_10 := blk_frozen BK248.out 10
           go_wp2
           go_meet
           case rel => exact ⟨_, (true), (by first | rfl | (simp; done) | (simp [*]; done)), H', ⟨by have := HJ11.out; first | omega | exact Nat.le_refl _⟩, ⟨by (with_reducible repeat (first | refine blk_drewN ?_ _ | refine blk_drew ?_ | refine blk_alloc ?_ _)); exact BK248.out⟩, ⟨by repeat (first | (with_reducible first | exact HB.out | apply below_alloc | apply pw_below_drewN | apply below_drew1 | refine below_set ?_ GE248.out) | exact HB.out)⟩⟩
         case rest =>
          clear HC35
          try clear c1
          try clear c2
          try clear p2
          try clear q2
          try clear hx2
          try clear qi2
          try clear c3
          try clear c4
          try clear c5
          try clear c5b0
          try clear c5b1
          try clear p6
          try clear c8
          try clear c8b0
          try clear c8b1
          try clear c13
          try clear c13b0
          try clear c13b1
          try clear c14
          try clear c14b0
          try clear c14b1
          try clear c15
          try clear c17
          try clear c17b0
          try clear c18
          try clear c18b0
          try clear c22
          try clear c25
          try clear c25b0
          try clear c25b1
          try clear p25
          try clear q25
          try clear hx25
          try clear c26
          try clear c26b0
          try clear c26b1
          try clear p26
          try clear q26
          try clear hx26
          try clear qi26
          try clear p27
          try clear q27
          try clear hx27
          try clear qi27
          try clear c28
          try clear c34
          try clear c34b0
          try clear c34b1
          try clear c36
          try clear c36b0
          try clear c36b1
          try clear c37
          try clear c37b0
          try clear c37b1
          try clear c39
          try clear c40
          try clear c40b0
          try clear c40b1
          try clear hcz21_0
          try clear hcz21_1
          try clear hcz21_10
          try clear hcz21_2
          try clear hcz21_3
          try clear hcz21_4
          try clear hcz21_5
          try clear hcz21_6
          try clear hcz21_7
          try clear hcz21_8
          try clear hcz21_9
          try clear hcz27_0
          try clear hcz27_1
          try clear hcz27_10
          try clear hcz27_2
          try clear hcz27_3
          try clear hcz27_4
          try clear hcz27_5
          try clear hcz27_6
          try clear hcz27_7
          try clear hcz27_8
          try clear hcz27_9
          try clear hcz29_0
          try clear hcz29_1
          try clear hcz29_10
          try clear hcz29_2
          try clear hcz29_3
          try clear hcz29_4
          try clear hcz29_5
          try clear hcz29_6
          try clear hcz29_7
          try clear hcz29_8
          try clear hcz29_9
          try clear hcz32_0
          try clear hcz32_1
          try clear hcz32_10
          try clear hcz32_2
          try clear hcz32_3
          try clear hcz32_4
          try clear hcz32_5
          try clear hcz32_6
          try clear hcz32_7
          try clear hcz32_8
          try clear hcz32_9
          try clear hcz42_0
          try clear hcz42_1
          try clear hcz42_10
          try clear hcz42_2
          try clear hcz42_3
          try clear hcz42_4
          try clear hcz42_5
          try clear hcz42_6
          try clear hcz42_7
          try clear hcz42_8
          try clear hcz42_9
          try clear hcz43_0
          try clear hcz43_1
          try clear hcz43_10
          try clear hcz43_2
          try clear hcz43_3
          try clear hcz43_4
          try clear hcz43_5
          try clear hcz43_6
          try clear hcz43_7
          try clear hcz43_8
          try clear hcz43_9
          try clear hcz44_0
          try clear hcz44_1
          try clear hcz44_10
          try clear hcz44_2
          try clear hcz44_3
          try clear hcz44_4
          try clear hcz44_5
          try clear hcz44_6
          try clear hcz44_7
          try clear hcz44_8
          try clear hcz44_9
          try clear hcz4_0
          try clear hcz4_1
          try clear hcz4_10
          try clear hcz4_2
          try clear hcz4_3
          try clear hcz4_4
          try clear hcz4_5
          try clear hcz4_6
          try clear hcz4_7
          try clear hcz4_8
          try clear hcz4_9
          try clear hcz9_0
          try clear hcz9_1
          try clear hcz9_10
          try clear hcz9_2
          try clear hcz9_3
          try clear hcz9_4
          try clear hcz9_5
          try clear hcz9_6
          try clear hcz9_7
          try clear hcz9_8
          try clear hcz9_9
          try clear hfz21_0
          try clear hfz21_1
          try clear hfz21_10
          try clear hfz21_2
          try clear hfz21_3
          try clear hfz21_4
          try clear hfz21_5
          try clear hfz21_6
          try clear hfz21_7
          try clear hfz21_8
          try clear hfz21_9
          try clear hfz27_0
          try clear hfz27_1
          try clear hfz27_10
          try clear hfz27_2
          try clear hfz27_3
          try clear hfz27_4
          try clear hfz27_5
          try clear hfz27_6
          try clear hfz27_7
          try clear hfz27_8
          try clear hfz27_9
          try clear hfz29_0
          try clear hfz29_1
          try clear hfz29_10
          try clear hfz29_2
          try clear hfz29_3
          try clear hfz29_4
          try clear hfz29_5
          try clear hfz29_6
          try clear hfz29_7
          try clear hfz29_8
          try clear hfz29_9
          try clear hfz32_0
          try clear hfz32_1
          try clear hfz32_10
          try clear hfz32_2
          try clear hfz32_3
          try clear hfz32_4
          try clear hfz32_5
          try clear hfz32_6
          try clear hfz32_7
          try clear hfz32_8
          try clear hfz32_9
          try clear hfz42_0
          try clear hfz42_1
          try clear hfz42_10
          try clear hfz42_2
          try clear hfz42_3
          try clear hfz42_4
          try clear hfz42_5
          try clear hfz42_6
          try clear hfz42_7
          try clear hfz42_8
          try clear hfz42_9
          try clear hfz43_0
          try clear hfz43_1
          try clear hfz43_10
          try clear hfz43_2
          try clear hfz43_3
          try clear hfz43_4
          try clear hfz43_5
          try clear hfz43_6
          try clear hfz43_7
          try clear hfz43_8
          try clear hfz43_9
          try clear hfz44_0
          try clear hfz44_1
          try clear hfz44_10
          try clear hfz44_2
          try clear hfz44_3
          try clear hfz44_4
          try clear hfz44_5
          try clear hfz44_6
          try clear hfz44_7
          try clear hfz44_8
          try clear hfz44_9
          try clear hfz4_0
          try clear hfz4_1
          try clear hfz4_10
          try clear hfz4_2
          try clear hfz4_3
          try clear hfz4_4
          try clear hfz4_5
          try clear hfz4_6
          try clear hfz4_7
          try clear hfz4_8
          try clear hfz4_9
          try clear hfz9_0
          try clear hfz9_1
          try clear hfz9_10
          try clear hfz9_2
          try clear hfz9_3
          try clear hfz9_4
          try clear hfz9_5
          try clear hfz9_6
          try clear hfz9_7
          try clear hfz9_8
          try clear hfz9_9
          try clear hx258_0
          try clear hx268_0
          try clear hx270_0
          try clear p2
          try clear p258
          try clear p268
          try clear p270
          try clear p6
          try clear q258
          try clear q268
          try clear q270
          obtain ⟨kq, x81_34, rfl, HA, HJ34, BK248, HB⟩ := hcut
          cases kq with
          | zero => exact absurd HA.out (by simp [antipoderef29_bytes.j1])
          | succ kj34 =>
           have H := HA.out
           clear HA
           simp only [antipoderef29_bytes.j1] at H
           by_cases c45 : x81_34 = true
           ·subst c45
            have H1 : (some (([] : List Int), false)) = some (r1, r2) := by rw [if_pos rfl] at H; exact H
            clear H
            have H := H1
            clear H1
            simp only [Option.some.injEq, Prod.mk.injEq] at H
            obtain ⟨rfl, rfl⟩ := H
            go_wp2
            go_ret2
            exact ⟨_, by first | rfl | (simp [errW_none, errW_some] <;> rfl) | (simp [*, errW_none, errW_some] <;> rfl), by first | exact Kd.R_nil _ _ _ _ _ | exact Kd.N_nil _ _ _ _ _ | exact Kd.V_nil _ _ _ _ _ | exact Kd.Q_nil _ _ _ _ _ | exact Kd.S_nil _ _ _ _ _, by repeat (first | (with_reducible first | exact HB.out | apply below_alloc | apply pw_below_drewN | apply below_drew1 | refine below_set ?_ GE248.out) | exact HB.out)⟩
           ·replace c45 := Bool.eq_false_iff.mpr c45
            subst c45
            have H1 : (if 0 < (l0_5.length : Int) then (if 1 < (l0_5.length : Int) then (antipoderef29_bytes.j2 kj34 (([11, ((wrap64 (a0_1 - 1)) % 256), (rd l0_5 0) % 256, (rd l0_5 1) % 256] : List Int)) a0_0 a0_1 a0_2 a0_3 a0_4 l0_5 a0_6 a0_7 a0_8 a0_9 a0_10) else (none)) else (none)) = some (r1, r2) := by rw [if_neg (show ¬ (false = true) by decide)] at H; exact H
            clear H
            have H := H1
            clear H1
            by_cases c46 : 0 < (l0_5.length : Int)
            ·rw [if_pos c46] at H
             have c46b0 : decide (0 < (l0_5.length : Int)) = true := decide_eq_true c46
             have c46b1 : decide (0 < l0_5.length) = true := decide_eq_true (by omega)
             clear c46
             by_cases c47 : 1 < (l0_5.length : Int)
             ·rw [if_pos c47] at H
              have c47b0 : decide (1 < (l0_5.length : Int)) = true := decide_eq_true c47
              have c47b1 : decide (1 < l0_5.length) = true := decide_eq_true (by omega)
              clear c47
              obtain ⟨y274, hy274⟩ : ∃ y_ : List Int, y_ = (([11, ((wrap64 (a0_1 - 1)) % 256), (rd l0_5 0) % 256, (rd l0_5 1) % 256] : List Int)) := ⟨_, rfl⟩
              replace H : (antipoderef29_bytes.j2 kj34 y274 a0_0 a0_1 a0_2 a0_3 a0_4 l0_5 a0_6 a0_7 a0_8 a0_9 a0_10) = some (r1, r2) := by first | (rw [hy274]; with_reducible exact H) | (have H2_ := (Option.bind_some _ _).symm.trans H; rw [hy274]; with_reducible exact H2_) | (have H2_ := (Option.bind_some _ _).symm.trans H; with_reducible exact H2_) | with_reducible exact H | (rw [hy274]; exact H) | exact H
              have Ny274 := Aside0.mk hy274
              clear hy274
              have H' := Aside0.mk H
              clear H
              try go_wp2
              have n0_ := Aside0.mk (blk_drew BK248.out)
              have n1_ := Aside0.mk (below_drew1 HB.out)
              clear BK248
              clear HB
              have BK248 := n0_
              have HB := n1_
              clear n0_ n1_
              have p272 : 0 ≤ (0 : Int) := (by omega)
              have q272 : 0 < (l0_5.length : Int) := of_decide_eq_true (by first | (with_reducible assumption) | assumption)
              obtain ⟨ad272, e272, hx272_0⟩ := Kd.at_int HR0_5.out 0 p272 q272
              have hw272_0 := hx272_0
              (try rw [show ((0 : Int)).toNat = 0 from rfl] at hw272_0)
              (try rw [show 0 * 1 = 0 from rfl] at hw272_0)
              (try rw [Addr.add_zero'] at hw272_0)
              cases e272
              have qi272 : (0 < l0_5.length) = True := eq_true (by omega)
              (try rw [show ((0 : Int)).toNat = 0 from rfl] at hx272_0)
              (try rw [Addr.add_zero'] at hx272_0)
              replace hx272_0 := (HB.out.cell (World.block_lt_of_cell? w _ hx272_0)).trans hx272_0
              replace p272 := eq_true p272
              replace q272 := eq_true q272
              have p273 : 0 ≤ (1 : Int) := (by omega)
              have q273 : 1 < (l0_5.length : Int) := of_decide_eq_true (by first | (with_reducible assumption) | assumption)
              obtain ⟨ad273, e273, hx273_0⟩ := Kd.at_int HR0_5.out 1 p273 q273
              have hw273_0 := hx273_0
              (try rw [show ((1 : Int)).toNat = 1 from rfl] at hw273_0)
              (try rw [show 1 * 1 = 1 from rfl] at hw273_0)
              (try simp only [Nat.reduceMul, Nat.reduceEqDiff, Go.Addr.add, ↓reduceIte] at hw273_0)
              obtain rfl : ad272 = ad273 := (by injection e273)
              (try simp only [show (1 : Int).toNat = 1 from rfl, Nat.reduceMul, Nat.reduceEqDiff, Go.Addr.add, ↓reduceIte] at hx273_0)
              have qi273 : (1 < l0_5.length) = True := eq_true (by omega)
              (try rw [show ((1 : Int)).toNat = 1 from rfl] at hx273_0)
              replace hx273_0 := (HB.out.cell (World.block_lt_of_cell? w _ hx273_0)).trans hx273_0
              replace p273 := eq_true p273
              replace q273 := eq_true q273
              refine start_ (n := 13) (S := fun w' => w'.cell? ⟨gb248, 0, none⟩ = some (.int .i64 a0_0) ∧ w'.cell? ⟨gb248, 1, none⟩ = some (.int .i64 a0_1) ∧ w'.cell? ⟨gb248, 2, none⟩ = some (.int .i64 a0_2) ∧ w'.cell? ⟨gb248, 3, none⟩ = some (.int .i64 a0_3) ∧ w'.cell? ⟨gb248, 4, none⟩ = some (.string a0_4) ∧ w'.cell? ⟨gb248, 5, none⟩ = some (.slice (some ad272) l0_5.length c0_5) ∧ w'.cell? ⟨gb248, 6, none⟩ = some (.int .u16 a0_6) ∧ w'.cell? ⟨gb248, 7, none⟩ = some (.int .u16 a0_7) ∧ w'.cell? ⟨gb248, 8, none⟩ = some (.int .u16 a0_8) ∧ w'.cell? ⟨gb248, 9, none⟩ = some (.int .i64 a0_9) ∧ w'.cell? ⟨gb248, 10, none⟩ = some (.int .i64 a0_10) ∧ w'.cell? ad272 = some (.int .i64 (rd l0_5 0)) ∧ w'.cell? ⟨ad272.block, ad272.off + 1, none⟩ = some (.int .i64 (rd l0_5 1))) (ds := []) #[false, false, false, false, false, false, false, false, false, false, false, false, false] (by kernel_rfl) rfl rfl ⟨(blk_cell BK248.out 0).trans rfl, (blk_cell BK248.out 1).trans rfl, (blk_cell BK248.out 2).trans rfl, (blk_cell BK248.out 3).trans rfl, (blk_cell BK248.out 4).trans rfl, (blk_cell BK248.out 5).trans rfl, (blk_cell BK248.out 6).trans rfl, (blk_cell BK248.out 7).trans rfl, (blk_cell BK248.out 8).trans rfl, (blk_cell BK248.out 9).trans rfl, (blk_cell BK248.out 10).trans rfl, ((HB.out.cell (World.block_lt_of_cell? w _ hw272_0)).trans hw272_0), ((HB.out.cell (World.block_lt_of_cell? w _ hw273_0)).trans hw273_0)⟩ (fun hHeld => ?_); refine with_tabW antipoderef29_bytes.tab21 antipoderef29_bytes.bits21 (fun HT_ HW_ => ?_)
              generalize wc.drew = w48 at BK248 HB hx272_0 hx273_0 hHeld ⊢
              refine pure_ (i := 0) (N := some 82) (v := ?_) (a' := ?_) #[true, false, false, false, false, false, false, false, false, false, false, false, false] rfl rfl (any_of HT_.out (by kernel_rfl)) (fun _ _ _ h => h) (Or.inl ⟨by rfl, ?_⟩) ?_ ?_
              rotate_left
              ·intro w'
               go_simp
               with_reducible rfl
              rotate_left
              ·simp only [Act.put, List.setIfInBounds_toArray, List.set_cons_zero, List.set_cons_succ, i64_w, i32_w]
               rfl
              refine pure_ (i := 1) (N := some 83) (v := ?_) (a' := ?_) #[true, true, false, false, false, false, false, false, false, false, false, false, false] rfl rfl (any_of HT_.out (by kernel_rfl)) (fun _ _ _ h => h) (Or.inl ⟨by rfl, ?_⟩) ?_ ?_
              rotate_left
              ·intro w'
               go_simp
               with_reducible rfl
              rotate_left
              ·simp only [Act.put, List.setIfInBounds_toArray, List.set_cons_zero, List.set_cons_succ, i64_w, i32_w]
               rfl
              refine pure_ (i := 6) (N := some 88) (v := ?_) (a' := ?_) #[true, true, false, false, false, false, true, false, false, false, false, false, false] rfl rfl (any_of HT_.out (by kernel_rfl)) (fun _ _ _ h => h) (Or.inl ⟨by rfl, ?_⟩) ?_ ?_
              rotate_left
              ·intro w'
               go_simp
               with_reducible rfl
              rotate_left
              ·simp only [Act.put, List.setIfInBounds_toArray, List.set_cons_zero, List.set_cons_succ, i64_w, i32_w]
               rfl
              refine take_ (i := 2) (N := some 84) (v := ?_) (a' := ?_) #[true, true, true, false, false, false, true, false, false, false, false, false, false] rfl rfl (take_ofW HT_.out HW_.out (by kernel_rfl)) (fun _ _ _ h => h) (Or.inl ⟨by rfl, ?_⟩) hHeld ?_ ?_
              rotate_left
              ·rintro w' ⟨s0, s1, s2, s3, s4, s5, s6, s7, s8, s9, s10, s11, s12⟩
               go_simp
               with_reducible rfl
              rotate_left
              ·simp only [Act.put, List.setIfInBounds_toArray, List.set_cons_zero, List.set_cons_succ, i64_w, i32_w]
               rfl
              refine pure_ (i := 3) (N := some 85) (v := ?_) (a' := ?_) #[true, true, true, true, false, false, true, false, false, false, false, false, false] rfl rfl (any_of HT_.out (by kernel_rfl)) (fun _ _ _ h => h) (Or.inl ⟨by rfl, ?_⟩) ?_ ?_
              rotate_left
              ·intro w'
               go_simp
               with_reducible rfl
              rotate_left
              ·simp only [Act.put, List.setIfInBounds_toArray, List.set_cons_zero, List.set_cons_succ, i64_w, i32_w]
               rfl
              refine take_ (i := 4) (N := some 86) (v := ?_) (a' := ?_) #[true, true, true, true, true, false, true, false, false, false, false, false, false] rfl rfl (take_ofW HT_.out HW_.out (by kernel_rfl)) (fun _ _ _ h => h) (Or.inl ⟨by rfl, ?_⟩) hHeld ?_ ?_
              rotate_left
              ·rintro w' ⟨s0, s1, s2, s3, s4, s5, s6, s7, s8, s9, s10, s11, s12⟩
               go_simp
               with_reducible rfl
              rotate_left
              ·simp only [Act.put, List.setIfInBounds_toArray, List.set_cons_zero, List.set_cons_succ, i64_w, i32_w]
               rfl
              refine pure_ (i := 5) (N := some 87) (v := ?_) (a' := ?_) #[true, true, true, true, true, true, true, false, false, false, false, false, false] rfl rfl (any_of HT_.out (by kernel_rfl)) (fun _ _ _ h => h) (Or.inl ⟨by rfl, ?_⟩) ?_ ?_
              rotate_left
              ·intro w'
               go_simp
               with_reducible rfl
              rotate_left
              ·simp only [Act.put, List.setIfInBounds_toArray, List.set_cons_zero, List.set_cons_succ, i64_w, i32_w]
               rfl
              refine take_ (i := 7) (N := some 89) (v := ?_) (a' := ?_) #[true, true, true, true, true, true, true, true, false, false, false, false, false] rfl rfl (take_ofW HT_.out HW_.out (by kernel_rfl)) (fun _ _ _ h => h) (Or.inl ⟨by rfl, ?_⟩) hHeld ?_ ?_
              rotate_left
              ·rintro w' ⟨s0, s1, s2, s3, s4, s5, s6, s7, s8, s9, s10, s11, s12⟩
               go_simp
               with_reducible rfl
              rotate_left
              ·simp only [Act.put, List.setIfInBounds_toArray, List.set_cons_zero, List.set_cons_succ, i64_w, i32_w]
               rfl
              refine pure_ (i := 8) (N := some 90) (v := ?_) (a' := ?_) #[true, true, true, true, true, true, true, true, true, false, false, false, false] rfl rfl (any_of HT_.out (by kernel_rfl)) (fun _ _ _ h => h) (Or.inl ⟨by rfl, ?_⟩) ?_ ?_
              rotate_left
              ·intro w'
               go_simp
               with_reducible rfl
              rotate_left
              ·simp only [Act.put, List.setIfInBounds_toArray, List.set_cons_zero, List.set_cons_succ, i64_w, i32_w]
               rfl
              refine take_ (i := 9) (N := some 91) (v := ?_) (a' := ?_) #[true, true, true, true, true, true, true, true, true, true, false, false, false] rfl rfl (take_ofW HT_.out HW_.out (by kernel_rfl)) (fun _ _ _ h => h) (Or.inl ⟨by rfl, ?_⟩) hHeld ?_ ?_
              rotate_left
              ·rintro w' ⟨s0, s1, s2, s3, s4, s5, s6, s7, s8, s9, s10, s11, s12⟩
               go_simp
               with_reducible rfl
              rotate_left
              ·simp only [Act.put, List.setIfInBounds_toArray, List.set_cons_zero, List.set_cons_succ, i64_w, i32_w]
               rfl
              refine pure_ (i := 10) (N := some 92) (v := ?_) (a' := ?_) #[true, true, true, true, true, true, true, true, true, true, true, false, false] rfl rfl (any_of HT_.out (by kernel_rfl)) (fun _ _ _ h => h) (Or.inl ⟨by rfl, ?_⟩) ?_ ?_
              rotate_left
              ·intro w'
               go_simp
               with_reducible rfl
              rotate_left
              ·simp only [Act.put, List.setIfInBounds_toArray, List.set_cons_zero, List.set_cons_succ, i64_w, i32_w]
               rfl
              refine one_ (i := 11) (N := some 93) #[true, true, true, true, true, true, true, true, true, true, true, true, false] rfl rfl (one_of HT_.out (by kernel_rfl)) (by decide) (fun K hK => ?_)
              refine Kd.R_lit_step (Kd.int .u8) _ 5 ?hg (N := 93) ?hd (xs := ([11, ((wrap64 (a0_1 - 1)) % 256), (rd l0_5 0) % 256, (rd l0_5 1) % 256] : List Int)) (inner := [.int .u8 11, .int .u8 ((wrap64 (a0_1 - 1)) % 256), .int .u8 ((rd l0_5 0) % 256), .int .u8 ((rd l0_5 1) % 256)]) (ok := fun _ => True) (okp := fun _ => True) ?hr ?hp (fun _ hk => hk) trivial (Below.refl _ _) (Nat.le_refl _) (by simp) ?_; (case hd => rfl); (case hg => rfl); (case hr => first | (go_simp; done) | (go_simp; rfl)); (case hp => exact (Reps.one (show Kd.M (Kd.int .u8) _ _ _ 11 [.int .u8 11] from rfl) (Reps.one (show Kd.M (Kd.int .u8) _ _ _ ((wrap64 (a0_1 - 1)) % 256) [.int .u8 ((wrap64 (a0_1 - 1)) % 256)] from rfl) (Reps.one (show Kd.M (Kd.int .u8) _ _ _ ((rd l0_5 0) % 256) [.int .u8 ((rd l0_5 0) % 256)] from rfl) (Reps.one (show Kd.M (Kd.int .u8) _ _ _ ((rd l0_5 1) % 256) [.int .u8 ((rd l0_5 1) % 256)] from rfl) (Reps.none _ _))))))
              intro v275 w49 ho50 hb hg_ hnew_
              clear hg_ hnew_
              (first | rw [← Ny274.out] at ho50 | (simp only [Int.reduceToNat] at ho50; rw [← Ny274.out] at ho50))
              have n0_ := Aside0.mk (Kd.R_lower ho50 (below_size (by repeat (first | (with_reducible first | exact HB.out | apply below_alloc | apply pw_below_drewN | apply below_drew1 | refine below_set ?_ GE248.out) | exact HB.out))))
              have n1_ := Aside0.mk (blk_below (g := gb248) (o := .cells #[.int .i64 a0_0, .int .i64 a0_1, .int .i64 a0_2, .int .i64 a0_3, .string a0_4, .slice (some ad272) l0_5.length c0_5, .int .u16 a0_6, .int .u16 a0_7, .int .u16 a0_8, .int .i64 a0_9, .int .i64 a0_10] 41 (0, 0)) (by (with_reducible repeat (first | refine blk_drewN ?_ _ | refine blk_drew ?_ | refine blk_alloc ?_ _)); exact BK248.out) hb)
              have n2_ := Aside0.mk (below_step (by repeat (first | (with_reducible first | exact HB.out | apply below_alloc | apply pw_below_drewN | apply below_drew1 | refine below_set ?_ GE248.out) | exact HB.out)) hb)
              clear BK248
              clear HB
              have HO276 := n0_
              have BK248 := n1_
              have HB := n2_
              clear n0_ n1_ n2_
              clear hb ho50
              refine hK.out _ _ ⟨(blk_cell BK248.out 0).trans rfl, (blk_cell BK248.out 1).trans rfl, (blk_cell BK248.out 2).trans rfl, (blk_cell BK248.out 3).trans rfl, (blk_cell BK248.out 4).trans rfl, (blk_cell BK248.out 5).trans rfl, (blk_cell BK248.out 6).trans rfl, (blk_cell BK248.out 7).trans rfl, (blk_cell BK248.out 8).trans rfl, (blk_cell BK248.out 9).trans rfl, (blk_cell BK248.out 10).trans rfl, ((HB.out.cell (World.block_lt_of_cell? w _ hw272_0)).trans hw272_0), ((HB.out.cell (World.block_lt_of_cell? w _ hw273_0)).trans hw273_0)⟩ (fun hHeld => ?_)
              clear hK K
              refine norm_ (a' := ?_) ?_ ?_
              rotate_left
              ·show Act.put _ (some 93) _ = _
               simp only [Act.put, List.setIfInBounds_toArray, List.set_cons_zero, List.set_cons_succ, i64_w, i32_w]
               rfl
              refine pure_ (i := 12) (N := some 5) (v := ?_) (a' := ?_) #[true, true, true, true, true, true, true, true, true, true, true, true, true] rfl rfl (any_of HT_.out (by kernel_rfl)) (fun _ _ _ h => h) (Or.inl ⟨by rfl, ?_⟩) ?_ ?_
              rotate_left
              ·intro w'
               go_simp
               with_reducible rfl
              rotate_left
              ·simp only [Act.put, List.setIfInBounds_toArray, List.set_cons_zero, List.set_cons_succ, i64_w, i32_w]
               rfl
              refine done_ (done_of HT_.out (by kernel_rfl)) ?_
              try go_wp2
              go_meet
              case rel => exact ⟨_, (y274), H', ⟨by have := HJ11.out; have := HJ34.out; first | omega | exact Nat.le_refl _⟩, ⟨by (with_reducible repeat (first | apply Kd.R_alloc | apply Kd.R_drewN | apply Kd.R_drew)); exact HO276.out⟩, ⟨by (with_reducible repeat (first | refine blk_drewN ?_ _ | refine blk_drew ?_ | refine blk_alloc ?_ _)); exact BK248.out⟩, ⟨by repeat (first | (with_reducible first | exact HB.out | apply below_alloc | apply pw_below_drewN | apply below_drew1 | refine below_set ?_ GE248.out) | exact HB.out)⟩⟩
             ·rw [if_neg c47] at H
              exact absurd H (by simp)
            ·rw [if_neg c46] at H
             exact absurd H (by simp)
        ·rw [if_neg c34] at H
         have c34b0 : (a0_0 == 7) = false := beq_eq_false_iff_ne.mpr c34
         have c34b1 : (a0_0 != 7) = true := bne_iff_ne.mpr c34
         by_cases c51 : a0_0 = 8
         ·rw [if_pos c51] at H
          have c51b0 : (a0_0 == 8) = true := beq_iff_eq.mpr c51
          have c51b1 : (a0_0 != 8) = false := bne_eq_false_iff_eq.mpr c51
          clear c51
          obtain ⟨y277, hy277⟩ : ∃ y_ : List Int, y_ = (([12, ((wrap64 (a0_1 - 1)) % 256)] : List Int)) := ⟨_, rfl⟩
          replace H : (antipoderef29_bytes.j2 kj11 y277 a0_0 a0_1 a0_2 a0_3 a0_4 l0_5 a0_6 a0_7 a0_8 a0_9 a0_10) = some (r1, r2) := by first | (rw [hy277]; with_reducible exact H) | (have H2_ := (Option.bind_some _ _).symm.trans H; rw [hy277]; with_reducible exact H2_) | (have H2_ := (Option.bind_some _ _).symm.trans H; with_reducible exact H2_) | with_reducible exact H | (rw [hy277]; exact H) | exact H
          have Ny277 := Aside0.mk hy277
          clear hy277
          have H' := Aside0.mk H
          clear H
          go_wp2_with (first | ((with_reducible refine gate_dst (N := 97) rfl ?_); refine Kd.R_lit (Kd.int .u8) _ 5 ?hg (N := 97) ?hd (xs := ([12, ((wrap64 (a0_1 - 1)) % 256)] : List Int)) (inner := [.int .u8 12, .int .u8 ((wrap64 (a0_1 - 1)) % 256)]) (ok := fun _ => True) (okp := fun _ => True) ?hr ?hp (fun _ hk => hk) trivial (Below.refl _ _) (Nat.le_refl _) (by simp) ?_; (case hd => rfl); (case hg => rfl); (case hr => first | (go_simp; done) | (go_simp; rfl)); (case hp => exact (Reps.one (show Kd.M (Kd.int .u8) _ _ _ 12 [.int .u8 12] from rfl) (Reps.one (show Kd.M (Kd.int .u8) _ _ _ ((wrap64 (a0_1 - 1)) % 256) [.int .u8 ((wrap64 (a0_1 - 1)) % 256)] from rfl) (Reps.none _ _)))); intro v278 w52 ho53 hb hg_ hnew_; clear hg_ hnew_; (first | rw [← Ny277.out] at ho53 | (simp only [Int.reduceToNat] at ho53; rw [← Ny277.out] at ho53)); have n0_ := Aside0.mk (Kd.R_lower ho53 (below_size (by repeat (first | (with_reducible first | exact HB.out | apply below_alloc | apply pw_below_drewN | apply below_drew1 | refine below_set ?_ GE248.out) | exact HB.out)))); have n1_ := Aside0.mk (blk_below (g := gb248) (o := .cells #[.int .i64 a0_0, .int .i64 a0_1, .int .i64 a0_2, .int .i64 a0_3, .string a0_4, .slice A0_5 l0_5.length c0_5, .int .u16 a0_6, .int .u16 a0_7, .int .u16 a0_8, .int .i64 a0_9, .int .i64 a0_10] 41 (0, 0)) (by (with_reducible repeat (first | refine blk_drewN ?_ _ | refine blk_drew ?_ | refine blk_alloc ?_ _)); exact BK248.out) hb); have n2_ := Aside0.mk (below_step (by repeat (first | (with_reducible first | exact HB.out | apply below_alloc | apply pw_below_drewN | apply below_drew1 | refine below_set ?_ GE248.out) | exact HB.out)) hb); clear BK248; clear HB; have HO279 := n0_; have BK248 := n1_; have HB := n2_; clear n0_ n1_ n2_; clear hb ho53))
          go_meet
          case rel => exact ⟨_, (y277), H', ⟨by have := HJ11.out; first | omega | exact Nat.le_refl _⟩, ⟨by (with_reducible repeat (first | apply Kd.R_alloc | apply Kd.R_drewN | apply Kd.R_drew)); exact HO279.out⟩, ⟨by (with_reducible repeat (first | refine blk_drewN ?_ _ | refine blk_drew ?_ | refine blk_alloc ?_ _)); exact BK248.out⟩, ⟨by repeat (first | (with_reducible first | exact HB.out | apply below_alloc | apply pw_below_drewN | apply below_drew1 | refine below_set ?_ GE248.out) | exact HB.out)⟩⟩
         ·rw [if_neg c51] at H
          have c51b0 : (a0_0 == 8) = false := beq_eq_false_iff_ne.mpr c51
          have c51b1 : (a0_0 != 8) = true := bne_iff_ne.mpr c51
          by_cases c54 : a0_0 = 9
          ·rw [if_pos c54] at H
           have c54b0 : (a0_0 == 9) = true := beq_iff_eq.mpr c54
           have c54b1 : (a0_0 != 9) = false := bne_eq_false_iff_eq.mpr c54
           clear c54
           obtain ⟨y280, hy280⟩ : ∃ y_ : List Int, y_ = (([13, ((wrap64 (a0_1 - 1)) % 256), (a0_2) % 256] : List Int)) := ⟨_, rfl⟩
           replace H : (antipoderef29_bytes.j2 kj11 y280 a0_0 a0_1 a0_2 a0_3 a0_4 l0_5 a0_6 a0_7 a0_8 a0_9 a0_10) = some (r1, r2) := by first | (rw [hy280]; with_reducible exact H) | (have H2_ := (Option.bind_some _ _).symm.trans H; rw [hy280]; with_reducible exact H2_) | (have H2_ := (Option.bind_some _ _).symm.trans H; with_reducible exact H2_) | with_reducible exact H | (rw [hy280]; exact H) | exact H
           have Ny280 := Aside0.mk hy280
           clear hy280
           have H' := Aside0.mk H
           clear H
           have hcz55_0 : wc.cell? ⟨gb248, 0, none⟩ = some (.int .i64 a0_0) := (blk_cell BK248.out 0).trans rfl
           have hcz55_1 : wc.cell? ⟨gb248, 1, none⟩ = some (.int .i64 a0_1) := (blk_cell BK248.out 1).trans rfl
           have hcz55_2 : wc.cell? ⟨gb248, 2, none⟩ = some (.int .i64 a0_2) := (blk_cell BK248.out 2).trans rfl
           have hcz55_3 : wc.cell? ⟨gb248, 3, none⟩ = some (.int .i64 a0_3) := (blk_cell BK248.out 3).trans rfl
           have hcz55_4 : wc.cell? ⟨gb248, 4, none⟩ = some (.string a0_4) := (blk_cell BK248.out 4).trans rfl
           have hcz55_5 : wc.cell? ⟨gb248, 5, none⟩ = some (.slice A0_5 l0_5.length c0_5) := (blk_cell BK248.out 5).trans rfl
           have hcz55_6 : wc.cell? ⟨gb248, 6, none⟩ = some (.int .u16 a0_6) := (blk_cell BK248.out 6).trans rfl
           have hcz55_7 : wc.cell? ⟨gb248, 7, none⟩ = some (.int .u16 a0_7) := (blk_cell BK248.out 7).trans rfl
           have hcz55_8 : wc.cell? ⟨gb248, 8, none⟩ = some (.int .u16 a0_8) := (blk_cell BK248.out 8).trans rfl
           have hcz55_9 : wc.cell? ⟨gb248, 9, none⟩ = some (.int .i64 a0_9) := (blk_cell BK248.out 9).trans rfl
           have hcz55_10 : wc.cell? ⟨gb248, 10, none⟩ = some (.int .i64 a0_10) := (blk_cell BK248.out 10).trans rfl
           have hfz55_0 := blk_frozen BK248.out 0
           have hfz55_1 := blk_frozen BK248.out 1
           have hfz55_2 := blk_frozen BK248.out 2
           have hfz55_3 := blk_frozen BK248.out 3
           have hfz55_4 := blk_frozen BK248.out 4
           have hfz55_5 := blk_frozen BK248.out 5
           have hfz55_6 := blk_frozen BK248.out 6
           have hfz55_7 := blk_frozen BK248.out 7
           have hfz55_8 := blk_frozen BK248.out 8
           have hfz55_9 := blk_frozen BK248.out 9
           have hfz55_10 := blk_frozen BK248.out 10
           go_wp2_with (first | ((with_reducible refine gate_dst (N := 104) rfl ?_); refine Kd.R_lit (Kd.int .u8) _ 5 ?hg (N := 104) ?hd (xs := ([13, ((wrap64 (a0_1 - 1)) % 256), (a0_2) % 256] : List Int)) (inner := [.int .u8 13, .int .u8 ((wrap64 (a0_1 - 1)) % 256), .int .u8 ((a0_2) % 256)]) (ok := fun _ => True) (okp := fun _ => True) ?hr ?hp (fun _ hk => hk) trivial (Below.refl _ _) (Nat.le_refl _) (by simp) ?_; (case hd => rfl); (case hg => rfl); (case hr => first | (go_simp; done) | (go_simp; rfl)); (case hp => exact (Reps.one (show Kd.M (Kd.int .u8) _ _ _ 13 [.int .u8 13] from rfl) (Reps.one (show Kd.M (Kd.int .u8) _ _ _ ((wrap64 (a0_1 - 1)) % 256) [.int .u8 ((wrap64 (a0_1 - 1)) % 256)] from rfl) (Reps.one (show Kd.M (Kd.int .u8) _ _ _ ((a0_2) % 256) [.int .u8 ((a0_2) % 256)] from rfl) (Reps.none _ _))))); intro v281 w56 ho57 hb hg_ hnew_; clear hg_ hnew_; (first | rw [← Ny280.out] at ho57 | (simp only [Int.reduceToNat] at ho57; rw [← Ny280.out] at ho57)); have n0_ := Aside0.mk (Kd.R_lower ho57 (below_size (by repeat (first | (with_reducible first | exact HB.out | apply below_alloc | apply pw_below_drewN | apply below_drew1 | refine below_set ?_ GE248.out) | exact HB.out)))); have n1_ := Aside0.mk (blk_below (g := gb248) (o := .cells #[.int .i64 a0_0, .int .i64 a0_1, .int .i64 a0_2, .int .i64 a0_3, .string a0_4, .slice A0_5 l0_5.length c0_5, .int .u16 a0_6, .int .u16 a0_7, .int .u16 a0_8, .int .i64 a0_9, .int .i64 a0_10] 41 (0, 0)) (by (with_reducible repeat (first | refine blk_drewN ?_ _ | refine blk_drew ?_ | refine blk_alloc ?_ _)); exact BK248.out) hb); have n2_ := Aside0.mk (below_step (by repeat (first | (with_reducible first | exact HB.out | apply below_alloc | apply pw_below_drewN | apply below_drew1 | refine below_set ?_ GE248.out) | exact HB.out)) hb); clear BK248; clear HB; have HO282 := n0_; have BK248 := n1_; have HB := n2_; clear n0_ n1_ n2_; clear hb ho57))
           go_meet
           case rel => exact ⟨_, (y280), H', ⟨by have := HJ11.out; first | omega | exact Nat.le_refl _⟩, ⟨by (with_reducible repeat (first | apply Kd.R_alloc | apply Kd.R_drewN | apply Kd.R_drew)); exact HO282.out⟩, ⟨by (with_reducible repeat (first | refine blk_drewN ?_ _ | refine blk_drew ?_ | refine blk_alloc ?_ _)); exact BK248.out⟩, ⟨by repeat (first | (with_reducible first | exact HB.out | apply below_alloc | apply pw_below_drewN | apply below_drew1 | refine below_set ?_ GE248.out) | exact HB.out)⟩⟩
          ·rw [if_neg c54] at H
           have c54b0 : (a0_0 == 9) = false := beq_eq_false_iff_ne.mpr c54
           have c54b1 : (a0_0 != 9) = true := bne_iff_ne.mpr c54
           by_cases c58 : a0_0 = 12
           ·rw [if_pos c58] at H
            have c58b0 : (a0_0 == 12) = true := beq_iff_eq.mpr c58
            have c58b1 : (a0_0 != 12) = false := bne_eq_false_iff_eq.mpr c58
            clear c58
            obtain ⟨y283, hy283⟩ : ∃ y_ : List Int, y_ = (([14, ((wrap64 (a0_1 - 1)) % 256), (a0_2) % 256, (wrap64 (Int.tdiv a0_3 256)) % 256, (Int.tmod a0_3 256) % 256] : List Int)) := ⟨_, rfl⟩
            replace H : (antipoderef29_bytes.j2 kj11 y283 a0_0 a0_1 a0_2 a0_3 a0_4 l0_5 a0_6 a0_7 a0_8 a0_9 a0_10) = some (r1, r2) := by first | (rw [hy283]; with_reducible exact H) | (have H2_ := (Option.bind_some _ _).symm.trans H; rw [hy283]; with_reducible exact H2_) | (have H2_ := (Option.bind_some _ _).symm.trans H; with_reducible exact H2_) | with_reducible exact H | (rw [hy283]; exact H) | exact H
            have Ny283 := Aside0.mk hy283
            clear hy283
            have H' := Aside0.mk H
            clear H
            have hcz59_0 : wc.cell? ⟨gb248, 0, none⟩ = some (.int .i64 a0_0) := (blk_cell BK248.out 0).trans rfl
            have hcz59_1 : wc.cell? ⟨gb248, 1, none⟩ = some (.int .i64 a0_1) := (blk_cell BK248.out 1).trans rfl
            have hcz59_2 : wc.cell? ⟨gb248, 2, none⟩ = some (.int .i64 a0_2) := (blk_cell BK248.out 2).trans rfl
            have hcz59_3 : wc.cell? ⟨gb248, 3, none⟩ = some (.int .i64 a0_3) := (blk_cell BK248.out 3).trans rfl
            have hcz59_4 : wc.cell? ⟨gb248, 4, none⟩ = some (.string a0_4) := (blk_cell BK248.out 4).trans rfl
            have hcz59_5 : wc.cell? ⟨gb248, 5, none⟩ = some (.slice A0_5 l0_5.length c0_5) := (blk_cell BK248.out 5).trans rfl
            have hcz59_6 : wc.cell? ⟨gb248, 6, none⟩ = some (.int .u16 a0_6) := (blk_cell BK248.out 6).trans rfl
            have hcz59_7 : wc.cell? ⟨gb248, 7, none⟩ = some (.int .u16 a0_7) := (blk_cell BK248.out 7).trans rfl
            have hcz59_8 : wc.cell? ⟨gb248, 8, none⟩ = some (.int .u16 a0_8) := (blk_cell BK248.out 8).trans rfl
            have hcz59_9 : wc.cell? ⟨gb248, 9, none⟩ = some (.int .i64 a0_9) := (blk_cell BK248.out 9).trans rfl
            have hcz59_10 : wc.cell? ⟨gb248, 10, none⟩ = some (.int .i64 a0_10) := (blk_cell BK248.out 10).trans rfl
            have hfz59_0 := blk_frozen BK248.out 0
            have hfz59_1 := blk_frozen BK248.out 1
            have hfz59_2 := blk_frozen BK248.out 2
            have hfz59_3 := blk_frozen BK248.out 3
            have hfz59_4 := blk_frozen BK248.out 4
            have hfz59_5 := blk_frozen BK248.out 5
            have hfz59_6 := blk_frozen BK248.out 6
            have hfz59_7 := blk_frozen BK248.out 7
            have hfz59_8 := blk_frozen BK248.out 8
            have hfz59_9 := blk_frozen BK248.out 9
            have hfz59_10 := blk_frozen BK248.out 10
            go_wp2_with (first | ((with_reducible refine gate_dst (N := 119) rfl ?_); refine Kd.R_lit (Kd.int .u8) _ 5 ?hg (N := 119) ?hd (xs := ([14, ((wrap64 (a0_1 - 1)) % 256), (a0_2) % 256, (wrap64 (Int.tdiv a0_3 256)) % 256, (Int.tmod a0_3 256) % 256] : List Int)) (inner := [.int .u8 14, .int .u8 ((wrap64 (a0_1 - 1)) % 256), .int .u8 ((a0_2) % 256), .int .u8 ((wrap64 (Int.tdiv a0_3 256)) % 256), .int .u8 ((Int.tmod a0_3 256) % 256)]) (ok := fun _ => True) (okp := fun _ => True) ?hr ?hp (fun _ hk => hk) trivial (Below.refl _ _) (Nat.le_refl _) (by simp) ?_; (case hd => rfl); (case hg => rfl); (case hr => first | (go_simp; done) | (go_simp; rfl)); (case hp => exact (Reps.one (show Kd.M (Kd.int .u8) _ _ _ 14 [.int .u8 14] from rfl) (Reps.one (show Kd.M (Kd.int .u8) _ _ _ ((wrap64 (a0_1 - 1)) % 256) [.int .u8 ((wrap64 (a0_1 - 1)) % 256)] from rfl) (Reps.one (show Kd.M (Kd.int .u8) _ _ _ ((a0_2) % 256) [.int .u8 ((a0_2) % 256)] from rfl) (Reps.one (show Kd.M (Kd.int .u8) _ _ _ ((wrap64 (Int.tdiv a0_3 256)) % 256) [.int .u8 ((wrap64 (Int.tdiv a0_3 256)) % 256)] from rfl) (Reps.one (show Kd.M (Kd.int .u8) _ _ _ ((Int.tmod a0_3 256) % 256) [.int .u8 ((Int.tmod a0_3 256) % 256)] from rfl) (Reps.none _ _))))))); intro v284 w60 ho61 hb hg_ hnew_; clear hg_ hnew_; (first | rw [← Ny283.out] at ho61 | (simp only [Int.reduceToNat] at ho61; rw [← Ny283.out] at ho61)); have n0_ := Aside0.mk (Kd.R_lower ho61 (below_size (by repeat (first | (with_reducible first | exact HB.out | apply below_alloc | apply pw_below_drewN | apply below_drew1 | refine below_set ?_ GE248.out) | exact HB.out)))); have n1_ := Aside0.mk (blk_below (g := gb248) (o := .cells #[.int .i64 a0_0, .int .i64 a0_1, .int .i64 a0_2, .int .i64 a0_3, .string a0_4, .slice A0_5 l0_5.length c0_5, .int .u16 a0_6, .int .u16 a0_7, .int .u16 a0_8, .int .i64 a0_9, .int .i64 a0_10] 41 (0, 0)) (by (with_reducible repeat (first | refine blk_drewN ?_ _ | refine blk_drew ?_ | refine blk_alloc ?_ _)); exact BK248.out) hb); have n2_ := Aside0.mk (below_step (by repeat (first | (with_reducible first | exact HB.out | apply below_alloc | apply pw_below_drewN | apply below_drew1 | refine below_set ?_ GE248.out) | exact HB.out)) hb); clear BK248; clear HB; have HO285 := n0_; have BK248 := n1_; have HB := n2_; clear n0_ n1_ n2_; clear hb ho61))
            go_meet
            case rel => exact ⟨_, (y283), H', ⟨by have := HJ11.out; first | omega | exact Nat.le_refl _⟩, ⟨by (with_reducible repeat (first | apply Kd.R_alloc | apply Kd.R_drewN | apply Kd.R_drew)); exact HO285.out⟩, ⟨by (with_reducible repeat (first | refine blk_drewN ?_ _ | refine blk_drew ?_ | refine blk_alloc ?_ _)); exact BK248.out⟩, ⟨by repeat (first | (with_reducible first | exact HB.out | apply below_alloc | apply pw_below_drewN | apply below_drew1 | refine below_set ?_ GE248.out) | exact HB.out)⟩⟩
           ·rw [if_neg c58] at H
            have c58b0 : (a0_0 == 12) = false := beq_eq_false_iff_ne.mpr c58
            have c58b1 : (a0_0 != 12) = true := bne_iff_ne.mpr c58
            simp only [Option.some.injEq, Prod.mk.injEq] at H
            obtain ⟨rfl, rfl⟩ := H
            go_wp2
            go_ret2
            exact ⟨_, by first | rfl | (simp [errW_none, errW_some] <;> rfl) | (simp [*, errW_none, errW_some] <;> rfl), by first | exact Kd.R_nil _ _ _ _ _ | exact Kd.N_nil _ _ _ _ _ | exact Kd.V_nil _ _ _ _ _ | exact Kd.Q_nil _ _ _ _ _ | exact Kd.S_nil _ _ _ _ _, by repeat (first | (with_reducible first | exact HB.out | apply below_alloc | apply pw_below_drewN | apply below_drew1 | refine below_set ?_ GE248.out) | exact HB.out)⟩
 case rest =>
  clear HC2
  try clear c1
  try clear c2
  try clear p2
  try clear q2
  try clear hx2
  try clear qi2
  try clear c3
  try clear c4
  try clear c5
  try clear c5b0
  try clear c5b1
  try clear p6
  try clear c8
  try clear c8b0
  try clear c8b1
  try clear c13
  try clear c13b0
  try clear c13b1
  try clear c14
  try clear c14b0
  try clear c14b1
  try clear c15
  try clear c17
  try clear c17b0
  try clear c18
  try clear c18b0
  try clear c22
  try clear c25
  try clear c25b0
  try clear c25b1
  try clear p25
  try clear q25
  try clear hx25
  try clear c26
  try clear c26b0
  try clear c26b1
  try clear p26
  try clear q26
  try clear hx26
  try clear qi26
  try clear p27
  try clear q27
  try clear hx27
  try clear qi27
  try clear c28
  try clear c34
  try clear c34b0
  try clear c34b1
  try clear c36
  try clear c36b0
  try clear c36b1
  try clear c37
  try clear c37b0
  try clear c37b1
  try clear c39
  try clear c40
  try clear c40b0
  try clear c40b1
  try clear c45
  try clear c46
  try clear c46b0
  try clear c46b1
  try clear c47
  try clear c47b0
  try clear c47b1
  try clear c51
  try clear c51b0
  try clear c51b1
  try clear c54
  try clear c54b0
  try clear c54b1
  try clear c58
  try clear c58b0
  try clear c58b1
  try clear hcz21_0
  try clear hcz21_1
  try clear hcz21_10
  try clear hcz21_2
  try clear hcz21_3
  try clear hcz21_4
  try clear hcz21_5
  try clear hcz21_6
  try clear hcz21_7
  try clear hcz21_8
  try clear hcz21_9
  try clear hcz27_0
  try clear hcz27_1
  try clear hcz27_10
  try clear hcz27_2
  try clear hcz27_3
  try clear hcz27_4
  try clear hcz27_5
  try clear hcz27_6
  try clear hcz27_7
  try clear hcz27_8
  try clear hcz27_9
  try clear hcz29_0
  try clear hcz29_1
  try clear hcz29_10
  try clear hcz29_2
  try clear hcz29_3
  try clear hcz29_4
  try clear hcz29_5
  try clear hcz29_6
  try clear hcz29_7
  try clear hcz29_8
  try clear hcz29_9
  try clear hcz32_0
  try clear hcz32_1
  try clear hcz32_10
  try clear hcz32_2
  try clear hcz32_3
  try clear hcz32_4
  try clear hcz32_5
  try clear hcz32_6
  try clear hcz32_7
  try clear hcz32_8
  try clear hcz32_9
  try clear hcz42_0
  try clear hcz42_1
  try clear hcz42_10
  try clear hcz42_2
  try clear hcz42_3
  try clear hcz42_4
  try clear hcz42_5
  try clear hcz42_6
  try clear hcz42_7
  try clear hcz42_8
  try clear hcz42_9
  try clear hcz43_0
  try clear hcz43_1
  try clear hcz43_10
  try clear hcz43_2
  try clear hcz43_3
  try clear hcz43_4
  try clear hcz43_5
  try clear hcz43_6
  try clear hcz43_7
  try clear hcz43_8
  try clear hcz43_9
  try clear hcz44_0
  try clear hcz44_1
  try clear hcz44_10
  try clear hcz44_2
  try clear hcz44_3
  try clear hcz44_4
  try clear hcz44_5
  try clear hcz44_6
  try clear hcz44_7
  try clear hcz44_8
  try clear hcz44_9
  try clear hcz4_0
  try clear hcz4_1
  try clear hcz4_10
  try clear hcz4_2
  try clear hcz4_3
  try clear hcz4_4
  try clear hcz4_5
  try clear hcz4_6
  try clear hcz4_7
  try clear hcz4_8
  try clear hcz4_9
  try clear hcz55_0
  try clear hcz55_1
  try clear hcz55_10
  try clear hcz55_2
  try clear hcz55_3
  try clear hcz55_4
  try clear hcz55_5
  try clear hcz55_6
  try clear hcz55_7
  try clear hcz55_8
  try clear hcz55_9
  try clear hcz59_0
  try clear hcz59_1
  try clear hcz59_10
  try clear hcz59_2
  try clear hcz59_3
  try clear hcz59_4
  try clear hcz59_5
  try clear hcz59_6
  try clear hcz59_7
  try clear hcz59_8
  try clear hcz59_9
  try clear hcz9_0
  try clear hcz9_1
  try clear hcz9_10
  try clear hcz9_2
  try clear hcz9_3
  try clear hcz9_4
  try clear hcz9_5
  try clear hcz9_6
  try clear hcz9_7
  try clear hcz9_8
  try clear hcz9_9
  try clear hfz21_0
  try clear hfz21_1
  try clear hfz21_10
  try clear hfz21_2
  try clear hfz21_3
  try clear hfz21_4
  try clear hfz21_5
  try clear hfz21_6
  try clear hfz21_7
  try clear hfz21_8
  try clear hfz21_9
  try clear hfz27_0
  try clear hfz27_1
  try clear hfz27_10
  try clear hfz27_2
  try clear hfz27_3
  try clear hfz27_4
  try clear hfz27_5
  try clear hfz27_6
  try clear hfz27_7
  try clear hfz27_8
  try clear hfz27_9
  try clear hfz29_0
  try clear hfz29_1
  try clear hfz29_10
  try clear hfz29_2
  try clear hfz29_3
  try clear hfz29_4
  try clear hfz29_5
  try clear hfz29_6
  try clear hfz29_7
  try clear hfz29_8
  try clear hfz29_9
  try clear hfz32_0
  try clear hfz32_1
  try clear hfz32_10
  try clear hfz32_2
  try clear hfz32_3
  try clear hfz32_4
  try clear hfz32_5
  try clear hfz32_6
  try clear hfz32_7
  try clear hfz32_8
  try clear hfz32_9
  try clear hfz42_0
  try clear hfz42_1
  try clear hfz42_10
  try clear hfz42_2
  try clear hfz42_3
  try clear hfz42_4
  try clear hfz42_5
  try clear hfz42_6
  try clear hfz42_7
  try clear hfz42_8
  try clear hfz42_9
  try clear hfz43_0
  try clear hfz43_1
  try clear hfz43_10
  try clear hfz43_2
  try clear hfz43_3
  try clear hfz43_4
  try clear hfz43_5
  try clear hfz43_6
  try clear hfz43_7
  try clear hfz43_8
  try clear hfz43_9
  try clear hfz44_0
  try clear hfz44_1
  try clear hfz44_10
  try clear hfz44_2
  try clear hfz44_3
  try clear hfz44_4
  try clear hfz44_5
  try clear hfz44_6
  try clear hfz44_7
  try clear hfz44_8
  try clear hfz44_9
  try clear hfz4_0
  try clear hfz4_1
  try clear hfz4_10
  try clear hfz4_2
  try clear hfz4_3
  try clear hfz4_4
  try clear hfz4_5
  try clear hfz4_6
  try clear hfz4_7
  try clear hfz4_8
  try clear hfz4_9
  try clear hfz55_0
  try clear hfz55_1
  try clear hfz55_10
  try clear hfz55_2
  try clear hfz55_3
  try clear hfz55_4
  try clear hfz55_5
  try clear hfz55_6
  try clear hfz55_7
  try clear hfz55_8
  try clear hfz55_9
  try clear hfz59_0
  try clear hfz59_1
  try clear hfz59_10
  try clear hfz59_2
  try clear hfz59_3
  try clear hfz59_4
  try clear hfz59_5
  try clear hfz59_6
  try clear hfz59_7
  try clear hfz59_8
  try clear hfz59_9
  try clear hfz9_0
  try clear hfz9_1
  try clear hfz9_10
  try clear hfz9_2
  try clear hfz9_3
  try clear hfz9_4
  try clear hfz9_5
  try clear hfz9_6
  try clear hfz9_7
  try clear hfz9_8
  try clear hfz9_9
  try clear hx258_0
  try clear hx268_0
  try clear hx270_0
  try clear hx272_0
  try clear hx273_0
  try clear p2
  try clear p25
  try clear p258
  try clear p26
  try clear p268
  try clear p27
  try clear p270
  try clear p272
  try clear p273
  try clear p6
  try clear q2
  try clear q25
  try clear q258
  try clear q26
  try clear q268
  try clear q27
  try clear q270
  try clear q272
  try clear q273
  obtain ⟨kq, x5_1, HA, HJ1, HO_5, BK248, HB⟩ := hcut
  cases kq with
  | zero => exact absurd HA.out (by simp [antipoderef29_bytes.j2])
  | succ kj1 =>
   have H := HA.out
   clear HA
   simp only [antipoderef29_bytes.j2] at H
   replace H := Option.bind_eq_some_iff.mp H
   obtain ⟨t286, A620, H⟩ := H
   replace H : (if (t286.length : Int) = 1 then (if 0 < (t286.length : Int) then ((antipoderef29_Same.f kj1 ((rd_T41 t286 0).f0) ((rd_T41 t286 0).f1) ((rd_T41 t286 0).f2) ((rd_T41 t286 0).f3) ((rd_T41 t286 0).f4) ((rd_T41 t286 0).f5) ((rd_T41 t286 0).f6.f0) ((rd_T41 t286 0).f6.f1) ((rd_T41 t286 0).f6.f2) ((rd_T41 t286 0).f6.f3) ((rd_T41 t286 0).f6.f4) a0_0 a0_1 a0_2 a0_3 a0_4 l0_5 a0_6 a0_7 a0_8 a0_9 a0_10).bind fun t290 => (some (x5_1, t290))) else (none)) else (some (x5_1, false))) = some (r1, r2) := H
   have A62 := Aside0.mk A620
   clear A620
   by_cases c63 : (t286.length : Int) = 1
   ·rw [if_pos c63] at H
    have c63b0 : ((t286.length : Int) == 1) = true := beq_iff_eq.mpr c63
    have c63b1 : ((t286.length : Int) != 1) = false := bne_eq_false_iff_eq.mpr c63
    clear c63
    by_cases c64 : 0 < (t286.length : Int)
    ·rw [if_pos c64] at H
     have c64b0 : decide (0 < (t286.length : Int)) = true := decide_eq_true c64
     have c64b1 : decide (0 < t286.length) = true := decide_eq_true (by omega)
     clear c64
     replace H := Option.bind_eq_some_iff.mp H
     obtain ⟨t290, A650, H⟩ := H
     replace H : (some (x5_1, t290)) = some (r1, r2) := H
     have A65 := Aside0.mk A650
     clear A650
     simp only [Option.some.injEq, Prod.mk.injEq] at H
     obtain ⟨rfl, rfl⟩ := H
     obtain ⟨Ao66, co66, eo66⟩ := Kd.R_slice HO_5.out
     subst eo66
     try go_wp2_with (first | ((with_reducible refine gate_callee (f := 13) rfl ?_); refine goesL_ (some 121) rfl rfl Try.func13 (by kernel_rfl) rfl #[.slice Ao66 x5_1.length co66, .int .i64 9] rfl (by (try simp only [List.map_toArray, List.map_cons, List.map_nil]); first | done | rfl | (simp only [List.length_drop, List.length_take]; rfl)) ?_; (with_reducible refine (antipoderef29_Decode.calls kj1 (fun k_ => some k_ = (.slice Ao66 x5_1.length co66 : Value).ownBlock) _ _ x5_1 9 t286 _ ?side1 A62.out).mono ?_); (case side1 => exact Kd.R_V (Kd.R_tight rfl (Kd.R_types (HO_5.out) BK248.out (by decide)))); rintro e w67 ⟨v287, rfl, ho0, hb⟩; refine ⟨_, rfl, ?_⟩; have n0_ := Aside0.mk (Kd.R_below (by (with_reducible repeat (first | apply Kd.R_alloc | apply Kd.R_drewN | apply Kd.R_drew)); exact HO_5.out) hb); have n1_ := Aside0.mk (Kd.S_lower (Kd.S_newB (Kd.S_mono (ok' := fun k_ => True) ho0 (fun _ hk_ => trivial)) (g := gb248) (o := .cells #[.int .i64 a0_0, .int .i64 a0_1, .int .i64 a0_2, .int .i64 a0_3, .string a0_4, .slice A0_5 l0_5.length c0_5, .int .u16 a0_6, .int .u16 a0_7, .int .u16 a0_8, .int .i64 a0_9, .int .i64 a0_10] 41 (0, 0)) (by (with_reducible repeat (first | refine blk_drewN ?_ _ | refine blk_drew ?_ | refine blk_alloc ?_ _)); exact BK248.out)) (below_size (by repeat (first | (with_reducible first | exact HB.out | apply below_alloc | apply pw_below_drewN | apply below_drew1 | refine below_set ?_ GE248.out) | exact HB.out)))); have n2_ := Aside0.mk (blk_below (g := gb248) (o := .cells #[.int .i64 a0_0, .int .i64 a0_1, .int .i64 a0_2, .int .i64 a0_3, .string a0_4, .slice A0_5 l0_5.length c0_5, .int .u16 a0_6, .int .u16 a0_7, .int .u16 a0_8, .int .i64 a0_9, .int .i64 a0_10] 41 (0, 0)) (by (with_reducible repeat (first | refine blk_drewN ?_ _ | refine blk_drew ?_ | refine blk_alloc ?_ _)); exact BK248.out) hb); have n3_ := Aside0.mk (below_step (by repeat (first | (with_reducible first | exact HB.out | apply below_alloc | apply pw_below_drewN | apply below_drew1 | refine below_set ?_ GE248.out) | exact HB.out)) hb); clear HO_5; clear BK248; clear HB; have HO_5 := n0_; have HO288 := n1_; have BK248 := n2_; have HB := n3_; clear n0_ n1_ n2_ n3_; (try clear hb); (try clear hb2); (try clear hk); (try clear hi); (try clear ho0)))
     have n0_ := Aside0.mk (Kd.R_drew HO_5.out)
     have n1_ := Aside0.mk (Kd.S_drew HO288.out)
     have n2_ := Aside0.mk (blk_drew BK248.out)
     have n3_ := Aside0.mk (below_drew1 HB.out)
     clear HO_5
     clear HO288
     clear BK248
     clear HB
     have HO_5 := n0_
     have HO288 := n1_
     have BK248 := n2_
     have HB := n3_
     clear n0_ n1_ n2_ n3_
     obtain ⟨Ao69, co69, eo69⟩ := Kd.S_slice HO288.out
     (first | subst eo69 | (injection eo69 with f1_ f2_ f3_; have f4_ := f1_.symm; have f5_ := f3_.symm; clear f1_ f2_ f3_; subst f4_; subst f5_))
     have p289 : 0 ≤ (0 : Int) := (by omega)
     have q289 : 0 < (t286.length : Int) := of_decide_eq_true (by first | (with_reducible assumption) | assumption)
     obtain ⟨ad289, A289_5, c289_5, e289, hx289_0, hx289_1, hx289_2, hx289_3, hx289_4, hx289_5, hx289_6, hx289_7, hx289_8, hx289_9, hx289_10, hl289_5, hi289_5⟩ := at_T41 (Kd.S_reads' HO288.out).2.2 0 p289 q289
     cases e289
     obtain ⟨ce289, hce289, hMe289, hcc289⟩ := Kd.S_get HO288.out z41 0 p289 (by first | exact q289 | exact of_decide_eq_true (by first | (with_reducible assumption) | assumption) | (have e_ := (Kd.S_reads' HO288.out).1; omega))
     obtain ⟨ve289_5, rfl, ge289_5⟩ := k41_openM hMe289
     have hv289_5 := hcc289 5 _ rfl
     rw [add_field _ _ 5 (by omega)] at hv289_5
     replace hv289_5 := Option.some.inj (hv289_5.symm.trans hx289_5)
     rw [hv289_5] at ge289_5
     have HL289_5 := Aside0.mk (show Kd.R (Kd.int .i64) 3 _ _ _ _ ((rd_T41 t286 0).f5) from ge289_5)
     clear hv289_5 ge289_5
     clear hcc289 hce289
     have qi289 : (0 < t286.length) = True := eq_true (by omega)
     (try rw [show ((0 : Int)).toNat = 0 from rfl] at hx289_0)
     (try rw [show 0 * 11 = 0 from rfl] at hx289_0)
     (try rw [Addr.add_zero'] at hx289_0)
     (try rw [show ((0 : Int)).toNat = 0 from rfl] at hx289_1)
     (try rw [show 0 * 11 = 0 from rfl] at hx289_1)
     (try rw [Addr.add_zero'] at hx289_1)
     (try rw [show ((0 : Int)).toNat = 0 from rfl] at hx289_2)
     (try rw [show 0 * 11 = 0 from rfl] at hx289_2)
     (try rw [Addr.add_zero'] at hx289_2)
     (try rw [show ((0 : Int)).toNat = 0 from rfl] at hx289_3)
     (try rw [show 0 * 11 = 0 from rfl] at hx289_3)
     (try rw [Addr.add_zero'] at hx289_3)
     (try rw [show ((0 : Int)).toNat = 0 from rfl] at hx289_4)
     (try rw [show 0 * 11 = 0 from rfl] at hx289_4)
     (try rw [Addr.add_zero'] at hx289_4)
     (try rw [show ((0 : Int)).toNat = 0 from rfl] at hx289_5)
     (try rw [show 0 * 11 = 0 from rfl] at hx289_5)
     (try rw [Addr.add_zero'] at hx289_5)
     (try rw [show ((0 : Int)).toNat = 0 from rfl] at hx289_6)
     (try rw [show 0 * 11 = 0 from rfl] at hx289_6)
     (try rw [Addr.add_zero'] at hx289_6)
     (try rw [show ((0 : Int)).toNat = 0 from rfl] at hx289_7)
     (try rw [show 0 * 11 = 0 from rfl] at hx289_7)
     (try rw [Addr.add_zero'] at hx289_7)
     (try rw [show ((0 : Int)).toNat = 0 from rfl] at hx289_8)
     (try rw [show 0 * 11 = 0 from rfl] at hx289_8)
     (try rw [Addr.add_zero'] at hx289_8)
     (try rw [show ((0 : Int)).toNat = 0 from rfl] at hx289_9)
     (try rw [show 0 * 11 = 0 from rfl] at hx289_9)
     (try rw [Addr.add_zero'] at hx289_9)
     (try rw [show ((0 : Int)).toNat = 0 from rfl] at hx289_10)
     (try rw [show 0 * 11 = 0 from rfl] at hx289_10)
     (try rw [Addr.add_zero'] at hx289_10)
     have HR289_5 := Aside0.mk hi289_5
     have HC289_5 := Aside0.mk hl289_5
     clear hi289_5 hl289_5
     replace p289 := eq_true p289
     replace q289 := eq_true q289
     refine start_ (n := 13) (S := fun w' => w'.cell? ⟨gb248, 0, none⟩ = some (.int .i64 a0_0) ∧ w'.cell? ⟨gb248, 1, none⟩ = some (.int .i64 a0_1) ∧ w'.cell? ⟨gb248, 2, none⟩ = some (.int .i64 a0_2) ∧ w'.cell? ⟨gb248, 3, none⟩ = some (.int .i64 a0_3) ∧ w'.cell? ⟨gb248, 4, none⟩ = some (.string a0_4) ∧ w'.cell? ⟨gb248, 5, none⟩ = some (.slice A0_5 l0_5.length c0_5) ∧ w'.cell? ⟨gb248, 6, none⟩ = some (.int .u16 a0_6) ∧ w'.cell? ⟨gb248, 7, none⟩ = some (.int .u16 a0_7) ∧ w'.cell? ⟨gb248, 8, none⟩ = some (.int .u16 a0_8) ∧ w'.cell? ⟨gb248, 9, none⟩ = some (.int .i64 a0_9) ∧ w'.cell? ⟨gb248, 10, none⟩ = some (.int .i64 a0_10) ∧ w'.cell? ad289 = some (.int .i64 ((rd_T41 t286 0).f0)) ∧ w'.cell? ⟨ad289.block, ad289.off + 1, none⟩ = some (.int .i64 ((rd_T41 t286 0).f1)) ∧ w'.cell? ⟨ad289.block, ad289.off + 2, none⟩ = some (.int .i64 ((rd_T41 t286 0).f2)) ∧ w'.cell? ⟨ad289.block, ad289.off + 3, none⟩ = some (.int .i64 ((rd_T41 t286 0).f3)) ∧ w'.cell? ⟨ad289.block, ad289.off + 4, none⟩ = some (.string ((rd_T41 t286 0).f4)) ∧ w'.cell? ⟨ad289.block, ad289.off + 5, none⟩ = some (.slice A289_5 ((rd_T41 t286 0).f5).length c289_5) ∧ w'.cell? ⟨ad289.block, ad289.off + 6, none⟩ = some (.int .u16 ((rd_T41 t286 0).f6.f0)) ∧ w'.cell? ⟨ad289.block, ad289.off + 7, none⟩ = some (.int .u16 ((rd_T41 t286 0).f6.f1)) ∧ w'.cell? ⟨ad289.block, ad289.off + 8, none⟩ = some (.int .u16 ((rd_T41 t286 0).f6.f2)) ∧ w'.cell? ⟨ad289.block, ad289.off + 9, none⟩ = some (.int .i64 ((rd_T41 t286 0).f6.f3)) ∧ w'.cell? ⟨ad289.block, ad289.off + 10, none⟩ = some (.int .i64 ((rd_T41 t286 0).f6.f4))) (ds := []) #[false, false, false, false, false, false, false, false, false, false, false, false, false] (by kernel_rfl) rfl rfl ⟨(blk_cell BK248.out 0).trans rfl, (blk_cell BK248.out 1).trans rfl, (blk_cell BK248.out 2).trans rfl, (blk_cell BK248.out 3).trans rfl, (blk_cell BK248.out 4).trans rfl, (blk_cell BK248.out 5).trans rfl, (blk_cell BK248.out 6).trans rfl, (blk_cell BK248.out 7).trans rfl, (blk_cell BK248.out 8).trans rfl, (blk_cell BK248.out 9).trans rfl, (blk_cell BK248.out 10).trans rfl, hx289_0, hx289_1, hx289_2, hx289_3, hx289_4, hx289_5, hx289_6, hx289_7, hx289_8, hx289_9, hx289_10⟩ (fun hHeld => ?_); refine with_tabW antipoderef29_bytes.tab29 antipoderef29_bytes.bits29 (fun HT_ HW_ => ?_)
     generalize w67.drew = w68 at HO_5 HO288 BK248 HB HL289_5 HR289_5 hx289_0 hx289_1 hx289_10 hx289_2 hx289_3 hx289_4 hx289_5 hx289_6 hx289_7 hx289_8 hx289_9 hHeld ⊢
     refine pure_ (i := 0) (N := some 122) (v := ?_) (a' := ?_) #[true, false, false, false, false, false, false, false, false, false, false, false, false] rfl rfl (any_of HT_.out (by kernel_rfl)) (fun _ _ _ h => h) (Or.inl ⟨by rfl, ?_⟩) ?_ ?_
     rotate_left
     ·intro w'
      go_simp
      with_reducible rfl
     rotate_left
     ·simp only [Act.put, List.setIfInBounds_toArray, List.set_cons_zero, List.set_cons_succ, i64_w, i32_w]
      rfl
     refine pure_ (i := 1) (N := some 123) (v := ?_) (a' := ?_) #[true, true, false, false, false, false, false, false, false, false, false, false, false] rfl rfl (any_of HT_.out (by kernel_rfl)) (fun _ _ _ h => h) (Or.inl ⟨by rfl, ?_⟩) ?_ ?_
     rotate_left
     ·intro w'
      go_simp
      with_reducible rfl
     rotate_left
     ·simp only [Act.put, List.setIfInBounds_toArray, List.set_cons_zero, List.set_cons_succ, i64_w, i32_w]
      rfl
     refine pure_ (i := 2) (N := some 124) (v := ?_) (a' := ?_) #[true, true, true, false, false, false, false, false, false, false, false, false, false] rfl rfl (any_of HT_.out (by kernel_rfl)) (fun _ _ _ h => h) (Or.inl ⟨by rfl, ?_⟩) ?_ ?_
     rotate_left
     ·intro w'
      go_simp
      with_reducible rfl
     rotate_left
     ·simp only [Act.put, List.setIfInBounds_toArray, List.set_cons_zero, List.set_cons_succ, i64_w, i32_w]
      rfl
     refine pure_ (i := 3) (N := some 125) (v := ?_) (a' := ?_) #[true, true, true, true, false, false, false, false, false, false, false, false, false] rfl rfl (any_of HT_.out (by kernel_rfl)) (fun _ _ _ h => h) (Or.inl ⟨by rfl, ?_⟩) ?_ ?_
     rotate_left
     ·intro w'
      go_simp
      with_reducible rfl
     rotate_left
     ·simp only [Act.put, List.setIfInBounds_toArray, List.set_cons_zero, List.set_cons_succ, i64_w, i32_w]
      rfl
     refine pure_ (i := 4) (N := some 126) (v := ?_) (a' := ?_) #[true, true, true, true, true, false, false, false, false, false, false, false, false] rfl rfl (any_of HT_.out (by kernel_rfl)) (fun _ _ _ h => h) (Or.inl ⟨by rfl, ?_⟩) ?_ ?_
     rotate_left
     ·intro w'
      go_simp
      with_reducible rfl
     rotate_left
     ·simp only [Act.put, List.setIfInBounds_toArray, List.set_cons_zero, List.set_cons_succ, i64_w, i32_w]
      rfl
     refine pure_ (i := 5) (N := some 127) (v := ?_) (a' := ?_) #[true, true, true, true, true, true, false, false, false, false, false, false, false] rfl rfl (any_of HT_.out (by kernel_rfl)) (fun _ _ _ h => h) (Or.inl ⟨by rfl, ?_⟩) ?_ ?_
     rotate_left
     ·intro w'
      go_simp
      with_reducible rfl
     rotate_left
     ·simp only [Act.put, List.setIfInBounds_toArray, List.set_cons_zero, List.set_cons_succ, i64_w, i32_w]
      rfl
     refine pure_ (i := 6) (N := some 128) (v := ?_) (a' := ?_) #[true, true, true, true, true, true, true, false, false, false, false, false, false] rfl rfl (any_of HT_.out (by kernel_rfl)) (fun _ _ _ h => h) (Or.inl ⟨by rfl, ?_⟩) ?_ ?_
     rotate_left
     ·intro w'
      go_simp
      with_reducible rfl
     rotate_left
     ·simp only [Act.put, List.setIfInBounds_toArray, List.set_cons_zero, List.set_cons_succ, i64_w, i32_w]
      rfl
     refine take_ (i := 7) (N := some 129) (v := ?_) (a' := ?_) #[true, true, true, true, true, true, true, true, false, false, false, false, false] rfl rfl (take_ofW HT_.out HW_.out (by kernel_rfl)) (fun _ _ _ h => h) (Or.inl ⟨by rfl, ?_⟩) hHeld ?_ ?_
     rotate_left
     ·rintro w' ⟨s0, s1, s2, s3, s4, s5, s6, s7, s8, s9, s10, s11, s12, s13, s14, s15, s16, s17, s18, s19, s20, s21⟩
      go_simp
      with_reducible rfl
     rotate_left
     ·simp only [Act.put, List.setIfInBounds_toArray, List.set_cons_zero, List.set_cons_succ, i64_w, i32_w]
      rfl
     refine take_ (i := 8) (N := some 130) (v := ?_) (a' := ?_) #[true, true, true, true, true, true, true, true, true, false, false, false, false] rfl rfl (take_ofW HT_.out HW_.out (by kernel_rfl)) (fun _ _ _ h => h) (Or.inl ⟨by rfl, ?_⟩) hHeld ?_ ?_
     rotate_left
     ·rintro w' ⟨s0, s1, s2, s3, s4, s5, s6, s7, s8, s9, s10, s11, s12, s13, s14, s15, s16, s17, s18, s19, s20, s21⟩
      go_simp
      with_reducible rfl
     rotate_left
     ·simp only [Act.put, List.setIfInBounds_toArray, List.set_cons_zero, List.set_cons_succ, i64_w, i32_w]
      rfl
     refine one_ (i := 9) (N := some 131) #[true, true, true, true, true, true, true, true, true, true, false, false, false] rfl rfl (one_of HT_.out (by kernel_rfl)) (by decide) (fun K hK => ?_)
     refine goes_ Try.func18 (by kernel_rfl) rfl #[.agg #[.int .i64 ((rd_T41 t286 0).f0), .int .i64 ((rd_T41 t286 0).f1), .int .i64 ((rd_T41 t286 0).f2), .int .i64 ((rd_T41 t286 0).f3), .string ((rd_T41 t286 0).f4), .slice A289_5 ((rd_T41 t286 0).f5).length c289_5, .int .u16 ((rd_T41 t286 0).f6.f0), .int .u16 ((rd_T41 t286 0).f6.f1), .int .u16 ((rd_T41 t286 0).f6.f2), .int .i64 ((rd_T41 t286 0).f6.f3), .int .i64 ((rd_T41 t286 0).f6.f4)], .agg #[.int .i64 a0_0, .int .i64 a0_1, .int .i64 a0_2, .int .i64 a0_3, .string a0_4, .slice A0_5 l0_5.length c0_5, .int .u16 a0_6, .int .u16 a0_7, .int .u16 a0_8, .int .i64 a0_9, .int .i64 a0_10]] (by rfl) rfl rfl (by (try simp only [List.map_toArray, List.map_cons, List.map_nil]); first | done | rfl | (simp only [List.length_drop, List.length_take]; rfl)) ?_
     with_reducible refine (antipoderef29_Same.calls kj1 ((rd_T41 t286 0).f0) ((rd_T41 t286 0).f1) ((rd_T41 t286 0).f2) ((rd_T41 t286 0).f3) ((rd_T41 t286 0).f4) _ _ ((rd_T41 t286 0).f5) ((rd_T41 t286 0).f6.f0) ((rd_T41 t286 0).f6.f1) ((rd_T41 t286 0).f6.f2) ((rd_T41 t286 0).f6.f3) ((rd_T41 t286 0).f6.f4) a0_0 a0_1 a0_2 a0_3 a0_4 _ _ l0_5 a0_6 a0_7 a0_8 a0_9 a0_10 t290 _ ?side1 ?side2 ?side3 ?side4 A65.out).mono ?_
     (case side1 => repeat (first | exact (by repeat (first | (with_reducible exact HR289_5.out) | (with_reducible refine Kd.C_alloc ?_ _) | (with_reducible refine Kd.C_drewN ?_ _) | (with_reducible refine Kd.C_drew ?_) | exact HR289_5.out)) | (with_reducible refine Kd.C_alloc ?_ _) | (with_reducible refine Kd.C_drewN ?_ _) | (with_reducible refine Kd.C_drew ?_)))
     (case side2 => exact HC289_5.out)
     (case side3 => repeat (first | exact (Kd.C_below HR0_5.out HB.out) | (with_reducible refine Kd.C_alloc ?_ _) | (with_reducible refine Kd.C_drewN ?_ _) | (with_reducible refine Kd.C_drew ?_)))
     (case side4 => exact HC0_5.out)
     rintro e w70 ⟨rfl, hb⟩
     have HS11_ := (hb.cell (World.block_lt_of_cell? _ _ (hHeld.2.2.2.2.2.2.2.2.2.2.2.1))).trans (hHeld.2.2.2.2.2.2.2.2.2.2.2.1)
     have HS12_ := (hb.cell (World.block_lt_of_cell? _ _ (hHeld.2.2.2.2.2.2.2.2.2.2.2.2.1))).trans (hHeld.2.2.2.2.2.2.2.2.2.2.2.2.1)
     have HS13_ := (hb.cell (World.block_lt_of_cell? _ _ (hHeld.2.2.2.2.2.2.2.2.2.2.2.2.2.1))).trans (hHeld.2.2.2.2.2.2.2.2.2.2.2.2.2.1)
     have HS14_ := (hb.cell (World.block_lt_of_cell? _ _ (hHeld.2.2.2.2.2.2.2.2.2.2.2.2.2.2.1))).trans (hHeld.2.2.2.2.2.2.2.2.2.2.2.2.2.2.1)
     have HS15_ := (hb.cell (World.block_lt_of_cell? _ _ (hHeld.2.2.2.2.2.2.2.2.2.2.2.2.2.2.2.1))).trans (hHeld.2.2.2.2.2.2.2.2.2.2.2.2.2.2.2.1)
     have HS16_ := (hb.cell (World.block_lt_of_cell? _ _ (hHeld.2.2.2.2.2.2.2.2.2.2.2.2.2.2.2.2.1))).trans (hHeld.2.2.2.2.2.2.2.2.2.2.2.2.2.2.2.2.1)
     have HS17_ := (hb.cell (World.block_lt_of_cell? _ _ (hHeld.2.2.2.2.2.2.2.2.2.2.2.2.2.2.2.2.2.1))).trans (hHeld.2.2.2.2.2.2.2.2.2.2.2.2.2.2.2.2.2.1)
     have HS18_ := (hb.cell (World.block_lt_of_cell? _ _ (hHeld.2.2.2.2.2.2.2.2.2.2.2.2.2.2.2.2.2.2.1))).trans (hHeld.2.2.2.2.2.2.2.2.2.2.2.2.2.2.2.2.2.2.1)
     have HS19_ := (hb.cell (World.block_lt_of_cell? _ _ (hHeld.2.2.2.2.2.2.2.2.2.2.2.2.2.2.2.2.2.2.2.1))).trans (hHeld.2.2.2.2.2.2.2.2.2.2.2.2.2.2.2.2.2.2.2.1)
     have HS20_ := (hb.cell (World.block_lt_of_cell? _ _ (hHeld.2.2.2.2.2.2.2.2.2.2.2.2.2.2.2.2.2.2.2.2.1))).trans (hHeld.2.2.2.2.2.2.2.2.2.2.2.2.2.2.2.2.2.2.2.2.1)
     have HS21_ := (hb.cell (World.block_lt_of_cell? _ _ (hHeld.2.2.2.2.2.2.2.2.2.2.2.2.2.2.2.2.2.2.2.2.2))).trans (hHeld.2.2.2.2.2.2.2.2.2.2.2.2.2.2.2.2.2.2.2.2.2)
     refine ⟨_, rfl, ?_⟩
     have n0_ := Aside0.mk (Kd.R_below (by (with_reducible repeat (first | apply Kd.R_alloc | apply Kd.R_drewN | apply Kd.R_drew)); exact HO_5.out) hb)
     have n1_ := Aside0.mk (Kd.S_below (by (with_reducible repeat (first | apply Kd.S_alloc | apply Kd.S_drewN | apply Kd.S_drew)); exact HO288.out) hb)
     have n2_ := Aside0.mk (Kd.R_below (by (with_reducible repeat (first | apply Kd.R_alloc | apply Kd.R_drewN | apply Kd.R_drew)); exact HL289_5.out) hb)
     have n3_ := Aside0.mk (blk_below (g := gb248) (o := .cells #[.int .i64 a0_0, .int .i64 a0_1, .int .i64 a0_2, .int .i64 a0_3, .string a0_4, .slice A0_5 l0_5.length c0_5, .int .u16 a0_6, .int .u16 a0_7, .int .u16 a0_8, .int .i64 a0_9, .int .i64 a0_10] 41 (0, 0)) (by (with_reducible repeat (first | refine blk_drewN ?_ _ | refine blk_drew ?_ | refine blk_alloc ?_ _)); exact BK248.out) hb)
     have n4_ := Aside0.mk (Kd.C_below (by repeat (first | (with_reducible exact HR289_5.out) | (with_reducible refine Kd.C_alloc ?_ _) | (with_reducible refine Kd.C_drewN ?_ _) | (with_reducible refine Kd.C_drew ?_) | exact HR289_5.out)) hb)
     have n5_ := Aside0.mk (below_step (by repeat (first | (with_reducible first | exact HB.out | apply below_alloc | apply pw_below_drewN | apply below_drew1 | refine below_set ?_ GE248.out) | exact HB.out)) hb)
     clear HO_5
     clear HO288
     clear HL289_5
     clear BK248
     clear HR289_5
     clear HB
     have HO_5 := n0_
     have HO288 := n1_
     have HL289_5 := n2_
     have BK248 := n3_
     have HR289_5 := n4_
     have HB := n5_
     clear n0_ n1_ n2_ n3_ n4_ n5_
     (try clear hb)
     (try clear hb2)
     (try clear hk)
     (try clear hi)
     refine hK.out _ _ ⟨(blk_cell BK248.out 0).trans rfl, (blk_cell BK248.out 1).trans rfl, (blk_cell BK248.out 2).trans rfl, (blk_cell BK248.out 3).trans rfl, (blk_cell BK248.out 4).trans rfl, (blk_cell BK248.out 5).trans rfl, (blk_cell BK248.out 6).trans rfl, (blk_cell BK248.out 7).trans rfl, (blk_cell BK248.out 8).trans rfl, (blk_cell BK248.out 9).trans rfl, (blk_cell BK248.out 10).trans rfl, HS11_, HS12_, HS13_, HS14_, HS15_, HS16_, HS17_, HS18_, HS19_, HS20_, HS21_⟩ (fun hHeld => ?_)
     clear hK K
     refine norm_ (a' := ?_) ?_ ?_
     rotate_left
     ·show Act.put _ (some 131) _ = _
      simp only [Act.put, List.setIfInBounds_toArray, List.set_cons_zero, List.set_cons_succ, i64_w, i32_w]
      rfl
     refine pure_ (i := 10) (N := some 132) (v := ?_) (a' := ?_) #[true, true, true, true, true, true, true, true, true, true, true, false, false] rfl rfl (any_of HT_.out (by kernel_rfl)) (fun _ _ _ h => h) (Or.inl ⟨by rfl, ?_⟩) ?_ ?_
     rotate_left
     ·intro w'
      go_simp
      with_reducible rfl
     rotate_left
     ·simp only [Act.put, List.setIfInBounds_toArray, List.set_cons_zero, List.set_cons_succ, i64_w, i32_w]
      rfl
     refine pure_ (i := 11) (N := some 2) (v := ?_) (a' := ?_) #[true, true, true, true, true, true, true, true, true, true, true, true, false] rfl rfl (any_of HT_.out (by kernel_rfl)) (fun _ _ _ h => h) (Or.inl ⟨by rfl, ?_⟩) ?_ ?_
     rotate_left
     ·intro w'
      go_simp
      with_reducible rfl
     rotate_left
     ·simp only [Act.put, List.setIfInBounds_toArray, List.set_cons_zero, List.set_cons_succ, i64_w, i32_w]
      rfl
     refine pure_ (i := 12) (N := some 3) (v := ?_) (a' := ?_) #[true, true, true, true, true, true, true, true, true, true, true, true, true] rfl rfl (any_of HT_.out (by kernel_rfl)) (fun _ _ _ h => h) (Or.inl ⟨by rfl, ?_⟩) ?_ ?_
     rotate_left
     ·intro w'
      go_simp
      with_reducible rfl
     rotate_left
     ·simp only [Act.put, List.setIfInBounds_toArray, List.set_cons_zero, List.set_cons_succ, i64_w, i32_w]
      rfl
     refine done_ (done_of HT_.out (by kernel_rfl)) ?_
     try go_wp2
     go_ret2
     exact ⟨_, by first | rfl | (simp [errW_none, errW_some] <;> rfl) | (simp [*, errW_none, errW_some] <;> rfl), by (with_reducible repeat (first | apply Kd.R_alloc | apply Kd.R_drewN | apply Kd.R_drew)); exact HO_5.out, by repeat (first | (with_reducible first | exact HB.out | apply below_alloc | apply pw_below_drewN | apply below_drew1 | refine below_set ?_ GE248.out) | exact HB.out)⟩
    ·rw [if_neg c64] at H
     exact absurd H (by simp)
   ·rw [if_neg c63] at H
    have c63b0 : ((t286.length : Int) == 1) = false := beq_eq_false_iff_ne.mpr c63
    have c63b1 : ((t286.length : Int) != 1) = true := bne_iff_ne.mpr c63
    simp only [Option.some.injEq, Prod.mk.injEq] at H
    obtain ⟨rfl, rfl⟩ := H
    obtain ⟨Ao71, co71, eo71⟩ := Kd.R_slice HO_5.out
    subst eo71
    try go_wp2_with (first | ((with_reducible refine gate_callee (f := 13) rfl ?_); refine goesL_ (some 121) rfl rfl Try.func13 (by kernel_rfl) rfl #[.slice Ao71 x5_1.length co71, .int .i64 9] rfl (by (try simp only [List.map_toArray, List.map_cons, List.map_nil]); first | done | rfl | (simp only [List.length_drop, List.length_take]; rfl)) ?_; (with_reducible refine (antipoderef29_Decode.calls kj1 (fun k_ => some k_ = (.slice Ao71 x5_1.length co71 : Value).ownBlock) _ _ x5_1 9 t286 _ ?side1 A62.out).mono ?_); (case side1 => exact Kd.R_V (Kd.R_tight rfl (Kd.R_types (HO_5.out) BK248.out (by decide)))); rintro e w72 ⟨v287, rfl, ho0, hb⟩; refine ⟨_, rfl, ?_⟩; have n0_ := Aside0.mk (Kd.R_below (by (with_reducible repeat (first | apply Kd.R_alloc | apply Kd.R_drewN | apply Kd.R_drew)); exact HO_5.out) hb); have n1_ := Aside0.mk (Kd.S_lower (Kd.S_newB (Kd.S_mono (ok' := fun k_ => True) ho0 (fun _ hk_ => trivial)) (g := gb248) (o := .cells #[.int .i64 a0_0, .int .i64 a0_1, .int .i64 a0_2, .int .i64 a0_3, .string a0_4, .slice A0_5 l0_5.length c0_5, .int .u16 a0_6, .int .u16 a0_7, .int .u16 a0_8, .int .i64 a0_9, .int .i64 a0_10] 41 (0, 0)) (by (with_reducible repeat (first | refine blk_drewN ?_ _ | refine blk_drew ?_ | refine blk_alloc ?_ _)); exact BK248.out)) (below_size (by repeat (first | (with_reducible first | exact HB.out | apply below_alloc | apply pw_below_drewN | apply below_drew1 | refine below_set ?_ GE248.out) | exact HB.out)))); have n2_ := Aside0.mk (blk_below (g := gb248) (o := .cells #[.int .i64 a0_0, .int .i64 a0_1, .int .i64 a0_2, .int .i64 a0_3, .string a0_4, .slice A0_5 l0_5.length c0_5, .int .u16 a0_6, .int .u16 a0_7, .int .u16 a0_8, .int .i64 a0_9, .int .i64 a0_10] 41 (0, 0)) (by (with_reducible repeat (first | refine blk_drewN ?_ _ | refine blk_drew ?_ | refine blk_alloc ?_ _)); exact BK248.out) hb); have n3_ := Aside0.mk (below_step (by repeat (first | (with_reducible first | exact HB.out | apply below_alloc | apply pw_below_drewN | apply below_drew1 | refine below_set ?_ GE248.out) | exact HB.out)) hb); clear HO_5; clear BK248; clear HB; have HO_5 := n0_; have HO288 := n1_; have BK248 := n2_; have HB := n3_; clear n0_ n1_ n2_ n3_; (try clear hb); (try clear hb2); (try clear hk); (try clear hi); (try clear ho0)))
    have n0_ := Aside0.mk (Kd.R_drew HO_5.out)
    have n1_ := Aside0.mk (Kd.S_drew HO288.out)
    have n2_ := Aside0.mk (blk_drew BK248.out)
    have n3_ := Aside0.mk (below_drew1 HB.out)
    clear HO_5
    clear HO288
    clear BK248
    clear HB
    have HO_5 := n0_
    have HO288 := n1_
    have BK248 := n2_
    have HB := n3_
    clear n0_ n1_ n2_ n3_
    obtain ⟨Ao74, co74, eo74⟩ := Kd.S_slice HO288.out
    (first | subst eo74 | (injection eo74 with f1_ f2_ f3_; have f4_ := f1_.symm; have f5_ := f3_.symm; clear f1_ f2_ f3_; subst f4_; subst f5_))
    refine start_ (n := 13) (S := fun w' => True) (ds := []) #[false, false, false, false, false, false, false, false, false, false, false, false, false] (by kernel_rfl) rfl rfl trivial (fun hHeld => ?_); refine with_tabW antipoderef29_bytes.tab29 antipoderef29_bytes.bits29 (fun HT_ HW_ => ?_)
    generalize w72.drew = w73 at HO_5 HO288 BK248 HB hHeld ⊢
    refine pure_ (i := 0) (N := some 122) (v := ?_) (a' := ?_) #[true, false, false, false, false, false, false, false, false, false, false, false, false] rfl rfl (any_of HT_.out (by kernel_rfl)) (fun _ _ _ h => h) (Or.inl ⟨by rfl, ?_⟩) ?_ ?_
    rotate_left
    ·intro w'
     go_simp
     with_reducible rfl
    rotate_left
    ·simp only [Act.put, List.setIfInBounds_toArray, List.set_cons_zero, List.set_cons_succ, i64_w, i32_w]
     rfl
    refine pure_ (i := 1) (N := some 123) (v := ?_) (a' := ?_) #[true, true, false, false, false, false, false, false, false, false, false, false, false] rfl rfl (any_of HT_.out (by kernel_rfl)) (fun _ _ _ h => h) (Or.inl ⟨by rfl, ?_⟩) ?_ ?_
    rotate_left
    ·intro w'
     go_simp
     with_reducible rfl
    rotate_left
    ·simp only [Act.put, List.setIfInBounds_toArray, List.set_cons_zero, List.set_cons_succ, i64_w, i32_w]
     rfl
    refine pure_ (i := 2) (N := some 124) (v := ?_) (a' := ?_) #[true, true, true, false, false, false, false, false, false, false, false, false, false] rfl rfl (any_of HT_.out (by kernel_rfl)) (fun _ _ _ h => h) (Or.inl ⟨by rfl, ?_⟩) ?_ ?_
    rotate_left
    ·intro w'
     go_simp
     with_reducible rfl
    rotate_left
    ·simp only [Act.put, List.setIfInBounds_toArray, List.set_cons_zero, List.set_cons_succ, i64_w, i32_w]
     rfl
    refine pure_ (i := 3) (N := some 125) (v := ?_) (a' := ?_) #[true, true, true, true, false, false, false, false, false, false, false, false, false] rfl rfl (any_of HT_.out (by kernel_rfl)) (fun _ _ _ h => h) (Or.inl ⟨by rfl, ?_⟩) ?_ ?_
    rotate_left
    ·intro w'
     go_simp
     with_reducible rfl
    rotate_left
    ·simp only [Act.put, List.setIfInBounds_toArray, List.set_cons_zero, List.set_cons_succ, i64_w, i32_w]
     rfl
    refine pure_ (i := 4) (N := some 126) (v := ?_) (a' := ?_) #[true, true, true, true, true, false, false, false, false, false, false, false, false] rfl rfl (any_of HT_.out (by kernel_rfl)) (fun _ _ _ h => h) (Or.inl ⟨by rfl, ?_⟩) ?_ ?_
    rotate_left
    ·intro w'
     go_simp
     with_reducible rfl
    rotate_left
    ·simp only [Act.put, List.setIfInBounds_toArray, List.set_cons_zero, List.set_cons_succ, i64_w, i32_w]
     rfl
    refine pure_ (i := 5) (N := some 127) (v := undef) (a' := ?_) #[true, true, true, true, true, true, false, false, false, false, false, false, false] rfl rfl (any_of HT_.out (by kernel_rfl)) (fun _ _ _ h => h) (Or.inr ⟨by rfl, rfl⟩) ?_ ?_
    rotate_left
    ·simp only [Act.put, List.setIfInBounds_toArray, List.set_cons_zero, List.set_cons_succ, i64_w, i32_w]
     rfl
    refine pure_ (i := 6) (N := some 128) (v := undef) (a' := ?_) #[true, true, true, true, true, true, true, false, false, false, false, false, false] rfl rfl (any_of HT_.out (by kernel_rfl)) (fun _ _ _ h => h) (Or.inr ⟨by rfl, rfl⟩) ?_ ?_
    rotate_left
    ·simp only [Act.put, List.setIfInBounds_toArray, List.set_cons_zero, List.set_cons_succ, i64_w, i32_w]
     rfl
    refine pure_ (i := 7) (N := some 129) (v := undef) (a' := ?_) #[true, true, true, true, true, true, true, true, false, false, false, false, false] rfl rfl (any_of HT_.out (by kernel_rfl)) (fun _ _ _ h => h) (Or.inr ⟨by rfl, rfl⟩) ?_ ?_
    rotate_left
    ·simp only [Act.put, List.setIfInBounds_toArray, List.set_cons_zero, List.set_cons_succ, i64_w, i32_w]
     rfl
    refine pure_ (i := 8) (N := some 130) (v := undef) (a' := ?_) #[true, true, true, true, true, true, true, true, true, false, false, false, false] rfl rfl (any_of HT_.out (by kernel_rfl)) (fun _ _ _ h => h) (Or.inr ⟨by rfl, rfl⟩) ?_ ?_
    rotate_left
    ·simp only [Act.put, List.setIfInBounds_toArray, List.set_cons_zero, List.set_cons_succ, i64_w, i32_w]
     rfl
    refine pure_ (i := 9) (N := some 131) (v := undef) (a' := ?_) #[true, true, true, true, true, true, true, true, true, true, false, false, false] rfl rfl (any_of HT_.out (by kernel_rfl)) (fun _ _ _ h => h) (Or.inr ⟨by rfl, rfl⟩) ?_ ?_
    rotate_left
    ·simp only [Act.put, List.setIfInBounds_toArray, List.set_cons_zero, List.set_cons_succ, i64_w, i32_w]
     rfl
    refine pure_ (i := 10) (N := some 132) (v := ?_) (a' := ?_) #[true, true, true, true, true, true, true, true, true, true, true, false, false] rfl rfl (any_of HT_.out (by kernel_rfl)) (fun _ _ _ h => h) (Or.inl ⟨by rfl, ?_⟩) ?_ ?_
    rotate_left
    ·intro w'
     go_simp
     with_reducible rfl
    rotate_left
    ·simp only [Act.put, List.setIfInBounds_toArray, List.set_cons_zero, List.set_cons_succ, i64_w, i32_w]
     rfl
    refine pure_ (i := 11) (N := some 2) (v := ?_) (a' := ?_) #[true, true, true, true, true, true, true, true, true, true, true, true, false] rfl rfl (any_of HT_.out (by kernel_rfl)) (fun _ _ _ h => h) (Or.inl ⟨by rfl, ?_⟩) ?_ ?_
    rotate_left
    ·intro w'
     go_simp
     with_reducible rfl
    rotate_left
    ·simp only [Act.put, List.setIfInBounds_toArray, List.set_cons_zero, List.set_cons_succ, i64_w, i32_w]
     rfl
    refine pure_ (i := 12) (N := some 3) (v := ?_) (a' := ?_) #[true, true, true, true, true, true, true, true, true, true, true, true, true] rfl rfl (any_of HT_.out (by kernel_rfl)) (fun _ _ _ h => h) (Or.inl ⟨by rfl, ?_⟩) ?_ ?_
    rotate_left
    ·intro w'
     go_simp
     with_reducible rfl
    rotate_left
    ·simp only [Act.put, List.setIfInBounds_toArray, List.set_cons_zero, List.set_cons_succ, i64_w, i32_w]
     rfl
    refine done_ (done_of HT_.out (by kernel_rfl)) ?_
    try go_wp2
    go_ret2
    exact ⟨_, by first | rfl | (simp [errW_none, errW_some] <;> rfl) | (simp [*, errW_none, errW_some] <;> rfl), by (with_reducible repeat (first | apply Kd.R_alloc | apply Kd.R_drewN | apply Kd.R_drew)); exact HO_5.out, by repeat (first | (with_reducible first | exact HB.out | apply below_alloc | apply pw_below_drewN | apply below_drew1 | refine below_set ?_ GE248.out) | exact HB.out)⟩
end Go.Proofs.Ytpoejopnjkcdpaa.QA


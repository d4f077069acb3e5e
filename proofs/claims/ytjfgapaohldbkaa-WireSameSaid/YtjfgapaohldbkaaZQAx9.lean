/- Written by a program of this session (wip/myprint.sh): contracts of Go functions of the translation: each call comes to what the Lean function of its name says. -/
import Derived.Test.YtjfgapaohldbkaaZQAll
import Derived.Test.YtjfgapaohldbkaaZQAx8
namespace Go.Proofs.Ytjfgapaohldbkaa.QA
open Go.RowKit Go.Proofs.YtjfgapaohldbkaaW.PrintWords Go.Proofs.YtjfgapaohldbkaaW.PrintLast Go.Proofs.YtjfgapaohldbkaaW.PrintMore
attribute [local go_sem] max2_int min2_int max_two min_two max_three min_three max_four min_four   -- for this text's walks alone
set_option linter.unusedVariables false
set_option linter.unusedSimpArgs false
mutual
def wire_Cmd.l0 : Nat → List Int → List (S65) → Int → Int → Int → Int → Int → Int → Int → Int → Int → Int → Int → Int → Int → Bool → List (S65) → List (S67) → Option (List Int)
 | 0, _, _, _, _, _, _, _, _, _, _, _, _, _, _, _, _, _, _ => none
 | k + 1, x3, x40, x41, x42, x188000, x188001, x188002, x188003, x188004, x188005, x188006, x188007, x188008, x188009, x188010, x188011, x188012, x188013 => if x42 < x41 then (if 0 ≤ x42 then (if x42 < (x40.length : Int) then ((wire_text.f k x3 (([(rd_T65 x40 x42).f0, (rd_T65 x40 x42).f1] : List ByteArray))).bind fun t223 => (wire_Cmd.l0 k t223 x40 x41 (wrap64 (x42 + 1)) x188000 x188001 x188002 x188003 x188004 x188005 x188006 x188007 x188008 x188009 x188010 x188011 x188012 x188013)) else (none)) else (none)) else ((wire_ints.f k x3 (([(x188013.length : Int)] : List Int))).bind fun t229 => (wire_Cmd.l1 k t229 x188013 (x188013.length : Int) 0))
def wire_Cmd.l1 : Nat → List Int → List (S67) → Int → Int → Option (List Int)
 | 0, _, _, _, _ => none
 | k + 1, x3, x61, x62, x63 => if x63 < x62 then (if 0 ≤ x63 then (if x63 < (x61.length : Int) then ((wire_text.f k x3 (([(rd_T67 x61 x63).f0] : List ByteArray))).bind fun t237 => ((wire_flag.f t237 ((rd_T67 x61 x63).f1)).bind fun t240 => ((wire_text.f k t240 (([(rd_T67 x61 x63).f2] : List ByteArray))).bind fun t246 => (wire_Cmd.l1 k t246 x61 x62 (wrap64 (x63 + 1)))))) else (none)) else (none)) else (some x3)
end
def wire_Cmd.f (k : Nat) (a0_0 : Int) (a0_1 : Int) (a0_2 : Int) (a0_3 : Int) (a0_4 : Int) (a0_5 : Int) (a0_6 : Int) (a0_7 : Int) (a0_8 : Int) (a0_9 : Int) (a0_10 : Int) (a0_11 : Bool) (l0_12 : List (S65)) (l0_13 : List (S67)) : Option (List Int) := (wire_ints.f k (([1] : List Int)) (([a0_0, a0_1, a0_2, a0_3] : List Int))).bind fun t194 => ((wire_try.f k t194 a0_4 a0_5 a0_6 a0_7).bind fun t197 => ((wire_moment.f k t197 a0_8 a0_9).bind fun t200 => ((wire_num.f k t200 (([a0_10] : List Int))).bind fun t206 => ((wire_flag.f t206 a0_11).bind fun t209 => ((wire_ints.f k t209 (([(l0_12.length : Int)] : List Int))).bind fun t215 => (wire_Cmd.l0 k t215 l0_12 (l0_12.length : Int) 0 a0_0 a0_1 a0_2 a0_3 a0_4 a0_5 a0_6 a0_7 a0_8 a0_9 a0_10 a0_11 l0_12 l0_13))))))
def wire_Cmd.T2 : Bool × List (List Nat × List Nat) := (true, [([], []), ([], []), ([1], [1]), ([0, 2], [0, 2]), ([], []), ([4], [4]), ([3, 5, 3], [3, 5]), ([], []), ([7], [7]), ([8], [8]), ([6, 9, 6], [6, 9]), ([10, 10, 0, 1, 2, 3, 4, 5, 6, 7, 8, 9, 10], [0, 10])])
def wire_Cmd.B2 : List Nat := [0, 0, 2, 7, 0, 16, 63, 0, 128, 384, 1023, 2047]
theorem wire_Cmd.tab2 : rtab .any (opsOf Try.f14 2) = wire_Cmd.T2 := by kernel_rfl
theorem wire_Cmd.bits2 : waitsOk wire_Cmd.T2.2 wire_Cmd.B2 = true := by kernel_rfl
def wire_Cmd.T3 : Bool × List (List Nat × List Nat) := (true, [([], []), ([], []), ([1], [1]), ([0, 2], [0, 2]), ([], []), ([4], [4]), ([5], [5]), ([6], [6]), ([3, 7, 3], [3, 7]), ([8, 8, 0, 1, 2, 3, 4, 5, 6, 7, 8], [0, 8])])
def wire_Cmd.B3 : List Nat := [0, 0, 2, 7, 0, 16, 48, 112, 255, 511]
theorem wire_Cmd.tab3 : rtab .any (opsOf Try.f14 3) = wire_Cmd.T3 := by kernel_rfl
theorem wire_Cmd.bits3 : waitsOk wire_Cmd.T3.2 wire_Cmd.B3 = true := by kernel_rfl
def wire_Cmd.T13 : Bool × List (List Nat × List Nat) := (true, [([], []), ([], []), ([1], [1]), ([2], [2]), ([0, 3], [0, 3]), ([], []), ([5], [5]), ([4, 6, 4], [4, 6]), ([], []), ([8], [8]), ([9], [9]), ([7, 10, 7], [7, 10]), ([11, 11, 0, 1, 2, 3, 4, 5, 6, 7, 8, 9, 10, 11], [0, 11])])
def wire_Cmd.B13 : List Nat := [0, 0, 2, 6, 15, 0, 32, 127, 0, 256, 768, 2047, 4095]
theorem wire_Cmd.tab13 : rtab .any (opsOf Try.f14 13) = wire_Cmd.T13 := by kernel_rfl
theorem wire_Cmd.bits13 : waitsOk wire_Cmd.T13.2 wire_Cmd.B13 = true := by kernel_rfl
set_option maxHeartbeats 8000000 in
set_option maxRecDepth 100000 in
theorem wire_Cmd.calls (k : Nat) (a0_0 : Int) (a0_1 : Int) (a0_2 : Int) (a0_3 : Int) (a0_4 : Int) (a0_5 : Int) (a0_6 : Int) (a0_7 : Int) (a0_8 : Int) (a0_9 : Int) (a0_10 : Int) (a0_11 : Bool) (A0_12 : Option Addr) (c0_12 : Nat) (l0_12 : List (S65)) (A0_13 : Option Addr) (c0_13 : Nat) (l0_13 : List (S67)) (r : List Int) (w : World) (hr0_12 : Kd.C k65 w A0_12 l0_12.length l0_12) (hc0_12 : l0_12.length ≤ c0_12) (hr0_13 : Kd.C k67 w A0_13 l0_13.length l0_13) (hc0_13 : l0_13.length ≤ c0_13) (h : wire_Cmd.f k a0_0 a0_1 a0_2 a0_3 a0_4 a0_5 a0_6 a0_7 a0_8 a0_9 a0_10 a0_11 l0_12 l0_13 = some r) :
  Calls Try.prog 14 #[.agg #[.int .i64 a0_0, .int .i64 a0_1, .int .i64 a0_2, .int .i64 a0_3, .int .i64 a0_4, .int .i64 a0_5, .int .i64 a0_6, .int .i64 a0_7, .int .i64 a0_8, .int .i64 a0_9, .int .i64 a0_10, .bool a0_11, .slice A0_12 l0_12.length c0_12, .slice A0_13 l0_13.length c0_13]] w fun e w' => ∃ v0_ : Value, e = .returned (v0_) ∧ Kd.R (Kd.int .u8) 5 w' w.heap.size (fun _ => True) v0_ r ∧ Below w.heap.size w w' := by
 have hu29 := Try.underlying29
 have hu23 := Try.underlying23
 have hu25 := Try.underlying25
 have hu65 := Try.underlying65
 have hu67 := Try.underlying67
 have HR0_12 := Aside0.mk hr0_12
 have HC0_12 := Aside0.mk hc0_12
 clear hr0_12 hc0_12
 have HR0_13 := Aside0.mk hr0_13
 have HC0_13 := Aside0.mk hc0_13
 clear hr0_13 hc0_13
 have HB := Aside0.mk (Below.refl w.heap.size w)
 have H : ((wire_ints.f k (([1] : List Int)) (([a0_0, a0_1, a0_2, a0_3] : List Int))).bind fun t194 => ((wire_try.f k t194 a0_4 a0_5 a0_6 a0_7).bind fun t197 => ((wire_moment.f k t197 a0_8 a0_9).bind fun t200 => ((wire_num.f k t200 (([a0_10] : List Int))).bind fun t206 => ((wire_flag.f t206 a0_11).bind fun t209 => ((wire_ints.f k t209 (([(l0_12.length : Int)] : List Int))).bind fun t215 => (wire_Cmd.l0 k t215 l0_12 (l0_12.length : Int) 0 a0_0 a0_1 a0_2 a0_3 a0_4 a0_5 a0_6 a0_7 a0_8 a0_9 a0_10 a0_11 l0_12 l0_13))))))) = some r := h
 clear h
 obtain ⟨y188, hy188⟩ : ∃ y_ : List Int, y_ = (([1] : List Int)) := ⟨_, rfl⟩
 replace H : ((wire_ints.f k y188 (([a0_0, a0_1, a0_2, a0_3] : List Int))).bind fun t194 => ((wire_try.f k t194 a0_4 a0_5 a0_6 a0_7).bind fun t197 => ((wire_moment.f k t197 a0_8 a0_9).bind fun t200 => ((wire_num.f k t200 (([a0_10] : List Int))).bind fun t206 => ((wire_flag.f t206 a0_11).bind fun t209 => ((wire_ints.f k t209 (([(l0_12.length : Int)] : List Int))).bind fun t215 => (wire_Cmd.l0 k t215 l0_12 (l0_12.length : Int) 0 a0_0 a0_1 a0_2 a0_3 a0_4 a0_5 a0_6 a0_7 a0_8 a0_9 a0_10 a0_11 l0_12 l0_13))))))) = some r := by first | (rw [hy188]; with_reducible exact H) | (have H2_ := (Option.bind_some _ _).symm.trans H; rw [hy188]; with_reducible exact H2_) | (have H2_ := (Option.bind_some _ _).symm.trans H; with_reducible exact H2_) | with_reducible exact H | (rw [hy188]; exact H) | exact H
 have Ny188 := Aside0.mk hy188
 clear hy188
 obtain ⟨y191, hy191⟩ : ∃ y_ : List Int, y_ = (([a0_0, a0_1, a0_2, a0_3] : List Int)) := ⟨_, rfl⟩
 replace H : ((wire_ints.f k y188 y191).bind fun t194 => ((wire_try.f k t194 a0_4 a0_5 a0_6 a0_7).bind fun t197 => ((wire_moment.f k t197 a0_8 a0_9).bind fun t200 => ((wire_num.f k t200 (([a0_10] : List Int))).bind fun t206 => ((wire_flag.f t206 a0_11).bind fun t209 => ((wire_ints.f k t209 (([(l0_12.length : Int)] : List Int))).bind fun t215 => (wire_Cmd.l0 k t215 l0_12 (l0_12.length : Int) 0 a0_0 a0_1 a0_2 a0_3 a0_4 a0_5 a0_6 a0_7 a0_8 a0_9 a0_10 a0_11 l0_12 l0_13))))))) = some r := by first | (rw [hy191]; with_reducible exact H) | (have H2_ := (Option.bind_some _ _).symm.trans H; rw [hy191]; with_reducible exact H2_) | (have H2_ := (Option.bind_some _ _).symm.trans H; with_reducible exact H2_) | with_reducible exact H | (rw [hy191]; exact H) | exact H
 have Ny191 := Aside0.mk hy191
 clear hy191
 replace H := Option.bind_eq_some_iff.mp H
 obtain ⟨t194, A20, H⟩ := H
 replace H : ((wire_try.f k t194 a0_4 a0_5 a0_6 a0_7).bind fun t197 => ((wire_moment.f k t197 a0_8 a0_9).bind fun t200 => ((wire_num.f k t200 (([a0_10] : List Int))).bind fun t206 => ((wire_flag.f t206 a0_11).bind fun t209 => ((wire_ints.f k t209 (([(l0_12.length : Int)] : List Int))).bind fun t215 => (wire_Cmd.l0 k t215 l0_12 (l0_12.length : Int) 0 a0_0 a0_1 a0_2 a0_3 a0_4 a0_5 a0_6 a0_7 a0_8 a0_9 a0_10 a0_11 l0_12 l0_13)))))) = some r := H
 have A2 := Aside0.mk A20
 clear A20
 replace H := Option.bind_eq_some_iff.mp H
 obtain ⟨t197, A30, H⟩ := H
 replace H : ((wire_moment.f k t197 a0_8 a0_9).bind fun t200 => ((wire_num.f k t200 (([a0_10] : List Int))).bind fun t206 => ((wire_flag.f t206 a0_11).bind fun t209 => ((wire_ints.f k t209 (([(l0_12.length : Int)] : List Int))).bind fun t215 => (wire_Cmd.l0 k t215 l0_12 (l0_12.length : Int) 0 a0_0 a0_1 a0_2 a0_3 a0_4 a0_5 a0_6 a0_7 a0_8 a0_9 a0_10 a0_11 l0_12 l0_13))))) = some r := H
 have A3 := Aside0.mk A30
 clear A30
 replace H := Option.bind_eq_some_iff.mp H
 obtain ⟨t200, A40, H⟩ := H
 replace H : ((wire_num.f k t200 (([a0_10] : List Int))).bind fun t206 => ((wire_flag.f t206 a0_11).bind fun t209 => ((wire_ints.f k t209 (([(l0_12.length : Int)] : List Int))).bind fun t215 => (wire_Cmd.l0 k t215 l0_12 (l0_12.length : Int) 0 a0_0 a0_1 a0_2 a0_3 a0_4 a0_5 a0_6 a0_7 a0_8 a0_9 a0_10 a0_11 l0_12 l0_13)))) = some r := H
 have A4 := Aside0.mk A40
 clear A40
 obtain ⟨y203, hy203⟩ : ∃ y_ : List Int, y_ = (([a0_10] : List Int)) := ⟨_, rfl⟩
 replace H : ((wire_num.f k t200 y203).bind fun t206 => ((wire_flag.f t206 a0_11).bind fun t209 => ((wire_ints.f k t209 (([(l0_12.length : Int)] : List Int))).bind fun t215 => (wire_Cmd.l0 k t215 l0_12 (l0_12.length : Int) 0 a0_0 a0_1 a0_2 a0_3 a0_4 a0_5 a0_6 a0_7 a0_8 a0_9 a0_10 a0_11 l0_12 l0_13)))) = some r := by first | (rw [hy203]; with_reducible exact H) | (have H2_ := (Option.bind_some _ _).symm.trans H; rw [hy203]; with_reducible exact H2_) | (have H2_ := (Option.bind_some _ _).symm.trans H; with_reducible exact H2_) | with_reducible exact H | (rw [hy203]; exact H) | exact H
 have Ny203 := Aside0.mk hy203
 clear hy203
 replace H := Option.bind_eq_some_iff.mp H
 obtain ⟨t206, A50, H⟩ := H
 replace H : ((wire_flag.f t206 a0_11).bind fun t209 => ((wire_ints.f k t209 (([(l0_12.length : Int)] : List Int))).bind fun t215 => (wire_Cmd.l0 k t215 l0_12 (l0_12.length : Int) 0 a0_0 a0_1 a0_2 a0_3 a0_4 a0_5 a0_6 a0_7 a0_8 a0_9 a0_10 a0_11 l0_12 l0_13))) = some r := H
 have A5 := Aside0.mk A50
 clear A50
 replace H := Option.bind_eq_some_iff.mp H
 obtain ⟨t209, A60, H⟩ := H
 replace H : ((wire_ints.f k t209 (([(l0_12.length : Int)] : List Int))).bind fun t215 => (wire_Cmd.l0 k t215 l0_12 (l0_12.length : Int) 0 a0_0 a0_1 a0_2 a0_3 a0_4 a0_5 a0_6 a0_7 a0_8 a0_9 a0_10 a0_11 l0_12 l0_13)) = some r := H
 have A6 := Aside0.mk A60
 clear A60
 obtain ⟨y212, hy212⟩ : ∃ y_ : List Int, y_ = (([(l0_12.length : Int)] : List Int)) := ⟨_, rfl⟩
 replace H : ((wire_ints.f k t209 y212).bind fun t215 => (wire_Cmd.l0 k t215 l0_12 (l0_12.length : Int) 0 a0_0 a0_1 a0_2 a0_3 a0_4 a0_5 a0_6 a0_7 a0_8 a0_9 a0_10 a0_11 l0_12 l0_13)) = some r := by first | (rw [hy212]; with_reducible exact H) | (have H2_ := (Option.bind_some _ _).symm.trans H; rw [hy212]; with_reducible exact H2_) | (have H2_ := (Option.bind_some _ _).symm.trans H; with_reducible exact H2_) | with_reducible exact H | (rw [hy212]; exact H) | exact H
 have Ny212 := Aside0.mk hy212
 clear hy212
 replace H := Option.bind_eq_some_iff.mp H
 obtain ⟨t215, A70, H⟩ := H
 replace H : (wire_Cmd.l0 k t215 l0_12 (l0_12.length : Int) 0 a0_0 a0_1 a0_2 a0_3 a0_4 a0_5 a0_6 a0_7 a0_8 a0_9 a0_10 a0_11 l0_12 l0_13) = some r := H
 have A7 := Aside0.mk A70
 clear A70
 have H' := Aside0.mk H
 clear H
 go_enter Try.func14, Try.ntmps14
 try go_wp2_with (first | ((with_reducible refine gate_dst (N := 1) rfl ?_); refine qX 1 #[.int .i64 a0_0, .int .i64 a0_1, .int .i64 a0_2, .int .i64 a0_3, .int .i64 a0_4, .int .i64 a0_5, .int .i64 a0_6, .int .i64 a0_7, .int .i64 a0_8, .int .i64 a0_9, .int .i64 a0_10, .bool a0_11, .slice A0_12 l0_12.length c0_12, .slice A0_13 l0_13.length c0_13] 29 ?_; intro gb187 hg w8 hbox hb; have BK187 := Aside0.mk (hbox); have GW187 := Aside0.mk ((qZ HB.out hg)); have GE187 := Aside0.mk ((qZ HB.out hg)); replace HB := Aside0.mk (below_step (qB HB.out) hb); clear hb hbox hg) | ((with_reducible refine gate_dst (N := 8) rfl ?_); refine Kd.R_lit (Kd.int .u8) _ 5 ?hg (N := 8) ?hd (xs := ([1] : List Int)) (inner := [.int .u8 1]) (ok := fun _ => True) (okp := fun _ => True) ?hr ?hp (fun _ hk => hk) trivial (Below.refl _ _) (Nat.le_refl _) (by simp) ?_; (case hd => rfl); (case hg => rfl); (case hr => first | (go_simp; done) | (go_simp; rfl)); (case hp => exact (Reps.one (show Kd.M (Kd.int .u8) _ _ _ 1 [.int .u8 1] from rfl) (Reps.none _ _))); intro v189 w9 ho10 hb hg_ hnew_; clear hg_ hnew_; (first | rw [← Ny188.out] at ho10 | (simp only [Int.reduceToNat] at ho10; rw [← Ny188.out] at ho10)); have HO190 := Aside0.mk (Kd.R_lower ho10 (below_size (qB HB.out))); replace BK187 := Aside0.mk (blk_below (qK BK187.out) hb); replace HB := Aside0.mk (below_step (qB HB.out) hb); clear hb ho10; have hcz11_0 : w9.cell? ⟨gb187, 0, none⟩ = some (.int .i64 a0_0) := (blk_cell BK187.out 0).trans rfl; have hcz11_1 : w9.cell? ⟨gb187, 1, none⟩ = some (.int .i64 a0_1) := (blk_cell BK187.out 1).trans rfl; have hcz11_2 : w9.cell? ⟨gb187, 2, none⟩ = some (.int .i64 a0_2) := (blk_cell BK187.out 2).trans rfl; have hcz11_3 : w9.cell? ⟨gb187, 3, none⟩ = some (.int .i64 a0_3) := (blk_cell BK187.out 3).trans rfl; have hcz11_4 : w9.cell? ⟨gb187, 4, none⟩ = some (.int .i64 a0_4) := (blk_cell BK187.out 4).trans rfl; have hcz11_5 : w9.cell? ⟨gb187, 5, none⟩ = some (.int .i64 a0_5) := (blk_cell BK187.out 5).trans rfl; have hcz11_6 : w9.cell? ⟨gb187, 6, none⟩ = some (.int .i64 a0_6) := (blk_cell BK187.out 6).trans rfl; have hcz11_7 : w9.cell? ⟨gb187, 7, none⟩ = some (.int .i64 a0_7) := (blk_cell BK187.out 7).trans rfl; have hcz11_8 : w9.cell? ⟨gb187, 8, none⟩ = some (.int .i64 a0_8) := (blk_cell BK187.out 8).trans rfl; have hcz11_9 : w9.cell? ⟨gb187, 9, none⟩ = some (.int .i64 a0_9) := (blk_cell BK187.out 9).trans rfl; have hcz11_10 : w9.cell? ⟨gb187, 10, none⟩ = some (.int .i64 a0_10) := (blk_cell BK187.out 10).trans rfl; have hcz11_11 : w9.cell? ⟨gb187, 11, none⟩ = some (.bool a0_11) := (blk_cell BK187.out 11).trans rfl; have hcz11_12 : w9.cell? ⟨gb187, 12, none⟩ = some (.slice A0_12 l0_12.length c0_12) := (blk_cell BK187.out 12).trans rfl; have hcz11_13 : w9.cell? ⟨gb187, 13, none⟩ = some (.slice A0_13 l0_13.length c0_13) := (blk_cell BK187.out 13).trans rfl; have hfz11_0 := blk_frozen BK187.out 0; have hfz11_1 := blk_frozen BK187.out 1; have hfz11_2 := blk_frozen BK187.out 2; have hfz11_3 := blk_frozen BK187.out 3; have hfz11_4 := blk_frozen BK187.out 4; have hfz11_5 := blk_frozen BK187.out 5; have hfz11_6 := blk_frozen BK187.out 6; have hfz11_7 := blk_frozen BK187.out 7; have hfz11_8 := blk_frozen BK187.out 8; have hfz11_9 := blk_frozen BK187.out 9; have hfz11_10 := blk_frozen BK187.out 10; have hfz11_11 := blk_frozen BK187.out 11; have hfz11_12 := blk_frozen BK187.out 12; have hfz11_13 := blk_frozen BK187.out 13) | ((with_reducible refine gate_dst (N := 17) rfl ?_); refine Kd.R_lit (Kd.int .i64) _ 3 ?hg (N := 17) ?hd (xs := ([a0_0, a0_1, a0_2, a0_3] : List Int)) (inner := [.int .i64 a0_0, .int .i64 a0_1, .int .i64 a0_2, .int .i64 a0_3]) (ok := fun _ => True) (okp := fun _ => True) ?hr ?hp (fun _ hk => hk) trivial (Below.refl _ _) (Nat.le_refl _) (by simp) ?_; (case hd => rfl); (case hg => rfl); (case hr => first | (go_simp; done) | (go_simp; rfl)); (case hp => exact (Reps.one (show Kd.M (Kd.int .i64) _ _ _ a0_0 [.int .i64 a0_0] from rfl) (Reps.one (show Kd.M (Kd.int .i64) _ _ _ a0_1 [.int .i64 a0_1] from rfl) (Reps.one (show Kd.M (Kd.int .i64) _ _ _ a0_2 [.int .i64 a0_2] from rfl) (Reps.one (show Kd.M (Kd.int .i64) _ _ _ a0_3 [.int .i64 a0_3] from rfl) (Reps.none _ _)))))); intro v192 w12 ho13 hb hg_ hnew_; clear hg_ hnew_; (first | rw [← Ny191.out] at ho13 | (simp only [Int.reduceToNat] at ho13; rw [← Ny191.out] at ho13)); replace HO190 := Aside0.mk (Kd.R_below (qR HO190.out) hb); have HO193 := Aside0.mk (Kd.R_lower ho13 (below_size (qB HB.out))); replace BK187 := Aside0.mk (blk_below (qK BK187.out) hb); replace HB := Aside0.mk (below_step (qB HB.out) hb); clear hb ho13; obtain ⟨Ao14, co14, eo14⟩ := Kd.R_slice HO190.out; subst eo14; obtain ⟨Ao15, co15, eo15⟩ := Kd.R_slice HO193.out; subst eo15) | ((with_reducible refine gate_callee (f := 40) rfl ?_); refine qL (some 18) Try.func40 #[.slice Ao14 y188.length co14, .slice Ao15 y191.length co15] ?_; (with_reducible refine (wire_ints.calls k (fun k_ => some k_ = (.slice Ao14 y188.length co14 : Value).ownBlock) (.slice Ao14 y188.length co14) y188 _ _ y191 t194 w _ ?side1 ?side2 ?side3 ?side4 A2.out).mono ?_); (case side1 => exact qB HB.out); (case side2 => exact Kd.R_tight rfl HO190.out); (case side3 => exact Kd.C_kept_own ((Kd.R_apart' HO193.out (Kd.R_typed HO190.out) (by decide))) (fun k_ hk_ hs_ => (hk_.2) hs_)); (case side4 => exact (Kd.R_reads' HO193.out).2.1); rintro e w16 ⟨v195, rfl, ho0, hb, hkp⟩; refine ⟨_, rfl, ?_⟩; replace BK187 := Aside0.mk (blk_kept (qK BK187.out) hkp (fun hs_ => (fun e_ => (Kd.R_ne HO190.out BK187.out (by decide)) e_) hs_)); replace HO193 := Aside0.mk (Kd.R_mono (ok' := fun k_ => True) (Kd.R_keptB ((Kd.R_apart' HO193.out (Kd.R_typed HO190.out) (by decide))) hkp (fun k_ hk_ hs_ => (hk_.2) hs_)) (fun k_ hk_ => trivial)); have HO196 := Aside0.mk (Kd.R_mono (ok' := fun k_ => True) ho0 (fun k_ hk_ => trivial)); replace HB := Aside0.mk (hb); clear HO190; (try clear hb); (try clear hkp); (try clear ho0); obtain ⟨Ao17, co17, eo17⟩ := Kd.R_slice HO196.out; subst eo17))
 replace HO193 := Aside0.mk (Kd.R_drew HO193.out)
 replace HO196 := Aside0.mk (Kd.R_drew HO196.out)
 replace BK187 := Aside0.mk (blk_drew BK187.out)
 replace HB := Aside0.mk (below_drew1 HB.out)
 refine start_ (n := 12) (S := fun w' => w'.cell? ⟨gb187, 0, none⟩ = some (.int .i64 a0_0) ∧ w'.cell? ⟨gb187, 1, none⟩ = some (.int .i64 a0_1) ∧ w'.cell? ⟨gb187, 2, none⟩ = some (.int .i64 a0_2) ∧ w'.cell? ⟨gb187, 3, none⟩ = some (.int .i64 a0_3) ∧ w'.cell? ⟨gb187, 4, none⟩ = some (.int .i64 a0_4) ∧ w'.cell? ⟨gb187, 5, none⟩ = some (.int .i64 a0_5) ∧ w'.cell? ⟨gb187, 6, none⟩ = some (.int .i64 a0_6) ∧ w'.cell? ⟨gb187, 7, none⟩ = some (.int .i64 a0_7) ∧ w'.cell? ⟨gb187, 8, none⟩ = some (.int .i64 a0_8) ∧ w'.cell? ⟨gb187, 9, none⟩ = some (.int .i64 a0_9) ∧ w'.cell? ⟨gb187, 10, none⟩ = some (.int .i64 a0_10) ∧ w'.cell? ⟨gb187, 11, none⟩ = some (.bool a0_11) ∧ w'.cell? ⟨gb187, 12, none⟩ = some (.slice A0_12 l0_12.length c0_12) ∧ w'.cell? ⟨gb187, 13, none⟩ = some (.slice A0_13 l0_13.length c0_13)) (ds := []) #[false, false, false, false, false, false, false, false, false, false, false, false] (by kernel_rfl) rfl rfl (qc14 BK187.out) (fun hHeld => ?_); refine with_tabW wire_Cmd.tab2 wire_Cmd.bits2 (fun HT_ HW_ => ?_)
 generalize w16.drew = w18 at HO193 HO196 BK187 HB hHeld ⊢
 refine pure_ (i := 0) (N := some 19) (v := ?_) (a' := ?_) #[true, false, false, false, false, false, false, false, false, false, false, false] rfl rfl (any_of HT_.out (by kernel_rfl)) (fun _ _ _ h => h) (Or.inl ⟨by rfl, ?_⟩) ?_ ?_
 rotate_left
 ·intro w'
  go_simp
  with_reducible rfl
 rotate_left
 ·simp only [Act.put, s1, s2, s3, i64_w, i32_w]
  rfl
 refine pure_ (i := 1) (N := some 20) (v := ?_) (a' := ?_) #[true, true, false, false, false, false, false, false, false, false, false, false] rfl rfl (any_of HT_.out (by kernel_rfl)) (fun _ _ _ h => h) (Or.inl ⟨by rfl, ?_⟩) ?_ ?_
 rotate_left
 ·intro w'
  go_simp
  with_reducible rfl
 rotate_left
 ·simp only [Act.put, s1, s2, s3, i64_w, i32_w]
  rfl
 refine pure_ (i := 4) (N := some 23) (v := ?_) (a' := ?_) #[true, true, false, false, true, false, false, false, false, false, false, false] rfl rfl (any_of HT_.out (by kernel_rfl)) (fun _ _ _ h => h) (Or.inl ⟨by rfl, ?_⟩) ?_ ?_
 rotate_left
 ·intro w'
  go_simp
  with_reducible rfl
 rotate_left
 ·simp only [Act.put, s1, s2, s3, i64_w, i32_w]
  rfl
 refine pure_ (i := 7) (N := some 26) (v := ?_) (a' := ?_) #[true, true, false, false, true, false, false, true, false, false, false, false] rfl rfl (any_of HT_.out (by kernel_rfl)) (fun _ _ _ h => h) (Or.inl ⟨by rfl, ?_⟩) ?_ ?_
 rotate_left
 ·intro w'
  go_simp
  with_reducible rfl
 rotate_left
 ·simp only [Act.put, s1, s2, s3, i64_w, i32_w]
  rfl
 refine take_ (i := 2) (N := some 21) (v := ?_) (a' := ?_) #[true, true, true, false, true, false, false, true, false, false, false, false] rfl rfl (take_ofW HT_.out HW_.out (by kernel_rfl)) (fun _ _ _ h => h) (Or.inl ⟨by rfl, ?_⟩) hHeld ?_ ?_
 rotate_left
 ·rintro w' ⟨s0, s1, s2, s3, s4, s5, s6, s7, s8, s9, s10, s11, s12, s13⟩
  go_simp
  with_reducible rfl
 rotate_left
 ·simp only [Act.put, s1, s2, s3, i64_w, i32_w]
  rfl
 refine take_ (i := 5) (N := some 24) (v := ?_) (a' := ?_) #[true, true, true, false, true, true, false, true, false, false, false, false] rfl rfl (take_ofW HT_.out HW_.out (by kernel_rfl)) (fun _ _ _ h => h) (Or.inl ⟨by rfl, ?_⟩) hHeld ?_ ?_
 rotate_left
 ·rintro w' ⟨s0, s1, s2, s3, s4, s5, s6, s7, s8, s9, s10, s11, s12, s13⟩
  go_simp
  with_reducible rfl
 rotate_left
 ·simp only [Act.put, s1, s2, s3, i64_w, i32_w]
  rfl
 refine take_ (i := 8) (N := some 27) (v := ?_) (a' := ?_) #[true, true, true, false, true, true, false, true, true, false, false, false] rfl rfl (take_ofW HT_.out HW_.out (by kernel_rfl)) (fun _ _ _ h => h) (Or.inl ⟨by rfl, ?_⟩) hHeld ?_ ?_
 rotate_left
 ·rintro w' ⟨s0, s1, s2, s3, s4, s5, s6, s7, s8, s9, s10, s11, s12, s13⟩
  go_simp
  with_reducible rfl
 rotate_left
 ·simp only [Act.put, s1, s2, s3, i64_w, i32_w]
  rfl
 refine join_ (σ := Value × Value × Value) 2 #[true, true, true, true, true, true, true, true, true, true, false, false] (fun s_ => [(22, s_.1), (25, s_.2.1), (28, s_.2.2)]) (fun s_ w' => (w'.cell? ⟨gb187, 0, none⟩ = some (.int .i64 a0_0) ∧ w'.cell? ⟨gb187, 1, none⟩ = some (.int .i64 a0_1) ∧ w'.cell? ⟨gb187, 2, none⟩ = some (.int .i64 a0_2) ∧ w'.cell? ⟨gb187, 3, none⟩ = some (.int .i64 a0_3) ∧ w'.cell? ⟨gb187, 4, none⟩ = some (.int .i64 a0_4) ∧ w'.cell? ⟨gb187, 5, none⟩ = some (.int .i64 a0_5) ∧ w'.cell? ⟨gb187, 6, none⟩ = some (.int .i64 a0_6) ∧ w'.cell? ⟨gb187, 7, none⟩ = some (.int .i64 a0_7) ∧ w'.cell? ⟨gb187, 8, none⟩ = some (.int .i64 a0_8) ∧ w'.cell? ⟨gb187, 9, none⟩ = some (.int .i64 a0_9) ∧ w'.cell? ⟨gb187, 10, none⟩ = some (.int .i64 a0_10) ∧ w'.cell? ⟨gb187, 11, none⟩ = some (.bool a0_11) ∧ w'.cell? ⟨gb187, 12, none⟩ = some (.slice A0_12 l0_12.length c0_12) ∧ w'.cell? ⟨gb187, 13, none⟩ = some (.slice A0_13 l0_13.length c0_13)) ∧ (Kd.R (Kd.int .i64) 3 w' w.heap.size (fun _ => True) (.slice Ao15 y191.length co15) y191) ∧ (Kd.R (Kd.int .u8) 5 w' w.heap.size (fun _ => True) s_.2.1 t200) ∧ (Kd.R (Kd.int .i64) 2 w' w.heap.size (fun _ => True) s_.2.2 y203) ∧ (w'.heap[gb187]? = some (.cells #[.int .i64 a0_0, .int .i64 a0_1, .int .i64 a0_2, .int .i64 a0_3, .int .i64 a0_4, .int .i64 a0_5, .int .i64 a0_6, .int .i64 a0_7, .int .i64 a0_8, .int .i64 a0_9, .int .i64 a0_10, .bool a0_11, .slice A0_12 l0_12.length c0_12, .slice A0_13 l0_13.length c0_13] 29 (0, 0))) ∧ (Below w.heap.size w w')) ?_ ?_
 rotate_left
 ·intro hCont
  refine two_ (i := 3) (j := 9) (Ni := some 22) (Nj := some 28) #[true, true, true, true, true, true, false, true, true, false, false, false] #[true, true, true, false, true, true, false, true, true, true, false, false] rfl rfl rfl rfl (two_of HT_.out (by kernel_rfl)) (by decide) (by decide) (fun K hK => ?_) (fun K hK => ?_)
  ·skip
   refine qG Try.func43 #[.slice Ao17 t194.length co17, .agg #[.int .i64 a0_4, .int .i64 a0_5, .int .i64 a0_6, .int .i64 a0_7]] ?_
   with_reducible refine (wire_try.calls k (fun k_ => some k_ = (.slice Ao17 t194.length co17 : Value).ownBlock) (.slice Ao17 t194.length co17) t194 a0_4 a0_5 a0_6 a0_7 t197 w _ ?side1 ?side2 A3.out).mono ?_
   (case side1 => exact qB HB.out)
   (case side2 => exact Kd.R_tight rfl HO196.out)
   rintro e w19 ⟨v198, rfl, ho0, hb, hkp⟩
   refine ⟨_, rfl, ?_⟩
   replace BK187 := Aside0.mk (blk_kept (qK BK187.out) hkp (fun hs_ => (fun e_ => (Kd.R_ne HO196.out BK187.out (by decide)) e_) hs_))
   replace HO193 := Aside0.mk (Kd.R_mono (ok' := fun k_ => True) (Kd.R_keptB ((Kd.R_apart' HO193.out (Kd.R_typed HO196.out) (by decide))) hkp (fun k_ hk_ hs_ => (hk_.2) hs_)) (fun k_ hk_ => trivial))
   have HO199 := Aside0.mk (Kd.R_mono (ok' := fun k_ => True) ho0 (fun k_ hk_ => trivial))
   replace HB := Aside0.mk (hb)
   clear HO196
   (try clear hb)
   (try clear hkp)
   (try clear ho0)
   obtain ⟨Ao20, co20, eo20⟩ := Kd.R_slice HO199.out
   (first | subst eo20 | (injection eo20 with f1_ f2_ f3_; have f4_ := f1_.symm; have f5_ := f3_.symm; clear f1_ f2_ f3_; subst f4_; subst f5_))
   refine hK.out _ _ (qc14 BK187.out) (fun hHeld => ?_)
   clear hK K
   refine norm_ (a' := ?_) ?_ ?_
   rotate_left
   ·show Act.put _ (some 22) _ = _
    simp only [Act.put, s1, s2, s3, i64_w, i32_w]
    rfl
   refine two_ (i := 6) (j := 9) (Ni := some 25) (Nj := some 28) #[true, true, true, true, true, true, true, true, true, false, false, false] #[true, true, true, true, true, true, false, true, true, true, false, false] rfl rfl rfl rfl (two_of HT_.out (by kernel_rfl)) (by decide) (by decide) (fun K hK => ?_) (fun K hK => ?_)
   ·skip
    refine qG Try.func42 #[.slice Ao20 t197.length co20, .agg #[.int .i64 a0_8, .int .i64 a0_9]] ?_
    with_reducible refine (wire_moment.calls k (fun k_ => some k_ = (.slice Ao20 t197.length co20 : Value).ownBlock) (.slice Ao20 t197.length co20) t197 a0_8 a0_9 t200 w _ ?side1 ?side2 A4.out).mono ?_
    (case side1 => exact qB HB.out)
    (case side2 => exact Kd.R_tight rfl HO199.out)
    rintro e w21 ⟨v201, rfl, ho0, hb, hkp⟩
    refine ⟨_, rfl, ?_⟩
    replace BK187 := Aside0.mk (blk_kept (qK BK187.out) hkp (fun hs_ => (fun e_ => (Kd.R_ne HO199.out BK187.out (by decide)) e_) hs_))
    replace HO193 := Aside0.mk (Kd.R_mono (ok' := fun k_ => True) (Kd.R_keptB ((Kd.R_apart' HO193.out (Kd.R_typed HO199.out) (by decide))) hkp (fun k_ hk_ hs_ => (hk_.2) hs_)) (fun k_ hk_ => trivial))
    have HO202 := Aside0.mk (Kd.R_mono (ok' := fun k_ => True) ho0 (fun k_ hk_ => trivial))
    replace HB := Aside0.mk (hb)
    clear HO199
    (try clear hb)
    (try clear hkp)
    (try clear ho0)
    refine hK.out _ _ (qc14 BK187.out) (fun hHeld => ?_)
    clear hK K
    refine norm_ (a' := ?_) ?_ ?_
    rotate_left
    ·show Act.put _ (some 25) _ = _
     simp only [Act.put, s1, s2, s3, i64_w, i32_w]
     rfl
    refine one_ (i := 9) (N := some 28) #[true, true, true, true, true, true, true, true, true, true, false, false] rfl rfl (one_of HT_.out (by kernel_rfl)) (by decide) (fun K hK => ?_)
    refine Kd.R_lit_step (Kd.int .i64) _ 2 ?hg (N := 28) ?hd (xs := ([a0_10] : List Int)) (inner := [.int .i64 a0_10]) (ok := fun _ => True) (okp := fun _ => True) ?hr ?hp (fun _ hk => hk) trivial (Below.refl _ _) (Nat.le_refl _) (by simp) ?_; (case hd => rfl); (case hg => rfl); (case hr => first | (go_simp; done) | (go_simp; rfl)); (case hp => exact (Reps.one (show Kd.M (Kd.int .i64) _ _ _ a0_10 [.int .i64 a0_10] from rfl) (Reps.none _ _)))
    intro v204 w22 ho23 hb hg_ hnew_
    clear hg_ hnew_
    (first | rw [← Ny203.out] at ho23 | (simp only [Int.reduceToNat] at ho23; rw [← Ny203.out] at ho23))
    replace HO193 := Aside0.mk (Kd.R_below (qR HO193.out) hb)
    replace HO202 := Aside0.mk (Kd.R_below (qR HO202.out) hb)
    have HO205 := Aside0.mk (Kd.R_lower ho23 (below_size (qB HB.out)))
    replace BK187 := Aside0.mk (blk_below (qK BK187.out) hb)
    replace HB := Aside0.mk (below_step (qB HB.out) hb)
    clear hb ho23
    refine hK.out _ _ (qc14 BK187.out) (fun hHeld => ?_)
    clear hK K
    refine norm_ (a' := ?_) ?_ ?_
    rotate_left
    ·show Act.put _ (some 28) _ = _
     simp only [Act.put, s1, s2, s3, i64_w, i32_w]
     rfl
    exact norm_ (by simp only [putAll, Act.put, s1, s2, s3]) (hCont (.slice Ao20 t197.length co20, v201, v204) _ ⟨hHeld, (qR HO193.out), (qR HO202.out), (qR HO205.out), (qK BK187.out), (qB HB.out)⟩)
   ·skip
    refine Kd.R_lit_step (Kd.int .i64) _ 2 ?hg (N := 28) ?hd (xs := ([a0_10] : List Int)) (inner := [.int .i64 a0_10]) (ok := fun _ => True) (okp := fun _ => True) ?hr ?hp (fun _ hk => hk) trivial (Below.refl _ _) (Nat.le_refl _) (by simp) ?_; (case hd => rfl); (case hg => rfl); (case hr => first | (go_simp; done) | (go_simp; rfl)); (case hp => exact (Reps.one (show Kd.M (Kd.int .i64) _ _ _ a0_10 [.int .i64 a0_10] from rfl) (Reps.none _ _)))
    intro v204 w20 ho21 hb hg_ hnew_
    clear hg_ hnew_
    (first | rw [← Ny203.out] at ho21 | (simp only [Int.reduceToNat] at ho21; rw [← Ny203.out] at ho21))
    replace HO193 := Aside0.mk (Kd.R_below (qR HO193.out) hb)
    replace HO199 := Aside0.mk (Kd.R_below (qR HO199.out) hb)
    have HO205 := Aside0.mk (Kd.R_lower ho21 (below_size (qB HB.out)))
    replace BK187 := Aside0.mk (blk_below (qK BK187.out) hb)
    replace HB := Aside0.mk (below_step (qB HB.out) hb)
    clear hb ho21
    obtain ⟨Ao22, co22, eo22⟩ := Kd.R_slice HO199.out
    (first | subst eo22 | (injection eo22 with f1_ f2_ f3_; have f4_ := f1_.symm; have f5_ := f3_.symm; clear f1_ f2_ f3_; subst f4_; subst f5_))
    refine hK.out _ _ (qc14 BK187.out) (fun hHeld => ?_)
    clear hK K
    refine norm_ (a' := ?_) ?_ ?_
    rotate_left
    ·show Act.put _ (some 28) _ = _
     simp only [Act.put, s1, s2, s3, i64_w, i32_w]
     rfl
    refine one_ (i := 6) (N := some 25) #[true, true, true, true, true, true, true, true, true, true, false, false] rfl rfl (one_of HT_.out (by kernel_rfl)) (by decide) (fun K hK => ?_)
    refine qG Try.func42 #[.slice Ao22 t197.length co22, .agg #[.int .i64 a0_8, .int .i64 a0_9]] ?_
    with_reducible refine (wire_moment.calls k (fun k_ => some k_ = (.slice Ao22 t197.length co22 : Value).ownBlock) (.slice Ao22 t197.length co22) t197 a0_8 a0_9 t200 w _ ?side1 ?side2 A4.out).mono ?_
    (case side1 => exact qB HB.out)
    (case side2 => exact Kd.R_tight rfl HO199.out)
    rintro e w23 ⟨v201, rfl, ho0, hb, hkp⟩
    refine ⟨_, rfl, ?_⟩
    replace BK187 := Aside0.mk (blk_kept (qK BK187.out) hkp (fun hs_ => (fun e_ => (Kd.R_ne HO199.out BK187.out (by decide)) e_) hs_))
    replace HO193 := Aside0.mk (Kd.R_mono (ok' := fun k_ => True) (Kd.R_keptB ((Kd.R_apart' HO193.out (Kd.R_typed HO199.out) (by decide))) hkp (fun k_ hk_ hs_ => (hk_.2) hs_)) (fun k_ hk_ => trivial))
    replace HO205 := Aside0.mk (Kd.R_mono (ok' := fun k_ => True) (Kd.R_keptB ((Kd.R_apart' HO205.out (Kd.R_typed HO199.out) (by decide))) hkp (fun k_ hk_ hs_ => (hk_.2) hs_)) (fun k_ hk_ => trivial))
    have HO202 := Aside0.mk (Kd.R_mono (ok' := fun k_ => True) ho0 (fun k_ hk_ => trivial))
    replace HB := Aside0.mk (hb)
    clear HO199
    (try clear hb)
    (try clear hkp)
    (try clear ho0)
    refine hK.out _ _ (qc14 BK187.out) (fun hHeld => ?_)
    clear hK K
    refine norm_ (a' := ?_) ?_ ?_
    rotate_left
    ·show Act.put _ (some 25) _ = _
     simp only [Act.put, s1, s2, s3, i64_w, i32_w]
     rfl
    exact norm_ (by simp only [putAll, Act.put, s1, s2, s3]) (hCont (.slice Ao22 t197.length co22, v201, v204) _ ⟨hHeld, (qR HO193.out), (qR HO202.out), (qR HO205.out), (qK BK187.out), (qB HB.out)⟩)
  ·skip
   refine Kd.R_lit_step (Kd.int .i64) _ 2 ?hg (N := 28) ?hd (xs := ([a0_10] : List Int)) (inner := [.int .i64 a0_10]) (ok := fun _ => True) (okp := fun _ => True) ?hr ?hp (fun _ hk => hk) trivial (Below.refl _ _) (Nat.le_refl _) (by simp) ?_; (case hd => rfl); (case hg => rfl); (case hr => first | (go_simp; done) | (go_simp; rfl)); (case hp => exact (Reps.one (show Kd.M (Kd.int .i64) _ _ _ a0_10 [.int .i64 a0_10] from rfl) (Reps.none _ _)))
   intro v204 w19 ho20 hb hg_ hnew_
   clear hg_ hnew_
   (first | rw [← Ny203.out] at ho20 | (simp only [Int.reduceToNat] at ho20; rw [← Ny203.out] at ho20))
   replace HO193 := Aside0.mk (Kd.R_below (qR HO193.out) hb)
   replace HO196 := Aside0.mk (Kd.R_below (qR HO196.out) hb)
   have HO205 := Aside0.mk (Kd.R_lower ho20 (below_size (qB HB.out)))
   replace BK187 := Aside0.mk (blk_below (qK BK187.out) hb)
   replace HB := Aside0.mk (below_step (qB HB.out) hb)
   clear hb ho20
   refine hK.out _ _ (qc14 BK187.out) (fun hHeld => ?_)
   clear hK K
   refine norm_ (a' := ?_) ?_ ?_
   rotate_left
   ·show Act.put _ (some 28) _ = _
    simp only [Act.put, s1, s2, s3, i64_w, i32_w]
    rfl
   refine one_ (i := 3) (N := some 22) #[true, true, true, true, true, true, false, true, true, true, false, false] rfl rfl (one_of HT_.out (by kernel_rfl)) (by decide) (fun K hK => ?_)
   refine qG Try.func43 #[.slice Ao17 t194.length co17, .agg #[.int .i64 a0_4, .int .i64 a0_5, .int .i64 a0_6, .int .i64 a0_7]] ?_
   with_reducible refine (wire_try.calls k (fun k_ => some k_ = (.slice Ao17 t194.length co17 : Value).ownBlock) (.slice Ao17 t194.length co17) t194 a0_4 a0_5 a0_6 a0_7 t197 w _ ?side1 ?side2 A3.out).mono ?_
   (case side1 => exact qB HB.out)
   (case side2 => exact Kd.R_tight rfl HO196.out)
   rintro e w21 ⟨v198, rfl, ho0, hb, hkp⟩
   refine ⟨_, rfl, ?_⟩
   replace BK187 := Aside0.mk (blk_kept (qK BK187.out) hkp (fun hs_ => (fun e_ => (Kd.R_ne HO196.out BK187.out (by decide)) e_) hs_))
   replace HO193 := Aside0.mk (Kd.R_mono (ok' := fun k_ => True) (Kd.R_keptB ((Kd.R_apart' HO193.out (Kd.R_typed HO196.out) (by decide))) hkp (fun k_ hk_ hs_ => (hk_.2) hs_)) (fun k_ hk_ => trivial))
   replace HO205 := Aside0.mk (Kd.R_mono (ok' := fun k_ => True) (Kd.R_keptB ((Kd.R_apart' HO205.out (Kd.R_typed HO196.out) (by decide))) hkp (fun k_ hk_ hs_ => (hk_.2) hs_)) (fun k_ hk_ => trivial))
   have HO199 := Aside0.mk (Kd.R_mono (ok' := fun k_ => True) ho0 (fun k_ hk_ => trivial))
   replace HB := Aside0.mk (hb)
   clear HO196
   (try clear hb)
   (try clear hkp)
   (try clear ho0)
   obtain ⟨Ao22, co22, eo22⟩ := Kd.R_slice HO199.out
   (first | subst eo22 | (injection eo22 with f1_ f2_ f3_; have f4_ := f1_.symm; have f5_ := f3_.symm; clear f1_ f2_ f3_; subst f4_; subst f5_))
   refine hK.out _ _ (qc14 BK187.out) (fun hHeld => ?_)
   clear hK K
   refine norm_ (a' := ?_) ?_ ?_
   rotate_left
   ·show Act.put _ (some 22) _ = _
    simp only [Act.put, s1, s2, s3, i64_w, i32_w]
    rfl
   refine one_ (i := 6) (N := some 25) #[true, true, true, true, true, true, true, true, true, true, false, false] rfl rfl (one_of HT_.out (by kernel_rfl)) (by decide) (fun K hK => ?_)
   refine qG Try.func42 #[.slice Ao22 t197.length co22, .agg #[.int .i64 a0_8, .int .i64 a0_9]] ?_
   with_reducible refine (wire_moment.calls k (fun k_ => some k_ = (.slice Ao22 t197.length co22 : Value).ownBlock) (.slice Ao22 t197.length co22) t197 a0_8 a0_9 t200 w _ ?side1 ?side2 A4.out).mono ?_
   (case side1 => exact qB HB.out)
   (case side2 => exact Kd.R_tight rfl HO199.out)
   rintro e w23 ⟨v201, rfl, ho0, hb, hkp⟩
   refine ⟨_, rfl, ?_⟩
   replace BK187 := Aside0.mk (blk_kept (qK BK187.out) hkp (fun hs_ => (fun e_ => (Kd.R_ne HO199.out BK187.out (by decide)) e_) hs_))
   replace HO193 := Aside0.mk (Kd.R_mono (ok' := fun k_ => True) (Kd.R_keptB ((Kd.R_apart' HO193.out (Kd.R_typed HO199.out) (by decide))) hkp (fun k_ hk_ hs_ => (hk_.2) hs_)) (fun k_ hk_ => trivial))
   replace HO205 := Aside0.mk (Kd.R_mono (ok' := fun k_ => True) (Kd.R_keptB ((Kd.R_apart' HO205.out (Kd.R_typed HO199.out) (by decide))) hkp (fun k_ hk_ hs_ => (hk_.2) hs_)) (fun k_ hk_ => trivial))
   have HO202 := Aside0.mk (Kd.R_mono (ok' := fun k_ => True) ho0 (fun k_ hk_ => trivial))
   replace HB := Aside0.mk (hb)
   clear HO199
   (try clear hb)
   (try clear hkp)
   (try clear ho0)
   refine hK.out _ _ (qc14 BK187.out) (fun hHeld => ?_)
   clear hK K
   refine norm_ (a' := ?_) ?_ ?_
   rotate_left
   ·show Act.put _ (some 25) _ = _
    simp only [Act.put, s1, s2, s3, i64_w, i32_w]
    rfl
   exact norm_ (by simp only [putAll, Act.put, s1, s2, s3]) (hCont (.slice Ao22 t197.length co22, v201, v204) _ ⟨hHeld, (qR HO193.out), (qR HO202.out), (qR HO205.out), (qK BK187.out), (qB HB.out)⟩)
 rintro ⟨v198, v201, v204⟩ w24 ⟨hS_, h0_, h1_, h2_, h3_, h4_⟩
 replace HO193 : Aside0 (Kd.R (Kd.int .i64) 3 w24 w.heap.size (fun _ => True) (.slice Ao15 y191.length co15) y191) := ⟨h0_⟩
 have HO202 : Aside0 (Kd.R (Kd.int .u8) 5 w24 w.heap.size (fun _ => True) v201 t200) := ⟨h1_⟩
 have HO205 : Aside0 (Kd.R (Kd.int .i64) 2 w24 w.heap.size (fun _ => True) v204 y203) := ⟨h2_⟩
 replace BK187 : Aside0 (w24.heap[gb187]? = some (.cells #[.int .i64 a0_0, .int .i64 a0_1, .int .i64 a0_2, .int .i64 a0_3, .int .i64 a0_4, .int .i64 a0_5, .int .i64 a0_6, .int .i64 a0_7, .int .i64 a0_8, .int .i64 a0_9, .int .i64 a0_10, .bool a0_11, .slice A0_12 l0_12.length c0_12, .slice A0_13 l0_13.length c0_13] 29 (0, 0))) := ⟨h3_⟩
 replace HB : Aside0 (Below w.heap.size w w24) := ⟨h4_⟩
 clear HO196 h0_ h1_ h2_ h3_ h4_
 have hHeld : w24.cell? ⟨gb187, 0, none⟩ = some (.int .i64 a0_0) ∧ w24.cell? ⟨gb187, 1, none⟩ = some (.int .i64 a0_1) ∧ w24.cell? ⟨gb187, 2, none⟩ = some (.int .i64 a0_2) ∧ w24.cell? ⟨gb187, 3, none⟩ = some (.int .i64 a0_3) ∧ w24.cell? ⟨gb187, 4, none⟩ = some (.int .i64 a0_4) ∧ w24.cell? ⟨gb187, 5, none⟩ = some (.int .i64 a0_5) ∧ w24.cell? ⟨gb187, 6, none⟩ = some (.int .i64 a0_6) ∧ w24.cell? ⟨gb187, 7, none⟩ = some (.int .i64 a0_7) ∧ w24.cell? ⟨gb187, 8, none⟩ = some (.int .i64 a0_8) ∧ w24.cell? ⟨gb187, 9, none⟩ = some (.int .i64 a0_9) ∧ w24.cell? ⟨gb187, 10, none⟩ = some (.int .i64 a0_10) ∧ w24.cell? ⟨gb187, 11, none⟩ = some (.bool a0_11) ∧ w24.cell? ⟨gb187, 12, none⟩ = some (.slice A0_12 l0_12.length c0_12) ∧ w24.cell? ⟨gb187, 13, none⟩ = some (.slice A0_13 l0_13.length c0_13) := hS_
 obtain ⟨Ao25, co25, eo25⟩ := Kd.R_slice HO202.out
 (first | subst eo25 | (injection eo25 with f1_ f2_ f3_; have f4_ := f1_.symm; have f5_ := f3_.symm; clear f1_ f2_ f3_; subst f4_; subst f5_))
 obtain ⟨Ao26, co26, eo26⟩ := Kd.R_slice HO205.out
 (first | subst eo26 | (injection eo26 with f1_ f2_ f3_; have f4_ := f1_.symm; have f5_ := f3_.symm; clear f1_ f2_ f3_; subst f4_; subst f5_))
 refine norm_ (a' := ?_) ?_ ?_
 rotate_left
 ·simp only [putAll, Act.put, s1, s2, s3]
  rfl
 refine one_ (i := 10) (N := some 29) #[true, true, true, true, true, true, true, true, true, true, true, false] rfl rfl (one_of HT_.out (by kernel_rfl)) (by decide) (fun K hK => ?_)
 refine qG Try.func41 #[.slice Ao25 t200.length co25, .slice Ao26 y203.length co26] ?_
 with_reducible refine (wire_num.calls k (fun k_ => some k_ = (.slice Ao25 t200.length co25 : Value).ownBlock) (.slice Ao25 t200.length co25) t200 _ _ y203 t206 w _ ?side1 ?side2 ?side3 ?side4 A5.out).mono ?_
 (case side1 => exact qB HB.out)
 (case side2 => exact Kd.R_tight rfl HO202.out)
 (case side3 => exact Kd.C_kept_own ((Kd.R_apart' HO205.out (Kd.R_typed HO202.out) (by decide))) (fun k_ hk_ hs_ => (hk_.2) hs_))
 (case side4 => exact (Kd.R_reads' HO205.out).2.1)
 rintro e w27 ⟨v207, rfl, ho0, hb, hkp⟩
 refine ⟨_, rfl, ?_⟩
 replace BK187 := Aside0.mk (blk_kept (qK BK187.out) hkp (fun hs_ => (fun e_ => (Kd.R_ne HO202.out BK187.out (by decide)) e_) hs_))
 replace HO193 := Aside0.mk (Kd.R_mono (ok' := fun k_ => True) (Kd.R_keptB ((Kd.R_apart' HO193.out (Kd.R_typed HO202.out) (by decide))) hkp (fun k_ hk_ hs_ => (hk_.2) hs_)) (fun k_ hk_ => trivial))
 replace HO205 := Aside0.mk (Kd.R_mono (ok' := fun k_ => True) (Kd.R_keptB ((Kd.R_apart' HO205.out (Kd.R_typed HO202.out) (by decide))) hkp (fun k_ hk_ hs_ => (hk_.2) hs_)) (fun k_ hk_ => trivial))
 have HO208 := Aside0.mk (Kd.R_mono (ok' := fun k_ => True) ho0 (fun k_ hk_ => trivial))
 replace HB := Aside0.mk (hb)
 clear HO202
 (try clear hb)
 (try clear hkp)
 (try clear ho0)
 refine hK.out _ _ (qc14 BK187.out) (fun hHeld => ?_)
 clear hK K
 refine norm_ (a' := ?_) ?_ ?_
 rotate_left
 ·show Act.put _ (some 29) _ = _
  simp only [Act.put, s1, s2, s3, i64_w, i32_w]
  rfl
 refine pure_ (i := 11) (N := some 3) (v := ?_) (a' := ?_) #[true, true, true, true, true, true, true, true, true, true, true, true] rfl rfl (any_of HT_.out (by kernel_rfl)) (fun _ _ _ h => h) (Or.inl ⟨by rfl, ?_⟩) ?_ ?_
 rotate_left
 ·intro w'
  go_simp
  with_reducible rfl
 rotate_left
 ·simp only [Act.put, s1, s2, s3, i64_w, i32_w]
  rfl
 refine done_ (done_of HT_.out (by kernel_rfl)) ?_
 obtain ⟨Ao28, co28, eo28⟩ := Kd.R_slice HO208.out
 subst eo28
 try go_wp2
 replace HO193 := Aside0.mk (Kd.R_drew HO193.out)
 replace HO205 := Aside0.mk (Kd.R_drew HO205.out)
 replace HO208 := Aside0.mk (Kd.R_drew HO208.out)
 replace BK187 := Aside0.mk (blk_drew BK187.out)
 replace HB := Aside0.mk (below_drew1 HB.out)
 refine start_ (n := 10) (S := fun w' => w'.cell? ⟨gb187, 0, none⟩ = some (.int .i64 a0_0) ∧ w'.cell? ⟨gb187, 1, none⟩ = some (.int .i64 a0_1) ∧ w'.cell? ⟨gb187, 2, none⟩ = some (.int .i64 a0_2) ∧ w'.cell? ⟨gb187, 3, none⟩ = some (.int .i64 a0_3) ∧ w'.cell? ⟨gb187, 4, none⟩ = some (.int .i64 a0_4) ∧ w'.cell? ⟨gb187, 5, none⟩ = some (.int .i64 a0_5) ∧ w'.cell? ⟨gb187, 6, none⟩ = some (.int .i64 a0_6) ∧ w'.cell? ⟨gb187, 7, none⟩ = some (.int .i64 a0_7) ∧ w'.cell? ⟨gb187, 8, none⟩ = some (.int .i64 a0_8) ∧ w'.cell? ⟨gb187, 9, none⟩ = some (.int .i64 a0_9) ∧ w'.cell? ⟨gb187, 10, none⟩ = some (.int .i64 a0_10) ∧ w'.cell? ⟨gb187, 11, none⟩ = some (.bool a0_11) ∧ w'.cell? ⟨gb187, 12, none⟩ = some (.slice A0_12 l0_12.length c0_12) ∧ w'.cell? ⟨gb187, 13, none⟩ = some (.slice A0_13 l0_13.length c0_13)) (ds := []) #[false, false, false, false, false, false, false, false, false, false] (by kernel_rfl) rfl rfl (qc14 BK187.out) (fun hHeld => ?_); refine with_tabW wire_Cmd.tab3 wire_Cmd.bits3 (fun HT_ HW_ => ?_)
 generalize w27.drew = w29 at HO193 HO205 HO208 BK187 HB hHeld ⊢
 refine pure_ (i := 0) (N := some 30) (v := ?_) (a' := ?_) #[true, false, false, false, false, false, false, false, false, false] rfl rfl (any_of HT_.out (by kernel_rfl)) (fun _ _ _ h => h) (Or.inl ⟨by rfl, ?_⟩) ?_ ?_
 rotate_left
 ·intro w'
  go_simp
  with_reducible rfl
 rotate_left
 ·simp only [Act.put, s1, s2, s3, i64_w, i32_w]
  rfl
 refine pure_ (i := 1) (N := some 31) (v := ?_) (a' := ?_) #[true, true, false, false, false, false, false, false, false, false] rfl rfl (any_of HT_.out (by kernel_rfl)) (fun _ _ _ h => h) (Or.inl ⟨by rfl, ?_⟩) ?_ ?_
 rotate_left
 ·intro w'
  go_simp
  with_reducible rfl
 rotate_left
 ·simp only [Act.put, s1, s2, s3, i64_w, i32_w]
  rfl
 refine pure_ (i := 4) (N := some 34) (v := ?_) (a' := ?_) #[true, true, false, false, true, false, false, false, false, false] rfl rfl (any_of HT_.out (by kernel_rfl)) (fun _ _ _ h => h) (Or.inl ⟨by rfl, ?_⟩) ?_ ?_
 rotate_left
 ·intro w'
  go_simp
  with_reducible rfl
 rotate_left
 ·simp only [Act.put, s1, s2, s3, i64_w, i32_w]
  rfl
 refine take_ (i := 2) (N := some 32) (v := ?_) (a' := ?_) #[true, true, true, false, true, false, false, false, false, false] rfl rfl (take_ofW HT_.out HW_.out (by kernel_rfl)) (fun _ _ _ h => h) (Or.inl ⟨by rfl, ?_⟩) hHeld ?_ ?_
 rotate_left
 ·rintro w' ⟨s0, s1, s2, s3, s4, s5, s6, s7, s8, s9, s10, s11, s12, s13⟩
  go_simp
  with_reducible rfl
 rotate_left
 ·simp only [Act.put, s1, s2, s3, i64_w, i32_w]
  rfl
 refine take_ (i := 5) (N := some 35) (v := ?_) (a' := ?_) #[true, true, true, false, true, true, false, false, false, false] rfl rfl (take_ofW HT_.out HW_.out (by kernel_rfl)) (fun _ _ _ h => h) (Or.inl ⟨by rfl, ?_⟩) hHeld ?_ ?_
 rotate_left
 ·rintro w' ⟨s0, s1, s2, s3, s4, s5, s6, s7, s8, s9, s10, s11, s12, s13⟩
  go_simp
  with_reducible rfl
 rotate_left
 ·simp only [Act.put, s1, s2, s3, i64_w, i32_w]
  rfl
 refine pure_ (i := 6) (N := some 36) (v := ?_) (a' := ?_) #[true, true, true, false, true, true, true, false, false, false] rfl rfl (any_of HT_.out (by kernel_rfl)) (fun _ _ _ h => h) (Or.inl ⟨by rfl, ?_⟩) ?_ ?_
 rotate_left
 ·intro w'
  go_simp
  with_reducible rfl
 rotate_left
 ·simp only [Act.put, s1, s2, s3, i64_w, i32_w]
  rfl
 refine join_ (σ := Value × Value) 2 #[true, true, true, true, true, true, true, true, false, false] (fun s_ => [(33, s_.1), (37, s_.2)]) (fun s_ w' => (w'.cell? ⟨gb187, 0, none⟩ = some (.int .i64 a0_0) ∧ w'.cell? ⟨gb187, 1, none⟩ = some (.int .i64 a0_1) ∧ w'.cell? ⟨gb187, 2, none⟩ = some (.int .i64 a0_2) ∧ w'.cell? ⟨gb187, 3, none⟩ = some (.int .i64 a0_3) ∧ w'.cell? ⟨gb187, 4, none⟩ = some (.int .i64 a0_4) ∧ w'.cell? ⟨gb187, 5, none⟩ = some (.int .i64 a0_5) ∧ w'.cell? ⟨gb187, 6, none⟩ = some (.int .i64 a0_6) ∧ w'.cell? ⟨gb187, 7, none⟩ = some (.int .i64 a0_7) ∧ w'.cell? ⟨gb187, 8, none⟩ = some (.int .i64 a0_8) ∧ w'.cell? ⟨gb187, 9, none⟩ = some (.int .i64 a0_9) ∧ w'.cell? ⟨gb187, 10, none⟩ = some (.int .i64 a0_10) ∧ w'.cell? ⟨gb187, 11, none⟩ = some (.bool a0_11) ∧ w'.cell? ⟨gb187, 12, none⟩ = some (.slice A0_12 l0_12.length c0_12) ∧ w'.cell? ⟨gb187, 13, none⟩ = some (.slice A0_13 l0_13.length c0_13)) ∧ (Kd.R (Kd.int .i64) 3 w' w.heap.size (fun k_ => some k_ ≠ (s_.2 : Value).ownBlock) (.slice Ao15 y191.length co15) y191) ∧ (Kd.R (Kd.int .i64) 2 w' w.heap.size (fun _ => True) (.slice Ao26 y203.length co26) y203) ∧ (Kd.R (Kd.int .u8) 5 w' w.heap.size (fun _ => True) s_.1 t209) ∧ (Kd.R (Kd.int .i64) 3 w' w.heap.size (fun k_ => some k_ ≠ (.slice Ao15 y191.length co15 : Value).ownBlock) s_.2 y212) ∧ (w'.heap[gb187]? = some (.cells #[.int .i64 a0_0, .int .i64 a0_1, .int .i64 a0_2, .int .i64 a0_3, .int .i64 a0_4, .int .i64 a0_5, .int .i64 a0_6, .int .i64 a0_7, .int .i64 a0_8, .int .i64 a0_9, .int .i64 a0_10, .bool a0_11, .slice A0_12 l0_12.length c0_12, .slice A0_13 l0_13.length c0_13] 29 (0, 0))) ∧ (Below w.heap.size w w')) ?_ ?_
 rotate_left
 ·intro hCont
  refine two_ (i := 3) (j := 7) (Ni := some 33) (Nj := some 37) #[true, true, true, true, true, true, true, false, false, false] #[true, true, true, false, true, true, true, true, false, false] rfl rfl rfl rfl (two_of HT_.out (by kernel_rfl)) (by decide) (by decide) (fun K hK => ?_) (fun K hK => ?_)
  ·skip
   refine qG Try.func44 #[.slice Ao28 t206.length co28, .bool a0_11] ?_
   with_reducible refine (wire_flag.calls (fun k_ => some k_ = (.slice Ao28 t206.length co28 : Value).ownBlock) (.slice Ao28 t206.length co28) t206 a0_11 t209 w _ ?side1 ?side2 A6.out).mono ?_
   (case side1 => exact qB HB.out)
   (case side2 => exact Kd.R_tight rfl HO208.out)
   rintro e w30 ⟨v210, rfl, ho0, hb, hkp⟩
   refine ⟨_, rfl, ?_⟩
   replace BK187 := Aside0.mk (blk_kept (qK BK187.out) hkp (fun hs_ => (fun e_ => (Kd.R_ne HO208.out BK187.out (by decide)) e_) hs_))
   replace HO193 := Aside0.mk (Kd.R_mono (ok' := fun k_ => True) (Kd.R_keptB ((Kd.R_apart' HO193.out (Kd.R_typed HO208.out) (by decide))) hkp (fun k_ hk_ hs_ => (hk_.2) hs_)) (fun k_ hk_ => trivial))
   replace HO205 := Aside0.mk (Kd.R_mono (ok' := fun k_ => True) (Kd.R_keptB ((Kd.R_apart' HO205.out (Kd.R_typed HO208.out) (by decide))) hkp (fun k_ hk_ hs_ => (hk_.2) hs_)) (fun k_ hk_ => trivial))
   have HO211 := Aside0.mk (Kd.R_mono (ok' := fun k_ => True) ho0 (fun k_ hk_ => trivial))
   replace HB := Aside0.mk (hb)
   clear HO208
   (try clear hb)
   (try clear hkp)
   (try clear ho0)
   refine hK.out _ _ (qc14 BK187.out) (fun hHeld => ?_)
   clear hK K
   refine norm_ (a' := ?_) ?_ ?_
   rotate_left
   ·show Act.put _ (some 33) _ = _
    simp only [Act.put, s1, s2, s3, i64_w, i32_w]
    rfl
   refine one_ (i := 7) (N := some 37) #[true, true, true, true, true, true, true, true, false, false] rfl rfl (one_of HT_.out (by kernel_rfl)) (by decide) (fun K hK => ?_)
   refine Kd.R_lit_step (Kd.int .i64) _ 3 ?hg (N := 37) ?hd (xs := ([(l0_12.length : Int)] : List Int)) (inner := [.int .i64 (l0_12.length : Int)]) (ok := fun _ => True) (okp := fun _ => True) ?hr ?hp (fun _ hk => hk) trivial (Below.refl _ _) (Nat.le_refl _) (by simp) ?_; (case hd => rfl); (case hg => rfl); (case hr => first | (go_simp; done) | (go_simp; rfl)); (case hp => exact (Reps.one (show Kd.M (Kd.int .i64) _ _ _ (l0_12.length : Int) [.int .i64 (l0_12.length : Int)] from rfl) (Reps.none _ _)))
   intro v213 w31 ho32 hb hg_ hnew_
   clear hg_ hnew_
   (first | rw [← Ny212.out] at ho32 | (simp only [Int.reduceToNat] at ho32; rw [← Ny212.out] at ho32))
   replace HO205 := Aside0.mk (Kd.R_below (qR HO205.out) hb)
   replace HO211 := Aside0.mk (Kd.R_below (qR HO211.out) hb)
   have HO214 := Aside0.mk (Kd.R_lower (Kd.R_new' ho32 (Kd.R_lt (qR HO193.out))) (below_size (qB HB.out)))
   replace HO193 := Aside0.mk (Kd.R_elder' (qR HO193.out) (Kd.R_base ho32) hb)
   replace BK187 := Aside0.mk (blk_below (qK BK187.out) hb)
   replace HB := Aside0.mk (below_step (qB HB.out) hb)
   clear hb ho32
   refine hK.out _ _ (qc14 BK187.out) (fun hHeld => ?_)
   clear hK K
   refine norm_ (a' := ?_) ?_ ?_
   rotate_left
   ·show Act.put _ (some 37) _ = _
    simp only [Act.put, s1, s2, s3, i64_w, i32_w]
    rfl
   exact norm_ (by simp only [putAll, Act.put, s1, s2, s3]) (hCont (v210, v213) _ ⟨hHeld, (by (with_reducible repeat (first | apply Kd.R_alloc | apply Kd.R_drewN | apply Kd.R_drew)); exact Kd.R_mono HO193.out (fun _ hk => hk.2)), (qR HO205.out), (qR HO211.out), (by (with_reducible repeat (first | apply Kd.R_alloc | apply Kd.R_drewN | apply Kd.R_drew)); exact Kd.R_mono HO214.out (fun _ hk => hk.2)), (qK BK187.out), (qB HB.out)⟩)
  ·skip
   refine Kd.R_lit_step (Kd.int .i64) _ 3 ?hg (N := 37) ?hd (xs := ([(l0_12.length : Int)] : List Int)) (inner := [.int .i64 (l0_12.length : Int)]) (ok := fun _ => True) (okp := fun _ => True) ?hr ?hp (fun _ hk => hk) trivial (Below.refl _ _) (Nat.le_refl _) (by simp) ?_; (case hd => rfl); (case hg => rfl); (case hr => first | (go_simp; done) | (go_simp; rfl)); (case hp => exact (Reps.one (show Kd.M (Kd.int .i64) _ _ _ (l0_12.length : Int) [.int .i64 (l0_12.length : Int)] from rfl) (Reps.none _ _)))
   intro v213 w30 ho31 hb hg_ hnew_
   clear hg_ hnew_
   (first | rw [← Ny212.out] at ho31 | (simp only [Int.reduceToNat] at ho31; rw [← Ny212.out] at ho31))
   replace HO205 := Aside0.mk (Kd.R_below (qR HO205.out) hb)
   replace HO208 := Aside0.mk (Kd.R_below (qR HO208.out) hb)
   have HO214 := Aside0.mk (Kd.R_lower (Kd.R_new' ho31 (Kd.R_lt (qR HO193.out))) (below_size (qB HB.out)))
   replace HO193 := Aside0.mk (Kd.R_elder' (qR HO193.out) (Kd.R_base ho31) hb)
   replace BK187 := Aside0.mk (blk_below (qK BK187.out) hb)
   replace HB := Aside0.mk (below_step (qB HB.out) hb)
   clear hb ho31
   refine hK.out _ _ (qc14 BK187.out) (fun hHeld => ?_)
   clear hK K
   refine norm_ (a' := ?_) ?_ ?_
   rotate_left
   ·show Act.put _ (some 37) _ = _
    simp only [Act.put, s1, s2, s3, i64_w, i32_w]
    rfl
   refine one_ (i := 3) (N := some 33) #[true, true, true, true, true, true, true, true, false, false] rfl rfl (one_of HT_.out (by kernel_rfl)) (by decide) (fun K hK => ?_)
   refine qG Try.func44 #[.slice Ao28 t206.length co28, .bool a0_11] ?_
   with_reducible refine (wire_flag.calls (fun k_ => some k_ = (.slice Ao28 t206.length co28 : Value).ownBlock) (.slice Ao28 t206.length co28) t206 a0_11 t209 w _ ?side1 ?side2 A6.out).mono ?_
   (case side1 => exact qB HB.out)
   (case side2 => exact Kd.R_tight rfl HO208.out)
   rintro e w32 ⟨v210, rfl, ho0, hb, hkp⟩
   refine ⟨_, rfl, ?_⟩
   replace BK187 := Aside0.mk (blk_kept (qK BK187.out) hkp (fun hs_ => (fun e_ => (Kd.R_ne HO208.out BK187.out (by decide)) e_) hs_))
   replace HO193 := Aside0.mk (Kd.R_mono (ok' := fun k_ => some k_ ≠ (v213 : Value).ownBlock) (Kd.R_keptB ((Kd.R_apart' HO193.out (Kd.R_typed HO208.out) (by decide))) hkp (fun k_ hk_ hs_ => (hk_.2) hs_)) (fun k_ hk_ => hk_.1.1.2))
   replace HO205 := Aside0.mk (Kd.R_mono (ok' := fun k_ => True) (Kd.R_keptB ((Kd.R_apart' HO205.out (Kd.R_typed HO208.out) (by decide))) hkp (fun k_ hk_ hs_ => (hk_.2) hs_)) (fun k_ hk_ => trivial))
   replace HO214 := Aside0.mk (Kd.R_mono (ok' := fun k_ => some k_ ≠ (.slice Ao15 y191.length co15 : Value).ownBlock) (Kd.R_keptB ((Kd.R_apart' HO214.out (Kd.R_typed HO208.out) (by decide))) hkp (fun k_ hk_ hs_ => (hk_.2) hs_)) (fun k_ hk_ => hk_.1.1.2))
   have HO211 := Aside0.mk (Kd.R_mono (ok' := fun k_ => True) ho0 (fun k_ hk_ => trivial))
   replace HB := Aside0.mk (hb)
   clear HO208
   (try clear hb)
   (try clear hkp)
   (try clear ho0)
   refine hK.out _ _ (qc14 BK187.out) (fun hHeld => ?_)
   clear hK K
   refine norm_ (a' := ?_) ?_ ?_
   rotate_left
   ·show Act.put _ (some 33) _ = _
    simp only [Act.put, s1, s2, s3, i64_w, i32_w]
    rfl
   exact norm_ (by simp only [putAll, Act.put, s1, s2, s3]) (hCont (v210, v213) _ ⟨hHeld, (qR HO193.out), (qR HO205.out), (qR HO211.out), (qR HO214.out), (qK BK187.out), (qB HB.out)⟩)
 rintro ⟨v210, v213⟩ w33 ⟨hS_, h0_, h1_, h2_, h3_, h4_, h5_⟩
 replace HO193 : Aside0 (Kd.R (Kd.int .i64) 3 w33 w.heap.size (fun k_ => some k_ ≠ (v213 : Value).ownBlock) (.slice Ao15 y191.length co15) y191) := ⟨h0_⟩
 replace HO205 : Aside0 (Kd.R (Kd.int .i64) 2 w33 w.heap.size (fun _ => True) (.slice Ao26 y203.length co26) y203) := ⟨h1_⟩
 have HO211 : Aside0 (Kd.R (Kd.int .u8) 5 w33 w.heap.size (fun _ => True) v210 t209) := ⟨h2_⟩
 have HO214 : Aside0 (Kd.R (Kd.int .i64) 3 w33 w.heap.size (fun k_ => some k_ ≠ (.slice Ao15 y191.length co15 : Value).ownBlock) v213 y212) := ⟨h3_⟩
 replace BK187 : Aside0 (w33.heap[gb187]? = some (.cells #[.int .i64 a0_0, .int .i64 a0_1, .int .i64 a0_2, .int .i64 a0_3, .int .i64 a0_4, .int .i64 a0_5, .int .i64 a0_6, .int .i64 a0_7, .int .i64 a0_8, .int .i64 a0_9, .int .i64 a0_10, .bool a0_11, .slice A0_12 l0_12.length c0_12, .slice A0_13 l0_13.length c0_13] 29 (0, 0))) := ⟨h4_⟩
 replace HB : Aside0 (Below w.heap.size w w33) := ⟨h5_⟩
 clear HO208 h0_ h1_ h2_ h3_ h4_ h5_
 have hHeld : w33.cell? ⟨gb187, 0, none⟩ = some (.int .i64 a0_0) ∧ w33.cell? ⟨gb187, 1, none⟩ = some (.int .i64 a0_1) ∧ w33.cell? ⟨gb187, 2, none⟩ = some (.int .i64 a0_2) ∧ w33.cell? ⟨gb187, 3, none⟩ = some (.int .i64 a0_3) ∧ w33.cell? ⟨gb187, 4, none⟩ = some (.int .i64 a0_4) ∧ w33.cell? ⟨gb187, 5, none⟩ = some (.int .i64 a0_5) ∧ w33.cell? ⟨gb187, 6, none⟩ = some (.int .i64 a0_6) ∧ w33.cell? ⟨gb187, 7, none⟩ = some (.int .i64 a0_7) ∧ w33.cell? ⟨gb187, 8, none⟩ = some (.int .i64 a0_8) ∧ w33.cell? ⟨gb187, 9, none⟩ = some (.int .i64 a0_9) ∧ w33.cell? ⟨gb187, 10, none⟩ = some (.int .i64 a0_10) ∧ w33.cell? ⟨gb187, 11, none⟩ = some (.bool a0_11) ∧ w33.cell? ⟨gb187, 12, none⟩ = some (.slice A0_12 l0_12.length c0_12) ∧ w33.cell? ⟨gb187, 13, none⟩ = some (.slice A0_13 l0_13.length c0_13) := hS_
 obtain ⟨Ao34, co34, eo34⟩ := Kd.R_slice HO211.out
 (first | subst eo34 | (injection eo34 with f1_ f2_ f3_; have f4_ := f1_.symm; have f5_ := f3_.symm; clear f1_ f2_ f3_; subst f4_; subst f5_))
 obtain ⟨Ao35, co35, eo35⟩ := Kd.R_slice HO214.out
 (first | subst eo35 | (injection eo35 with f1_ f2_ f3_; have f4_ := f1_.symm; have f5_ := f3_.symm; clear f1_ f2_ f3_; subst f4_; subst f5_))
 refine norm_ (a' := ?_) ?_ ?_
 rotate_left
 ·simp only [putAll, Act.put, s1, s2, s3]
  rfl
 refine one_ (i := 8) (N := some 38) #[true, true, true, true, true, true, true, true, true, false] rfl rfl (one_of HT_.out (by kernel_rfl)) (by decide) (fun K hK => ?_)
 refine qG Try.func40 #[.slice Ao34 t209.length co34, .slice Ao35 y212.length co35] ?_
 with_reducible refine (wire_ints.calls k (fun k_ => some k_ = (.slice Ao34 t209.length co34 : Value).ownBlock) (.slice Ao34 t209.length co34) t209 _ _ y212 t215 w _ ?side1 ?side2 ?side3 ?side4 A7.out).mono ?_
 (case side1 => exact qB HB.out)
 (case side2 => exact Kd.R_tight rfl HO211.out)
 (case side3 => exact Kd.C_kept_own ((Kd.R_apart' HO214.out (Kd.R_typed HO211.out) (by decide))) (fun k_ hk_ hs_ => (hk_.2) hs_))
 (case side4 => exact (Kd.R_reads' HO214.out).2.1)
 rintro e w36 ⟨v216, rfl, ho0, hb, hkp⟩
 refine ⟨_, rfl, ?_⟩
 replace BK187 := Aside0.mk (blk_kept (qK BK187.out) hkp (fun hs_ => (fun e_ => (Kd.R_ne HO211.out BK187.out (by decide)) e_) hs_))
 replace HO193 := Aside0.mk (Kd.R_mono (ok' := fun k_ => some k_ ≠ (.slice Ao35 y212.length co35 : Value).ownBlock) (Kd.R_keptB ((Kd.R_apart' HO193.out (Kd.R_typed HO211.out) (by decide))) hkp (fun k_ hk_ hs_ => (hk_.2) hs_)) (fun k_ hk_ => hk_.1.1))
 replace HO205 := Aside0.mk (Kd.R_mono (ok' := fun k_ => True) (Kd.R_keptB ((Kd.R_apart' HO205.out (Kd.R_typed HO211.out) (by decide))) hkp (fun k_ hk_ hs_ => (hk_.2) hs_)) (fun k_ hk_ => trivial))
 replace HO214 := Aside0.mk (Kd.R_mono (ok' := fun k_ => some k_ ≠ (.slice Ao15 y191.length co15 : Value).ownBlock) (Kd.R_keptB ((Kd.R_apart' HO214.out (Kd.R_typed HO211.out) (by decide))) hkp (fun k_ hk_ hs_ => (hk_.2) hs_)) (fun k_ hk_ => hk_.1.1))
 have HO217 := Aside0.mk (Kd.R_mono (ok' := fun k_ => True) ho0 (fun k_ hk_ => trivial))
 replace HB := Aside0.mk (hb)
 clear HO211
 (try clear hb)
 (try clear hkp)
 (try clear ho0)
 refine hK.out _ _ (qc14 BK187.out) (fun hHeld => ?_)
 clear hK K
 refine norm_ (a' := ?_) ?_ ?_
 rotate_left
 ·show Act.put _ (some 38) _ = _
  simp only [Act.put, s1, s2, s3, i64_w, i32_w]
  rfl
 refine pure_ (i := 9) (N := some 3) (v := ?_) (a' := ?_) #[true, true, true, true, true, true, true, true, true, true] rfl rfl (any_of HT_.out (by kernel_rfl)) (fun _ _ _ h => h) (Or.inl ⟨by rfl, ?_⟩) ?_ ?_
 rotate_left
 ·intro w'
  go_simp
  with_reducible rfl
 rotate_left
 ·simp only [Act.put, s1, s2, s3, i64_w, i32_w]
  rfl
 refine done_ (done_of HT_.out (by kernel_rfl)) ?_
 have hcz37_0 : w36.cell? ⟨gb187, 0, none⟩ = some (.int .i64 a0_0) := (blk_cell BK187.out 0).trans rfl
 have hcz37_1 : w36.cell? ⟨gb187, 1, none⟩ = some (.int .i64 a0_1) := (blk_cell BK187.out 1).trans rfl
 have hcz37_2 : w36.cell? ⟨gb187, 2, none⟩ = some (.int .i64 a0_2) := (blk_cell BK187.out 2).trans rfl
 have hcz37_3 : w36.cell? ⟨gb187, 3, none⟩ = some (.int .i64 a0_3) := (blk_cell BK187.out 3).trans rfl
 have hcz37_4 : w36.cell? ⟨gb187, 4, none⟩ = some (.int .i64 a0_4) := (blk_cell BK187.out 4).trans rfl
 have hcz37_5 : w36.cell? ⟨gb187, 5, none⟩ = some (.int .i64 a0_5) := (blk_cell BK187.out 5).trans rfl
 have hcz37_6 : w36.cell? ⟨gb187, 6, none⟩ = some (.int .i64 a0_6) := (blk_cell BK187.out 6).trans rfl
 have hcz37_7 : w36.cell? ⟨gb187, 7, none⟩ = some (.int .i64 a0_7) := (blk_cell BK187.out 7).trans rfl
 have hcz37_8 : w36.cell? ⟨gb187, 8, none⟩ = some (.int .i64 a0_8) := (blk_cell BK187.out 8).trans rfl
 have hcz37_9 : w36.cell? ⟨gb187, 9, none⟩ = some (.int .i64 a0_9) := (blk_cell BK187.out 9).trans rfl
 have hcz37_10 : w36.cell? ⟨gb187, 10, none⟩ = some (.int .i64 a0_10) := (blk_cell BK187.out 10).trans rfl
 have hcz37_11 : w36.cell? ⟨gb187, 11, none⟩ = some (.bool a0_11) := (blk_cell BK187.out 11).trans rfl
 have hcz37_12 : w36.cell? ⟨gb187, 12, none⟩ = some (.slice A0_12 l0_12.length c0_12) := (blk_cell BK187.out 12).trans rfl
 have hcz37_13 : w36.cell? ⟨gb187, 13, none⟩ = some (.slice A0_13 l0_13.length c0_13) := (blk_cell BK187.out 13).trans rfl
 have hfz37_0 := blk_frozen BK187.out 0
 have hfz37_1 := blk_frozen BK187.out 1
 have hfz37_2 := blk_frozen BK187.out 2
 have hfz37_3 := blk_frozen BK187.out 3
 have hfz37_4 := blk_frozen BK187.out 4
 have hfz37_5 := blk_frozen BK187.out 5
 have hfz37_6 := blk_frozen BK187.out 6
 have hfz37_7 := blk_frozen BK187.out 7
 have hfz37_8 := blk_frozen BK187.out 8
 have hfz37_9 := blk_frozen BK187.out 9
 have hfz37_10 := blk_frozen BK187.out 10
 have hfz37_11 := blk_frozen BK187.out 11
 have hfz37_12 := blk_frozen BK187.out 12
 have hfz37_13 := blk_frozen BK187.out 13
 try go_wp2
 go_loopg [3, 42] k (fun kq v3 v42 w' => ∃ (x3_1 : List Int) (x42_1 : Int), v42 = .int .i64 x42_1 ∧ Aside0 (wire_Cmd.l0 kq x3_1 l0_12 (l0_12.length : Int) x42_1 a0_0 a0_1 a0_2 a0_3 a0_4 a0_5 a0_6 a0_7 a0_8 a0_9 a0_10 a0_11 l0_12 l0_13 = some r) ∧ Aside0 (kq ≤ k) ∧ Aside0 (Kd.R (Kd.int .u8) 5 w' w.heap.size (fun _ => True) v3 x3_1) ∧ Aside0 (w'.heap[gb187]? = some (.cells #[.int .i64 a0_0, .int .i64 a0_1, .int .i64 a0_2, .int .i64 a0_3, .int .i64 a0_4, .int .i64 a0_5, .int .i64 a0_6, .int .i64 a0_7, .int .i64 a0_8, .int .i64 a0_9, .int .i64 a0_10, .bool a0_11, (.slice A0_12 l0_12.length c0_12), (.slice A0_13 l0_13.length c0_13)] 29 (0, 0))) ∧ Aside0 (Below w.heap.size w w'))
 case atStart => exact ⟨(t215), (0), (by first | rfl | (simp; done) | (simp [*]; done)), H', ⟨Nat.le_refl _⟩, ⟨qR HO217.out⟩, ⟨qK BK187.out⟩, ⟨qB HB.out⟩⟩
 case round =>
  clear H'
  try clear p2
  try clear c4
  try clear hcz37_0
  try clear hcz37_1
  try clear hcz37_10
  try clear hcz37_11
  try clear hcz37_12
  try clear hcz37_13
  try clear hcz37_2
  try clear hcz37_3
  try clear hcz37_4
  try clear hcz37_5
  try clear hcz37_6
  try clear hcz37_7
  try clear hcz37_8
  try clear hcz37_9
  try clear hfz37_0
  try clear hfz37_1
  try clear hfz37_10
  try clear hfz37_11
  try clear hfz37_12
  try clear hfz37_13
  try clear hfz37_2
  try clear hfz37_3
  try clear hfz37_4
  try clear hfz37_5
  try clear hfz37_6
  try clear hfz37_7
  try clear hfz37_8
  try clear hfz37_9
  obtain ⟨x3_1, x42_1, rfl, HA, HK1, HO_3, BK187, HB⟩ := hrel
  cases gk with
  | zero => exact absurd HA.out (by simp [wire_Cmd.l0])
  | succ k1 =>
   have H := HA.out
   clear HA
   simp only [wire_Cmd.l0] at H
   by_cases c38 : x42_1 < (l0_12.length : Int)
   ·rw [if_pos c38] at H
    have c38b0 : decide (x42_1 < (l0_12.length : Int)) = true := decide_eq_true c38
    clear c38
    by_cases c39 : 0 ≤ x42_1
    ·rw [if_pos c39] at H
     have c39b0 : decide (0 ≤ x42_1) = true := decide_eq_true c39
     clear c39
     by_cases c40 : x42_1 < (l0_12.length : Int)
     ·rw [if_pos c40] at H
      have c40b0 : decide (x42_1 < (l0_12.length : Int)) = true := decide_eq_true c40
      clear c40
      obtain ⟨y220, hy220⟩ : ∃ y_ : List ByteArray, y_ = (([(rd_T65 l0_12 x42_1).f0, (rd_T65 l0_12 x42_1).f1] : List ByteArray)) := ⟨_, rfl⟩
      replace H : ((wire_text.f k1 x3_1 y220).bind fun t223 => (wire_Cmd.l0 k1 t223 l0_12 (l0_12.length : Int) (wrap64 (x42_1 + 1)) a0_0 a0_1 a0_2 a0_3 a0_4 a0_5 a0_6 a0_7 a0_8 a0_9 a0_10 a0_11 l0_12 l0_13)) = some r := by first | (rw [hy220]; with_reducible exact H) | (have H2_ := (Option.bind_some _ _).symm.trans H; rw [hy220]; with_reducible exact H2_) | (have H2_ := (Option.bind_some _ _).symm.trans H; with_reducible exact H2_) | with_reducible exact H | (rw [hy220]; exact H) | exact H
      have Ny220 := Aside0.mk hy220
      clear hy220
      replace H := Option.bind_eq_some_iff.mp H
      obtain ⟨t223, A410, H⟩ := H
      replace H : (wire_Cmd.l0 k1 t223 l0_12 (l0_12.length : Int) (wrap64 (x42_1 + 1)) a0_0 a0_1 a0_2 a0_3 a0_4 a0_5 a0_6 a0_7 a0_8 a0_9 a0_10 a0_11 l0_12 l0_13) = some r := H
      have A41 := Aside0.mk A410
      clear A410
      have H' := Aside0.mk H
      clear H
      have p218 : 0 ≤ (x42_1 : Int) := of_decide_eq_true (by first | (with_reducible assumption) | assumption)
      have q218 : x42_1 < (l0_12.length : Int) := of_decide_eq_true (by first | (with_reducible assumption) | assumption)
      obtain ⟨ad218, e218, hx218_0, hx218_1⟩ := at_T65 HR0_12.out x42_1 p218 q218
      cases e218
      replace hx218_0 := (HB.out.cell (World.block_lt_of_cell? w _ hx218_0)).trans hx218_0
      replace hx218_1 := (HB.out.cell (World.block_lt_of_cell? w _ hx218_1)).trans hx218_1
      replace p218 := eq_true p218
      replace q218 := eq_true q218
      go_wp2_with (first | ((with_reducible refine gate_dst (N := 5) rfl ?_); refine qX 5 #[.string (⟨#[]⟩ : ByteArray), .string (⟨#[]⟩ : ByteArray)] 65 ?_; intro gb219 hg w42 hbox hb; replace HO_3 := Aside0.mk (Kd.R_below (qR HO_3.out) hb); have BK219 := Aside0.mk (hbox); have GW219 := Aside0.mk ((qZ HB.out hg)); have GE219 := Aside0.mk ((qZ HB.out hg)); replace HB := Aside0.mk (below_step (qB HB.out) hb); have NB187_219 := Aside0.mk ((qN BK187.out hg)); have NB219_187 := Aside0.mk ((qM BK187.out hg)); replace BK187 := Aside0.mk (blk_below (qK BK187.out) hb); clear hb hbox hg; have hnb43 := NB219_187.out; have hnc43 := NB187_219.out; have hcz44_0 : w42.cell? ⟨gb219, 0, none⟩ = some (.string (⟨#[]⟩ : ByteArray)) := (blk_cell BK219.out 0).trans rfl; have hcz44_1 : w42.cell? ⟨gb219, 1, none⟩ = some (.string (⟨#[]⟩ : ByteArray)) := (blk_cell BK219.out 1).trans rfl; have hfz44_0 := blk_frozen BK219.out 0; have hfz44_1 := blk_frozen BK219.out 1) | ((with_reducible refine gate_dst (N := 51) rfl ?_); refine Kd.R_lit Kd.string _ 9 ?hg (N := 51) ?hd (xs := ([(rd_T65 l0_12 x42_1).f0, (rd_T65 l0_12 x42_1).f1] : List ByteArray)) (inner := [.string ((rd_T65 l0_12 x42_1).f0), .string ((rd_T65 l0_12 x42_1).f1)]) (ok := fun _ => True) (okp := fun _ => True) ?hr ?hp (fun _ hk => hk) trivial (Below.refl _ _) (Nat.le_refl _) (by simp) ?_; (case hd => rfl); (case hg => rfl); (case hr => first | (go_simp; done) | (go_simp; rfl)); (case hp => exact (Reps.one (show Kd.M Kd.string _ _ _ ((rd_T65 l0_12 x42_1).f0) [.string ((rd_T65 l0_12 x42_1).f0)] from rfl) (Reps.one (show Kd.M Kd.string _ _ _ ((rd_T65 l0_12 x42_1).f1) [.string ((rd_T65 l0_12 x42_1).f1)] from rfl) (Reps.none _ _)))); intro v221 w45 ho46 hb hg_ hnew_; clear hg_ hnew_; (first | rw [← Ny220.out] at ho46 | (simp only [Int.reduceToNat] at ho46; rw [← Ny220.out] at ho46)); replace HO_3 := Aside0.mk (Kd.R_below (by (with_reducible repeat (first | apply Kd.R_alloc | apply Kd.R_drewN | apply Kd.R_drew)); exact (Kd.R_mono (Kd.R_far (p := ⟨gb219, 1, none⟩) (Kd.R_far (p := ⟨gb219, 0, none⟩) (Kd.R_types HO_3.out BK219.out (by decide)) (fun _ hk => hk.2) (.string ((rd_T65 l0_12 x42_1).f0))) (fun _ hk => hk.2) (.string ((rd_T65 l0_12 x42_1).f1))) (fun _ h_ => h_.1))) hb); have HO222 := Aside0.mk (Kd.R_lower ho46 (below_size (qB HB.out))); replace BK187 := Aside0.mk (blk_below (g := gb187) (o := .cells #[.int .i64 a0_0, .int .i64 a0_1, .int .i64 a0_2, .int .i64 a0_3, .int .i64 a0_4, .int .i64 a0_5, .int .i64 a0_6, .int .i64 a0_7, .int .i64 a0_8, .int .i64 a0_9, .int .i64 a0_10, .bool a0_11, .slice (some ad218) l0_12.length c0_12, .slice A0_13 l0_13.length c0_13] 29 (0, 0)) (by (with_reducible repeat (first | refine blk_drewN ?_ _ | refine blk_drew ?_ | refine blk_alloc ?_ _)); refine blk_far ?_ NB187_219.out _; (with_reducible repeat (first | refine blk_drewN ?_ _ | refine blk_drew ?_ | refine blk_alloc ?_ _)); refine blk_far ?_ NB187_219.out _; (with_reducible repeat (first | refine blk_drewN ?_ _ | refine blk_drew ?_ | refine blk_alloc ?_ _)); exact BK187.out) hb); replace BK219 := Aside0.mk (blk_below (g := gb219) (o := .cells #[.string ((rd_T65 l0_12 x42_1).f0), .string ((rd_T65 l0_12 x42_1).f1)] 65 (0, 0)) (by (with_reducible repeat (first | refine blk_drewN ?_ _ | refine blk_drew ?_ | refine blk_alloc ?_ _)); refine blk_put (cs := #[.string ((rd_T65 l0_12 x42_1).f0), .string (⟨#[]⟩ : ByteArray)]) ?_ 1 _ rfl; (with_reducible repeat (first | refine blk_drewN ?_ _ | refine blk_drew ?_ | refine blk_alloc ?_ _)); refine blk_put (cs := #[.string (⟨#[]⟩ : ByteArray), .string (⟨#[]⟩ : ByteArray)]) ?_ 0 _ rfl; (with_reducible repeat (first | refine blk_drewN ?_ _ | refine blk_drew ?_ | refine blk_alloc ?_ _)); exact BK219.out) hb); replace HB := Aside0.mk (below_step (qB HB.out) hb); clear hb ho46; obtain ⟨Ao47, co47, eo47⟩ := Kd.R_slice HO_3.out; subst eo47; obtain ⟨Ao48, co48, eo48⟩ := Kd.R_slice HO222.out; subst eo48) | ((with_reducible refine gate_callee (f := 45) rfl ?_); refine qL (some 52) Try.func45 #[.slice Ao47 x3_1.length co47, .slice Ao48 y220.length co48] ?_; (with_reducible refine (wire_text.calls k1 _ _ x3_1 _ _ y220 t223 _ ?side1 ?side2 ?side3 ?side4 A41.out).mono ?_); (case side1 => exact qC (Kd.R_reads' HO_3.out).2.2); (case side2 => exact (Kd.R_reads' HO_3.out).2.1); (case side3 => exact qC (Kd.R_reads' HO222.out).2.2); (case side4 => exact (Kd.R_reads' HO222.out).2.1); rintro e w49 ⟨v224, rfl, ho0, hb⟩; refine ⟨_, rfl, ?_⟩; replace HO222 := Aside0.mk (Kd.R_below (qR HO222.out) hb); have HO225 := Aside0.mk (Kd.R_lower (Kd.R_new' ho0 (Kd.R_lt (qR HO_3.out))) (below_size (qB HB.out))); replace HO_3 := Aside0.mk (Kd.R_elder' (qR HO_3.out) (Kd.R_base ho0) hb); replace BK187 := Aside0.mk (blk_below (qK BK187.out) hb); replace BK219 := Aside0.mk (blk_below (qK BK219.out) hb); replace HB := Aside0.mk (below_step (qB HB.out) hb); (try clear hb); (try clear hb2); (try clear hk); (try clear hi); (try clear ho0)))
      go_roundg k1
      case measure => have := HK1.out; omega
      case rel => exact ⟨(t223), (wrap64 (x42_1 + 1)), (by first | rfl | (simp; done) | (simp [*]; done)), H', ⟨by have := HK1.out; omega⟩, ⟨by (with_reducible repeat (first | apply Kd.R_alloc | apply Kd.R_drewN | apply Kd.R_drew)); exact Kd.R_mono HO225.out (fun _ hk => trivial)⟩, ⟨qK BK187.out⟩, ⟨qB HB.out⟩⟩
     ·rw [if_neg c40] at H
      exact absurd H (by simp)
    ·rw [if_neg c39] at H
     exact absurd H (by simp)
   ·rw [if_neg c38] at H
    have c38b0 : decide (x42_1 < (l0_12.length : Int)) = false := decide_eq_false c38
    clear c38
    obtain ⟨y226, hy226⟩ : ∃ y_ : List Int, y_ = (([(l0_13.length : Int)] : List Int)) := ⟨_, rfl⟩
    replace H : ((wire_ints.f k1 x3_1 y226).bind fun t229 => (wire_Cmd.l1 k1 t229 l0_13 (l0_13.length : Int) 0)) = some r := by first | (rw [hy226]; with_reducible exact H) | (have H2_ := (Option.bind_some _ _).symm.trans H; rw [hy226]; with_reducible exact H2_) | (have H2_ := (Option.bind_some _ _).symm.trans H; with_reducible exact H2_) | with_reducible exact H | (rw [hy226]; exact H) | exact H
    have Ny226 := Aside0.mk hy226
    clear hy226
    replace H := Option.bind_eq_some_iff.mp H
    obtain ⟨t229, A500, H⟩ := H
    replace H : (wire_Cmd.l1 k1 t229 l0_13 (l0_13.length : Int) 0) = some r := H
    have A50 := Aside0.mk A500
    clear A500
    have H' := Aside0.mk H
    clear H
    have hcz51_0 : wr.cell? ⟨gb187, 0, none⟩ = some (.int .i64 a0_0) := (blk_cell BK187.out 0).trans rfl
    have hcz51_1 : wr.cell? ⟨gb187, 1, none⟩ = some (.int .i64 a0_1) := (blk_cell BK187.out 1).trans rfl
    have hcz51_2 : wr.cell? ⟨gb187, 2, none⟩ = some (.int .i64 a0_2) := (blk_cell BK187.out 2).trans rfl
    have hcz51_3 : wr.cell? ⟨gb187, 3, none⟩ = some (.int .i64 a0_3) := (blk_cell BK187.out 3).trans rfl
    have hcz51_4 : wr.cell? ⟨gb187, 4, none⟩ = some (.int .i64 a0_4) := (blk_cell BK187.out 4).trans rfl
    have hcz51_5 : wr.cell? ⟨gb187, 5, none⟩ = some (.int .i64 a0_5) := (blk_cell BK187.out 5).trans rfl
    have hcz51_6 : wr.cell? ⟨gb187, 6, none⟩ = some (.int .i64 a0_6) := (blk_cell BK187.out 6).trans rfl
    have hcz51_7 : wr.cell? ⟨gb187, 7, none⟩ = some (.int .i64 a0_7) := (blk_cell BK187.out 7).trans rfl
    have hcz51_8 : wr.cell? ⟨gb187, 8, none⟩ = some (.int .i64 a0_8) := (blk_cell BK187.out 8).trans rfl
    have hcz51_9 : wr.cell? ⟨gb187, 9, none⟩ = some (.int .i64 a0_9) := (blk_cell BK187.out 9).trans rfl
    have hcz51_10 : wr.cell? ⟨gb187, 10, none⟩ = some (.int .i64 a0_10) := (blk_cell BK187.out 10).trans rfl
    have hcz51_11 : wr.cell? ⟨gb187, 11, none⟩ = some (.bool a0_11) := (blk_cell BK187.out 11).trans rfl
    have hcz51_12 : wr.cell? ⟨gb187, 12, none⟩ = some (.slice A0_12 l0_12.length c0_12) := (blk_cell BK187.out 12).trans rfl
    have hcz51_13 : wr.cell? ⟨gb187, 13, none⟩ = some (.slice A0_13 l0_13.length c0_13) := (blk_cell BK187.out 13).trans rfl
    have hfz51_0 := blk_frozen BK187.out 0
    have hfz51_1 := blk_frozen BK187.out 1
    have hfz51_2 := blk_frozen BK187.out 2
    have hfz51_3 := blk_frozen BK187.out 3
    have hfz51_4 := blk_frozen BK187.out 4
    have hfz51_5 := blk_frozen BK187.out 5
    have hfz51_6 := blk_frozen BK187.out 6
    have hfz51_7 := blk_frozen BK187.out 7
    have hfz51_8 := blk_frozen BK187.out 8
    have hfz51_9 := blk_frozen BK187.out 9
    have hfz51_10 := blk_frozen BK187.out 10
    have hfz51_11 := blk_frozen BK187.out 11
    have hfz51_12 := blk_frozen BK187.out 12
    have hfz51_13 := blk_frozen BK187.out 13
    go_wp2_with (first | ((with_reducible refine gate_dst (N := 58) rfl ?_); refine Kd.R_lit (Kd.int .i64) _ 3 ?hg (N := 58) ?hd (xs := ([(l0_13.length : Int)] : List Int)) (inner := [.int .i64 (l0_13.length : Int)]) (ok := fun _ => True) (okp := fun _ => True) ?hr ?hp (fun _ hk => hk) trivial (Below.refl _ _) (Nat.le_refl _) (by simp) ?_; (case hd => rfl); (case hg => rfl); (case hr => first | (go_simp; done) | (go_simp; rfl)); (case hp => exact (Reps.one (show Kd.M (Kd.int .i64) _ _ _ (l0_13.length : Int) [.int .i64 (l0_13.length : Int)] from rfl) (Reps.none _ _))); intro v227 w52 ho53 hb hg_ hnew_; clear hg_ hnew_; (first | rw [← Ny226.out] at ho53 | (simp only [Int.reduceToNat] at ho53; rw [← Ny226.out] at ho53)); replace HO_3 := Aside0.mk (Kd.R_below (qR HO_3.out) hb); have HO228 := Aside0.mk (Kd.R_lower ho53 (below_size (qB HB.out))); replace BK187 := Aside0.mk (blk_below (qK BK187.out) hb); replace HB := Aside0.mk (below_step (qB HB.out) hb); clear hb ho53; obtain ⟨Ao54, co54, eo54⟩ := Kd.R_slice HO_3.out; subst eo54; obtain ⟨Ao55, co55, eo55⟩ := Kd.R_slice HO228.out; subst eo55) | ((with_reducible refine gate_callee (f := 40) rfl ?_); refine qL (some 59) Try.func40 #[.slice Ao54 x3_1.length co54, .slice Ao55 y226.length co55] ?_; (with_reducible refine (wire_ints.calls k1 (fun k_ => some k_ = (.slice Ao54 x3_1.length co54 : Value).ownBlock) (.slice Ao54 x3_1.length co54) x3_1 _ _ y226 t229 w _ ?side1 ?side2 ?side3 ?side4 A50.out).mono ?_); (case side1 => exact qB HB.out); (case side2 => exact Kd.R_tight rfl HO_3.out); (case side3 => exact Kd.C_kept_own ((Kd.R_apart' HO228.out (Kd.R_typed HO_3.out) (by decide))) (fun k_ hk_ hs_ => (hk_.2) hs_)); (case side4 => exact (Kd.R_reads' HO228.out).2.1); rintro e w56 ⟨v230, rfl, ho0, hb, hkp⟩; refine ⟨_, rfl, ?_⟩; replace BK187 := Aside0.mk (blk_kept (qK BK187.out) hkp (fun hs_ => (fun e_ => (Kd.R_ne HO_3.out BK187.out (by decide)) e_) hs_)); replace HO228 := Aside0.mk (Kd.R_mono (ok' := fun k_ => True) (Kd.R_keptB ((Kd.R_apart' HO228.out (Kd.R_typed HO_3.out) (by decide))) hkp (fun k_ hk_ hs_ => (hk_.2) hs_)) (fun k_ hk_ => trivial)); have HO231 := Aside0.mk (Kd.R_mono (ok' := fun k_ => True) ho0 (fun k_ hk_ => trivial)); replace HB := Aside0.mk (hb); clear HO_3; (try clear hb); (try clear hkp); (try clear ho0); have hcz57_0 : w56.cell? ⟨gb187, 0, none⟩ = some (.int .i64 a0_0) := (blk_cell BK187.out 0).trans rfl; have hcz57_1 : w56.cell? ⟨gb187, 1, none⟩ = some (.int .i64 a0_1) := (blk_cell BK187.out 1).trans rfl; have hcz57_2 : w56.cell? ⟨gb187, 2, none⟩ = some (.int .i64 a0_2) := (blk_cell BK187.out 2).trans rfl; have hcz57_3 : w56.cell? ⟨gb187, 3, none⟩ = some (.int .i64 a0_3) := (blk_cell BK187.out 3).trans rfl; have hcz57_4 : w56.cell? ⟨gb187, 4, none⟩ = some (.int .i64 a0_4) := (blk_cell BK187.out 4).trans rfl; have hcz57_5 : w56.cell? ⟨gb187, 5, none⟩ = some (.int .i64 a0_5) := (blk_cell BK187.out 5).trans rfl; have hcz57_6 : w56.cell? ⟨gb187, 6, none⟩ = some (.int .i64 a0_6) := (blk_cell BK187.out 6).trans rfl; have hcz57_7 : w56.cell? ⟨gb187, 7, none⟩ = some (.int .i64 a0_7) := (blk_cell BK187.out 7).trans rfl; have hcz57_8 : w56.cell? ⟨gb187, 8, none⟩ = some (.int .i64 a0_8) := (blk_cell BK187.out 8).trans rfl; have hcz57_9 : w56.cell? ⟨gb187, 9, none⟩ = some (.int .i64 a0_9) := (blk_cell BK187.out 9).trans rfl; have hcz57_10 : w56.cell? ⟨gb187, 10, none⟩ = some (.int .i64 a0_10) := (blk_cell BK187.out 10).trans rfl; have hcz57_11 : w56.cell? ⟨gb187, 11, none⟩ = some (.bool a0_11) := (blk_cell BK187.out 11).trans rfl; have hcz57_12 : w56.cell? ⟨gb187, 12, none⟩ = some (.slice A0_12 l0_12.length c0_12) := (blk_cell BK187.out 12).trans rfl; have hcz57_13 : w56.cell? ⟨gb187, 13, none⟩ = some (.slice A0_13 l0_13.length c0_13) := (blk_cell BK187.out 13).trans rfl; have hfz57_0 := blk_frozen BK187.out 0; have hfz57_1 := blk_frozen BK187.out 1; have hfz57_2 := blk_frozen BK187.out 2; have hfz57_3 := blk_frozen BK187.out 3; have hfz57_4 := blk_frozen BK187.out 4; have hfz57_5 := blk_frozen BK187.out 5; have hfz57_6 := blk_frozen BK187.out 6; have hfz57_7 := blk_frozen BK187.out 7; have hfz57_8 := blk_frozen BK187.out 8; have hfz57_9 := blk_frozen BK187.out 9; have hfz57_10 := blk_frozen BK187.out 10; have hfz57_11 := blk_frozen BK187.out 11; have hfz57_12 := blk_frozen BK187.out 12; have hfz57_13 := blk_frozen BK187.out 13))
    go_loopg [3, 63] k1 (fun kq v3 v63 w' => ∃ (x3_2 : List Int) (x63_2 : Int), v63 = .int .i64 x63_2 ∧ Aside0 (wire_Cmd.l1 kq x3_2 l0_13 (l0_13.length : Int) x63_2 = some r) ∧ Aside0 (kq ≤ k1) ∧ Aside0 (Kd.R (Kd.int .u8) 5 w' w.heap.size (fun _ => True) v3 x3_2) ∧ Aside0 (w'.heap[gb187]? = some (.cells #[.int .i64 a0_0, .int .i64 a0_1, .int .i64 a0_2, .int .i64 a0_3, .int .i64 a0_4, .int .i64 a0_5, .int .i64 a0_6, .int .i64 a0_7, .int .i64 a0_8, .int .i64 a0_9, .int .i64 a0_10, .bool a0_11, (.slice A0_12 l0_12.length c0_12), (.slice A0_13 l0_13.length c0_13)] 29 (0, 0))) ∧ Aside0 (Below w.heap.size w w'))
    case atStart => exact ⟨(t229), (0), (by first | rfl | (simp; done) | (simp [*]; done)), H', ⟨Nat.le_refl _⟩, ⟨qR HO231.out⟩, ⟨qK BK187.out⟩, ⟨qB HB.out⟩⟩
    case round =>
     clear H'
     try clear p2
     try clear q2
     try clear hx2
     try clear c3
     try clear c4
     try clear p6
     try clear p21
     try clear q21
     try clear hx21
     try clear c38
     try clear c38b0
     try clear c39
     try clear c39b0
     try clear c40
     try clear c40b0
     try clear c41
     try clear c42
     try clear c43
     try clear c44
     try clear c45
     try clear hcz37_0
     try clear hcz37_1
     try clear hcz37_10
     try clear hcz37_11
     try clear hcz37_12
     try clear hcz37_13
     try clear hcz37_2
     try clear hcz37_3
     try clear hcz37_4
     try clear hcz37_5
     try clear hcz37_6
     try clear hcz37_7
     try clear hcz37_8
     try clear hcz37_9
     try clear hcz44_0
     try clear hcz44_1
     try clear hcz51_0
     try clear hcz51_1
     try clear hcz51_10
     try clear hcz51_11
     try clear hcz51_12
     try clear hcz51_13
     try clear hcz51_2
     try clear hcz51_3
     try clear hcz51_4
     try clear hcz51_5
     try clear hcz51_6
     try clear hcz51_7
     try clear hcz51_8
     try clear hcz51_9
     try clear hcz57_0
     try clear hcz57_1
     try clear hcz57_10
     try clear hcz57_11
     try clear hcz57_12
     try clear hcz57_13
     try clear hcz57_2
     try clear hcz57_3
     try clear hcz57_4
     try clear hcz57_5
     try clear hcz57_6
     try clear hcz57_7
     try clear hcz57_8
     try clear hcz57_9
     try clear hfz37_0
     try clear hfz37_1
     try clear hfz37_10
     try clear hfz37_11
     try clear hfz37_12
     try clear hfz37_13
     try clear hfz37_2
     try clear hfz37_3
     try clear hfz37_4
     try clear hfz37_5
     try clear hfz37_6
     try clear hfz37_7
     try clear hfz37_8
     try clear hfz37_9
     try clear hfz44_0
     try clear hfz44_1
     try clear hfz51_0
     try clear hfz51_1
     try clear hfz51_10
     try clear hfz51_11
     try clear hfz51_12
     try clear hfz51_13
     try clear hfz51_2
     try clear hfz51_3
     try clear hfz51_4
     try clear hfz51_5
     try clear hfz51_6
     try clear hfz51_7
     try clear hfz51_8
     try clear hfz51_9
     try clear hfz57_0
     try clear hfz57_1
     try clear hfz57_10
     try clear hfz57_11
     try clear hfz57_12
     try clear hfz57_13
     try clear hfz57_2
     try clear hfz57_3
     try clear hfz57_4
     try clear hfz57_5
     try clear hfz57_6
     try clear hfz57_7
     try clear hfz57_8
     try clear hfz57_9
     try clear hx218_0
     try clear hx218_1
     try clear p2
     try clear p218
     try clear q218
     obtain ⟨x3_2, x63_2, rfl, HA, HK2, HO_3, BK187, HB⟩ := hrel
     cases gk with
     | zero => exact absurd HA.out (by simp [wire_Cmd.l1])
     | succ k2 =>
      have H := HA.out
      clear HA
      simp only [wire_Cmd.l1] at H
      by_cases c58 : x63_2 < (l0_13.length : Int)
      ·rw [if_pos c58] at H
       have c58b0 : decide (x63_2 < (l0_13.length : Int)) = true := decide_eq_true c58
       clear c58
       by_cases c59 : 0 ≤ x63_2
       ·rw [if_pos c59] at H
        have c59b0 : decide (0 ≤ x63_2) = true := decide_eq_true c59
        clear c59
        by_cases c60 : x63_2 < (l0_13.length : Int)
        ·rw [if_pos c60] at H
         have c60b0 : decide (x63_2 < (l0_13.length : Int)) = true := decide_eq_true c60
         clear c60
         obtain ⟨y234, hy234⟩ : ∃ y_ : List ByteArray, y_ = (([(rd_T67 l0_13 x63_2).f0] : List ByteArray)) := ⟨_, rfl⟩
         replace H : ((wire_text.f k2 x3_2 y234).bind fun t237 => ((wire_flag.f t237 ((rd_T67 l0_13 x63_2).f1)).bind fun t240 => ((wire_text.f k2 t240 (([(rd_T67 l0_13 x63_2).f2] : List ByteArray))).bind fun t246 => (wire_Cmd.l1 k2 t246 l0_13 (l0_13.length : Int) (wrap64 (x63_2 + 1)))))) = some r := by first | (rw [hy234]; with_reducible exact H) | (have H2_ := (Option.bind_some _ _).symm.trans H; rw [hy234]; with_reducible exact H2_) | (have H2_ := (Option.bind_some _ _).symm.trans H; with_reducible exact H2_) | with_reducible exact H | (rw [hy234]; exact H) | exact H
         have Ny234 := Aside0.mk hy234
         clear hy234
         replace H := Option.bind_eq_some_iff.mp H
         obtain ⟨t237, A610, H⟩ := H
         replace H : ((wire_flag.f t237 ((rd_T67 l0_13 x63_2).f1)).bind fun t240 => ((wire_text.f k2 t240 (([(rd_T67 l0_13 x63_2).f2] : List ByteArray))).bind fun t246 => (wire_Cmd.l1 k2 t246 l0_13 (l0_13.length : Int) (wrap64 (x63_2 + 1))))) = some r := H
         have A61 := Aside0.mk A610
         clear A610
         replace H := Option.bind_eq_some_iff.mp H
         obtain ⟨t240, A620, H⟩ := H
         replace H : ((wire_text.f k2 t240 (([(rd_T67 l0_13 x63_2).f2] : List ByteArray))).bind fun t246 => (wire_Cmd.l1 k2 t246 l0_13 (l0_13.length : Int) (wrap64 (x63_2 + 1)))) = some r := H
         have A62 := Aside0.mk A620
         clear A620
         obtain ⟨y243, hy243⟩ : ∃ y_ : List ByteArray, y_ = (([(rd_T67 l0_13 x63_2).f2] : List ByteArray)) := ⟨_, rfl⟩
         replace H : ((wire_text.f k2 t240 y243).bind fun t246 => (wire_Cmd.l1 k2 t246 l0_13 (l0_13.length : Int) (wrap64 (x63_2 + 1)))) = some r := by first | (rw [hy243]; with_reducible exact H) | (have H2_ := (Option.bind_some _ _).symm.trans H; rw [hy243]; with_reducible exact H2_) | (have H2_ := (Option.bind_some _ _).symm.trans H; with_reducible exact H2_) | with_reducible exact H | (rw [hy243]; exact H) | exact H
         have Ny243 := Aside0.mk hy243
         clear hy243
         replace H := Option.bind_eq_some_iff.mp H
         obtain ⟨t246, A630, H⟩ := H
         replace H : (wire_Cmd.l1 k2 t246 l0_13 (l0_13.length : Int) (wrap64 (x63_2 + 1))) = some r := H
         have A63 := Aside0.mk A630
         clear A630
         have H' := Aside0.mk H
         clear H
         have p232 : 0 ≤ (x63_2 : Int) := of_decide_eq_true (by first | (with_reducible assumption) | assumption)
         have q232 : x63_2 < (l0_13.length : Int) := of_decide_eq_true (by first | (with_reducible assumption) | assumption)
         obtain ⟨ad232, e232, hx232_0, hx232_1, hx232_2⟩ := at_T67 HR0_13.out x63_2 p232 q232
         cases e232
         replace hx232_0 := (HB.out.cell (World.block_lt_of_cell? w _ hx232_0)).trans hx232_0
         replace hx232_1 := (HB.out.cell (World.block_lt_of_cell? w _ hx232_1)).trans hx232_1
         replace hx232_2 := (HB.out.cell (World.block_lt_of_cell? w _ hx232_2)).trans hx232_2
         replace p232 := eq_true p232
         replace q232 := eq_true q232
         try go_wp2_with (first | ((with_reducible refine gate_dst (N := 7) rfl ?_); refine qX 7 #[.string (⟨#[]⟩ : ByteArray), .bool false, .string (⟨#[]⟩ : ByteArray)] 67 ?_; intro gb233 hg w64 hbox hb; replace HO_3 := Aside0.mk (Kd.R_below (qR HO_3.out) hb); have BK233 := Aside0.mk (hbox); have GW233 := Aside0.mk ((qZ HB.out hg)); have GE233 := Aside0.mk ((qZ HB.out hg)); replace HB := Aside0.mk (below_step (qB HB.out) hb); have NB187_233 := Aside0.mk ((qN BK187.out hg)); have NB233_187 := Aside0.mk ((qM BK187.out hg)); replace BK187 := Aside0.mk (blk_below (qK BK187.out) hb); clear hb hbox hg; have hnb65 := NB233_187.out; have hnc65 := NB187_233.out; have hcz66_0 : w64.cell? ⟨gb233, 0, none⟩ = some (.string (⟨#[]⟩ : ByteArray)) := (blk_cell BK233.out 0).trans rfl; have hcz66_1 : w64.cell? ⟨gb233, 1, none⟩ = some (.bool false) := (blk_cell BK233.out 1).trans rfl; have hcz66_2 : w64.cell? ⟨gb233, 2, none⟩ = some (.string (⟨#[]⟩ : ByteArray)) := (blk_cell BK233.out 2).trans rfl; have hfz66_0 := blk_frozen BK233.out 0; have hfz66_1 := blk_frozen BK233.out 1; have hfz66_2 := blk_frozen BK233.out 2; obtain ⟨Ao67, co67, eo67⟩ := Kd.R_slice HO_3.out; subst eo67))
         have n0_ : Aside0 (Kd.R (Kd.int .u8) 5 (((w64.setCell ⟨gb233, 0, none⟩ (.string ((rd_T67 l0_13 x63_2).f0))).setCell ⟨gb233, 1, none⟩ (.bool ((rd_T67 l0_13 x63_2).f1))).setCell ⟨gb233, 2, none⟩ (.string ((rd_T67 l0_13 x63_2).f2))) w.heap.size (fun _ => True) (.slice Ao67 x3_2.length co67) x3_2) := ⟨by (with_reducible repeat (first | apply Kd.R_alloc | apply Kd.R_drewN | apply Kd.R_drew)); exact Kd.R_mono (Kd.R_far (p := ⟨gb233, 2, none⟩) (Kd.R_far (p := ⟨gb233, 1, none⟩) (Kd.R_far (p := ⟨gb233, 0, none⟩) (Kd.R_types HO_3.out BK233.out (by decide)) (fun _ hk => hk.2) (.string ((rd_T67 l0_13 x63_2).f0))) (fun _ hk => hk.2) (.bool ((rd_T67 l0_13 x63_2).f1))) (fun _ hk => hk.2) (.string ((rd_T67 l0_13 x63_2).f2))) (fun _ hk => trivial)⟩
         have n1_ : Aside0 ((((w64.setCell ⟨gb233, 0, none⟩ (.string ((rd_T67 l0_13 x63_2).f0))).setCell ⟨gb233, 1, none⟩ (.bool ((rd_T67 l0_13 x63_2).f1))).setCell ⟨gb233, 2, none⟩ (.string ((rd_T67 l0_13 x63_2).f2))).heap[gb187]? = some (.cells #[.int .i64 a0_0, .int .i64 a0_1, .int .i64 a0_2, .int .i64 a0_3, .int .i64 a0_4, .int .i64 a0_5, .int .i64 a0_6, .int .i64 a0_7, .int .i64 a0_8, .int .i64 a0_9, .int .i64 a0_10, .bool a0_11, .slice A0_12 l0_12.length c0_12, .slice (some ad232) l0_13.length c0_13] 29 (0, 0))) := ⟨by (with_reducible repeat (first | refine blk_drewN ?_ _ | refine blk_drew ?_ | refine blk_alloc ?_ _)); refine blk_far ?_ NB187_233.out _; (with_reducible repeat (first | refine blk_drewN ?_ _ | refine blk_drew ?_ | refine blk_alloc ?_ _)); refine blk_far ?_ NB187_233.out _; (with_reducible repeat (first | refine blk_drewN ?_ _ | refine blk_drew ?_ | refine blk_alloc ?_ _)); refine blk_far ?_ NB187_233.out _; (with_reducible repeat (first | refine blk_drewN ?_ _ | refine blk_drew ?_ | refine blk_alloc ?_ _)); exact BK187.out⟩
         have n2_ : Aside0 ((((w64.setCell ⟨gb233, 0, none⟩ (.string ((rd_T67 l0_13 x63_2).f0))).setCell ⟨gb233, 1, none⟩ (.bool ((rd_T67 l0_13 x63_2).f1))).setCell ⟨gb233, 2, none⟩ (.string ((rd_T67 l0_13 x63_2).f2))).heap[gb233]? = some (.cells #[.string ((rd_T67 l0_13 x63_2).f0), .bool ((rd_T67 l0_13 x63_2).f1), .string ((rd_T67 l0_13 x63_2).f2)] 67 (0, 0))) := ⟨by (with_reducible repeat (first | refine blk_drewN ?_ _ | refine blk_drew ?_ | refine blk_alloc ?_ _)); refine blk_put (cs := #[.string ((rd_T67 l0_13 x63_2).f0), .bool ((rd_T67 l0_13 x63_2).f1), .string (⟨#[]⟩ : ByteArray)]) ?_ 2 _ rfl; (with_reducible repeat (first | refine blk_drewN ?_ _ | refine blk_drew ?_ | refine blk_alloc ?_ _)); refine blk_put (cs := #[.string ((rd_T67 l0_13 x63_2).f0), .bool false, .string (⟨#[]⟩ : ByteArray)]) ?_ 1 _ rfl; (with_reducible repeat (first | refine blk_drewN ?_ _ | refine blk_drew ?_ | refine blk_alloc ?_ _)); refine blk_put (cs := #[.string (⟨#[]⟩ : ByteArray), .bool false, .string (⟨#[]⟩ : ByteArray)]) ?_ 0 _ rfl; (with_reducible repeat (first | refine blk_drewN ?_ _ | refine blk_drew ?_ | refine blk_alloc ?_ _)); exact BK233.out⟩
         have n3_ : Aside0 (Below w.heap.size w (((w64.setCell ⟨gb233, 0, none⟩ (.string ((rd_T67 l0_13 x63_2).f0))).setCell ⟨gb233, 1, none⟩ (.bool ((rd_T67 l0_13 x63_2).f1))).setCell ⟨gb233, 2, none⟩ (.string ((rd_T67 l0_13 x63_2).f2)))) := ⟨qB HB.out⟩
         (try clear HO_3)
         (try clear BK187)
         (try clear BK233)
         (try clear HB)
         generalize (((w64.setCell ⟨gb233, 0, none⟩ (.string ((rd_T67 l0_13 x63_2).f0))).setCell ⟨gb233, 1, none⟩ (.bool ((rd_T67 l0_13 x63_2).f1))).setCell ⟨gb233, 2, none⟩ (.string ((rd_T67 l0_13 x63_2).f2))) = w68 at n0_ n1_ n2_ n3_ ⊢
         have HO_3 := n0_
         have BK187 := n1_
         have BK233 := n2_
         have HB := n3_
         clear n0_ n1_ n2_ n3_
         replace HO_3 := Aside0.mk (Kd.R_drew HO_3.out)
         replace BK187 := Aside0.mk (blk_drew BK187.out)
         replace BK233 := Aside0.mk (blk_drew BK233.out)
         replace HB := Aside0.mk (below_drew1 HB.out)
         refine start_ (n := 13) (S := fun w' => w'.cell? ⟨gb233, 0, none⟩ = some (.string ((rd_T67 l0_13 x63_2).f0)) ∧ w'.cell? ⟨gb233, 1, none⟩ = some (.bool ((rd_T67 l0_13 x63_2).f1)) ∧ w'.cell? ⟨gb233, 2, none⟩ = some (.string ((rd_T67 l0_13 x63_2).f2))) (ds := []) #[false, false, false, false, false, false, false, false, false, false, false, false, false] (by kernel_rfl) rfl rfl (qc3 BK233.out) (fun hHeld => ?_); refine with_tabW wire_Cmd.tab13 wire_Cmd.bits13 (fun HT_ HW_ => ?_)
         generalize w68.drew = w69 at HO_3 BK187 BK233 HB hHeld ⊢
         refine pure_ (i := 0) (N := some 67) (v := ?_) (a' := ?_) #[true, false, false, false, false, false, false, false, false, false, false, false, false] rfl rfl (any_of HT_.out (by kernel_rfl)) (fun _ _ _ h => h) (Or.inl ⟨by rfl, ?_⟩) ?_ ?_
         rotate_left
         ·intro w'
          go_simp
          with_reducible rfl
         rotate_left
         ·simp only [Act.put, s1, s2, s3, i64_w, i32_w]
          rfl
         refine pure_ (i := 1) (N := some 68) (v := ?_) (a' := ?_) #[true, true, false, false, false, false, false, false, false, false, false, false, false] rfl rfl (any_of HT_.out (by kernel_rfl)) (fun _ _ _ h => h) (Or.inl ⟨by rfl, ?_⟩) ?_ ?_
         rotate_left
         ·intro w'
          go_simp
          with_reducible rfl
         rotate_left
         ·simp only [Act.put, s1, s2, s3, i64_w, i32_w]
          rfl
         refine pure_ (i := 5) (N := some 72) (v := ?_) (a' := ?_) #[true, true, false, false, false, true, false, false, false, false, false, false, false] rfl rfl (any_of HT_.out (by kernel_rfl)) (fun _ _ _ h => h) (Or.inl ⟨by rfl, ?_⟩) ?_ ?_
         rotate_left
         ·intro w'
          go_simp
          with_reducible rfl
         rotate_left
         ·simp only [Act.put, s1, s2, s3, i64_w, i32_w]
          rfl
         refine pure_ (i := 8) (N := some 75) (v := ?_) (a' := ?_) #[true, true, false, false, false, true, false, false, true, false, false, false, false] rfl rfl (any_of HT_.out (by kernel_rfl)) (fun _ _ _ h => h) (Or.inl ⟨by rfl, ?_⟩) ?_ ?_
         rotate_left
         ·intro w'
          go_simp
          with_reducible rfl
         rotate_left
         ·simp only [Act.put, s1, s2, s3, i64_w, i32_w]
          rfl
         refine take_ (i := 2) (N := some 69) (v := ?_) (a' := ?_) #[true, true, true, false, false, true, false, false, true, false, false, false, false] rfl rfl (take_ofW HT_.out HW_.out (by kernel_rfl)) (fun _ _ _ h => h) (Or.inl ⟨by rfl, ?_⟩) hHeld ?_ ?_
         rotate_left
         ·rintro w' ⟨s0, s1, s2⟩
          go_simp
          with_reducible rfl
         rotate_left
         ·simp only [Act.put, s1, s2, s3, i64_w, i32_w]
          rfl
         refine take_ (i := 6) (N := some 73) (v := ?_) (a' := ?_) #[true, true, true, false, false, true, true, false, true, false, false, false, false] rfl rfl (take_ofW HT_.out HW_.out (by kernel_rfl)) (fun _ _ _ h => h) (Or.inl ⟨by rfl, ?_⟩) hHeld ?_ ?_
         rotate_left
         ·rintro w' ⟨s0, s1, s2⟩
          go_simp
          with_reducible rfl
         rotate_left
         ·simp only [Act.put, s1, s2, s3, i64_w, i32_w]
          rfl
         refine take_ (i := 9) (N := some 76) (v := ?_) (a' := ?_) #[true, true, true, false, false, true, true, false, true, true, false, false, false] rfl rfl (take_ofW HT_.out HW_.out (by kernel_rfl)) (fun _ _ _ h => h) (Or.inl ⟨by rfl, ?_⟩) hHeld ?_ ?_
         rotate_left
         ·rintro w' ⟨s0, s1, s2⟩
          go_simp
          with_reducible rfl
         rotate_left
         ·simp only [Act.put, s1, s2, s3, i64_w, i32_w]
          rfl
         refine join_ (σ := Value × Value × Value × Value) 2 #[true, true, true, true, true, true, true, true, true, true, true, false, false] (fun s_ => [(70, s_.1), (71, s_.2.1), (74, s_.2.2.1), (77, s_.2.2.2)]) (fun s_ w' => (w'.cell? ⟨gb233, 0, none⟩ = some (.string ((rd_T67 l0_13 x63_2).f0)) ∧ w'.cell? ⟨gb233, 1, none⟩ = some (.bool ((rd_T67 l0_13 x63_2).f1)) ∧ w'.cell? ⟨gb233, 2, none⟩ = some (.string ((rd_T67 l0_13 x63_2).f2))) ∧ (Kd.R Kd.string 9 w' w.heap.size (fun k_ => some k_ ≠ (s_.2.2.2 : Value).ownBlock) s_.1 y234) ∧ (Kd.R (Kd.int .u8) 5 w' w.heap.size (fun k_ => some k_ ≠ (.slice Ao67 x3_2.length co67 : Value).ownBlock) s_.2.2.1 t240) ∧ (Kd.R Kd.string 9 w' w.heap.size (fun k_ => some k_ ≠ (s_.1 : Value).ownBlock) s_.2.2.2 y243) ∧ (Kd.R (Kd.int .u8) 5 w' w.heap.size (fun k_ => some k_ ≠ (s_.2.2.1 : Value).ownBlock) (.slice Ao67 x3_2.length co67) x3_2) ∧ (w'.heap[gb187]? = some (.cells #[.int .i64 a0_0, .int .i64 a0_1, .int .i64 a0_2, .int .i64 a0_3, .int .i64 a0_4, .int .i64 a0_5, .int .i64 a0_6, .int .i64 a0_7, .int .i64 a0_8, .int .i64 a0_9, .int .i64 a0_10, .bool a0_11, .slice A0_12 l0_12.length c0_12, .slice (some ad232) l0_13.length c0_13] 29 (0, 0))) ∧ (w'.heap[gb233]? = some (.cells #[.string ((rd_T67 l0_13 x63_2).f0), .bool ((rd_T67 l0_13 x63_2).f1), .string ((rd_T67 l0_13 x63_2).f2)] 67 (0, 0))) ∧ (Below w.heap.size w w')) ?_ ?_
         rotate_left
         ·intro hCont
          refine two_ (i := 3) (j := 10) (Ni := some 70) (Nj := some 77) #[true, true, true, true, false, true, true, false, true, true, false, false, false] #[true, true, true, false, false, true, true, false, true, true, true, false, false] rfl rfl rfl rfl (two_of HT_.out (by kernel_rfl)) (by decide) (by decide) (fun K hK => ?_) (fun K hK => ?_)
          ·skip
           refine Kd.R_lit_step Kd.string _ 9 ?hg (N := 70) ?hd (xs := ([(rd_T67 l0_13 x63_2).f0] : List ByteArray)) (inner := [.string ((rd_T67 l0_13 x63_2).f0)]) (ok := fun _ => True) (okp := fun _ => True) ?hr ?hp (fun _ hk => hk) trivial (Below.refl _ _) (Nat.le_refl _) (by simp) ?_; (case hd => rfl); (case hg => rfl); (case hr => first | (go_simp; done) | (go_simp; rfl)); (case hp => exact (Reps.one (show Kd.M Kd.string _ _ _ ((rd_T67 l0_13 x63_2).f0) [.string ((rd_T67 l0_13 x63_2).f0)] from rfl) (Reps.none _ _)))
           intro v235 w70 ho71 hb hg_ hnew_
           clear hg_ hnew_
           (first | rw [← Ny234.out] at ho71 | (simp only [Int.reduceToNat] at ho71; rw [← Ny234.out] at ho71))
           replace HO_3 := Aside0.mk (Kd.R_below (qR HO_3.out) hb)
           have HO236 := Aside0.mk (Kd.R_lower ho71 (below_size (qB HB.out)))
           replace BK187 := Aside0.mk (blk_below (qK BK187.out) hb)
           replace BK233 := Aside0.mk (blk_below (qK BK233.out) hb)
           replace HB := Aside0.mk (below_step (qB HB.out) hb)
           clear hb ho71
           obtain ⟨Ao72, co72, eo72⟩ := Kd.R_slice HO236.out
           (first | subst eo72 | (injection eo72 with f1_ f2_ f3_; have f4_ := f1_.symm; have f5_ := f3_.symm; clear f1_ f2_ f3_; subst f4_; subst f5_))
           refine hK.out _ _ (qc3 BK233.out) (fun hHeld => ?_)
           clear hK K
           refine norm_ (a' := ?_) ?_ ?_
           rotate_left
           ·show Act.put _ (some 70) _ = _
            simp only [Act.put, s1, s2, s3, i64_w, i32_w]
            rfl
           refine two_ (i := 4) (j := 10) (Ni := some 71) (Nj := some 77) #[true, true, true, true, true, true, true, false, true, true, false, false, false] #[true, true, true, true, false, true, true, false, true, true, true, false, false] rfl rfl rfl rfl (two_of HT_.out (by kernel_rfl)) (by decide) (by decide) (fun K hK => ?_) (fun K hK => ?_)
           ·skip
            refine qG Try.func45 #[.slice Ao67 x3_2.length co67, .slice Ao72 y234.length co72] ?_
            with_reducible refine (wire_text.calls k2 _ _ x3_2 _ _ y234 t237 _ ?side1 ?side2 ?side3 ?side4 A61.out).mono ?_
            (case side1 => exact qC (Kd.R_reads' HO_3.out).2.2)
            (case side2 => exact (Kd.R_reads' HO_3.out).2.1)
            (case side3 => exact qC (Kd.R_reads' HO236.out).2.2)
            (case side4 => exact (Kd.R_reads' HO236.out).2.1)
            rintro e w73 ⟨v238, rfl, ho0, hb⟩
            refine ⟨_, rfl, ?_⟩
            replace HO236 := Aside0.mk (Kd.R_below (qR HO236.out) hb)
            have HO239 := Aside0.mk (Kd.R_lower (Kd.R_new' ho0 (Kd.R_lt (qR HO_3.out))) (below_size (qB HB.out)))
            replace HO_3 := Aside0.mk (Kd.R_elder' (qR HO_3.out) (Kd.R_base ho0) hb)
            replace BK187 := Aside0.mk (blk_below (qK BK187.out) hb)
            replace BK233 := Aside0.mk (blk_below (qK BK233.out) hb)
            replace HB := Aside0.mk (below_step (qB HB.out) hb)
            (try clear hb)
            (try clear hb2)
            (try clear hk)
            (try clear hi)
            (try clear ho0)
            obtain ⟨Ao74, co74, eo74⟩ := Kd.R_slice HO239.out
            (first | subst eo74 | (injection eo74 with f1_ f2_ f3_; have f4_ := f1_.symm; have f5_ := f3_.symm; clear f1_ f2_ f3_; subst f4_; subst f5_))
            refine hK.out _ _ (qc3 BK233.out) (fun hHeld => ?_)
            clear hK K
            refine norm_ (a' := ?_) ?_ ?_
            rotate_left
            ·show Act.put _ (some 71) _ = _
             simp only [Act.put, s1, s2, s3, i64_w, i32_w]
             rfl
            refine two_ (i := 7) (j := 10) (Ni := some 74) (Nj := some 77) #[true, true, true, true, true, true, true, true, true, true, false, false, false] #[true, true, true, true, true, true, true, false, true, true, true, false, false] rfl rfl rfl rfl (two_of HT_.out (by kernel_rfl)) (by decide) (by decide) (fun K hK => ?_) (fun K hK => ?_)
            ·skip
             refine qG Try.func44 #[.slice Ao74 t237.length co74, .bool ((rd_T67 l0_13 x63_2).f1)] ?_
             with_reducible refine (wire_flag.calls (fun k_ => some k_ = (.slice Ao74 t237.length co74 : Value).ownBlock) (.slice Ao74 t237.length co74) t237 ((rd_T67 l0_13 x63_2).f1) t240 w _ ?side1 ?side2 A62.out).mono ?_
             (case side1 => exact qB HB.out)
             (case side2 => exact Kd.R_tight rfl HO239.out)
             rintro e w75 ⟨v241, rfl, ho0, hb, hkp⟩
             refine ⟨_, rfl, ?_⟩
             replace BK187 := Aside0.mk (blk_kept (qK BK187.out) hkp (fun hs_ => (fun e_ => (Kd.R_ne HO239.out BK187.out (by decide)) e_) hs_))
             replace BK233 := Aside0.mk (blk_kept (qK BK233.out) hkp (fun hs_ => (fun e_ => (Kd.R_ne HO239.out BK233.out (by decide)) e_) hs_))
             replace HO236 := Aside0.mk (Kd.R_mono (ok' := fun k_ => True) (Kd.R_keptB ((Kd.R_apart' HO236.out (Kd.R_typed HO239.out) (by decide))) hkp (fun k_ hk_ hs_ => (hk_.2) hs_)) (fun k_ hk_ => trivial))
             have HO242 := Aside0.mk (Kd.R_mono (ok' := fun k_ => some k_ ≠ (.slice Ao67 x3_2.length co67 : Value).ownBlock) ho0 (fun k_ hk_ => Or.elim hk_ (fun hs_ => fun e_ => (((HO_3.out).1 k_ e_.symm).2) hs_) (fun hn_ => (Kd.fresh' (Kd.R_lt (qR HO_3.out)) k_ hn_))))
             replace HO_3 := Aside0.mk (Kd.R_mono (ok' := fun k_ => some k_ ≠ (v241 : Value).ownBlock) (Kd.R_keptB (HO_3.out) hkp (fun k_ hk_ hs_ => (hk_.2) hs_)) (fun k_ hk_ => fun e_ => Or.elim (ho0.1 k_ e_.symm) (fun hs_ => hk_.2.1 hs_) (fun hn_ => Nat.not_le.2 hk_.2.2 hn_)))
             replace HB := Aside0.mk (hb)
             clear HO239
             (try clear hb)
             (try clear hkp)
             (try clear ho0)
             refine hK.out _ _ (qc3 BK233.out) (fun hHeld => ?_)
             clear hK K
             refine norm_ (a' := ?_) ?_ ?_
             rotate_left
             ·show Act.put _ (some 74) _ = _
              simp only [Act.put, s1, s2, s3, i64_w, i32_w]
              rfl
             refine one_ (i := 10) (N := some 77) #[true, true, true, true, true, true, true, true, true, true, true, false, false] rfl rfl (one_of HT_.out (by kernel_rfl)) (by decide) (fun K hK => ?_)
             refine Kd.R_lit_step Kd.string _ 9 ?hg (N := 77) ?hd (xs := ([(rd_T67 l0_13 x63_2).f2] : List ByteArray)) (inner := [.string ((rd_T67 l0_13 x63_2).f2)]) (ok := fun _ => True) (okp := fun _ => True) ?hr ?hp (fun _ hk => hk) trivial (Below.refl _ _) (Nat.le_refl _) (by simp) ?_; (case hd => rfl); (case hg => rfl); (case hr => first | (go_simp; done) | (go_simp; rfl)); (case hp => exact (Reps.one (show Kd.M Kd.string _ _ _ ((rd_T67 l0_13 x63_2).f2) [.string ((rd_T67 l0_13 x63_2).f2)] from rfl) (Reps.none _ _)))
             intro v244 w76 ho77 hb hg_ hnew_
             clear hg_ hnew_
             (first | rw [← Ny243.out] at ho77 | (simp only [Int.reduceToNat] at ho77; rw [← Ny243.out] at ho77))
             replace HO_3 := Aside0.mk (Kd.R_below (qR HO_3.out) hb)
             replace HO242 := Aside0.mk (Kd.R_below (qR HO242.out) hb)
             have HO245 := Aside0.mk (Kd.R_lower (Kd.R_new' ho77 (Kd.R_lt (qR HO236.out))) (below_size (qB HB.out)))
             replace HO236 := Aside0.mk (Kd.R_elder' (qR HO236.out) (Kd.R_base ho77) hb)
             replace BK187 := Aside0.mk (blk_below (qK BK187.out) hb)
             replace BK233 := Aside0.mk (blk_below (qK BK233.out) hb)
             replace HB := Aside0.mk (below_step (qB HB.out) hb)
             clear hb ho77
             refine hK.out _ _ (qc3 BK233.out) (fun hHeld => ?_)
             clear hK K
             refine norm_ (a' := ?_) ?_ ?_
             rotate_left
             ·show Act.put _ (some 77) _ = _
              simp only [Act.put, s1, s2, s3, i64_w, i32_w]
              rfl
             exact norm_ (by simp only [putAll, Act.put, s1, s2, s3]) (hCont (.slice Ao72 y234.length co72, .slice Ao74 t237.length co74, v241, v244) _ ⟨hHeld, (by (with_reducible repeat (first | apply Kd.R_alloc | apply Kd.R_drewN | apply Kd.R_drew)); exact Kd.R_mono HO236.out (fun _ hk => hk.2)), (qR HO242.out), (by (with_reducible repeat (first | apply Kd.R_alloc | apply Kd.R_drewN | apply Kd.R_drew)); exact Kd.R_mono HO245.out (fun _ hk => hk.2)), (qR HO_3.out), (qK BK187.out), (qK BK233.out), (qB HB.out)⟩)
            ·skip
             refine Kd.R_lit_step Kd.string _ 9 ?hg (N := 77) ?hd (xs := ([(rd_T67 l0_13 x63_2).f2] : List ByteArray)) (inner := [.string ((rd_T67 l0_13 x63_2).f2)]) (ok := fun _ => True) (okp := fun _ => True) ?hr ?hp (fun _ hk => hk) trivial (Below.refl _ _) (Nat.le_refl _) (by simp) ?_; (case hd => rfl); (case hg => rfl); (case hr => first | (go_simp; done) | (go_simp; rfl)); (case hp => exact (Reps.one (show Kd.M Kd.string _ _ _ ((rd_T67 l0_13 x63_2).f2) [.string ((rd_T67 l0_13 x63_2).f2)] from rfl) (Reps.none _ _)))
             intro v244 w74 ho75 hb hg_ hnew_
             clear hg_ hnew_
             (first | rw [← Ny243.out] at ho75 | (simp only [Int.reduceToNat] at ho75; rw [← Ny243.out] at ho75))
             replace HO_3 := Aside0.mk (Kd.R_below (qR HO_3.out) hb)
             replace HO239 := Aside0.mk (Kd.R_below (qR HO239.out) hb)
             have HO245 := Aside0.mk (Kd.R_lower (Kd.R_new' ho75 (Kd.R_lt (qR HO236.out))) (below_size (qB HB.out)))
             replace HO236 := Aside0.mk (Kd.R_elder' (qR HO236.out) (Kd.R_base ho75) hb)
             replace BK187 := Aside0.mk (blk_below (qK BK187.out) hb)
             replace BK233 := Aside0.mk (blk_below (qK BK233.out) hb)
             replace HB := Aside0.mk (below_step (qB HB.out) hb)
             clear hb ho75
             obtain ⟨Ao76, co76, eo76⟩ := Kd.R_slice HO239.out
             (first | subst eo76 | (injection eo76 with f1_ f2_ f3_; have f4_ := f1_.symm; have f5_ := f3_.symm; clear f1_ f2_ f3_; subst f4_; subst f5_))
             refine hK.out _ _ (qc3 BK233.out) (fun hHeld => ?_)
             clear hK K
             refine norm_ (a' := ?_) ?_ ?_
             rotate_left
             ·show Act.put _ (some 77) _ = _
              simp only [Act.put, s1, s2, s3, i64_w, i32_w]
              rfl
             refine one_ (i := 7) (N := some 74) #[true, true, true, true, true, true, true, true, true, true, true, false, false] rfl rfl (one_of HT_.out (by kernel_rfl)) (by decide) (fun K hK => ?_)
             refine qG Try.func44 #[.slice Ao76 t237.length co76, .bool ((rd_T67 l0_13 x63_2).f1)] ?_
             with_reducible refine (wire_flag.calls (fun k_ => some k_ = (.slice Ao76 t237.length co76 : Value).ownBlock) (.slice Ao76 t237.length co76) t237 ((rd_T67 l0_13 x63_2).f1) t240 w _ ?side1 ?side2 A62.out).mono ?_
             (case side1 => exact qB HB.out)
             (case side2 => exact Kd.R_tight rfl HO239.out)
             rintro e w77 ⟨v241, rfl, ho0, hb, hkp⟩
             refine ⟨_, rfl, ?_⟩
             replace BK187 := Aside0.mk (blk_kept (qK BK187.out) hkp (fun hs_ => (fun e_ => (Kd.R_ne HO239.out BK187.out (by decide)) e_) hs_))
             replace BK233 := Aside0.mk (blk_kept (qK BK233.out) hkp (fun hs_ => (fun e_ => (Kd.R_ne HO239.out BK233.out (by decide)) e_) hs_))
             replace HO236 := Aside0.mk (Kd.R_mono (ok' := fun k_ => some k_ ≠ (v244 : Value).ownBlock) (Kd.R_keptB ((Kd.R_apart' HO236.out (Kd.R_typed HO239.out) (by decide))) hkp (fun k_ hk_ hs_ => (hk_.2) hs_)) (fun k_ hk_ => hk_.1.1.2))
             replace HO245 := Aside0.mk (Kd.R_mono (ok' := fun k_ => some k_ ≠ (.slice Ao72 y234.length co72 : Value).ownBlock) (Kd.R_keptB ((Kd.R_apart' HO245.out (Kd.R_typed HO239.out) (by decide))) hkp (fun k_ hk_ hs_ => (hk_.2) hs_)) (fun k_ hk_ => hk_.1.1.2))
             have HO242 := Aside0.mk (Kd.R_mono (ok' := fun k_ => some k_ ≠ (.slice Ao67 x3_2.length co67 : Value).ownBlock) ho0 (fun k_ hk_ => Or.elim hk_ (fun hs_ => fun e_ => (((HO_3.out).1 k_ e_.symm).2) hs_) (fun hn_ => (Kd.fresh' (Kd.R_lt (qR HO_3.out)) k_ hn_))))
             replace HO_3 := Aside0.mk (Kd.R_mono (ok' := fun k_ => some k_ ≠ (v241 : Value).ownBlock) (Kd.R_keptB (HO_3.out) hkp (fun k_ hk_ hs_ => (hk_.2) hs_)) (fun k_ hk_ => fun e_ => Or.elim (ho0.1 k_ e_.symm) (fun hs_ => hk_.2.1 hs_) (fun hn_ => Nat.not_le.2 hk_.2.2 hn_)))
             replace HB := Aside0.mk (hb)
             clear HO239
             (try clear hb)
             (try clear hkp)
             (try clear ho0)
             refine hK.out _ _ (qc3 BK233.out) (fun hHeld => ?_)
             clear hK K
             refine norm_ (a' := ?_) ?_ ?_
             rotate_left
             ·show Act.put _ (some 74) _ = _
              simp only [Act.put, s1, s2, s3, i64_w, i32_w]
              rfl
             exact norm_ (by simp only [putAll, Act.put, s1, s2, s3]) (hCont (.slice Ao72 y234.length co72, .slice Ao76 t237.length co76, v241, v244) _ ⟨hHeld, (qR HO236.out), (qR HO242.out), (qR HO245.out), (qR HO_3.out), (qK BK187.out), (qK BK233.out), (qB HB.out)⟩)
           ·skip
            refine Kd.R_lit_step Kd.string _ 9 ?hg (N := 77) ?hd (xs := ([(rd_T67 l0_13 x63_2).f2] : List ByteArray)) (inner := [.string ((rd_T67 l0_13 x63_2).f2)]) (ok := fun _ => True) (okp := fun _ => True) ?hr ?hp (fun _ hk => hk) trivial (Below.refl _ _) (Nat.le_refl _) (by simp) ?_; (case hd => rfl); (case hg => rfl); (case hr => first | (go_simp; done) | (go_simp; rfl)); (case hp => exact (Reps.one (show Kd.M Kd.string _ _ _ ((rd_T67 l0_13 x63_2).f2) [.string ((rd_T67 l0_13 x63_2).f2)] from rfl) (Reps.none _ _)))
            intro v244 w72 ho73 hb hg_ hnew_
            clear hg_ hnew_
            (first | rw [← Ny243.out] at ho73 | (simp only [Int.reduceToNat] at ho73; rw [← Ny243.out] at ho73))
            replace HO_3 := Aside0.mk (Kd.R_below (qR HO_3.out) hb)
            have HO245 := Aside0.mk (Kd.R_lower (Kd.R_new' ho73 (Kd.R_lt (qR HO236.out))) (below_size (qB HB.out)))
            replace HO236 := Aside0.mk (Kd.R_elder' (qR HO236.out) (Kd.R_base ho73) hb)
            replace BK187 := Aside0.mk (blk_below (qK BK187.out) hb)
            replace BK233 := Aside0.mk (blk_below (qK BK233.out) hb)
            replace HB := Aside0.mk (below_step (qB HB.out) hb)
            clear hb ho73
            obtain ⟨Ao74, co74, eo74⟩ := Kd.R_slice HO236.out
            (first | subst eo74 | (injection eo74 with f1_ f2_ f3_; have f4_ := f1_.symm; have f5_ := f3_.symm; clear f1_ f2_ f3_; subst f4_; subst f5_))
            refine hK.out _ _ (qc3 BK233.out) (fun hHeld => ?_)
            clear hK K
            refine norm_ (a' := ?_) ?_ ?_
            rotate_left
            ·show Act.put _ (some 77) _ = _
             simp only [Act.put, s1, s2, s3, i64_w, i32_w]
             rfl
            refine one_ (i := 4) (N := some 71) #[true, true, true, true, true, true, true, false, true, true, true, false, false] rfl rfl (one_of HT_.out (by kernel_rfl)) (by decide) (fun K hK => ?_)
            refine qG Try.func45 #[.slice Ao67 x3_2.length co67, .slice Ao74 y234.length co74] ?_
            with_reducible refine (wire_text.calls k2 _ _ x3_2 _ _ y234 t237 _ ?side1 ?side2 ?side3 ?side4 A61.out).mono ?_
            (case side1 => exact qC (Kd.R_reads' HO_3.out).2.2)
            (case side2 => exact (Kd.R_reads' HO_3.out).2.1)
            (case side3 => exact qC (Kd.R_reads' HO236.out).2.2)
            (case side4 => exact (Kd.R_reads' HO236.out).2.1)
            rintro e w75 ⟨v238, rfl, ho0, hb⟩
            refine ⟨_, rfl, ?_⟩
            replace HO236 := Aside0.mk (Kd.R_below (qR HO236.out) hb)
            replace HO245 := Aside0.mk (Kd.R_below (qR HO245.out) hb)
            have HO239 := Aside0.mk (Kd.R_lower (Kd.R_new' ho0 (Kd.R_lt (qR HO_3.out))) (below_size (qB HB.out)))
            replace HO_3 := Aside0.mk (Kd.R_elder' (qR HO_3.out) (Kd.R_base ho0) hb)
            replace BK187 := Aside0.mk (blk_below (qK BK187.out) hb)
            replace BK233 := Aside0.mk (blk_below (qK BK233.out) hb)
            replace HB := Aside0.mk (below_step (qB HB.out) hb)
            (try clear hb)
            (try clear hb2)
            (try clear hk)
            (try clear hi)
            (try clear ho0)
            obtain ⟨Ao76, co76, eo76⟩ := Kd.R_slice HO239.out
            (first | subst eo76 | (injection eo76 with f1_ f2_ f3_; have f4_ := f1_.symm; have f5_ := f3_.symm; clear f1_ f2_ f3_; subst f4_; subst f5_))
            refine hK.out _ _ (qc3 BK233.out) (fun hHeld => ?_)
            clear hK K
            refine norm_ (a' := ?_) ?_ ?_
            rotate_left
            ·show Act.put _ (some 71) _ = _
             simp only [Act.put, s1, s2, s3, i64_w, i32_w]
             rfl
            refine one_ (i := 7) (N := some 74) #[true, true, true, true, true, true, true, true, true, true, true, false, false] rfl rfl (one_of HT_.out (by kernel_rfl)) (by decide) (fun K hK => ?_)
            refine qG Try.func44 #[.slice Ao76 t237.length co76, .bool ((rd_T67 l0_13 x63_2).f1)] ?_
            with_reducible refine (wire_flag.calls (fun k_ => some k_ = (.slice Ao76 t237.length co76 : Value).ownBlock) (.slice Ao76 t237.length co76) t237 ((rd_T67 l0_13 x63_2).f1) t240 w _ ?side1 ?side2 A62.out).mono ?_
            (case side1 => exact qB HB.out)
            (case side2 => exact Kd.R_tight rfl HO239.out)
            rintro e w77 ⟨v241, rfl, ho0, hb, hkp⟩
            refine ⟨_, rfl, ?_⟩
            replace BK187 := Aside0.mk (blk_kept (qK BK187.out) hkp (fun hs_ => (fun e_ => (Kd.R_ne HO239.out BK187.out (by decide)) e_) hs_))
            replace BK233 := Aside0.mk (blk_kept (qK BK233.out) hkp (fun hs_ => (fun e_ => (Kd.R_ne HO239.out BK233.out (by decide)) e_) hs_))
            replace HO236 := Aside0.mk (Kd.R_mono (ok' := fun k_ => some k_ ≠ (v244 : Value).ownBlock) (Kd.R_keptB ((Kd.R_apart' HO236.out (Kd.R_typed HO239.out) (by decide))) hkp (fun k_ hk_ hs_ => (hk_.2) hs_)) (fun k_ hk_ => hk_.1.1.2))
            replace HO245 := Aside0.mk (Kd.R_mono (ok' := fun k_ => some k_ ≠ (.slice Ao74 y234.length co74 : Value).ownBlock) (Kd.R_keptB ((Kd.R_apart' HO245.out (Kd.R_typed HO239.out) (by decide))) hkp (fun k_ hk_ hs_ => (hk_.2) hs_)) (fun k_ hk_ => hk_.1.1.2))
            have HO242 := Aside0.mk (Kd.R_mono (ok' := fun k_ => some k_ ≠ (.slice Ao67 x3_2.length co67 : Value).ownBlock) ho0 (fun k_ hk_ => Or.elim hk_ (fun hs_ => fun e_ => (((HO_3.out).1 k_ e_.symm).2) hs_) (fun hn_ => (Kd.fresh' (Kd.R_lt (qR HO_3.out)) k_ hn_))))
            replace HO_3 := Aside0.mk (Kd.R_mono (ok' := fun k_ => some k_ ≠ (v241 : Value).ownBlock) (Kd.R_keptB (HO_3.out) hkp (fun k_ hk_ hs_ => (hk_.2) hs_)) (fun k_ hk_ => fun e_ => Or.elim (ho0.1 k_ e_.symm) (fun hs_ => hk_.2.1 hs_) (fun hn_ => Nat.not_le.2 hk_.2.2 hn_)))
            replace HB := Aside0.mk (hb)
            clear HO239
            (try clear hb)
            (try clear hkp)
            (try clear ho0)
            refine hK.out _ _ (qc3 BK233.out) (fun hHeld => ?_)
            clear hK K
            refine norm_ (a' := ?_) ?_ ?_
            rotate_left
            ·show Act.put _ (some 74) _ = _
             simp only [Act.put, s1, s2, s3, i64_w, i32_w]
             rfl
            exact norm_ (by simp only [putAll, Act.put, s1, s2, s3]) (hCont (.slice Ao74 y234.length co74, .slice Ao76 t237.length co76, v241, v244) _ ⟨hHeld, (qR HO236.out), (qR HO242.out), (qR HO245.out), (qR HO_3.out), (qK BK187.out), (qK BK233.out), (qB HB.out)⟩)
          ·skip
           refine Kd.R_lit_step Kd.string _ 9 ?hg (N := 77) ?hd (xs := ([(rd_T67 l0_13 x63_2).f2] : List ByteArray)) (inner := [.string ((rd_T67 l0_13 x63_2).f2)]) (ok := fun _ => True) (okp := fun _ => True) ?hr ?hp (fun _ hk => hk) trivial (Below.refl _ _) (Nat.le_refl _) (by simp) ?_; (case hd => rfl); (case hg => rfl); (case hr => first | (go_simp; done) | (go_simp; rfl)); (case hp => exact (Reps.one (show Kd.M Kd.string _ _ _ ((rd_T67 l0_13 x63_2).f2) [.string ((rd_T67 l0_13 x63_2).f2)] from rfl) (Reps.none _ _)))
           intro v244 w70 ho71 hb hg_ hnew_
           clear hg_ hnew_
           (first | rw [← Ny243.out] at ho71 | (simp only [Int.reduceToNat] at ho71; rw [← Ny243.out] at ho71))
           replace HO_3 := Aside0.mk (Kd.R_below (qR HO_3.out) hb)
           have HO245 := Aside0.mk (Kd.R_lower ho71 (below_size (qB HB.out)))
           replace BK187 := Aside0.mk (blk_below (qK BK187.out) hb)
           replace BK233 := Aside0.mk (blk_below (qK BK233.out) hb)
           replace HB := Aside0.mk (below_step (qB HB.out) hb)
           clear hb ho71
           refine hK.out _ _ (qc3 BK233.out) (fun hHeld => ?_)
           clear hK K
           refine norm_ (a' := ?_) ?_ ?_
           rotate_left
           ·show Act.put _ (some 77) _ = _
            simp only [Act.put, s1, s2, s3, i64_w, i32_w]
            rfl
           refine one_ (i := 3) (N := some 70) #[true, true, true, true, false, true, true, false, true, true, true, false, false] rfl rfl (one_of HT_.out (by kernel_rfl)) (by decide) (fun K hK => ?_)
           refine Kd.R_lit_step Kd.string _ 9 ?hg (N := 70) ?hd (xs := ([(rd_T67 l0_13 x63_2).f0] : List ByteArray)) (inner := [.string ((rd_T67 l0_13 x63_2).f0)]) (ok := fun _ => True) (okp := fun _ => True) ?hr ?hp (fun _ hk => hk) trivial (Below.refl _ _) (Nat.le_refl _) (by simp) ?_; (case hd => rfl); (case hg => rfl); (case hr => first | (go_simp; done) | (go_simp; rfl)); (case hp => exact (Reps.one (show Kd.M Kd.string _ _ _ ((rd_T67 l0_13 x63_2).f0) [.string ((rd_T67 l0_13 x63_2).f0)] from rfl) (Reps.none _ _)))
           intro v235 w72 ho73 hb hg_ hnew_
           clear hg_ hnew_
           (first | rw [← Ny234.out] at ho73 | (simp only [Int.reduceToNat] at ho73; rw [← Ny234.out] at ho73))
           replace HO_3 := Aside0.mk (Kd.R_below (qR HO_3.out) hb)
           have HO236 := Aside0.mk (Kd.R_lower (Kd.R_new' ho73 (Kd.R_lt (qR HO245.out))) (below_size (qB HB.out)))
           replace HO245 := Aside0.mk (Kd.R_elder' (qR HO245.out) (Kd.R_base ho73) hb)
           replace BK187 := Aside0.mk (blk_below (qK BK187.out) hb)
           replace BK233 := Aside0.mk (blk_below (qK BK233.out) hb)
           replace HB := Aside0.mk (below_step (qB HB.out) hb)
           clear hb ho73
           obtain ⟨Ao74, co74, eo74⟩ := Kd.R_slice HO236.out
           (first | subst eo74 | (injection eo74 with f1_ f2_ f3_; have f4_ := f1_.symm; have f5_ := f3_.symm; clear f1_ f2_ f3_; subst f4_; subst f5_))
           refine hK.out _ _ (qc3 BK233.out) (fun hHeld => ?_)
           clear hK K
           refine norm_ (a' := ?_) ?_ ?_
           rotate_left
           ·show Act.put _ (some 70) _ = _
            simp only [Act.put, s1, s2, s3, i64_w, i32_w]
            rfl
           refine one_ (i := 4) (N := some 71) #[true, true, true, true, true, true, true, false, true, true, true, false, false] rfl rfl (one_of HT_.out (by kernel_rfl)) (by decide) (fun K hK => ?_)
           refine qG Try.func45 #[.slice Ao67 x3_2.length co67, .slice Ao74 y234.length co74] ?_
           with_reducible refine (wire_text.calls k2 _ _ x3_2 _ _ y234 t237 _ ?side1 ?side2 ?side3 ?side4 A61.out).mono ?_
           (case side1 => exact qC (Kd.R_reads' HO_3.out).2.2)
           (case side2 => exact (Kd.R_reads' HO_3.out).2.1)
           (case side3 => exact qC (Kd.R_reads' HO236.out).2.2)
           (case side4 => exact (Kd.R_reads' HO236.out).2.1)
           rintro e w75 ⟨v238, rfl, ho0, hb⟩
           refine ⟨_, rfl, ?_⟩
           replace HO245 := Aside0.mk (Kd.R_below (qR HO245.out) hb)
           replace HO236 := Aside0.mk (Kd.R_below (qR HO236.out) hb)
           have HO239 := Aside0.mk (Kd.R_lower (Kd.R_new' ho0 (Kd.R_lt (qR HO_3.out))) (below_size (qB HB.out)))
           replace HO_3 := Aside0.mk (Kd.R_elder' (qR HO_3.out) (Kd.R_base ho0) hb)
           replace BK187 := Aside0.mk (blk_below (qK BK187.out) hb)
           replace BK233 := Aside0.mk (blk_below (qK BK233.out) hb)
           replace HB := Aside0.mk (below_step (qB HB.out) hb)
           (try clear hb)
           (try clear hb2)
           (try clear hk)
           (try clear hi)
           (try clear ho0)
           obtain ⟨Ao76, co76, eo76⟩ := Kd.R_slice HO239.out
           (first | subst eo76 | (injection eo76 with f1_ f2_ f3_; have f4_ := f1_.symm; have f5_ := f3_.symm; clear f1_ f2_ f3_; subst f4_; subst f5_))
           refine hK.out _ _ (qc3 BK233.out) (fun hHeld => ?_)
           clear hK K
           refine norm_ (a' := ?_) ?_ ?_
           rotate_left
           ·show Act.put _ (some 71) _ = _
            simp only [Act.put, s1, s2, s3, i64_w, i32_w]
            rfl
           refine one_ (i := 7) (N := some 74) #[true, true, true, true, true, true, true, true, true, true, true, false, false] rfl rfl (one_of HT_.out (by kernel_rfl)) (by decide) (fun K hK => ?_)
           refine qG Try.func44 #[.slice Ao76 t237.length co76, .bool ((rd_T67 l0_13 x63_2).f1)] ?_
           with_reducible refine (wire_flag.calls (fun k_ => some k_ = (.slice Ao76 t237.length co76 : Value).ownBlock) (.slice Ao76 t237.length co76) t237 ((rd_T67 l0_13 x63_2).f1) t240 w _ ?side1 ?side2 A62.out).mono ?_
           (case side1 => exact qB HB.out)
           (case side2 => exact Kd.R_tight rfl HO239.out)
           rintro e w77 ⟨v241, rfl, ho0, hb, hkp⟩
           refine ⟨_, rfl, ?_⟩
           replace BK187 := Aside0.mk (blk_kept (qK BK187.out) hkp (fun hs_ => (fun e_ => (Kd.R_ne HO239.out BK187.out (by decide)) e_) hs_))
           replace BK233 := Aside0.mk (blk_kept (qK BK233.out) hkp (fun hs_ => (fun e_ => (Kd.R_ne HO239.out BK233.out (by decide)) e_) hs_))
           replace HO245 := Aside0.mk (Kd.R_mono (ok' := fun k_ => some k_ ≠ (.slice Ao74 y234.length co74 : Value).ownBlock) (Kd.R_keptB ((Kd.R_apart' HO245.out (Kd.R_typed HO239.out) (by decide))) hkp (fun k_ hk_ hs_ => (hk_.2) hs_)) (fun k_ hk_ => hk_.1.1.2))
           replace HO236 := Aside0.mk (Kd.R_mono (ok' := fun k_ => some k_ ≠ (v244 : Value).ownBlock) (Kd.R_keptB ((Kd.R_apart' HO236.out (Kd.R_typed HO239.out) (by decide))) hkp (fun k_ hk_ hs_ => (hk_.2) hs_)) (fun k_ hk_ => hk_.1.1.2))
           have HO242 := Aside0.mk (Kd.R_mono (ok' := fun k_ => some k_ ≠ (.slice Ao67 x3_2.length co67 : Value).ownBlock) ho0 (fun k_ hk_ => Or.elim hk_ (fun hs_ => fun e_ => (((HO_3.out).1 k_ e_.symm).2) hs_) (fun hn_ => (Kd.fresh' (Kd.R_lt (qR HO_3.out)) k_ hn_))))
           replace HO_3 := Aside0.mk (Kd.R_mono (ok' := fun k_ => some k_ ≠ (v241 : Value).ownBlock) (Kd.R_keptB (HO_3.out) hkp (fun k_ hk_ hs_ => (hk_.2) hs_)) (fun k_ hk_ => fun e_ => Or.elim (ho0.1 k_ e_.symm) (fun hs_ => hk_.2.1 hs_) (fun hn_ => Nat.not_le.2 hk_.2.2 hn_)))
           replace HB := Aside0.mk (hb)
           clear HO239
           (try clear hb)
           (try clear hkp)
           (try clear ho0)
           refine hK.out _ _ (qc3 BK233.out) (fun hHeld => ?_)
           clear hK K
           refine norm_ (a' := ?_) ?_ ?_
           rotate_left
           ·show Act.put _ (some 74) _ = _
            simp only [Act.put, s1, s2, s3, i64_w, i32_w]
            rfl
           exact norm_ (by simp only [putAll, Act.put, s1, s2, s3]) (hCont (.slice Ao74 y234.length co74, .slice Ao76 t237.length co76, v241, v244) _ ⟨hHeld, (qR HO236.out), (qR HO242.out), (qR HO245.out), (qR HO_3.out), (qK BK187.out), (qK BK233.out), (qB HB.out)⟩)
         rintro ⟨v235, v238, v241, v244⟩ w78 ⟨hS_, h0_, h1_, h2_, h3_, h4_, h5_, h6_⟩
         have HO236 : Aside0 (Kd.R Kd.string 9 w78 w.heap.size (fun k_ => some k_ ≠ (v244 : Value).ownBlock) v235 y234) := ⟨h0_⟩
         have HO242 : Aside0 (Kd.R (Kd.int .u8) 5 w78 w.heap.size (fun k_ => some k_ ≠ (.slice Ao67 x3_2.length co67 : Value).ownBlock) v241 t240) := ⟨h1_⟩
         have HO245 : Aside0 (Kd.R Kd.string 9 w78 w.heap.size (fun k_ => some k_ ≠ (v235 : Value).ownBlock) v244 y243) := ⟨h2_⟩
         replace HO_3 : Aside0 (Kd.R (Kd.int .u8) 5 w78 w.heap.size (fun k_ => some k_ ≠ (v241 : Value).ownBlock) (.slice Ao67 x3_2.length co67) x3_2) := ⟨h3_⟩
         replace BK187 : Aside0 (w78.heap[gb187]? = some (.cells #[.int .i64 a0_0, .int .i64 a0_1, .int .i64 a0_2, .int .i64 a0_3, .int .i64 a0_4, .int .i64 a0_5, .int .i64 a0_6, .int .i64 a0_7, .int .i64 a0_8, .int .i64 a0_9, .int .i64 a0_10, .bool a0_11, .slice A0_12 l0_12.length c0_12, .slice (some ad232) l0_13.length c0_13] 29 (0, 0))) := ⟨h4_⟩
         replace BK233 : Aside0 (w78.heap[gb233]? = some (.cells #[.string ((rd_T67 l0_13 x63_2).f0), .bool ((rd_T67 l0_13 x63_2).f1), .string ((rd_T67 l0_13 x63_2).f2)] 67 (0, 0))) := ⟨h5_⟩
         replace HB : Aside0 (Below w.heap.size w w78) := ⟨h6_⟩
         clear h0_ h1_ h2_ h3_ h4_ h5_ h6_
         have hHeld : w78.cell? ⟨gb233, 0, none⟩ = some (.string ((rd_T67 l0_13 x63_2).f0)) ∧ w78.cell? ⟨gb233, 1, none⟩ = some (.bool ((rd_T67 l0_13 x63_2).f1)) ∧ w78.cell? ⟨gb233, 2, none⟩ = some (.string ((rd_T67 l0_13 x63_2).f2)) := hS_
         obtain ⟨Ao79, co79, eo79⟩ := Kd.R_slice HO242.out
         (first | subst eo79 | (injection eo79 with f1_ f2_ f3_; have f4_ := f1_.symm; have f5_ := f3_.symm; clear f1_ f2_ f3_; subst f4_; subst f5_))
         obtain ⟨Ao80, co80, eo80⟩ := Kd.R_slice HO245.out
         (first | subst eo80 | (injection eo80 with f1_ f2_ f3_; have f4_ := f1_.symm; have f5_ := f3_.symm; clear f1_ f2_ f3_; subst f4_; subst f5_))
         refine norm_ (a' := ?_) ?_ ?_
         rotate_left
         ·simp only [putAll, Act.put, s1, s2, s3]
          rfl
         refine one_ (i := 11) (N := some 78) #[true, true, true, true, true, true, true, true, true, true, true, true, false] rfl rfl (one_of HT_.out (by kernel_rfl)) (by decide) (fun K hK => ?_)
         refine qG Try.func45 #[.slice Ao79 t240.length co79, .slice Ao80 y243.length co80] ?_
         with_reducible refine (wire_text.calls k2 _ _ t240 _ _ y243 t246 _ ?side1 ?side2 ?side3 ?side4 A63.out).mono ?_
         (case side1 => exact qC (Kd.R_reads' HO242.out).2.2)
         (case side2 => exact (Kd.R_reads' HO242.out).2.1)
         (case side3 => exact qC (Kd.R_reads' HO245.out).2.2)
         (case side4 => exact (Kd.R_reads' HO245.out).2.1)
         rintro e w81 ⟨v247, rfl, ho0, hb⟩
         refine ⟨_, rfl, ?_⟩
         replace HO236 := Aside0.mk (Kd.R_below (qR HO236.out) hb)
         replace HO245 := Aside0.mk (Kd.R_below (qR HO245.out) hb)
         have HO248 := Aside0.mk (Kd.R_lower (Kd.R_new' (Kd.R_new' ho0 (Kd.R_lt (qR HO_3.out))) (Kd.R_lt (qR HO242.out))) (below_size (qB HB.out)))
         replace HO_3 := Aside0.mk (Kd.R_elder' (qR HO_3.out) (Kd.R_base ho0) hb)
         replace HO242 := Aside0.mk (Kd.R_elder' (qR HO242.out) (Kd.R_base ho0) hb)
         replace BK187 := Aside0.mk (blk_below (qK BK187.out) hb)
         replace BK233 := Aside0.mk (blk_below (qK BK233.out) hb)
         replace HB := Aside0.mk (below_step (qB HB.out) hb)
         (try clear hb)
         (try clear hb2)
         (try clear hk)
         (try clear hi)
         (try clear ho0)
         refine hK.out _ _ (qc3 BK233.out) (fun hHeld => ?_)
         clear hK K
         refine norm_ (a' := ?_) ?_ ?_
         rotate_left
         ·show Act.put _ (some 78) _ = _
          simp only [Act.put, s1, s2, s3, i64_w, i32_w]
          rfl
         refine pure_ (i := 12) (N := some 3) (v := ?_) (a' := ?_) #[true, true, true, true, true, true, true, true, true, true, true, true, true] rfl rfl (any_of HT_.out (by kernel_rfl)) (fun _ _ _ h => h) (Or.inl ⟨by rfl, ?_⟩) ?_ ?_
         rotate_left
         ·intro w'
          go_simp
          with_reducible rfl
         rotate_left
         ·simp only [Act.put, s1, s2, s3, i64_w, i32_w]
          rfl
         refine done_ (done_of HT_.out (by kernel_rfl)) ?_
         try go_wp2
         go_roundg k2
         case measure => have := HK1.out; have := HK2.out; omega
         case rel => exact ⟨(t246), (wrap64 (x63_2 + 1)), (by first | rfl | (simp; done) | (simp [*]; done)), H', ⟨by have := HK1.out; have := HK2.out; omega⟩, ⟨by (with_reducible repeat (first | apply Kd.R_alloc | apply Kd.R_drewN | apply Kd.R_drew)); exact Kd.R_mono HO248.out (fun _ hk => trivial)⟩, ⟨qK BK187.out⟩, ⟨qB HB.out⟩⟩
        ·rw [if_neg c60] at H
         exact absurd H (by simp)
       ·rw [if_neg c59] at H
        exact absurd H (by simp)
      ·rw [if_neg c58] at H
       have c58b0 : decide (x63_2 < (l0_13.length : Int)) = false := decide_eq_false c58
       clear c58
       obtain rfl := Option.some.inj H
       go_wp2
       go_ret
       exact ⟨_, by first | rfl | (simp [errW_none, errW_some] <;> rfl) | (simp [*, errW_none, errW_some] <;> rfl), qR HO_3.out, qB HB.out⟩
end Go.Proofs.Ytjfgapaohldbkaa.QA


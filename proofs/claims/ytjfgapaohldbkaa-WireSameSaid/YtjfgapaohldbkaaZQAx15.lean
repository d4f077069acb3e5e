/- Written by a program of this session (wip/myprint.sh): contracts of Go functions of the translation: each call comes to what the Lean function of its name says. -/
import Derived.Test.YtjfgapaohldbkaaZQAll
import Derived.Test.YtjfgapaohldbkaaZQAx12
import Derived.Test.YtjfgapaohldbkaaZQAx13
import Derived.Test.YtjfgapaohldbkaaZQAx14
namespace Go.Proofs.Ytjfgapaohldbkaa.QA
open Go.RowKit Go.Proofs.YtjfgapaohldbkaaW.PrintWords Go.Proofs.YtjfgapaohldbkaaW.PrintLast Go.Proofs.YtjfgapaohldbkaaW.PrintMore
attribute [local go_sem] max2_int min2_int max_two min_two max_three min_three max_four min_four   -- for this text's walks alone
set_option linter.unusedVariables false
set_option linter.unusedSimpArgs false
mutual
def antipoderef14_Cmd.l0 : Nat → List Int → Int → Int → Int → Int → Int → Int → Int → Int → Int → Int → Int → Int → Bool → List (S65) → List (S67) → Option (List Int)
 | 0, _, _, _, _, _, _, _, _, _, _, _, _, _, _, _, _ => none
 | k + 1, x3, x4, x374000, x374001, x374002, x374003, x374004, x374005, x374006, x374007, x374008, x374009, x374010, x374011, x374012, x374013 => if x4 < (x374012.length : Int) then (if 0 ≤ x4 then ((antipoderef14_t.f k x3 ((rd_T65 x374012 x4).f0)).bind fun t405 => ((antipoderef14_t.f k t405 ((rd_T65 x374012 x4).f1)).bind fun t409 => (antipoderef14_Cmd.l0 k t409 (wrap64 (x4 + 1)) x374000 x374001 x374002 x374003 x374004 x374005 x374006 x374007 x374008 x374009 x374010 x374011 x374012 x374013))) else (none)) else ((antipoderef14_n.f k x3 (x374013.length : Int)).bind fun t412 => (antipoderef14_Cmd.l1 k t412 0 x374000 x374001 x374002 x374003 x374004 x374005 x374006 x374007 x374008 x374009 x374010 x374011 x374012 x374013))
def antipoderef14_Cmd.l1 : Nat → List Int → Int → Int → Int → Int → Int → Int → Int → Int → Int → Int → Int → Int → Bool → List (S65) → List (S67) → Option (List Int)
 | 0, _, _, _, _, _, _, _, _, _, _, _, _, _, _, _, _ => none
 | k + 1, x3, x5, x374000, x374001, x374002, x374003, x374004, x374005, x374006, x374007, x374008, x374009, x374010, x374011, x374012, x374013 => if x5 < (x374013.length : Int) then (if 0 ≤ x5 then ((antipoderef14_t.f k x3 ((rd_T67 x374013 x5).f0)).bind fun t416 => ((antipoderef14_f.f t416 ((rd_T67 x374013 x5).f1)).bind fun t420 => ((antipoderef14_t.f k t420 ((rd_T67 x374013 x5).f2)).bind fun t424 => (antipoderef14_Cmd.l1 k t424 (wrap64 (x5 + 1)) x374000 x374001 x374002 x374003 x374004 x374005 x374006 x374007 x374008 x374009 x374010 x374011 x374012 x374013)))) else (none)) else (some x3)
end
def antipoderef14_Cmd.f (k : Nat) (a0_0 : Int) (a0_1 : Int) (a0_2 : Int) (a0_3 : Int) (a0_4 : Int) (a0_5 : Int) (a0_6 : Int) (a0_7 : Int) (a0_8 : Int) (a0_9 : Int) (a0_10 : Int) (a0_11 : Bool) (l0_12 : List (S65)) (l0_13 : List (S67)) : Option (List Int) := (antipoderef14_n.f k (([1] : List Int)) a0_0).bind fun t377 => ((antipoderef14_n.f k t377 a0_1).bind fun t380 => ((antipoderef14_n.f k t380 a0_2).bind fun t383 => ((antipoderef14_n.f k t383 a0_3).bind fun t386 => ((antipoderef14_y.f k t386 a0_4 a0_5 a0_6 a0_7).bind fun t389 => ((antipoderef14_s.f k t389 a0_8 a0_9).bind fun t392 => ((antipoderef14_n.f k t392 a0_10).bind fun t395 => ((antipoderef14_f.f t395 a0_11).bind fun t398 => ((antipoderef14_n.f k t398 (l0_12.length : Int)).bind fun t401 => (antipoderef14_Cmd.l0 k t401 0 a0_0 a0_1 a0_2 a0_3 a0_4 a0_5 a0_6 a0_7 a0_8 a0_9 a0_10 a0_11 l0_12 l0_13)))))))))
def antipoderef14_Cmd.T1 : Bool × List (List Nat × List Nat) := (true, [([], []), ([], []), ([1], [1]), ([0, 2], [0, 2]), ([], []), ([4], [4]), ([3, 5, 3], [3, 5]), ([], []), ([7], [7]), ([6, 8, 6], [6, 8]), ([], []), ([10], [10]), ([9, 11, 9], [9, 11]), ([12, 12, 0, 1, 2, 3, 4, 5, 6, 7, 8, 9, 10, 11, 12], [12])])
def antipoderef14_Cmd.B1 : List Nat := [0, 0, 2, 7, 0, 16, 63, 0, 128, 511, 0, 1024, 4095, 8191]
theorem antipoderef14_Cmd.tab1 : rtab .any (opsOf Try.f17 1) = antipoderef14_Cmd.T1 := by kernel_rfl
theorem antipoderef14_Cmd.bits1 : waitsOk antipoderef14_Cmd.T1.2 antipoderef14_Cmd.B1 = true := by kernel_rfl
def antipoderef14_Cmd.T2 : Bool × List (List Nat × List Nat) := (true, [([], []), ([], []), ([1], [1]), ([0, 2], [0, 2]), ([], []), ([4], [4]), ([3, 5, 3], [3, 5]), ([], []), ([7], [7]), ([6, 8, 6], [6, 8]), ([], []), ([10], [10]), ([9, 11, 9], [9, 11]), ([12, 12, 0, 1, 2, 3, 4, 5, 6, 7, 8, 9, 10, 11, 12], [0, 12])])
def antipoderef14_Cmd.B2 : List Nat := [0, 0, 2, 7, 0, 16, 63, 0, 128, 511, 0, 1024, 4095, 8191]
theorem antipoderef14_Cmd.tab2 : rtab .any (opsOf Try.f17 2) = antipoderef14_Cmd.T2 := by kernel_rfl
theorem antipoderef14_Cmd.bits2 : waitsOk antipoderef14_Cmd.T2.2 antipoderef14_Cmd.B2 = true := by kernel_rfl
def antipoderef14_Cmd.T7 : Bool × List (List Nat × List Nat) := (true, [([], []), ([], []), ([1], [1]), ([], []), ([2, 3], [2, 3]), ([4], [4]), ([5], [5]), ([0, 6], [0, 6]), ([], []), ([8], [8]), ([], []), ([9, 10], [9, 10]), ([11], [11]), ([12], [12]), ([7, 13, 7], [7, 13]), ([14, 14, 0, 1, 2, 3, 4, 5, 6, 7, 8, 9, 10, 11, 12, 13, 14], [0, 14])])
def antipoderef14_Cmd.B7 : List Nat := [0, 0, 2, 0, 14, 30, 62, 127, 0, 256, 0, 1792, 3840, 7936, 16383, 32767]
theorem antipoderef14_Cmd.tab7 : rtab .any (opsOf Try.f17 7) = antipoderef14_Cmd.T7 := by kernel_rfl
theorem antipoderef14_Cmd.bits7 : waitsOk antipoderef14_Cmd.T7.2 antipoderef14_Cmd.B7 = true := by kernel_rfl
def antipoderef14_Cmd.T12 : Bool × List (List Nat × List Nat) := (true, [([], []), ([], []), ([1], [1]), ([], []), ([2, 3], [2, 3]), ([4], [4]), ([5], [5]), ([0, 6], [0, 6]), ([], []), ([8], [8]), ([], []), ([9, 10], [9, 10]), ([11], [11]), ([12], [12]), ([7, 13, 7], [7, 13]), ([], []), ([15], [15]), ([], []), ([16, 17], [16, 17]), ([18], [18]), ([19], [19]), ([14, 20, 14], [14, 20]), ([21, 21, 0, 1, 2, 3, 4, 5, 6, 7, 8, 9, 10, 11, 12, 13, 14, 15, 16, 17, 18, 19, 20, 21], [0, 21])])
def antipoderef14_Cmd.B12 : List Nat := [0, 0, 2, 0, 14, 30, 62, 127, 0, 256, 0, 1792, 3840, 7936, 16383, 0, 32768, 0, 229376, 491520, 1015808, 2097151, 4194303]
theorem antipoderef14_Cmd.tab12 : rtab .any (opsOf Try.f17 12) = antipoderef14_Cmd.T12 := by kernel_rfl
theorem antipoderef14_Cmd.bits12 : waitsOk antipoderef14_Cmd.T12.2 antipoderef14_Cmd.B12 = true := by kernel_rfl
set_option maxHeartbeats 8000000 in
set_option maxRecDepth 100000 in
theorem antipoderef14_Cmd.calls (k : Nat) (a0_0 : Int) (a0_1 : Int) (a0_2 : Int) (a0_3 : Int) (a0_4 : Int) (a0_5 : Int) (a0_6 : Int) (a0_7 : Int) (a0_8 : Int) (a0_9 : Int) (a0_10 : Int) (a0_11 : Bool) (A0_12 : Option Addr) (c0_12 : Nat) (l0_12 : List (S65)) (A0_13 : Option Addr) (c0_13 : Nat) (l0_13 : List (S67)) (r : List Int) (w : World) (hr0_12 : Kd.C k65 w A0_12 l0_12.length l0_12) (hc0_12 : l0_12.length ≤ c0_12) (hr0_13 : Kd.C k67 w A0_13 l0_13.length l0_13) (hc0_13 : l0_13.length ≤ c0_13) (h : antipoderef14_Cmd.f k a0_0 a0_1 a0_2 a0_3 a0_4 a0_5 a0_6 a0_7 a0_8 a0_9 a0_10 a0_11 l0_12 l0_13 = some r) :
  Calls Try.prog 17 #[.agg #[.int .i64 a0_0, .int .i64 a0_1, .int .i64 a0_2, .int .i64 a0_3, .int .i64 a0_4, .int .i64 a0_5, .int .i64 a0_6, .int .i64 a0_7, .int .i64 a0_8, .int .i64 a0_9, .int .i64 a0_10, .bool a0_11, .slice A0_12 l0_12.length c0_12, .slice A0_13 l0_13.length c0_13]] w fun e w' => ∃ v0_ : Value, e = .returned (v0_) ∧ Kd.R (Kd.int .u8) 5 w' w.heap.size (fun _ => True) v0_ r ∧ Below w.heap.size w w' := by
 have hu29 := Try.underlying29
 have hu23 := Try.underlying23
 have hu25 := Try.underlying25
 have HR0_12 := Aside0.mk hr0_12
 have HC0_12 := Aside0.mk hc0_12
 clear hr0_12 hc0_12
 have HR0_13 := Aside0.mk hr0_13
 have HC0_13 := Aside0.mk hc0_13
 clear hr0_13 hc0_13
 have HB := Aside0.mk (Below.refl w.heap.size w)
 have H : ((antipoderef14_n.f k (([1] : List Int)) a0_0).bind fun t377 => ((antipoderef14_n.f k t377 a0_1).bind fun t380 => ((antipoderef14_n.f k t380 a0_2).bind fun t383 => ((antipoderef14_n.f k t383 a0_3).bind fun t386 => ((antipoderef14_y.f k t386 a0_4 a0_5 a0_6 a0_7).bind fun t389 => ((antipoderef14_s.f k t389 a0_8 a0_9).bind fun t392 => ((antipoderef14_n.f k t392 a0_10).bind fun t395 => ((antipoderef14_f.f t395 a0_11).bind fun t398 => ((antipoderef14_n.f k t398 (l0_12.length : Int)).bind fun t401 => (antipoderef14_Cmd.l0 k t401 0 a0_0 a0_1 a0_2 a0_3 a0_4 a0_5 a0_6 a0_7 a0_8 a0_9 a0_10 a0_11 l0_12 l0_13)))))))))) = some r := h
 clear h
 obtain ⟨y374, hy374⟩ : ∃ y_ : List Int, y_ = (([1] : List Int)) := ⟨_, rfl⟩
 replace H : ((antipoderef14_n.f k y374 a0_0).bind fun t377 => ((antipoderef14_n.f k t377 a0_1).bind fun t380 => ((antipoderef14_n.f k t380 a0_2).bind fun t383 => ((antipoderef14_n.f k t383 a0_3).bind fun t386 => ((antipoderef14_y.f k t386 a0_4 a0_5 a0_6 a0_7).bind fun t389 => ((antipoderef14_s.f k t389 a0_8 a0_9).bind fun t392 => ((antipoderef14_n.f k t392 a0_10).bind fun t395 => ((antipoderef14_f.f t395 a0_11).bind fun t398 => ((antipoderef14_n.f k t398 (l0_12.length : Int)).bind fun t401 => (antipoderef14_Cmd.l0 k t401 0 a0_0 a0_1 a0_2 a0_3 a0_4 a0_5 a0_6 a0_7 a0_8 a0_9 a0_10 a0_11 l0_12 l0_13)))))))))) = some r := by first | (rw [hy374]; with_reducible exact H) | (have H2_ := (Option.bind_some _ _).symm.trans H; rw [hy374]; with_reducible exact H2_) | (have H2_ := (Option.bind_some _ _).symm.trans H; with_reducible exact H2_) | with_reducible exact H | (rw [hy374]; exact H) | exact H
 have Ny374 := Aside0.mk hy374
 clear hy374
 replace H := Option.bind_eq_some_iff.mp H
 obtain ⟨t377, A20, H⟩ := H
 replace H : ((antipoderef14_n.f k t377 a0_1).bind fun t380 => ((antipoderef14_n.f k t380 a0_2).bind fun t383 => ((antipoderef14_n.f k t383 a0_3).bind fun t386 => ((antipoderef14_y.f k t386 a0_4 a0_5 a0_6 a0_7).bind fun t389 => ((antipoderef14_s.f k t389 a0_8 a0_9).bind fun t392 => ((antipoderef14_n.f k t392 a0_10).bind fun t395 => ((antipoderef14_f.f t395 a0_11).bind fun t398 => ((antipoderef14_n.f k t398 (l0_12.length : Int)).bind fun t401 => (antipoderef14_Cmd.l0 k t401 0 a0_0 a0_1 a0_2 a0_3 a0_4 a0_5 a0_6 a0_7 a0_8 a0_9 a0_10 a0_11 l0_12 l0_13))))))))) = some r := H
 have A2 := Aside0.mk A20
 clear A20
 replace H := Option.bind_eq_some_iff.mp H
 obtain ⟨t380, A30, H⟩ := H
 replace H : ((antipoderef14_n.f k t380 a0_2).bind fun t383 => ((antipoderef14_n.f k t383 a0_3).bind fun t386 => ((antipoderef14_y.f k t386 a0_4 a0_5 a0_6 a0_7).bind fun t389 => ((antipoderef14_s.f k t389 a0_8 a0_9).bind fun t392 => ((antipoderef14_n.f k t392 a0_10).bind fun t395 => ((antipoderef14_f.f t395 a0_11).bind fun t398 => ((antipoderef14_n.f k t398 (l0_12.length : Int)).bind fun t401 => (antipoderef14_Cmd.l0 k t401 0 a0_0 a0_1 a0_2 a0_3 a0_4 a0_5 a0_6 a0_7 a0_8 a0_9 a0_10 a0_11 l0_12 l0_13)))))))) = some r := H
 have A3 := Aside0.mk A30
 clear A30
 replace H := Option.bind_eq_some_iff.mp H
 obtain ⟨t383, A40, H⟩ := H
 replace H : ((antipoderef14_n.f k t383 a0_3).bind fun t386 => ((antipoderef14_y.f k t386 a0_4 a0_5 a0_6 a0_7).bind fun t389 => ((antipoderef14_s.f k t389 a0_8 a0_9).bind fun t392 => ((antipoderef14_n.f k t392 a0_10).bind fun t395 => ((antipoderef14_f.f t395 a0_11).bind fun t398 => ((antipoderef14_n.f k t398 (l0_12.length : Int)).bind fun t401 => (antipoderef14_Cmd.l0 k t401 0 a0_0 a0_1 a0_2 a0_3 a0_4 a0_5 a0_6 a0_7 a0_8 a0_9 a0_10 a0_11 l0_12 l0_13))))))) = some r := H
 have A4 := Aside0.mk A40
 clear A40
 replace H := Option.bind_eq_some_iff.mp H
 obtain ⟨t386, A50, H⟩ := H
 replace H : ((antipoderef14_y.f k t386 a0_4 a0_5 a0_6 a0_7).bind fun t389 => ((antipoderef14_s.f k t389 a0_8 a0_9).bind fun t392 => ((antipoderef14_n.f k t392 a0_10).bind fun t395 => ((antipoderef14_f.f t395 a0_11).bind fun t398 => ((antipoderef14_n.f k t398 (l0_12.length : Int)).bind fun t401 => (antipoderef14_Cmd.l0 k t401 0 a0_0 a0_1 a0_2 a0_3 a0_4 a0_5 a0_6 a0_7 a0_8 a0_9 a0_10 a0_11 l0_12 l0_13)))))) = some r := H
 have A5 := Aside0.mk A50
 clear A50
 replace H := Option.bind_eq_some_iff.mp H
 obtain ⟨t389, A60, H⟩ := H
 replace H : ((antipoderef14_s.f k t389 a0_8 a0_9).bind fun t392 => ((antipoderef14_n.f k t392 a0_10).bind fun t395 => ((antipoderef14_f.f t395 a0_11).bind fun t398 => ((antipoderef14_n.f k t398 (l0_12.length : Int)).bind fun t401 => (antipoderef14_Cmd.l0 k t401 0 a0_0 a0_1 a0_2 a0_3 a0_4 a0_5 a0_6 a0_7 a0_8 a0_9 a0_10 a0_11 l0_12 l0_13))))) = some r := H
 have A6 := Aside0.mk A60
 clear A60
 replace H := Option.bind_eq_some_iff.mp H
 obtain ⟨t392, A70, H⟩ := H
 replace H : ((antipoderef14_n.f k t392 a0_10).bind fun t395 => ((antipoderef14_f.f t395 a0_11).bind fun t398 => ((antipoderef14_n.f k t398 (l0_12.length : Int)).bind fun t401 => (antipoderef14_Cmd.l0 k t401 0 a0_0 a0_1 a0_2 a0_3 a0_4 a0_5 a0_6 a0_7 a0_8 a0_9 a0_10 a0_11 l0_12 l0_13)))) = some r := H
 have A7 := Aside0.mk A70
 clear A70
 replace H := Option.bind_eq_some_iff.mp H
 obtain ⟨t395, A80, H⟩ := H
 replace H : ((antipoderef14_f.f t395 a0_11).bind fun t398 => ((antipoderef14_n.f k t398 (l0_12.length : Int)).bind fun t401 => (antipoderef14_Cmd.l0 k t401 0 a0_0 a0_1 a0_2 a0_3 a0_4 a0_5 a0_6 a0_7 a0_8 a0_9 a0_10 a0_11 l0_12 l0_13))) = some r := H
 have A8 := Aside0.mk A80
 clear A80
 replace H := Option.bind_eq_some_iff.mp H
 obtain ⟨t398, A90, H⟩ := H
 replace H : ((antipoderef14_n.f k t398 (l0_12.length : Int)).bind fun t401 => (antipoderef14_Cmd.l0 k t401 0 a0_0 a0_1 a0_2 a0_3 a0_4 a0_5 a0_6 a0_7 a0_8 a0_9 a0_10 a0_11 l0_12 l0_13)) = some r := H
 have A9 := Aside0.mk A90
 clear A90
 replace H := Option.bind_eq_some_iff.mp H
 obtain ⟨t401, A100, H⟩ := H
 replace H : (antipoderef14_Cmd.l0 k t401 0 a0_0 a0_1 a0_2 a0_3 a0_4 a0_5 a0_6 a0_7 a0_8 a0_9 a0_10 a0_11 l0_12 l0_13) = some r := H
 have A10 := Aside0.mk A100
 clear A100
 have H' := Aside0.mk H
 clear H
 go_enter Try.func17, Try.ntmps17
 try go_wp2_with (first | ((with_reducible refine gate_dst (N := 1) rfl ?_); refine qX 1 #[.int .i64 a0_0, .int .i64 a0_1, .int .i64 a0_2, .int .i64 a0_3, .int .i64 a0_4, .int .i64 a0_5, .int .i64 a0_6, .int .i64 a0_7, .int .i64 a0_8, .int .i64 a0_9, .int .i64 a0_10, .bool a0_11, .slice A0_12 l0_12.length c0_12, .slice A0_13 l0_13.length c0_13] 29 ?_; intro gb373 hg w11 hbox hb; have BK373 := Aside0.mk (hbox); have GW373 := Aside0.mk ((qZ HB.out hg)); have GE373 := Aside0.mk ((qZ HB.out hg)); replace HB := Aside0.mk (below_step (qB HB.out) hb); clear hb hbox hg))
 replace BK373 := Aside0.mk (blk_drew BK373.out)
 replace HB := Aside0.mk (below_drew1 HB.out)
 refine start_ (n := 14) (S := fun w' => w'.cell? ⟨gb373, 0, none⟩ = some (.int .i64 a0_0) ∧ w'.cell? ⟨gb373, 1, none⟩ = some (.int .i64 a0_1) ∧ w'.cell? ⟨gb373, 2, none⟩ = some (.int .i64 a0_2) ∧ w'.cell? ⟨gb373, 3, none⟩ = some (.int .i64 a0_3) ∧ w'.cell? ⟨gb373, 4, none⟩ = some (.int .i64 a0_4) ∧ w'.cell? ⟨gb373, 5, none⟩ = some (.int .i64 a0_5) ∧ w'.cell? ⟨gb373, 6, none⟩ = some (.int .i64 a0_6) ∧ w'.cell? ⟨gb373, 7, none⟩ = some (.int .i64 a0_7) ∧ w'.cell? ⟨gb373, 8, none⟩ = some (.int .i64 a0_8) ∧ w'.cell? ⟨gb373, 9, none⟩ = some (.int .i64 a0_9) ∧ w'.cell? ⟨gb373, 10, none⟩ = some (.int .i64 a0_10) ∧ w'.cell? ⟨gb373, 11, none⟩ = some (.bool a0_11) ∧ w'.cell? ⟨gb373, 12, none⟩ = some (.slice A0_12 l0_12.length c0_12) ∧ w'.cell? ⟨gb373, 13, none⟩ = some (.slice A0_13 l0_13.length c0_13)) (ds := []) #[false, false, false, false, false, false, false, false, false, false, false, false, false, false] (by kernel_rfl) rfl rfl (qc14 BK373.out) (fun hHeld => ?_); refine with_tabW antipoderef14_Cmd.tab1 antipoderef14_Cmd.bits1 (fun HT_ HW_ => ?_)
 generalize w11.drew = w12 at BK373 HB hHeld ⊢
 refine pure_ (i := 1) (N := some 7) (v := ?_) (a' := ?_) #[false, true, false, false, false, false, false, false, false, false, false, false, false, false] rfl rfl (any_of HT_.out (by kernel_rfl)) (fun _ _ _ h => h) (Or.inl ⟨by rfl, ?_⟩) ?_ ?_
 rotate_left
 ·intro w'
  go_simp
  with_reducible rfl
 rotate_left
 ·simp only [Act.put, s1, s2, s3, i64_w, i32_w]
  rfl
 refine pure_ (i := 4) (N := some 10) (v := ?_) (a' := ?_) #[false, true, false, false, true, false, false, false, false, false, false, false, false, false] rfl rfl (any_of HT_.out (by kernel_rfl)) (fun _ _ _ h => h) (Or.inl ⟨by rfl, ?_⟩) ?_ ?_
 rotate_left
 ·intro w'
  go_simp
  with_reducible rfl
 rotate_left
 ·simp only [Act.put, s1, s2, s3, i64_w, i32_w]
  rfl
 refine pure_ (i := 7) (N := some 13) (v := ?_) (a' := ?_) #[false, true, false, false, true, false, false, true, false, false, false, false, false, false] rfl rfl (any_of HT_.out (by kernel_rfl)) (fun _ _ _ h => h) (Or.inl ⟨by rfl, ?_⟩) ?_ ?_
 rotate_left
 ·intro w'
  go_simp
  with_reducible rfl
 rotate_left
 ·simp only [Act.put, s1, s2, s3, i64_w, i32_w]
  rfl
 refine pure_ (i := 10) (N := some 16) (v := ?_) (a' := ?_) #[false, true, false, false, true, false, false, true, false, false, true, false, false, false] rfl rfl (any_of HT_.out (by kernel_rfl)) (fun _ _ _ h => h) (Or.inl ⟨by rfl, ?_⟩) ?_ ?_
 rotate_left
 ·intro w'
  go_simp
  with_reducible rfl
 rotate_left
 ·simp only [Act.put, s1, s2, s3, i64_w, i32_w]
  rfl
 refine take_ (i := 2) (N := some 8) (v := ?_) (a' := ?_) #[false, true, true, false, true, false, false, true, false, false, true, false, false, false] rfl rfl (take_ofW HT_.out HW_.out (by kernel_rfl)) (fun _ _ _ h => h) (Or.inl ⟨by rfl, ?_⟩) hHeld ?_ ?_
 rotate_left
 ·rintro w' ⟨s0, s1, s2, s3, s4, s5, s6, s7, s8, s9, s10, s11, s12, s13⟩
  go_simp
  with_reducible rfl
 rotate_left
 ·simp only [Act.put, s1, s2, s3, i64_w, i32_w]
  rfl
 refine take_ (i := 5) (N := some 11) (v := ?_) (a' := ?_) #[false, true, true, false, true, true, false, true, false, false, true, false, false, false] rfl rfl (take_ofW HT_.out HW_.out (by kernel_rfl)) (fun _ _ _ h => h) (Or.inl ⟨by rfl, ?_⟩) hHeld ?_ ?_
 rotate_left
 ·rintro w' ⟨s0, s1, s2, s3, s4, s5, s6, s7, s8, s9, s10, s11, s12, s13⟩
  go_simp
  with_reducible rfl
 rotate_left
 ·simp only [Act.put, s1, s2, s3, i64_w, i32_w]
  rfl
 refine take_ (i := 8) (N := some 14) (v := ?_) (a' := ?_) #[false, true, true, false, true, true, false, true, true, false, true, false, false, false] rfl rfl (take_ofW HT_.out HW_.out (by kernel_rfl)) (fun _ _ _ h => h) (Or.inl ⟨by rfl, ?_⟩) hHeld ?_ ?_
 rotate_left
 ·rintro w' ⟨s0, s1, s2, s3, s4, s5, s6, s7, s8, s9, s10, s11, s12, s13⟩
  go_simp
  with_reducible rfl
 rotate_left
 ·simp only [Act.put, s1, s2, s3, i64_w, i32_w]
  rfl
 refine take_ (i := 11) (N := some 17) (v := ?_) (a' := ?_) #[false, true, true, false, true, true, false, true, true, false, true, true, false, false] rfl rfl (take_ofW HT_.out HW_.out (by kernel_rfl)) (fun _ _ _ h => h) (Or.inl ⟨by rfl, ?_⟩) hHeld ?_ ?_
 rotate_left
 ·rintro w' ⟨s0, s1, s2, s3, s4, s5, s6, s7, s8, s9, s10, s11, s12, s13⟩
  go_simp
  with_reducible rfl
 rotate_left
 ·simp only [Act.put, s1, s2, s3, i64_w, i32_w]
  rfl
 refine one_ (i := 0) (N := some 6) #[true, true, true, false, true, true, false, true, true, false, true, true, false, false] rfl rfl (one_of HT_.out (by kernel_rfl)) (by decide) (fun K hK => ?_)
 refine Kd.R_lit_step (Kd.int .u8) _ 5 ?hg (N := 6) ?hd (xs := ([1] : List Int)) (inner := [.int .u8 1]) (ok := fun _ => True) (okp := fun _ => True) ?hr ?hp (fun _ hk => hk) trivial (Below.refl _ _) (Nat.le_refl _) (by simp) ?_; (case hd => rfl); (case hg => rfl); (case hr => first | (go_simp; done) | (go_simp; rfl)); (case hp => exact (Reps.one (show Kd.M (Kd.int .u8) _ _ _ 1 [.int .u8 1] from rfl) (Reps.none _ _)))
 intro v375 w13 ho14 hb hg_ hnew_
 clear hg_ hnew_
 (first | rw [← Ny374.out] at ho14 | (simp only [Int.reduceToNat] at ho14; rw [← Ny374.out] at ho14))
 have HO376 := Aside0.mk (Kd.R_lower ho14 (below_size (qB HB.out)))
 replace BK373 := Aside0.mk (blk_below (qK BK373.out) hb)
 replace HB := Aside0.mk (below_step (qB HB.out) hb)
 clear hb ho14
 obtain ⟨Ao15, co15, eo15⟩ := Kd.R_slice HO376.out
 (first | subst eo15 | (injection eo15 with f1_ f2_ f3_; have f4_ := f1_.symm; have f5_ := f3_.symm; clear f1_ f2_ f3_; subst f4_; subst f5_))
 refine hK.out _ _ (qc14 BK373.out) (fun hHeld => ?_)
 clear hK K
 refine norm_ (a' := ?_) ?_ ?_
 rotate_left
 ·show Act.put _ (some 6) _ = _
  simp only [Act.put, s1, s2, s3, i64_w, i32_w]
  rfl
 refine one_ (i := 3) (N := some 9) #[true, true, true, true, true, true, false, true, true, false, true, true, false, false] rfl rfl (one_of HT_.out (by kernel_rfl)) (by decide) (fun K hK => ?_)
 refine qG Try.func48 #[.slice Ao15 y374.length co15, .int .i64 a0_0] ?_
 with_reducible refine (antipoderef14_n.calls k _ _ y374 a0_0 t377 _ ?side1 ?side2 A2.out).mono ?_
 (case side1 => exact qC (Kd.R_reads' HO376.out).2.2)
 (case side2 => exact (Kd.R_reads' HO376.out).2.1)
 rintro e w16 ⟨v378, rfl, ho0, hb⟩
 refine ⟨_, rfl, ?_⟩
 have HO379 := Aside0.mk (Kd.R_lower (Kd.R_new' ho0 (Kd.R_lt (qR HO376.out))) (below_size (qB HB.out)))
 replace HO376 := Aside0.mk (Kd.R_elder' (qR HO376.out) (Kd.R_base ho0) hb)
 replace BK373 := Aside0.mk (blk_below (qK BK373.out) hb)
 replace HB := Aside0.mk (below_step (qB HB.out) hb)
 (try clear hb)
 (try clear hb2)
 (try clear hk)
 (try clear hi)
 (try clear ho0)
 obtain ⟨Ao17, co17, eo17⟩ := Kd.R_slice HO379.out
 (first | subst eo17 | (injection eo17 with f1_ f2_ f3_; have f4_ := f1_.symm; have f5_ := f3_.symm; clear f1_ f2_ f3_; subst f4_; subst f5_))
 refine hK.out _ _ (qc14 BK373.out) (fun hHeld => ?_)
 clear hK K
 refine norm_ (a' := ?_) ?_ ?_
 rotate_left
 ·show Act.put _ (some 9) _ = _
  simp only [Act.put, s1, s2, s3, i64_w, i32_w]
  rfl
 refine one_ (i := 6) (N := some 12) #[true, true, true, true, true, true, true, true, true, false, true, true, false, false] rfl rfl (one_of HT_.out (by kernel_rfl)) (by decide) (fun K hK => ?_)
 refine qG Try.func48 #[.slice Ao17 t377.length co17, .int .i64 a0_1] ?_
 with_reducible refine (antipoderef14_n.calls k _ _ t377 a0_1 t380 _ ?side1 ?side2 A3.out).mono ?_
 (case side1 => exact qC (Kd.R_reads' HO379.out).2.2)
 (case side2 => exact (Kd.R_reads' HO379.out).2.1)
 rintro e w18 ⟨v381, rfl, ho0, hb⟩
 refine ⟨_, rfl, ?_⟩
 have HO382 := Aside0.mk (Kd.R_lower (Kd.R_new' (Kd.R_new' ho0 (Kd.R_lt (qR HO376.out))) (Kd.R_lt (qR HO379.out))) (below_size (qB HB.out)))
 replace HO376 := Aside0.mk (Kd.R_elder' (qR HO376.out) (Kd.R_base ho0) hb)
 replace HO379 := Aside0.mk (Kd.R_elder' (qR HO379.out) (Kd.R_base ho0) hb)
 replace BK373 := Aside0.mk (blk_below (qK BK373.out) hb)
 replace HB := Aside0.mk (below_step (qB HB.out) hb)
 (try clear hb)
 (try clear hb2)
 (try clear hk)
 (try clear hi)
 (try clear ho0)
 obtain ⟨Ao19, co19, eo19⟩ := Kd.R_slice HO382.out
 (first | subst eo19 | (injection eo19 with f1_ f2_ f3_; have f4_ := f1_.symm; have f5_ := f3_.symm; clear f1_ f2_ f3_; subst f4_; subst f5_))
 refine hK.out _ _ (qc14 BK373.out) (fun hHeld => ?_)
 clear hK K
 refine norm_ (a' := ?_) ?_ ?_
 rotate_left
 ·show Act.put _ (some 12) _ = _
  simp only [Act.put, s1, s2, s3, i64_w, i32_w]
  rfl
 refine one_ (i := 9) (N := some 15) #[true, true, true, true, true, true, true, true, true, true, true, true, false, false] rfl rfl (one_of HT_.out (by kernel_rfl)) (by decide) (fun K hK => ?_)
 refine qG Try.func48 #[.slice Ao19 t380.length co19, .int .i64 a0_2] ?_
 with_reducible refine (antipoderef14_n.calls k _ _ t380 a0_2 t383 _ ?side1 ?side2 A4.out).mono ?_
 (case side1 => exact qC (Kd.R_reads' HO382.out).2.2)
 (case side2 => exact (Kd.R_reads' HO382.out).2.1)
 rintro e w20 ⟨v384, rfl, ho0, hb⟩
 refine ⟨_, rfl, ?_⟩
 have HO385 := Aside0.mk (Kd.R_lower (Kd.R_new' (Kd.R_new' (Kd.R_new' ho0 (Kd.R_lt (qR HO376.out))) (Kd.R_lt (qR HO379.out))) (Kd.R_lt (qR HO382.out))) (below_size (qB HB.out)))
 replace HO376 := Aside0.mk (Kd.R_elder' (qR HO376.out) (Kd.R_base ho0) hb)
 replace HO379 := Aside0.mk (Kd.R_elder' (qR HO379.out) (Kd.R_base ho0) hb)
 replace HO382 := Aside0.mk (Kd.R_elder' (qR HO382.out) (Kd.R_base ho0) hb)
 replace BK373 := Aside0.mk (blk_below (qK BK373.out) hb)
 replace HB := Aside0.mk (below_step (qB HB.out) hb)
 (try clear hb)
 (try clear hb2)
 (try clear hk)
 (try clear hi)
 (try clear ho0)
 obtain ⟨Ao21, co21, eo21⟩ := Kd.R_slice HO385.out
 (first | subst eo21 | (injection eo21 with f1_ f2_ f3_; have f4_ := f1_.symm; have f5_ := f3_.symm; clear f1_ f2_ f3_; subst f4_; subst f5_))
 refine hK.out _ _ (qc14 BK373.out) (fun hHeld => ?_)
 clear hK K
 refine norm_ (a' := ?_) ?_ ?_
 rotate_left
 ·show Act.put _ (some 15) _ = _
  simp only [Act.put, s1, s2, s3, i64_w, i32_w]
  rfl
 refine one_ (i := 12) (N := some 18) #[true, true, true, true, true, true, true, true, true, true, true, true, true, false] rfl rfl (one_of HT_.out (by kernel_rfl)) (by decide) (fun K hK => ?_)
 refine qG Try.func48 #[.slice Ao21 t383.length co21, .int .i64 a0_3] ?_
 with_reducible refine (antipoderef14_n.calls k _ _ t383 a0_3 t386 _ ?side1 ?side2 A5.out).mono ?_
 (case side1 => exact qC (Kd.R_reads' HO385.out).2.2)
 (case side2 => exact (Kd.R_reads' HO385.out).2.1)
 rintro e w22 ⟨v387, rfl, ho0, hb⟩
 refine ⟨_, rfl, ?_⟩
 have HO388 := Aside0.mk (Kd.R_lower (Kd.R_new' (Kd.R_new' (Kd.R_new' (Kd.R_new' ho0 (Kd.R_lt (qR HO376.out))) (Kd.R_lt (qR HO379.out))) (Kd.R_lt (qR HO382.out))) (Kd.R_lt (qR HO385.out))) (below_size (qB HB.out)))
 replace HO376 := Aside0.mk (Kd.R_elder' (qR HO376.out) (Kd.R_base ho0) hb)
 replace HO379 := Aside0.mk (Kd.R_elder' (qR HO379.out) (Kd.R_base ho0) hb)
 replace HO382 := Aside0.mk (Kd.R_elder' (qR HO382.out) (Kd.R_base ho0) hb)
 replace HO385 := Aside0.mk (Kd.R_elder' (qR HO385.out) (Kd.R_base ho0) hb)
 replace BK373 := Aside0.mk (blk_below (qK BK373.out) hb)
 replace HB := Aside0.mk (below_step (qB HB.out) hb)
 (try clear hb)
 (try clear hb2)
 (try clear hk)
 (try clear hi)
 (try clear ho0)
 refine hK.out _ _ (qc14 BK373.out) (fun hHeld => ?_)
 clear hK K
 refine norm_ (a' := ?_) ?_ ?_
 rotate_left
 ·show Act.put _ (some 18) _ = _
  simp only [Act.put, s1, s2, s3, i64_w, i32_w]
  rfl
 refine pure_ (i := 13) (N := some 3) (v := ?_) (a' := ?_) #[true, true, true, true, true, true, true, true, true, true, true, true, true, true] rfl rfl (any_of HT_.out (by kernel_rfl)) (fun _ _ _ h => h) (Or.inl ⟨by rfl, ?_⟩) ?_ ?_
 rotate_left
 ·intro w'
  go_simp
  with_reducible rfl
 rotate_left
 ·simp only [Act.put, s1, s2, s3, i64_w, i32_w]
  rfl
 refine done_ (done_of HT_.out (by kernel_rfl)) ?_
 try go_wp2
 replace HO376 := Aside0.mk (Kd.R_drew HO376.out)
 replace HO379 := Aside0.mk (Kd.R_drew HO379.out)
 replace HO382 := Aside0.mk (Kd.R_drew HO382.out)
 replace HO385 := Aside0.mk (Kd.R_drew HO385.out)
 replace HO388 := Aside0.mk (Kd.R_drew HO388.out)
 replace BK373 := Aside0.mk (blk_drew BK373.out)
 replace HB := Aside0.mk (below_drew1 HB.out)
 obtain ⟨Ao24, co24, eo24⟩ := Kd.R_slice HO388.out
 (first | subst eo24 | (injection eo24 with f1_ f2_ f3_; have f4_ := f1_.symm; have f5_ := f3_.symm; clear f1_ f2_ f3_; subst f4_; subst f5_))
 refine start_ (n := 14) (S := fun w' => w'.cell? ⟨gb373, 0, none⟩ = some (.int .i64 a0_0) ∧ w'.cell? ⟨gb373, 1, none⟩ = some (.int .i64 a0_1) ∧ w'.cell? ⟨gb373, 2, none⟩ = some (.int .i64 a0_2) ∧ w'.cell? ⟨gb373, 3, none⟩ = some (.int .i64 a0_3) ∧ w'.cell? ⟨gb373, 4, none⟩ = some (.int .i64 a0_4) ∧ w'.cell? ⟨gb373, 5, none⟩ = some (.int .i64 a0_5) ∧ w'.cell? ⟨gb373, 6, none⟩ = some (.int .i64 a0_6) ∧ w'.cell? ⟨gb373, 7, none⟩ = some (.int .i64 a0_7) ∧ w'.cell? ⟨gb373, 8, none⟩ = some (.int .i64 a0_8) ∧ w'.cell? ⟨gb373, 9, none⟩ = some (.int .i64 a0_9) ∧ w'.cell? ⟨gb373, 10, none⟩ = some (.int .i64 a0_10) ∧ w'.cell? ⟨gb373, 11, none⟩ = some (.bool a0_11) ∧ w'.cell? ⟨gb373, 12, none⟩ = some (.slice A0_12 l0_12.length c0_12) ∧ w'.cell? ⟨gb373, 13, none⟩ = some (.slice A0_13 l0_13.length c0_13)) (ds := []) #[false, false, false, false, false, false, false, false, false, false, false, false, false, false] (by kernel_rfl) rfl rfl (qc14 BK373.out) (fun hHeld => ?_); refine with_tabW antipoderef14_Cmd.tab2 antipoderef14_Cmd.bits2 (fun HT_ HW_ => ?_)
 generalize w22.drew = w23 at HO376 HO379 HO382 HO385 HO388 BK373 HB hHeld ⊢
 refine pure_ (i := 0) (N := some 19) (v := ?_) (a' := ?_) #[true, false, false, false, false, false, false, false, false, false, false, false, false, false] rfl rfl (any_of HT_.out (by kernel_rfl)) (fun _ _ _ h => h) (Or.inl ⟨by rfl, ?_⟩) ?_ ?_
 rotate_left
 ·intro w'
  go_simp
  with_reducible rfl
 rotate_left
 ·simp only [Act.put, s1, s2, s3, i64_w, i32_w]
  rfl
 refine pure_ (i := 1) (N := some 20) (v := ?_) (a' := ?_) #[true, true, false, false, false, false, false, false, false, false, false, false, false, false] rfl rfl (any_of HT_.out (by kernel_rfl)) (fun _ _ _ h => h) (Or.inl ⟨by rfl, ?_⟩) ?_ ?_
 rotate_left
 ·intro w'
  go_simp
  with_reducible rfl
 rotate_left
 ·simp only [Act.put, s1, s2, s3, i64_w, i32_w]
  rfl
 refine pure_ (i := 4) (N := some 23) (v := ?_) (a' := ?_) #[true, true, false, false, true, false, false, false, false, false, false, false, false, false] rfl rfl (any_of HT_.out (by kernel_rfl)) (fun _ _ _ h => h) (Or.inl ⟨by rfl, ?_⟩) ?_ ?_
 rotate_left
 ·intro w'
  go_simp
  with_reducible rfl
 rotate_left
 ·simp only [Act.put, s1, s2, s3, i64_w, i32_w]
  rfl
 refine pure_ (i := 7) (N := some 26) (v := ?_) (a' := ?_) #[true, true, false, false, true, false, false, true, false, false, false, false, false, false] rfl rfl (any_of HT_.out (by kernel_rfl)) (fun _ _ _ h => h) (Or.inl ⟨by rfl, ?_⟩) ?_ ?_
 rotate_left
 ·intro w'
  go_simp
  with_reducible rfl
 rotate_left
 ·simp only [Act.put, s1, s2, s3, i64_w, i32_w]
  rfl
 refine pure_ (i := 10) (N := some 29) (v := ?_) (a' := ?_) #[true, true, false, false, true, false, false, true, false, false, true, false, false, false] rfl rfl (any_of HT_.out (by kernel_rfl)) (fun _ _ _ h => h) (Or.inl ⟨by rfl, ?_⟩) ?_ ?_
 rotate_left
 ·intro w'
  go_simp
  with_reducible rfl
 rotate_left
 ·simp only [Act.put, s1, s2, s3, i64_w, i32_w]
  rfl
 refine take_ (i := 2) (N := some 21) (v := ?_) (a' := ?_) #[true, true, true, false, true, false, false, true, false, false, true, false, false, false] rfl rfl (take_ofW HT_.out HW_.out (by kernel_rfl)) (fun _ _ _ h => h) (Or.inl ⟨by rfl, ?_⟩) hHeld ?_ ?_
 rotate_left
 ·rintro w' ⟨s0, s1, s2, s3, s4, s5, s6, s7, s8, s9, s10, s11, s12, s13⟩
  go_simp
  with_reducible rfl
 rotate_left
 ·simp only [Act.put, s1, s2, s3, i64_w, i32_w]
  rfl
 refine take_ (i := 5) (N := some 24) (v := ?_) (a' := ?_) #[true, true, true, false, true, true, false, true, false, false, true, false, false, false] rfl rfl (take_ofW HT_.out HW_.out (by kernel_rfl)) (fun _ _ _ h => h) (Or.inl ⟨by rfl, ?_⟩) hHeld ?_ ?_
 rotate_left
 ·rintro w' ⟨s0, s1, s2, s3, s4, s5, s6, s7, s8, s9, s10, s11, s12, s13⟩
  go_simp
  with_reducible rfl
 rotate_left
 ·simp only [Act.put, s1, s2, s3, i64_w, i32_w]
  rfl
 refine take_ (i := 8) (N := some 27) (v := ?_) (a' := ?_) #[true, true, true, false, true, true, false, true, true, false, true, false, false, false] rfl rfl (take_ofW HT_.out HW_.out (by kernel_rfl)) (fun _ _ _ h => h) (Or.inl ⟨by rfl, ?_⟩) hHeld ?_ ?_
 rotate_left
 ·rintro w' ⟨s0, s1, s2, s3, s4, s5, s6, s7, s8, s9, s10, s11, s12, s13⟩
  go_simp
  with_reducible rfl
 rotate_left
 ·simp only [Act.put, s1, s2, s3, i64_w, i32_w]
  rfl
 refine take_ (i := 11) (N := some 30) (v := ?_) (a' := ?_) #[true, true, true, false, true, true, false, true, true, false, true, true, false, false] rfl rfl (take_ofW HT_.out HW_.out (by kernel_rfl)) (fun _ _ _ h => h) (Or.inl ⟨by rfl, ?_⟩) hHeld ?_ ?_
 rotate_left
 ·rintro w' ⟨s0, s1, s2, s3, s4, s5, s6, s7, s8, s9, s10, s11, s12, s13⟩
  go_simp
  with_reducible rfl
 rotate_left
 ·simp only [Act.put, s1, s2, s3, i64_w, i32_w]
  rfl
 refine one_ (i := 3) (N := some 22) #[true, true, true, true, true, true, false, true, true, false, true, true, false, false] rfl rfl (one_of HT_.out (by kernel_rfl)) (by decide) (fun K hK => ?_)
 refine qG Try.func51 #[.slice Ao24 t386.length co24, .agg #[.int .i64 a0_4, .int .i64 a0_5, .int .i64 a0_6, .int .i64 a0_7]] ?_
 with_reducible refine (antipoderef14_y.calls k _ _ t386 a0_4 a0_5 a0_6 a0_7 t389 _ ?side1 ?side2 A6.out).mono ?_
 (case side1 => exact qC (Kd.R_reads' HO388.out).2.2)
 (case side2 => exact (Kd.R_reads' HO388.out).2.1)
 rintro e w25 ⟨v390, rfl, ho0, hb⟩
 refine ⟨_, rfl, ?_⟩
 have HO391 := Aside0.mk (Kd.R_lower (Kd.R_new' (Kd.R_new' (Kd.R_new' (Kd.R_new' (Kd.R_new' ho0 (Kd.R_lt (qR HO376.out))) (Kd.R_lt (qR HO379.out))) (Kd.R_lt (qR HO382.out))) (Kd.R_lt (qR HO385.out))) (Kd.R_lt (qR HO388.out))) (below_size (qB HB.out)))
 replace HO376 := Aside0.mk (Kd.R_elder' (qR HO376.out) (Kd.R_base ho0) hb)
 replace HO379 := Aside0.mk (Kd.R_elder' (qR HO379.out) (Kd.R_base ho0) hb)
 replace HO382 := Aside0.mk (Kd.R_elder' (qR HO382.out) (Kd.R_base ho0) hb)
 replace HO385 := Aside0.mk (Kd.R_elder' (qR HO385.out) (Kd.R_base ho0) hb)
 replace HO388 := Aside0.mk (Kd.R_elder' (qR HO388.out) (Kd.R_base ho0) hb)
 replace BK373 := Aside0.mk (blk_below (qK BK373.out) hb)
 replace HB := Aside0.mk (below_step (qB HB.out) hb)
 (try clear hb)
 (try clear hb2)
 (try clear hk)
 (try clear hi)
 (try clear ho0)
 obtain ⟨Ao26, co26, eo26⟩ := Kd.R_slice HO391.out
 (first | subst eo26 | (injection eo26 with f1_ f2_ f3_; have f4_ := f1_.symm; have f5_ := f3_.symm; clear f1_ f2_ f3_; subst f4_; subst f5_))
 refine hK.out _ _ (qc14 BK373.out) (fun hHeld => ?_)
 clear hK K
 refine norm_ (a' := ?_) ?_ ?_
 rotate_left
 ·show Act.put _ (some 22) _ = _
  simp only [Act.put, s1, s2, s3, i64_w, i32_w]
  rfl
 refine one_ (i := 6) (N := some 25) #[true, true, true, true, true, true, true, true, true, false, true, true, false, false] rfl rfl (one_of HT_.out (by kernel_rfl)) (by decide) (fun K hK => ?_)
 refine qG Try.func50 #[.slice Ao26 t389.length co26, .agg #[.int .i64 a0_8, .int .i64 a0_9]] ?_
 with_reducible refine (antipoderef14_s.calls k (fun k_ => some k_ = (.slice Ao26 t389.length co26 : Value).ownBlock) (.slice Ao26 t389.length co26) t389 a0_8 a0_9 t392 w _ ?side1 ?side2 A7.out).mono ?_
 (case side1 => exact qB HB.out)
 (case side2 => exact Kd.R_tight rfl HO391.out)
 rintro e w27 ⟨v393, rfl, ho0, hb, hkp⟩
 refine ⟨_, rfl, ?_⟩
 replace BK373 := Aside0.mk (blk_kept (qK BK373.out) hkp (fun hs_ => (fun e_ => (Kd.R_ne HO391.out BK373.out (by decide)) e_) hs_))
 have HO394 := Aside0.mk (Kd.R_mono (ok' := fun k_ => some k_ ≠ (.slice Ao15 y374.length co15 : Value).ownBlock ∧ some k_ ≠ (.slice Ao17 t377.length co17 : Value).ownBlock ∧ some k_ ≠ (.slice Ao19 t380.length co19 : Value).ownBlock ∧ some k_ ≠ (.slice Ao21 t383.length co21 : Value).ownBlock ∧ some k_ ≠ (.slice Ao24 t386.length co24 : Value).ownBlock) ho0 (fun k_ hk_ => ⟨Or.elim hk_ (fun hs_ => fun e_ => (((HO376.out).1 k_ e_.symm).2) hs_) (fun hn_ => (Kd.fresh' (Kd.R_lt (qR HO376.out)) k_ hn_)), Or.elim hk_ (fun hs_ => fun e_ => (((HO379.out).1 k_ e_.symm).2) hs_) (fun hn_ => (Kd.fresh' (Kd.R_lt (qR HO379.out)) k_ hn_)), Or.elim hk_ (fun hs_ => fun e_ => (((HO382.out).1 k_ e_.symm).2) hs_) (fun hn_ => (Kd.fresh' (Kd.R_lt (qR HO382.out)) k_ hn_)), Or.elim hk_ (fun hs_ => fun e_ => (((HO385.out).1 k_ e_.symm).2) hs_) (fun hn_ => (Kd.fresh' (Kd.R_lt (qR HO385.out)) k_ hn_)), Or.elim hk_ (fun hs_ => fun e_ => (((HO388.out).1 k_ e_.symm).2) hs_) (fun hn_ => (Kd.fresh' (Kd.R_lt (qR HO388.out)) k_ hn_))⟩))
 replace HO376 := Aside0.mk (Kd.R_mono (ok' := fun k_ => some k_ ≠ (.slice Ao17 t377.length co17 : Value).ownBlock ∧ some k_ ≠ (.slice Ao19 t380.length co19 : Value).ownBlock ∧ some k_ ≠ (.slice Ao21 t383.length co21 : Value).ownBlock ∧ some k_ ≠ (.slice Ao24 t386.length co24 : Value).ownBlock ∧ some k_ ≠ (v393 : Value).ownBlock) (Kd.R_keptB (HO376.out) hkp (fun k_ hk_ hs_ => (hk_.2) hs_)) (fun k_ hk_ => ⟨hk_.1.1.1.1.1.2, hk_.1.1.1.1.2, hk_.1.1.1.2, hk_.1.1.2, fun e_ => Or.elim (ho0.1 k_ e_.symm) (fun hs_ => hk_.2.1 hs_) (fun hn_ => Nat.not_le.2 hk_.2.2 hn_)⟩))
 replace HO379 := Aside0.mk (Kd.R_mono (ok' := fun k_ => some k_ ≠ (.slice Ao15 y374.length co15 : Value).ownBlock ∧ some k_ ≠ (.slice Ao19 t380.length co19 : Value).ownBlock ∧ some k_ ≠ (.slice Ao21 t383.length co21 : Value).ownBlock ∧ some k_ ≠ (.slice Ao24 t386.length co24 : Value).ownBlock ∧ some k_ ≠ (v393 : Value).ownBlock) (Kd.R_keptB (HO379.out) hkp (fun k_ hk_ hs_ => (hk_.2) hs_)) (fun k_ hk_ => ⟨hk_.1.1.1.1.1.2, hk_.1.1.1.1.2, hk_.1.1.1.2, hk_.1.1.2, fun e_ => Or.elim (ho0.1 k_ e_.symm) (fun hs_ => hk_.2.1 hs_) (fun hn_ => Nat.not_le.2 hk_.2.2 hn_)⟩))
 replace HO382 := Aside0.mk (Kd.R_mono (ok' := fun k_ => some k_ ≠ (.slice Ao15 y374.length co15 : Value).ownBlock ∧ some k_ ≠ (.slice Ao17 t377.length co17 : Value).ownBlock ∧ some k_ ≠ (.slice Ao21 t383.length co21 : Value).ownBlock ∧ some k_ ≠ (.slice Ao24 t386.length co24 : Value).ownBlock ∧ some k_ ≠ (v393 : Value).ownBlock) (Kd.R_keptB (HO382.out) hkp (fun k_ hk_ hs_ => (hk_.2) hs_)) (fun k_ hk_ => ⟨hk_.1.1.1.1.1.2, hk_.1.1.1.1.2, hk_.1.1.1.2, hk_.1.1.2, fun e_ => Or.elim (ho0.1 k_ e_.symm) (fun hs_ => hk_.2.1 hs_) (fun hn_ => Nat.not_le.2 hk_.2.2 hn_)⟩))
 replace HO385 := Aside0.mk (Kd.R_mono (ok' := fun k_ => some k_ ≠ (.slice Ao15 y374.length co15 : Value).ownBlock ∧ some k_ ≠ (.slice Ao17 t377.length co17 : Value).ownBlock ∧ some k_ ≠ (.slice Ao19 t380.length co19 : Value).ownBlock ∧ some k_ ≠ (.slice Ao24 t386.length co24 : Value).ownBlock ∧ some k_ ≠ (v393 : Value).ownBlock) (Kd.R_keptB (HO385.out) hkp (fun k_ hk_ hs_ => (hk_.2) hs_)) (fun k_ hk_ => ⟨hk_.1.1.1.1.1.2, hk_.1.1.1.1.2, hk_.1.1.1.2, hk_.1.1.2, fun e_ => Or.elim (ho0.1 k_ e_.symm) (fun hs_ => hk_.2.1 hs_) (fun hn_ => Nat.not_le.2 hk_.2.2 hn_)⟩))
 replace HO388 := Aside0.mk (Kd.R_mono (ok' := fun k_ => some k_ ≠ (.slice Ao15 y374.length co15 : Value).ownBlock ∧ some k_ ≠ (.slice Ao17 t377.length co17 : Value).ownBlock ∧ some k_ ≠ (.slice Ao19 t380.length co19 : Value).ownBlock ∧ some k_ ≠ (.slice Ao21 t383.length co21 : Value).ownBlock ∧ some k_ ≠ (v393 : Value).ownBlock) (Kd.R_keptB (HO388.out) hkp (fun k_ hk_ hs_ => (hk_.2) hs_)) (fun k_ hk_ => ⟨hk_.1.1.1.1.1.2, hk_.1.1.1.1.2, hk_.1.1.1.2, hk_.1.1.2, fun e_ => Or.elim (ho0.1 k_ e_.symm) (fun hs_ => hk_.2.1 hs_) (fun hn_ => Nat.not_le.2 hk_.2.2 hn_)⟩))
 replace HB := Aside0.mk (hb)
 clear HO391
 (try clear hb)
 (try clear hkp)
 (try clear ho0)
 obtain ⟨Ao28, co28, eo28⟩ := Kd.R_slice HO394.out
 (first | subst eo28 | (injection eo28 with f1_ f2_ f3_; have f4_ := f1_.symm; have f5_ := f3_.symm; clear f1_ f2_ f3_; subst f4_; subst f5_))
 refine hK.out _ _ (qc14 BK373.out) (fun hHeld => ?_)
 clear hK K
 refine norm_ (a' := ?_) ?_ ?_
 rotate_left
 ·show Act.put _ (some 25) _ = _
  simp only [Act.put, s1, s2, s3, i64_w, i32_w]
  rfl
 refine one_ (i := 9) (N := some 28) #[true, true, true, true, true, true, true, true, true, true, true, true, false, false] rfl rfl (one_of HT_.out (by kernel_rfl)) (by decide) (fun K hK => ?_)
 refine qG Try.func48 #[.slice Ao28 t392.length co28, .int .i64 a0_10] ?_
 with_reducible refine (antipoderef14_n.calls k _ _ t392 a0_10 t395 _ ?side1 ?side2 A8.out).mono ?_
 (case side1 => exact qC (Kd.R_reads' HO394.out).2.2)
 (case side2 => exact (Kd.R_reads' HO394.out).2.1)
 rintro e w29 ⟨v396, rfl, ho0, hb⟩
 refine ⟨_, rfl, ?_⟩
 have HO397 := Aside0.mk (Kd.R_lower (Kd.R_new' (Kd.R_new' (Kd.R_new' (Kd.R_new' (Kd.R_new' (Kd.R_new' ho0 (Kd.R_lt (qR HO376.out))) (Kd.R_lt (qR HO379.out))) (Kd.R_lt (qR HO382.out))) (Kd.R_lt (qR HO385.out))) (Kd.R_lt (qR HO388.out))) (Kd.R_lt (qR HO394.out))) (below_size (qB HB.out)))
 replace HO376 := Aside0.mk (Kd.R_elder' (qR HO376.out) (Kd.R_base ho0) hb)
 replace HO379 := Aside0.mk (Kd.R_elder' (qR HO379.out) (Kd.R_base ho0) hb)
 replace HO382 := Aside0.mk (Kd.R_elder' (qR HO382.out) (Kd.R_base ho0) hb)
 replace HO385 := Aside0.mk (Kd.R_elder' (qR HO385.out) (Kd.R_base ho0) hb)
 replace HO388 := Aside0.mk (Kd.R_elder' (qR HO388.out) (Kd.R_base ho0) hb)
 replace HO394 := Aside0.mk (Kd.R_elder' (qR HO394.out) (Kd.R_base ho0) hb)
 replace BK373 := Aside0.mk (blk_below (qK BK373.out) hb)
 replace HB := Aside0.mk (below_step (qB HB.out) hb)
 (try clear hb)
 (try clear hb2)
 (try clear hk)
 (try clear hi)
 (try clear ho0)
 obtain ⟨Ao30, co30, eo30⟩ := Kd.R_slice HO397.out
 (first | subst eo30 | (injection eo30 with f1_ f2_ f3_; have f4_ := f1_.symm; have f5_ := f3_.symm; clear f1_ f2_ f3_; subst f4_; subst f5_))
 refine hK.out _ _ (qc14 BK373.out) (fun hHeld => ?_)
 clear hK K
 refine norm_ (a' := ?_) ?_ ?_
 rotate_left
 ·show Act.put _ (some 28) _ = _
  simp only [Act.put, s1, s2, s3, i64_w, i32_w]
  rfl
 refine one_ (i := 12) (N := some 31) #[true, true, true, true, true, true, true, true, true, true, true, true, true, false] rfl rfl (one_of HT_.out (by kernel_rfl)) (by decide) (fun K hK => ?_)
 refine qG Try.func49 #[.slice Ao30 t395.length co30, .bool a0_11] ?_
 with_reducible refine (antipoderef14_f.calls (fun k_ => some k_ = (.slice Ao30 t395.length co30 : Value).ownBlock) (.slice Ao30 t395.length co30) t395 a0_11 t398 w _ ?side1 ?side2 A9.out).mono ?_
 (case side1 => exact qB HB.out)
 (case side2 => exact Kd.R_tight rfl HO397.out)
 rintro e w31 ⟨v399, rfl, ho0, hb, hkp⟩
 refine ⟨_, rfl, ?_⟩
 replace BK373 := Aside0.mk (blk_kept (qK BK373.out) hkp (fun hs_ => (fun e_ => (Kd.R_ne HO397.out BK373.out (by decide)) e_) hs_))
 have HO400 := Aside0.mk (Kd.R_mono (ok' := fun k_ => some k_ ≠ (.slice Ao15 y374.length co15 : Value).ownBlock ∧ some k_ ≠ (.slice Ao17 t377.length co17 : Value).ownBlock ∧ some k_ ≠ (.slice Ao19 t380.length co19 : Value).ownBlock ∧ some k_ ≠ (.slice Ao21 t383.length co21 : Value).ownBlock ∧ some k_ ≠ (.slice Ao24 t386.length co24 : Value).ownBlock ∧ some k_ ≠ (.slice Ao28 t392.length co28 : Value).ownBlock) ho0 (fun k_ hk_ => ⟨Or.elim hk_ (fun hs_ => fun e_ => (((HO376.out).1 k_ e_.symm).2) hs_) (fun hn_ => (Kd.fresh' (Kd.R_lt (qR HO376.out)) k_ hn_)), Or.elim hk_ (fun hs_ => fun e_ => (((HO379.out).1 k_ e_.symm).2) hs_) (fun hn_ => (Kd.fresh' (Kd.R_lt (qR HO379.out)) k_ hn_)), Or.elim hk_ (fun hs_ => fun e_ => (((HO382.out).1 k_ e_.symm).2) hs_) (fun hn_ => (Kd.fresh' (Kd.R_lt (qR HO382.out)) k_ hn_)), Or.elim hk_ (fun hs_ => fun e_ => (((HO385.out).1 k_ e_.symm).2) hs_) (fun hn_ => (Kd.fresh' (Kd.R_lt (qR HO385.out)) k_ hn_)), Or.elim hk_ (fun hs_ => fun e_ => (((HO388.out).1 k_ e_.symm).2) hs_) (fun hn_ => (Kd.fresh' (Kd.R_lt (qR HO388.out)) k_ hn_)), Or.elim hk_ (fun hs_ => fun e_ => (((HO394.out).1 k_ e_.symm).2) hs_) (fun hn_ => (Kd.fresh' (Kd.R_lt (qR HO394.out)) k_ hn_))⟩))
 replace HO376 := Aside0.mk (Kd.R_mono (ok' := fun k_ => some k_ ≠ (.slice Ao17 t377.length co17 : Value).ownBlock ∧ some k_ ≠ (.slice Ao19 t380.length co19 : Value).ownBlock ∧ some k_ ≠ (.slice Ao21 t383.length co21 : Value).ownBlock ∧ some k_ ≠ (.slice Ao24 t386.length co24 : Value).ownBlock ∧ some k_ ≠ (.slice Ao28 t392.length co28 : Value).ownBlock ∧ some k_ ≠ (v399 : Value).ownBlock) (Kd.R_keptB (HO376.out) hkp (fun k_ hk_ hs_ => (hk_.2) hs_)) (fun k_ hk_ => ⟨hk_.1.1.1, hk_.1.1.2.1, hk_.1.1.2.2.1, hk_.1.1.2.2.2.1, hk_.1.1.2.2.2.2, fun e_ => Or.elim (ho0.1 k_ e_.symm) (fun hs_ => hk_.2.1 hs_) (fun hn_ => Nat.not_le.2 hk_.2.2 hn_)⟩))
 replace HO379 := Aside0.mk (Kd.R_mono (ok' := fun k_ => some k_ ≠ (.slice Ao15 y374.length co15 : Value).ownBlock ∧ some k_ ≠ (.slice Ao19 t380.length co19 : Value).ownBlock ∧ some k_ ≠ (.slice Ao21 t383.length co21 : Value).ownBlock ∧ some k_ ≠ (.slice Ao24 t386.length co24 : Value).ownBlock ∧ some k_ ≠ (.slice Ao28 t392.length co28 : Value).ownBlock ∧ some k_ ≠ (v399 : Value).ownBlock) (Kd.R_keptB (HO379.out) hkp (fun k_ hk_ hs_ => (hk_.2) hs_)) (fun k_ hk_ => ⟨hk_.1.1.1, hk_.1.1.2.1, hk_.1.1.2.2.1, hk_.1.1.2.2.2.1, hk_.1.1.2.2.2.2, fun e_ => Or.elim (ho0.1 k_ e_.symm) (fun hs_ => hk_.2.1 hs_) (fun hn_ => Nat.not_le.2 hk_.2.2 hn_)⟩))
 replace HO382 := Aside0.mk (Kd.R_mono (ok' := fun k_ => some k_ ≠ (.slice Ao15 y374.length co15 : Value).ownBlock ∧ some k_ ≠ (.slice Ao17 t377.length co17 : Value).ownBlock ∧ some k_ ≠ (.slice Ao21 t383.length co21 : Value).ownBlock ∧ some k_ ≠ (.slice Ao24 t386.length co24 : Value).ownBlock ∧ some k_ ≠ (.slice Ao28 t392.length co28 : Value).ownBlock ∧ some k_ ≠ (v399 : Value).ownBlock) (Kd.R_keptB (HO382.out) hkp (fun k_ hk_ hs_ => (hk_.2) hs_)) (fun k_ hk_ => ⟨hk_.1.1.1, hk_.1.1.2.1, hk_.1.1.2.2.1, hk_.1.1.2.2.2.1, hk_.1.1.2.2.2.2, fun e_ => Or.elim (ho0.1 k_ e_.symm) (fun hs_ => hk_.2.1 hs_) (fun hn_ => Nat.not_le.2 hk_.2.2 hn_)⟩))
 replace HO385 := Aside0.mk (Kd.R_mono (ok' := fun k_ => some k_ ≠ (.slice Ao15 y374.length co15 : Value).ownBlock ∧ some k_ ≠ (.slice Ao17 t377.length co17 : Value).ownBlock ∧ some k_ ≠ (.slice Ao19 t380.length co19 : Value).ownBlock ∧ some k_ ≠ (.slice Ao24 t386.length co24 : Value).ownBlock ∧ some k_ ≠ (.slice Ao28 t392.length co28 : Value).ownBlock ∧ some k_ ≠ (v399 : Value).ownBlock) (Kd.R_keptB (HO385.out) hkp (fun k_ hk_ hs_ => (hk_.2) hs_)) (fun k_ hk_ => ⟨hk_.1.1.1, hk_.1.1.2.1, hk_.1.1.2.2.1, hk_.1.1.2.2.2.1, hk_.1.1.2.2.2.2, fun e_ => Or.elim (ho0.1 k_ e_.symm) (fun hs_ => hk_.2.1 hs_) (fun hn_ => Nat.not_le.2 hk_.2.2 hn_)⟩))
 replace HO388 := Aside0.mk (Kd.R_mono (ok' := fun k_ => some k_ ≠ (.slice Ao15 y374.length co15 : Value).ownBlock ∧ some k_ ≠ (.slice Ao17 t377.length co17 : Value).ownBlock ∧ some k_ ≠ (.slice Ao19 t380.length co19 : Value).ownBlock ∧ some k_ ≠ (.slice Ao21 t383.length co21 : Value).ownBlock ∧ some k_ ≠ (.slice Ao28 t392.length co28 : Value).ownBlock ∧ some k_ ≠ (v399 : Value).ownBlock) (Kd.R_keptB (HO388.out) hkp (fun k_ hk_ hs_ => (hk_.2) hs_)) (fun k_ hk_ => ⟨hk_.1.1.1, hk_.1.1.2.1, hk_.1.1.2.2.1, hk_.1.1.2.2.2.1, hk_.1.1.2.2.2.2, fun e_ => Or.elim (ho0.1 k_ e_.symm) (fun hs_ => hk_.2.1 hs_) (fun hn_ => Nat.not_le.2 hk_.2.2 hn_)⟩))
 replace HO394 := Aside0.mk (Kd.R_mono (ok' := fun k_ => some k_ ≠ (.slice Ao15 y374.length co15 : Value).ownBlock ∧ some k_ ≠ (.slice Ao17 t377.length co17 : Value).ownBlock ∧ some k_ ≠ (.slice Ao19 t380.length co19 : Value).ownBlock ∧ some k_ ≠ (.slice Ao21 t383.length co21 : Value).ownBlock ∧ some k_ ≠ (.slice Ao24 t386.length co24 : Value).ownBlock ∧ some k_ ≠ (v399 : Value).ownBlock) (Kd.R_keptB (HO394.out) hkp (fun k_ hk_ hs_ => (hk_.2) hs_)) (fun k_ hk_ => ⟨hk_.1.1.1, hk_.1.1.2.1, hk_.1.1.2.2.1, hk_.1.1.2.2.2.1, hk_.1.1.2.2.2.2, fun e_ => Or.elim (ho0.1 k_ e_.symm) (fun hs_ => hk_.2.1 hs_) (fun hn_ => Nat.not_le.2 hk_.2.2 hn_)⟩))
 replace HB := Aside0.mk (hb)
 clear HO397
 (try clear hb)
 (try clear hkp)
 (try clear ho0)
 refine hK.out _ _ (qc14 BK373.out) (fun hHeld => ?_)
 clear hK K
 refine norm_ (a' := ?_) ?_ ?_
 rotate_left
 ·show Act.put _ (some 31) _ = _
  simp only [Act.put, s1, s2, s3, i64_w, i32_w]
  rfl
 refine pure_ (i := 13) (N := some 3) (v := ?_) (a' := ?_) #[true, true, true, true, true, true, true, true, true, true, true, true, true, true] rfl rfl (any_of HT_.out (by kernel_rfl)) (fun _ _ _ h => h) (Or.inl ⟨by rfl, ?_⟩) ?_ ?_
 rotate_left
 ·intro w'
  go_simp
  with_reducible rfl
 rotate_left
 ·simp only [Act.put, s1, s2, s3, i64_w, i32_w]
  rfl
 refine done_ (done_of HT_.out (by kernel_rfl)) ?_
 have hcz32_0 : w31.cell? ⟨gb373, 0, none⟩ = some (.int .i64 a0_0) := (blk_cell BK373.out 0).trans rfl
 have hcz32_1 : w31.cell? ⟨gb373, 1, none⟩ = some (.int .i64 a0_1) := (blk_cell BK373.out 1).trans rfl
 have hcz32_2 : w31.cell? ⟨gb373, 2, none⟩ = some (.int .i64 a0_2) := (blk_cell BK373.out 2).trans rfl
 have hcz32_3 : w31.cell? ⟨gb373, 3, none⟩ = some (.int .i64 a0_3) := (blk_cell BK373.out 3).trans rfl
 have hcz32_4 : w31.cell? ⟨gb373, 4, none⟩ = some (.int .i64 a0_4) := (blk_cell BK373.out 4).trans rfl
 have hcz32_5 : w31.cell? ⟨gb373, 5, none⟩ = some (.int .i64 a0_5) := (blk_cell BK373.out 5).trans rfl
 have hcz32_6 : w31.cell? ⟨gb373, 6, none⟩ = some (.int .i64 a0_6) := (blk_cell BK373.out 6).trans rfl
 have hcz32_7 : w31.cell? ⟨gb373, 7, none⟩ = some (.int .i64 a0_7) := (blk_cell BK373.out 7).trans rfl
 have hcz32_8 : w31.cell? ⟨gb373, 8, none⟩ = some (.int .i64 a0_8) := (blk_cell BK373.out 8).trans rfl
 have hcz32_9 : w31.cell? ⟨gb373, 9, none⟩ = some (.int .i64 a0_9) := (blk_cell BK373.out 9).trans rfl
 have hcz32_10 : w31.cell? ⟨gb373, 10, none⟩ = some (.int .i64 a0_10) := (blk_cell BK373.out 10).trans rfl
 have hcz32_11 : w31.cell? ⟨gb373, 11, none⟩ = some (.bool a0_11) := (blk_cell BK373.out 11).trans rfl
 have hcz32_12 : w31.cell? ⟨gb373, 12, none⟩ = some (.slice A0_12 l0_12.length c0_12) := (blk_cell BK373.out 12).trans rfl
 have hcz32_13 : w31.cell? ⟨gb373, 13, none⟩ = some (.slice A0_13 l0_13.length c0_13) := (blk_cell BK373.out 13).trans rfl
 have hfz32_0 := blk_frozen BK373.out 0
 have hfz32_1 := blk_frozen BK373.out 1
 have hfz32_2 := blk_frozen BK373.out 2
 have hfz32_3 := blk_frozen BK373.out 3
 have hfz32_4 := blk_frozen BK373.out 4
 have hfz32_5 := blk_frozen BK373.out 5
 have hfz32_6 := blk_frozen BK373.out 6
 have hfz32_7 := blk_frozen BK373.out 7
 have hfz32_8 := blk_frozen BK373.out 8
 have hfz32_9 := blk_frozen BK373.out 9
 have hfz32_10 := blk_frozen BK373.out 10
 have hfz32_11 := blk_frozen BK373.out 11
 have hfz32_12 := blk_frozen BK373.out 12
 have hfz32_13 := blk_frozen BK373.out 13
 obtain ⟨Ao33, co33, eo33⟩ := Kd.R_slice HO400.out
 subst eo33
 try go_wp2_with (first | ((with_reducible refine gate_callee (f := 48) rfl ?_); refine qL (some 36) Try.func48 #[.slice Ao33 t398.length co33, .int .i64 (l0_12.length : Int)] ?_; (with_reducible refine (antipoderef14_n.calls k _ _ t398 (l0_12.length : Int) t401 _ ?side1 ?side2 A10.out).mono ?_); (case side1 => exact qC (Kd.R_reads' HO400.out).2.2); (case side2 => exact (Kd.R_reads' HO400.out).2.1); rintro e w34 ⟨v402, rfl, ho0, hb⟩; refine ⟨_, rfl, ?_⟩; have HO403 := Aside0.mk (Kd.R_lower (Kd.R_new' (Kd.R_new' (Kd.R_new' (Kd.R_new' (Kd.R_new' (Kd.R_new' (Kd.R_new' ho0 (Kd.R_lt (qR HO376.out))) (Kd.R_lt (qR HO379.out))) (Kd.R_lt (qR HO382.out))) (Kd.R_lt (qR HO385.out))) (Kd.R_lt (qR HO388.out))) (Kd.R_lt (qR HO394.out))) (Kd.R_lt (qR HO400.out))) (below_size (qB HB.out))); replace HO376 := Aside0.mk (Kd.R_elder' (qR HO376.out) (Kd.R_base ho0) hb); replace HO379 := Aside0.mk (Kd.R_elder' (qR HO379.out) (Kd.R_base ho0) hb); replace HO382 := Aside0.mk (Kd.R_elder' (qR HO382.out) (Kd.R_base ho0) hb); replace HO385 := Aside0.mk (Kd.R_elder' (qR HO385.out) (Kd.R_base ho0) hb); replace HO388 := Aside0.mk (Kd.R_elder' (qR HO388.out) (Kd.R_base ho0) hb); replace HO394 := Aside0.mk (Kd.R_elder' (qR HO394.out) (Kd.R_base ho0) hb); replace HO400 := Aside0.mk (Kd.R_elder' (qR HO400.out) (Kd.R_base ho0) hb); replace BK373 := Aside0.mk (blk_below (qK BK373.out) hb); replace HB := Aside0.mk (below_step (qB HB.out) hb); (try clear hb); (try clear hb2); (try clear hk); (try clear hi); (try clear ho0)))
 go_loopg [3, 4] k (fun kq v3 v4 w' => ∃ (x3_1 : List Int) (x4_1 : Int), v4 = .int .i64 x4_1 ∧ Aside0 (antipoderef14_Cmd.l0 kq x3_1 x4_1 a0_0 a0_1 a0_2 a0_3 a0_4 a0_5 a0_6 a0_7 a0_8 a0_9 a0_10 a0_11 l0_12 l0_13 = some r) ∧ Aside0 (kq ≤ k) ∧ Aside0 (Kd.R (Kd.int .u8) 5 w' w.heap.size (fun _ => True) v3 x3_1) ∧ Aside0 (w'.heap[gb373]? = some (.cells #[.int .i64 a0_0, .int .i64 a0_1, .int .i64 a0_2, .int .i64 a0_3, .int .i64 a0_4, .int .i64 a0_5, .int .i64 a0_6, .int .i64 a0_7, .int .i64 a0_8, .int .i64 a0_9, .int .i64 a0_10, .bool a0_11, (.slice A0_12 l0_12.length c0_12), (.slice A0_13 l0_13.length c0_13)] 29 (0, 0))) ∧ Aside0 (Below w.heap.size w w'))
 case atStart => exact ⟨(t401), (0), (by first | rfl | (simp; done) | (simp [*]; done)), H', ⟨Nat.le_refl _⟩, ⟨by (with_reducible repeat (first | apply Kd.R_alloc | apply Kd.R_drewN | apply Kd.R_drew)); exact Kd.R_mono HO403.out (fun _ hk => trivial)⟩, ⟨qK BK373.out⟩, ⟨qB HB.out⟩⟩
 case round =>
  clear H'
  try clear c1
  try clear p2
  try clear c4
  try clear c5
  try clear c17
  try clear hcz32_0
  try clear hcz32_1
  try clear hcz32_10
  try clear hcz32_11
  try clear hcz32_12
  try clear hcz32_13
  try clear hcz32_2
  try clear hcz32_3
  try clear hcz32_4
  try clear hcz32_5
  try clear hcz32_6
  try clear hcz32_7
  try clear hcz32_8
  try clear hcz32_9
  try clear hfz32_0
  try clear hfz32_1
  try clear hfz32_10
  try clear hfz32_11
  try clear hfz32_12
  try clear hfz32_13
  try clear hfz32_2
  try clear hfz32_3
  try clear hfz32_4
  try clear hfz32_5
  try clear hfz32_6
  try clear hfz32_7
  try clear hfz32_8
  try clear hfz32_9
  obtain ⟨x3_1, x4_1, rfl, HA, HK1, HO_3, BK373, HB⟩ := hrel
  cases gk with
  | zero => exact absurd HA.out (by simp [antipoderef14_Cmd.l0])
  | succ k1 =>
   have H := HA.out
   clear HA
   simp only [antipoderef14_Cmd.l0] at H
   by_cases c35 : x4_1 < (l0_12.length : Int)
   ·rw [if_pos c35] at H
    have c35b0 : decide (x4_1 < (l0_12.length : Int)) = true := decide_eq_true c35
    clear c35
    by_cases c36 : 0 ≤ x4_1
    ·rw [if_pos c36] at H
     have c36b0 : decide (0 ≤ x4_1) = true := decide_eq_true c36
     clear c36
     replace H := Option.bind_eq_some_iff.mp H
     obtain ⟨t405, A370, H⟩ := H
     replace H : ((antipoderef14_t.f k1 t405 ((rd_T65 l0_12 x4_1).f1)).bind fun t409 => (antipoderef14_Cmd.l0 k1 t409 (wrap64 (x4_1 + 1)) a0_0 a0_1 a0_2 a0_3 a0_4 a0_5 a0_6 a0_7 a0_8 a0_9 a0_10 a0_11 l0_12 l0_13)) = some r := H
     have A37 := Aside0.mk A370
     clear A370
     replace H := Option.bind_eq_some_iff.mp H
     obtain ⟨t409, A380, H⟩ := H
     replace H : (antipoderef14_Cmd.l0 k1 t409 (wrap64 (x4_1 + 1)) a0_0 a0_1 a0_2 a0_3 a0_4 a0_5 a0_6 a0_7 a0_8 a0_9 a0_10 a0_11 l0_12 l0_13) = some r := H
     have A38 := Aside0.mk A380
     clear A380
     have H' := Aside0.mk H
     clear H
     have hcz39_0 : wr.cell? ⟨gb373, 0, none⟩ = some (.int .i64 a0_0) := (blk_cell BK373.out 0).trans rfl
     have hcz39_1 : wr.cell? ⟨gb373, 1, none⟩ = some (.int .i64 a0_1) := (blk_cell BK373.out 1).trans rfl
     have hcz39_2 : wr.cell? ⟨gb373, 2, none⟩ = some (.int .i64 a0_2) := (blk_cell BK373.out 2).trans rfl
     have hcz39_3 : wr.cell? ⟨gb373, 3, none⟩ = some (.int .i64 a0_3) := (blk_cell BK373.out 3).trans rfl
     have hcz39_4 : wr.cell? ⟨gb373, 4, none⟩ = some (.int .i64 a0_4) := (blk_cell BK373.out 4).trans rfl
     have hcz39_5 : wr.cell? ⟨gb373, 5, none⟩ = some (.int .i64 a0_5) := (blk_cell BK373.out 5).trans rfl
     have hcz39_6 : wr.cell? ⟨gb373, 6, none⟩ = some (.int .i64 a0_6) := (blk_cell BK373.out 6).trans rfl
     have hcz39_7 : wr.cell? ⟨gb373, 7, none⟩ = some (.int .i64 a0_7) := (blk_cell BK373.out 7).trans rfl
     have hcz39_8 : wr.cell? ⟨gb373, 8, none⟩ = some (.int .i64 a0_8) := (blk_cell BK373.out 8).trans rfl
     have hcz39_9 : wr.cell? ⟨gb373, 9, none⟩ = some (.int .i64 a0_9) := (blk_cell BK373.out 9).trans rfl
     have hcz39_10 : wr.cell? ⟨gb373, 10, none⟩ = some (.int .i64 a0_10) := (blk_cell BK373.out 10).trans rfl
     have hcz39_11 : wr.cell? ⟨gb373, 11, none⟩ = some (.bool a0_11) := (blk_cell BK373.out 11).trans rfl
     have hcz39_12 : wr.cell? ⟨gb373, 12, none⟩ = some (.slice A0_12 l0_12.length c0_12) := (blk_cell BK373.out 12).trans rfl
     have hcz39_13 : wr.cell? ⟨gb373, 13, none⟩ = some (.slice A0_13 l0_13.length c0_13) := (blk_cell BK373.out 13).trans rfl
     have hfz39_0 := blk_frozen BK373.out 0
     have hfz39_1 := blk_frozen BK373.out 1
     have hfz39_2 := blk_frozen BK373.out 2
     have hfz39_3 := blk_frozen BK373.out 3
     have hfz39_4 := blk_frozen BK373.out 4
     have hfz39_5 := blk_frozen BK373.out 5
     have hfz39_6 := blk_frozen BK373.out 6
     have hfz39_7 := blk_frozen BK373.out 7
     have hfz39_8 := blk_frozen BK373.out 8
     have hfz39_9 := blk_frozen BK373.out 9
     have hfz39_10 := blk_frozen BK373.out 10
     have hfz39_11 := blk_frozen BK373.out 11
     have hfz39_12 := blk_frozen BK373.out 12
     have hfz39_13 := blk_frozen BK373.out 13
     try go_wp2
     replace HO_3 := Aside0.mk (Kd.R_drew HO_3.out)
     replace BK373 := Aside0.mk (blk_drew BK373.out)
     replace HB := Aside0.mk (below_drew1 HB.out)
     have p404 : 0 ≤ (x4_1 : Int) := of_decide_eq_true (by first | (with_reducible assumption) | assumption)
     have q404 : x4_1 < (l0_12.length : Int) := of_decide_eq_true (by first | (with_reducible assumption) | assumption)
     obtain ⟨ad404, e404, hx404_0, hx404_1⟩ := at_T65 HR0_12.out x4_1 p404 q404
     have hw404_1 := hx404_1
     have hw404_0 := hx404_0
     cases e404
     replace hx404_0 := (HB.out.cell (World.block_lt_of_cell? w _ hx404_0)).trans hx404_0
     replace hx404_1 := (HB.out.cell (World.block_lt_of_cell? w _ hx404_1)).trans hx404_1
     replace p404 := eq_true p404
     replace q404 := eq_true q404
     have p408 : 0 ≤ (x4_1 : Int) := of_decide_eq_true (by first | (with_reducible assumption) | assumption)
     have q408 : x4_1 < (l0_12.length : Int) := of_decide_eq_true (by first | (with_reducible assumption) | assumption)
     obtain ⟨ad408, e408, hx408_0, hx408_1⟩ := at_T65 HR0_12.out x4_1 p408 q408
     have hw408_1 := hx408_1
     have hw408_0 := hx408_0
     obtain rfl : ad404 = ad408 := (by injection e408)
     replace hx408_0 := (HB.out.cell (World.block_lt_of_cell? w _ hx408_0)).trans hx408_0
     replace hx408_1 := (HB.out.cell (World.block_lt_of_cell? w _ hx408_1)).trans hx408_1
     replace p408 := eq_true p408
     replace q408 := eq_true q408
     obtain ⟨Ao41, co41, eo41⟩ := Kd.R_slice HO_3.out
     (first | subst eo41 | (injection eo41 with f1_ f2_ f3_; have f4_ := f1_.symm; have f5_ := f3_.symm; clear f1_ f2_ f3_; subst f4_; subst f5_))
     refine start_ (n := 16) (S := fun w' => w'.cell? ⟨gb373, 0, none⟩ = some (.int .i64 a0_0) ∧ w'.cell? ⟨gb373, 1, none⟩ = some (.int .i64 a0_1) ∧ w'.cell? ⟨gb373, 2, none⟩ = some (.int .i64 a0_2) ∧ w'.cell? ⟨gb373, 3, none⟩ = some (.int .i64 a0_3) ∧ w'.cell? ⟨gb373, 4, none⟩ = some (.int .i64 a0_4) ∧ w'.cell? ⟨gb373, 5, none⟩ = some (.int .i64 a0_5) ∧ w'.cell? ⟨gb373, 6, none⟩ = some (.int .i64 a0_6) ∧ w'.cell? ⟨gb373, 7, none⟩ = some (.int .i64 a0_7) ∧ w'.cell? ⟨gb373, 8, none⟩ = some (.int .i64 a0_8) ∧ w'.cell? ⟨gb373, 9, none⟩ = some (.int .i64 a0_9) ∧ w'.cell? ⟨gb373, 10, none⟩ = some (.int .i64 a0_10) ∧ w'.cell? ⟨gb373, 11, none⟩ = some (.bool a0_11) ∧ w'.cell? ⟨gb373, 12, none⟩ = some (.slice (some ad404) l0_12.length c0_12) ∧ w'.cell? ⟨gb373, 13, none⟩ = some (.slice A0_13 l0_13.length c0_13) ∧ w'.cell? (ad404.add ((x4_1).toNat * 2)) = some (.string ((rd_T65 l0_12 x4_1).f0)) ∧ w'.cell? ⟨(ad404.add ((x4_1).toNat * 2)).block, (ad404.add ((x4_1).toNat * 2)).off + 1, none⟩ = some (.string ((rd_T65 l0_12 x4_1).f1)) ∧ w'.cell? (ad404.add ((x4_1).toNat * 2)) = some (.string ((rd_T65 l0_12 x4_1).f0)) ∧ w'.cell? ⟨(ad404.add ((x4_1).toNat * 2)).block, (ad404.add ((x4_1).toNat * 2)).off + 1, none⟩ = some (.string ((rd_T65 l0_12 x4_1).f1))) (ds := []) #[false, false, false, false, false, false, false, false, false, false, false, false, false, false, false, false] (by kernel_rfl) rfl rfl (qa14 BK373.out ⟨((HB.out.cell (World.block_lt_of_cell? w _ hw404_0)).trans hw404_0), ((HB.out.cell (World.block_lt_of_cell? w _ hw404_1)).trans hw404_1), ((HB.out.cell (World.block_lt_of_cell? w _ hw408_0)).trans hw408_0), ((HB.out.cell (World.block_lt_of_cell? w _ hw408_1)).trans hw408_1)⟩) (fun hHeld => ?_); refine with_tabW antipoderef14_Cmd.tab7 antipoderef14_Cmd.bits7 (fun HT_ HW_ => ?_)
     generalize wr.drew = w40 at HO_3 BK373 HB hx404_0 hx404_1 hx408_0 hx408_1 hHeld ⊢
     refine pure_ (i := 0) (N := some 44) (v := ?_) (a' := ?_) #[true, false, false, false, false, false, false, false, false, false, false, false, false, false, false, false] rfl rfl (any_of HT_.out (by kernel_rfl)) (fun _ _ _ h => h) (Or.inl ⟨by rfl, ?_⟩) ?_ ?_
     rotate_left
     ·intro w'
      go_simp
      with_reducible rfl
     rotate_left
     ·simp only [Act.put, s1, s2, s3, i64_w, i32_w]
      rfl
     refine pure_ (i := 1) (N := some 45) (v := ?_) (a' := ?_) #[true, true, false, false, false, false, false, false, false, false, false, false, false, false, false, false] rfl rfl (any_of HT_.out (by kernel_rfl)) (fun _ _ _ h => h) (Or.inl ⟨by rfl, ?_⟩) ?_ ?_
     rotate_left
     ·intro w'
      go_simp
      with_reducible rfl
     rotate_left
     ·simp only [Act.put, s1, s2, s3, i64_w, i32_w]
      rfl
     refine pure_ (i := 3) (N := some 47) (v := ?_) (a' := ?_) #[true, true, false, true, false, false, false, false, false, false, false, false, false, false, false, false] rfl rfl (any_of HT_.out (by kernel_rfl)) (fun _ _ _ h => h) (Or.inl ⟨by rfl, ?_⟩) ?_ ?_
     rotate_left
     ·intro w'
      go_simp
      with_reducible rfl
     rotate_left
     ·simp only [Act.put, s1, s2, s3, i64_w, i32_w]
      rfl
     refine pure_ (i := 8) (N := some 52) (v := ?_) (a' := ?_) #[true, true, false, true, false, false, false, false, true, false, false, false, false, false, false, false] rfl rfl (any_of HT_.out (by kernel_rfl)) (fun _ _ _ h => h) (Or.inl ⟨by rfl, ?_⟩) ?_ ?_
     rotate_left
     ·intro w'
      go_simp
      with_reducible rfl
     rotate_left
     ·simp only [Act.put, s1, s2, s3, i64_w, i32_w]
      rfl
     refine pure_ (i := 10) (N := some 54) (v := ?_) (a' := ?_) #[true, true, false, true, false, false, false, false, true, false, true, false, false, false, false, false] rfl rfl (any_of HT_.out (by kernel_rfl)) (fun _ _ _ h => h) (Or.inl ⟨by rfl, ?_⟩) ?_ ?_
     rotate_left
     ·intro w'
      go_simp
      with_reducible rfl
     rotate_left
     ·simp only [Act.put, s1, s2, s3, i64_w, i32_w]
      rfl
     refine take_ (i := 2) (N := some 46) (v := ?_) (a' := ?_) #[true, true, true, true, false, false, false, false, true, false, true, false, false, false, false, false] rfl rfl (take_ofW HT_.out HW_.out (by kernel_rfl)) (fun _ _ _ h => h) (Or.inl ⟨by rfl, ?_⟩) hHeld ?_ ?_
     rotate_left
     ·rintro w' ⟨s0, s1, s2, s3, s4, s5, s6, s7, s8, s9, s10, s11, s12, s13, s14, s15, s16, s17⟩
      go_simp
      with_reducible rfl
     rotate_left
     ·simp only [Act.put, s1, s2, s3, i64_w, i32_w]
      rfl
     refine pure_ (i := 4) (N := some 48) (v := ?_) (a' := ?_) #[true, true, true, true, true, false, false, false, true, false, true, false, false, false, false, false] rfl rfl (any_of HT_.out (by kernel_rfl)) (fun _ _ _ h => h) (Or.inl ⟨by rfl, ?_⟩) ?_ ?_
     rotate_left
     ·intro w'
      go_simp
      with_reducible rfl
     rotate_left
     ·simp only [Act.put, s1, s2, s3, i64_w, i32_w]
      rfl
     refine pure_ (i := 5) (N := some 49) (v := ?_) (a' := ?_) #[true, true, true, true, true, true, false, false, true, false, true, false, false, false, false, false] rfl rfl (any_of HT_.out (by kernel_rfl)) (fun _ _ _ h => h) (Or.inl ⟨by rfl, ?_⟩) ?_ ?_
     rotate_left
     ·intro w'
      go_simp
      with_reducible rfl
     rotate_left
     ·simp only [Act.put, s1, s2, s3, i64_w, i32_w]
      rfl
     refine take_ (i := 6) (N := some 50) (v := ?_) (a' := ?_) #[true, true, true, true, true, true, true, false, true, false, true, false, false, false, false, false] rfl rfl (take_ofW HT_.out HW_.out (by kernel_rfl)) (fun _ _ _ h => h) (Or.inl ⟨by rfl, ?_⟩) hHeld ?_ ?_
     rotate_left
     ·rintro w' ⟨s0, s1, s2, s3, s4, s5, s6, s7, s8, s9, s10, s11, s12, s13, s14, s15, s16, s17⟩
      go_simp
      with_reducible rfl
     rotate_left
     ·simp only [Act.put, s1, s2, s3, i64_w, i32_w]
      rfl
     refine take_ (i := 9) (N := some 53) (v := ?_) (a' := ?_) #[true, true, true, true, true, true, true, false, true, true, true, false, false, false, false, false] rfl rfl (take_ofW HT_.out HW_.out (by kernel_rfl)) (fun _ _ _ h => h) (Or.inl ⟨by rfl, ?_⟩) hHeld ?_ ?_
     rotate_left
     ·rintro w' ⟨s0, s1, s2, s3, s4, s5, s6, s7, s8, s9, s10, s11, s12, s13, s14, s15, s16, s17⟩
      go_simp
      with_reducible rfl
     rotate_left
     ·simp only [Act.put, s1, s2, s3, i64_w, i32_w]
      rfl
     refine pure_ (i := 11) (N := some 55) (v := ?_) (a' := ?_) #[true, true, true, true, true, true, true, false, true, true, true, true, false, false, false, false] rfl rfl (any_of HT_.out (by kernel_rfl)) (fun _ _ _ h => h) (Or.inl ⟨by rfl, ?_⟩) ?_ ?_
     rotate_left
     ·intro w'
      go_simp
      with_reducible rfl
     rotate_left
     ·simp only [Act.put, s1, s2, s3, i64_w, i32_w]
      rfl
     refine pure_ (i := 12) (N := some 56) (v := ?_) (a' := ?_) #[true, true, true, true, true, true, true, false, true, true, true, true, true, false, false, false] rfl rfl (any_of HT_.out (by kernel_rfl)) (fun _ _ _ h => h) (Or.inl ⟨by rfl, ?_⟩) ?_ ?_
     rotate_left
     ·intro w'
      go_simp
      with_reducible rfl
     rotate_left
     ·simp only [Act.put, s1, s2, s3, i64_w, i32_w]
      rfl
     refine take_ (i := 13) (N := some 57) (v := ?_) (a' := ?_) #[true, true, true, true, true, true, true, false, true, true, true, true, true, true, false, false] rfl rfl (take_ofW HT_.out HW_.out (by kernel_rfl)) (fun _ _ _ h => h) (Or.inl ⟨by rfl, ?_⟩) hHeld ?_ ?_
     rotate_left
     ·rintro w' ⟨s0, s1, s2, s3, s4, s5, s6, s7, s8, s9, s10, s11, s12, s13, s14, s15, s16, s17⟩
      go_simp
      with_reducible rfl
     rotate_left
     ·simp only [Act.put, s1, s2, s3, i64_w, i32_w]
      rfl
     refine one_ (i := 7) (N := some 51) #[true, true, true, true, true, true, true, true, true, true, true, true, true, true, false, false] rfl rfl (one_of HT_.out (by kernel_rfl)) (by decide) (fun K hK => ?_)
     refine qG Try.func52 #[.slice Ao41 x3_1.length co41, .string ((rd_T65 l0_12 x4_1).f0)] ?_
     with_reducible refine (antipoderef14_t.calls k1 _ _ x3_1 ((rd_T65 l0_12 x4_1).f0) t405 _ ?side1 ?side2 A37.out).mono ?_
     (case side1 => exact qC (Kd.R_reads' HO_3.out).2.2)
     (case side2 => exact (Kd.R_reads' HO_3.out).2.1)
     rintro e w42 ⟨v406, rfl, ho0, hb⟩
     refine ⟨_, rfl, ?_⟩
     have HO407 := Aside0.mk (Kd.R_lower (Kd.R_new' ho0 (Kd.R_lt (qR HO_3.out))) (below_size (qB HB.out)))
     replace HO_3 := Aside0.mk (Kd.R_elder' (qR HO_3.out) (Kd.R_base ho0) hb)
     replace BK373 := Aside0.mk (blk_below (qK BK373.out) hb)
     replace HB := Aside0.mk (below_step (qB HB.out) hb)
     (try clear hb)
     (try clear hb2)
     (try clear hk)
     (try clear hi)
     (try clear ho0)
     obtain ⟨Ao43, co43, eo43⟩ := Kd.R_slice HO407.out
     (first | subst eo43 | (injection eo43 with f1_ f2_ f3_; have f4_ := f1_.symm; have f5_ := f3_.symm; clear f1_ f2_ f3_; subst f4_; subst f5_))
     refine hK.out _ _ (qa14 BK373.out ⟨((HB.out.cell (World.block_lt_of_cell? w _ hw404_0)).trans hw404_0), ((HB.out.cell (World.block_lt_of_cell? w _ hw404_1)).trans hw404_1), ((HB.out.cell (World.block_lt_of_cell? w _ hw408_0)).trans hw408_0), ((HB.out.cell (World.block_lt_of_cell? w _ hw408_1)).trans hw408_1)⟩) (fun hHeld => ?_)
     clear hK K
     refine norm_ (a' := ?_) ?_ ?_
     rotate_left
     ·show Act.put _ (some 51) _ = _
      simp only [Act.put, s1, s2, s3, i64_w, i32_w]
      rfl
     refine one_ (i := 14) (N := some 58) #[true, true, true, true, true, true, true, true, true, true, true, true, true, true, true, false] rfl rfl (one_of HT_.out (by kernel_rfl)) (by decide) (fun K hK => ?_)
     refine qG Try.func52 #[.slice Ao43 t405.length co43, .string ((rd_T65 l0_12 x4_1).f1)] ?_
     with_reducible refine (antipoderef14_t.calls k1 _ _ t405 ((rd_T65 l0_12 x4_1).f1) t409 _ ?side1 ?side2 A38.out).mono ?_
     (case side1 => exact qC (Kd.R_reads' HO407.out).2.2)
     (case side2 => exact (Kd.R_reads' HO407.out).2.1)
     rintro e w44 ⟨v410, rfl, ho0, hb⟩
     refine ⟨_, rfl, ?_⟩
     have HO411 := Aside0.mk (Kd.R_lower (Kd.R_new' (Kd.R_new' ho0 (Kd.R_lt (qR HO_3.out))) (Kd.R_lt (qR HO407.out))) (below_size (qB HB.out)))
     replace HO_3 := Aside0.mk (Kd.R_elder' (qR HO_3.out) (Kd.R_base ho0) hb)
     replace HO407 := Aside0.mk (Kd.R_elder' (qR HO407.out) (Kd.R_base ho0) hb)
     replace BK373 := Aside0.mk (blk_below (qK BK373.out) hb)
     replace HB := Aside0.mk (below_step (qB HB.out) hb)
     (try clear hb)
     (try clear hb2)
     (try clear hk)
     (try clear hi)
     (try clear ho0)
     refine hK.out _ _ (qa14 BK373.out ⟨((HB.out.cell (World.block_lt_of_cell? w _ hw404_0)).trans hw404_0), ((HB.out.cell (World.block_lt_of_cell? w _ hw404_1)).trans hw404_1), ((HB.out.cell (World.block_lt_of_cell? w _ hw408_0)).trans hw408_0), ((HB.out.cell (World.block_lt_of_cell? w _ hw408_1)).trans hw408_1)⟩) (fun hHeld => ?_)
     clear hK K
     refine norm_ (a' := ?_) ?_ ?_
     rotate_left
     ·show Act.put _ (some 58) _ = _
      simp only [Act.put, s1, s2, s3, i64_w, i32_w]
      rfl
     refine pure_ (i := 15) (N := some 3) (v := ?_) (a' := ?_) #[true, true, true, true, true, true, true, true, true, true, true, true, true, true, true, true] rfl rfl (any_of HT_.out (by kernel_rfl)) (fun _ _ _ h => h) (Or.inl ⟨by rfl, ?_⟩) ?_ ?_
     rotate_left
     ·intro w'
      go_simp
      with_reducible rfl
     rotate_left
     ·simp only [Act.put, s1, s2, s3, i64_w, i32_w]
      rfl
     refine done_ (done_of HT_.out (by kernel_rfl)) ?_
     try go_wp2
     go_roundg k1
     case measure => have := HK1.out; omega
     case rel => exact ⟨(t409), (wrap64 (x4_1 + 1)), (by first | rfl | (simp; done) | (simp [*]; done)), H', ⟨by have := HK1.out; omega⟩, ⟨by (with_reducible repeat (first | apply Kd.R_alloc | apply Kd.R_drewN | apply Kd.R_drew)); exact Kd.R_mono HO411.out (fun _ hk => trivial)⟩, ⟨qK BK373.out⟩, ⟨qB HB.out⟩⟩
    ·rw [if_neg c36] at H
     exact absurd H (by simp)
   ·rw [if_neg c35] at H
    have c35b0 : decide (x4_1 < (l0_12.length : Int)) = false := decide_eq_false c35
    clear c35
    replace H := Option.bind_eq_some_iff.mp H
    obtain ⟨t412, A450, H⟩ := H
    replace H : (antipoderef14_Cmd.l1 k1 t412 0 a0_0 a0_1 a0_2 a0_3 a0_4 a0_5 a0_6 a0_7 a0_8 a0_9 a0_10 a0_11 l0_12 l0_13) = some r := H
    have A45 := Aside0.mk A450
    clear A450
    have H' := Aside0.mk H
    clear H
    have hcz46_0 : wr.cell? ⟨gb373, 0, none⟩ = some (.int .i64 a0_0) := (blk_cell BK373.out 0).trans rfl
    have hcz46_1 : wr.cell? ⟨gb373, 1, none⟩ = some (.int .i64 a0_1) := (blk_cell BK373.out 1).trans rfl
    have hcz46_2 : wr.cell? ⟨gb373, 2, none⟩ = some (.int .i64 a0_2) := (blk_cell BK373.out 2).trans rfl
    have hcz46_3 : wr.cell? ⟨gb373, 3, none⟩ = some (.int .i64 a0_3) := (blk_cell BK373.out 3).trans rfl
    have hcz46_4 : wr.cell? ⟨gb373, 4, none⟩ = some (.int .i64 a0_4) := (blk_cell BK373.out 4).trans rfl
    have hcz46_5 : wr.cell? ⟨gb373, 5, none⟩ = some (.int .i64 a0_5) := (blk_cell BK373.out 5).trans rfl
    have hcz46_6 : wr.cell? ⟨gb373, 6, none⟩ = some (.int .i64 a0_6) := (blk_cell BK373.out 6).trans rfl
    have hcz46_7 : wr.cell? ⟨gb373, 7, none⟩ = some (.int .i64 a0_7) := (blk_cell BK373.out 7).trans rfl
    have hcz46_8 : wr.cell? ⟨gb373, 8, none⟩ = some (.int .i64 a0_8) := (blk_cell BK373.out 8).trans rfl
    have hcz46_9 : wr.cell? ⟨gb373, 9, none⟩ = some (.int .i64 a0_9) := (blk_cell BK373.out 9).trans rfl
    have hcz46_10 : wr.cell? ⟨gb373, 10, none⟩ = some (.int .i64 a0_10) := (blk_cell BK373.out 10).trans rfl
    have hcz46_11 : wr.cell? ⟨gb373, 11, none⟩ = some (.bool a0_11) := (blk_cell BK373.out 11).trans rfl
    have hcz46_12 : wr.cell? ⟨gb373, 12, none⟩ = some (.slice A0_12 l0_12.length c0_12) := (blk_cell BK373.out 12).trans rfl
    have hcz46_13 : wr.cell? ⟨gb373, 13, none⟩ = some (.slice A0_13 l0_13.length c0_13) := (blk_cell BK373.out 13).trans rfl
    have hfz46_0 := blk_frozen BK373.out 0
    have hfz46_1 := blk_frozen BK373.out 1
    have hfz46_2 := blk_frozen BK373.out 2
    have hfz46_3 := blk_frozen BK373.out 3
    have hfz46_4 := blk_frozen BK373.out 4
    have hfz46_5 := blk_frozen BK373.out 5
    have hfz46_6 := blk_frozen BK373.out 6
    have hfz46_7 := blk_frozen BK373.out 7
    have hfz46_8 := blk_frozen BK373.out 8
    have hfz46_9 := blk_frozen BK373.out 9
    have hfz46_10 := blk_frozen BK373.out 10
    have hfz46_11 := blk_frozen BK373.out 11
    have hfz46_12 := blk_frozen BK373.out 12
    have hfz46_13 := blk_frozen BK373.out 13
    obtain ⟨Ao47, co47, eo47⟩ := Kd.R_slice HO_3.out
    subst eo47
    go_wp2_with (first | ((with_reducible refine gate_callee (f := 48) rfl ?_); refine qL (some 63) Try.func48 #[.slice Ao47 x3_1.length co47, .int .i64 (l0_13.length : Int)] ?_; (with_reducible refine (antipoderef14_n.calls k1 _ _ x3_1 (l0_13.length : Int) t412 _ ?side1 ?side2 A45.out).mono ?_); (case side1 => exact qC (Kd.R_reads' HO_3.out).2.2); (case side2 => exact (Kd.R_reads' HO_3.out).2.1); rintro e w48 ⟨v413, rfl, ho0, hb⟩; refine ⟨_, rfl, ?_⟩; have HO414 := Aside0.mk (Kd.R_lower (Kd.R_new' ho0 (Kd.R_lt (qR HO_3.out))) (below_size (qB HB.out))); replace HO_3 := Aside0.mk (Kd.R_elder' (qR HO_3.out) (Kd.R_base ho0) hb); replace BK373 := Aside0.mk (blk_below (qK BK373.out) hb); replace HB := Aside0.mk (below_step (qB HB.out) hb); (try clear hb); (try clear hb2); (try clear hk); (try clear hi); (try clear ho0)))
    go_loopg [3, 5] k1 (fun kq v3 v5 w' => ∃ (x3_2 : List Int) (x5_2 : Int), v5 = .int .i64 x5_2 ∧ Aside0 (antipoderef14_Cmd.l1 kq x3_2 x5_2 a0_0 a0_1 a0_2 a0_3 a0_4 a0_5 a0_6 a0_7 a0_8 a0_9 a0_10 a0_11 l0_12 l0_13 = some r) ∧ Aside0 (kq ≤ k1) ∧ Aside0 (Kd.R (Kd.int .u8) 5 w' w.heap.size (fun _ => True) v3 x3_2) ∧ Aside0 (w'.heap[gb373]? = some (.cells #[.int .i64 a0_0, .int .i64 a0_1, .int .i64 a0_2, .int .i64 a0_3, .int .i64 a0_4, .int .i64 a0_5, .int .i64 a0_6, .int .i64 a0_7, .int .i64 a0_8, .int .i64 a0_9, .int .i64 a0_10, .bool a0_11, (.slice A0_12 l0_12.length c0_12), (.slice A0_13 l0_13.length c0_13)] 29 (0, 0))) ∧ Aside0 (Below w.heap.size w w'))
    case atStart => exact ⟨(t412), (0), (by first | rfl | (simp; done) | (simp [*]; done)), H', ⟨Nat.le_refl _⟩, ⟨by (with_reducible repeat (first | apply Kd.R_alloc | apply Kd.R_drewN | apply Kd.R_drew)); exact Kd.R_mono HO414.out (fun _ hk => trivial)⟩, ⟨qK BK373.out⟩, ⟨qB HB.out⟩⟩
    case round =>
     clear H'
     try clear c1
     try clear p2
     try clear c3
     try clear c4
     try clear p4
     try clear q4
     try clear hx4
     try clear c5
     try clear p6
     try clear c17
     try clear c35
     try clear c35b0
     try clear c36
     try clear c36b0
     try clear p40
     try clear q40
     try clear hx40
     try clear c48
     try clear hcz32_0
     try clear hcz32_1
     try clear hcz32_10
     try clear hcz32_11
     try clear hcz32_12
     try clear hcz32_13
     try clear hcz32_2
     try clear hcz32_3
     try clear hcz32_4
     try clear hcz32_5
     try clear hcz32_6
     try clear hcz32_7
     try clear hcz32_8
     try clear hcz32_9
     try clear hcz39_0
     try clear hcz39_1
     try clear hcz39_10
     try clear hcz39_11
     try clear hcz39_12
     try clear hcz39_13
     try clear hcz39_2
     try clear hcz39_3
     try clear hcz39_4
     try clear hcz39_5
     try clear hcz39_6
     try clear hcz39_7
     try clear hcz39_8
     try clear hcz39_9
     try clear hcz46_0
     try clear hcz46_1
     try clear hcz46_10
     try clear hcz46_11
     try clear hcz46_12
     try clear hcz46_13
     try clear hcz46_2
     try clear hcz46_3
     try clear hcz46_4
     try clear hcz46_5
     try clear hcz46_6
     try clear hcz46_7
     try clear hcz46_8
     try clear hcz46_9
     try clear hfz32_0
     try clear hfz32_1
     try clear hfz32_10
     try clear hfz32_11
     try clear hfz32_12
     try clear hfz32_13
     try clear hfz32_2
     try clear hfz32_3
     try clear hfz32_4
     try clear hfz32_5
     try clear hfz32_6
     try clear hfz32_7
     try clear hfz32_8
     try clear hfz32_9
     try clear hfz39_0
     try clear hfz39_1
     try clear hfz39_10
     try clear hfz39_11
     try clear hfz39_12
     try clear hfz39_13
     try clear hfz39_2
     try clear hfz39_3
     try clear hfz39_4
     try clear hfz39_5
     try clear hfz39_6
     try clear hfz39_7
     try clear hfz39_8
     try clear hfz39_9
     try clear hfz46_0
     try clear hfz46_1
     try clear hfz46_10
     try clear hfz46_11
     try clear hfz46_12
     try clear hfz46_13
     try clear hfz46_2
     try clear hfz46_3
     try clear hfz46_4
     try clear hfz46_5
     try clear hfz46_6
     try clear hfz46_7
     try clear hfz46_8
     try clear hfz46_9
     try clear hx404_0
     try clear hx404_1
     try clear hx408_0
     try clear hx408_1
     try clear p2
     try clear p404
     try clear p408
     try clear q404
     try clear q408
     obtain ⟨x3_2, x5_2, rfl, HA, HK2, HO_3, BK373, HB⟩ := hrel
     cases gk with
     | zero => exact absurd HA.out (by simp [antipoderef14_Cmd.l1])
     | succ k2 =>
      have H := HA.out
      clear HA
      simp only [antipoderef14_Cmd.l1] at H
      by_cases c49 : x5_2 < (l0_13.length : Int)
      ·rw [if_pos c49] at H
       have c49b0 : decide (x5_2 < (l0_13.length : Int)) = true := decide_eq_true c49
       clear c49
       by_cases c50 : 0 ≤ x5_2
       ·rw [if_pos c50] at H
        have c50b0 : decide (0 ≤ x5_2) = true := decide_eq_true c50
        clear c50
        replace H := Option.bind_eq_some_iff.mp H
        obtain ⟨t416, A510, H⟩ := H
        replace H : ((antipoderef14_f.f t416 ((rd_T67 l0_13 x5_2).f1)).bind fun t420 => ((antipoderef14_t.f k2 t420 ((rd_T67 l0_13 x5_2).f2)).bind fun t424 => (antipoderef14_Cmd.l1 k2 t424 (wrap64 (x5_2 + 1)) a0_0 a0_1 a0_2 a0_3 a0_4 a0_5 a0_6 a0_7 a0_8 a0_9 a0_10 a0_11 l0_12 l0_13))) = some r := H
        have A51 := Aside0.mk A510
        clear A510
        replace H := Option.bind_eq_some_iff.mp H
        obtain ⟨t420, A520, H⟩ := H
        replace H : ((antipoderef14_t.f k2 t420 ((rd_T67 l0_13 x5_2).f2)).bind fun t424 => (antipoderef14_Cmd.l1 k2 t424 (wrap64 (x5_2 + 1)) a0_0 a0_1 a0_2 a0_3 a0_4 a0_5 a0_6 a0_7 a0_8 a0_9 a0_10 a0_11 l0_12 l0_13)) = some r := H
        have A52 := Aside0.mk A520
        clear A520
        replace H := Option.bind_eq_some_iff.mp H
        obtain ⟨t424, A530, H⟩ := H
        replace H : (antipoderef14_Cmd.l1 k2 t424 (wrap64 (x5_2 + 1)) a0_0 a0_1 a0_2 a0_3 a0_4 a0_5 a0_6 a0_7 a0_8 a0_9 a0_10 a0_11 l0_12 l0_13) = some r := H
        have A53 := Aside0.mk A530
        clear A530
        have H' := Aside0.mk H
        clear H
        have hcz54_0 : wr.cell? ⟨gb373, 0, none⟩ = some (.int .i64 a0_0) := (blk_cell BK373.out 0).trans rfl
        have hcz54_1 : wr.cell? ⟨gb373, 1, none⟩ = some (.int .i64 a0_1) := (blk_cell BK373.out 1).trans rfl
        have hcz54_2 : wr.cell? ⟨gb373, 2, none⟩ = some (.int .i64 a0_2) := (blk_cell BK373.out 2).trans rfl
        have hcz54_3 : wr.cell? ⟨gb373, 3, none⟩ = some (.int .i64 a0_3) := (blk_cell BK373.out 3).trans rfl
        have hcz54_4 : wr.cell? ⟨gb373, 4, none⟩ = some (.int .i64 a0_4) := (blk_cell BK373.out 4).trans rfl
        have hcz54_5 : wr.cell? ⟨gb373, 5, none⟩ = some (.int .i64 a0_5) := (blk_cell BK373.out 5).trans rfl
        have hcz54_6 : wr.cell? ⟨gb373, 6, none⟩ = some (.int .i64 a0_6) := (blk_cell BK373.out 6).trans rfl
        have hcz54_7 : wr.cell? ⟨gb373, 7, none⟩ = some (.int .i64 a0_7) := (blk_cell BK373.out 7).trans rfl
        have hcz54_8 : wr.cell? ⟨gb373, 8, none⟩ = some (.int .i64 a0_8) := (blk_cell BK373.out 8).trans rfl
        have hcz54_9 : wr.cell? ⟨gb373, 9, none⟩ = some (.int .i64 a0_9) := (blk_cell BK373.out 9).trans rfl
        have hcz54_10 : wr.cell? ⟨gb373, 10, none⟩ = some (.int .i64 a0_10) := (blk_cell BK373.out 10).trans rfl
        have hcz54_11 : wr.cell? ⟨gb373, 11, none⟩ = some (.bool a0_11) := (blk_cell BK373.out 11).trans rfl
        have hcz54_12 : wr.cell? ⟨gb373, 12, none⟩ = some (.slice A0_12 l0_12.length c0_12) := (blk_cell BK373.out 12).trans rfl
        have hcz54_13 : wr.cell? ⟨gb373, 13, none⟩ = some (.slice A0_13 l0_13.length c0_13) := (blk_cell BK373.out 13).trans rfl
        have hfz54_0 := blk_frozen BK373.out 0
        have hfz54_1 := blk_frozen BK373.out 1
        have hfz54_2 := blk_frozen BK373.out 2
        have hfz54_3 := blk_frozen BK373.out 3
        have hfz54_4 := blk_frozen BK373.out 4
        have hfz54_5 := blk_frozen BK373.out 5
        have hfz54_6 := blk_frozen BK373.out 6
        have hfz54_7 := blk_frozen BK373.out 7
        have hfz54_8 := blk_frozen BK373.out 8
        have hfz54_9 := blk_frozen BK373.out 9
        have hfz54_10 := blk_frozen BK373.out 10
        have hfz54_11 := blk_frozen BK373.out 11
        have hfz54_12 := blk_frozen BK373.out 12
        have hfz54_13 := blk_frozen BK373.out 13
        try go_wp2
        replace HO_3 := Aside0.mk (Kd.R_drew HO_3.out)
        replace BK373 := Aside0.mk (blk_drew BK373.out)
        replace HB := Aside0.mk (below_drew1 HB.out)
        have p415 : 0 ≤ (x5_2 : Int) := of_decide_eq_true (by first | (with_reducible assumption) | assumption)
        have q415 : x5_2 < (l0_13.length : Int) := of_decide_eq_true (by first | (with_reducible assumption) | assumption)
        obtain ⟨ad415, e415, hx415_0, hx415_1, hx415_2⟩ := at_T67 HR0_13.out x5_2 p415 q415
        have hw415_2 := hx415_2
        have hw415_1 := hx415_1
        have hw415_0 := hx415_0
        cases e415
        replace hx415_0 := (HB.out.cell (World.block_lt_of_cell? w _ hx415_0)).trans hx415_0
        replace hx415_1 := (HB.out.cell (World.block_lt_of_cell? w _ hx415_1)).trans hx415_1
        replace hx415_2 := (HB.out.cell (World.block_lt_of_cell? w _ hx415_2)).trans hx415_2
        replace p415 := eq_true p415
        replace q415 := eq_true q415
        have p419 : 0 ≤ (x5_2 : Int) := of_decide_eq_true (by first | (with_reducible assumption) | assumption)
        have q419 : x5_2 < (l0_13.length : Int) := of_decide_eq_true (by first | (with_reducible assumption) | assumption)
        obtain ⟨ad419, e419, hx419_0, hx419_1, hx419_2⟩ := at_T67 HR0_13.out x5_2 p419 q419
        have hw419_2 := hx419_2
        have hw419_1 := hx419_1
        have hw419_0 := hx419_0
        obtain rfl : ad415 = ad419 := (by injection e419)
        replace hx419_0 := (HB.out.cell (World.block_lt_of_cell? w _ hx419_0)).trans hx419_0
        replace hx419_1 := (HB.out.cell (World.block_lt_of_cell? w _ hx419_1)).trans hx419_1
        replace hx419_2 := (HB.out.cell (World.block_lt_of_cell? w _ hx419_2)).trans hx419_2
        replace p419 := eq_true p419
        replace q419 := eq_true q419
        have p423 : 0 ≤ (x5_2 : Int) := of_decide_eq_true (by first | (with_reducible assumption) | assumption)
        have q423 : x5_2 < (l0_13.length : Int) := of_decide_eq_true (by first | (with_reducible assumption) | assumption)
        obtain ⟨ad423, e423, hx423_0, hx423_1, hx423_2⟩ := at_T67 HR0_13.out x5_2 p423 q423
        have hw423_2 := hx423_2
        have hw423_1 := hx423_1
        have hw423_0 := hx423_0
        obtain rfl : ad415 = ad423 := (by injection e423)
        replace hx423_0 := (HB.out.cell (World.block_lt_of_cell? w _ hx423_0)).trans hx423_0
        replace hx423_1 := (HB.out.cell (World.block_lt_of_cell? w _ hx423_1)).trans hx423_1
        replace hx423_2 := (HB.out.cell (World.block_lt_of_cell? w _ hx423_2)).trans hx423_2
        replace p423 := eq_true p423
        replace q423 := eq_true q423
        obtain ⟨Ao56, co56, eo56⟩ := Kd.R_slice HO_3.out
        (first | subst eo56 | (injection eo56 with f1_ f2_ f3_; have f4_ := f1_.symm; have f5_ := f3_.symm; clear f1_ f2_ f3_; subst f4_; subst f5_))
        refine start_ (n := 23) (S := fun w' => w'.cell? ⟨gb373, 0, none⟩ = some (.int .i64 a0_0) ∧ w'.cell? ⟨gb373, 1, none⟩ = some (.int .i64 a0_1) ∧ w'.cell? ⟨gb373, 2, none⟩ = some (.int .i64 a0_2) ∧ w'.cell? ⟨gb373, 3, none⟩ = some (.int .i64 a0_3) ∧ w'.cell? ⟨gb373, 4, none⟩ = some (.int .i64 a0_4) ∧ w'.cell? ⟨gb373, 5, none⟩ = some (.int .i64 a0_5) ∧ w'.cell? ⟨gb373, 6, none⟩ = some (.int .i64 a0_6) ∧ w'.cell? ⟨gb373, 7, none⟩ = some (.int .i64 a0_7) ∧ w'.cell? ⟨gb373, 8, none⟩ = some (.int .i64 a0_8) ∧ w'.cell? ⟨gb373, 9, none⟩ = some (.int .i64 a0_9) ∧ w'.cell? ⟨gb373, 10, none⟩ = some (.int .i64 a0_10) ∧ w'.cell? ⟨gb373, 11, none⟩ = some (.bool a0_11) ∧ w'.cell? ⟨gb373, 12, none⟩ = some (.slice A0_12 l0_12.length c0_12) ∧ w'.cell? ⟨gb373, 13, none⟩ = some (.slice (some ad415) l0_13.length c0_13) ∧ w'.cell? (ad415.add ((x5_2).toNat * 3)) = some (.string ((rd_T67 l0_13 x5_2).f0)) ∧ w'.cell? ⟨(ad415.add ((x5_2).toNat * 3)).block, (ad415.add ((x5_2).toNat * 3)).off + 1, none⟩ = some (.bool ((rd_T67 l0_13 x5_2).f1)) ∧ w'.cell? ⟨(ad415.add ((x5_2).toNat * 3)).block, (ad415.add ((x5_2).toNat * 3)).off + 2, none⟩ = some (.string ((rd_T67 l0_13 x5_2).f2)) ∧ w'.cell? (ad415.add ((x5_2).toNat * 3)) = some (.string ((rd_T67 l0_13 x5_2).f0)) ∧ w'.cell? ⟨(ad415.add ((x5_2).toNat * 3)).block, (ad415.add ((x5_2).toNat * 3)).off + 1, none⟩ = some (.bool ((rd_T67 l0_13 x5_2).f1)) ∧ w'.cell? ⟨(ad415.add ((x5_2).toNat * 3)).block, (ad415.add ((x5_2).toNat * 3)).off + 2, none⟩ = some (.string ((rd_T67 l0_13 x5_2).f2)) ∧ w'.cell? (ad415.add ((x5_2).toNat * 3)) = some (.string ((rd_T67 l0_13 x5_2).f0)) ∧ w'.cell? ⟨(ad415.add ((x5_2).toNat * 3)).block, (ad415.add ((x5_2).toNat * 3)).off + 1, none⟩ = some (.bool ((rd_T67 l0_13 x5_2).f1)) ∧ w'.cell? ⟨(ad415.add ((x5_2).toNat * 3)).block, (ad415.add ((x5_2).toNat * 3)).off + 2, none⟩ = some (.string ((rd_T67 l0_13 x5_2).f2))) (ds := []) #[false, false, false, false, false, false, false, false, false, false, false, false, false, false, false, false, false, false, false, false, false, false, false] (by kernel_rfl) rfl rfl (qa14 BK373.out ⟨((HB.out.cell (World.block_lt_of_cell? w _ hw415_0)).trans hw415_0), ((HB.out.cell (World.block_lt_of_cell? w _ hw415_1)).trans hw415_1), ((HB.out.cell (World.block_lt_of_cell? w _ hw415_2)).trans hw415_2), ((HB.out.cell (World.block_lt_of_cell? w _ hw419_0)).trans hw419_0), ((HB.out.cell (World.block_lt_of_cell? w _ hw419_1)).trans hw419_1), ((HB.out.cell (World.block_lt_of_cell? w _ hw419_2)).trans hw419_2), ((HB.out.cell (World.block_lt_of_cell? w _ hw423_0)).trans hw423_0), ((HB.out.cell (World.block_lt_of_cell? w _ hw423_1)).trans hw423_1), ((HB.out.cell (World.block_lt_of_cell? w _ hw423_2)).trans hw423_2)⟩) (fun hHeld => ?_); refine with_tabW antipoderef14_Cmd.tab12 antipoderef14_Cmd.bits12 (fun HT_ HW_ => ?_)
        generalize wr.drew = w55 at HO_3 BK373 HB hx415_0 hx415_1 hx415_2 hx419_0 hx419_1 hx419_2 hx423_0 hx423_1 hx423_2 hHeld ⊢
        refine pure_ (i := 0) (N := some 71) (v := ?_) (a' := ?_) #[true, false, false, false, false, false, false, false, false, false, false, false, false, false, false, false, false, false, false, false, false, false, false] rfl rfl (any_of HT_.out (by kernel_rfl)) (fun _ _ _ h => h) (Or.inl ⟨by rfl, ?_⟩) ?_ ?_
        rotate_left
        ·intro w'
         go_simp
         with_reducible rfl
        rotate_left
        ·simp only [Act.put, s1, s2, s3, i64_w, i32_w]
         rfl
        refine pure_ (i := 1) (N := some 72) (v := ?_) (a' := ?_) #[true, true, false, false, false, false, false, false, false, false, false, false, false, false, false, false, false, false, false, false, false, false, false] rfl rfl (any_of HT_.out (by kernel_rfl)) (fun _ _ _ h => h) (Or.inl ⟨by rfl, ?_⟩) ?_ ?_
        rotate_left
        ·intro w'
         go_simp
         with_reducible rfl
        rotate_left
        ·simp only [Act.put, s1, s2, s3, i64_w, i32_w]
         rfl
        refine pure_ (i := 3) (N := some 74) (v := ?_) (a' := ?_) #[true, true, false, true, false, false, false, false, false, false, false, false, false, false, false, false, false, false, false, false, false, false, false] rfl rfl (any_of HT_.out (by kernel_rfl)) (fun _ _ _ h => h) (Or.inl ⟨by rfl, ?_⟩) ?_ ?_
        rotate_left
        ·intro w'
         go_simp
         with_reducible rfl
        rotate_left
        ·simp only [Act.put, s1, s2, s3, i64_w, i32_w]
         rfl
        refine pure_ (i := 8) (N := some 79) (v := ?_) (a' := ?_) #[true, true, false, true, false, false, false, false, true, false, false, false, false, false, false, false, false, false, false, false, false, false, false] rfl rfl (any_of HT_.out (by kernel_rfl)) (fun _ _ _ h => h) (Or.inl ⟨by rfl, ?_⟩) ?_ ?_
        rotate_left
        ·intro w'
         go_simp
         with_reducible rfl
        rotate_left
        ·simp only [Act.put, s1, s2, s3, i64_w, i32_w]
         rfl
        refine pure_ (i := 10) (N := some 81) (v := ?_) (a' := ?_) #[true, true, false, true, false, false, false, false, true, false, true, false, false, false, false, false, false, false, false, false, false, false, false] rfl rfl (any_of HT_.out (by kernel_rfl)) (fun _ _ _ h => h) (Or.inl ⟨by rfl, ?_⟩) ?_ ?_
        rotate_left
        ·intro w'
         go_simp
         with_reducible rfl
        rotate_left
        ·simp only [Act.put, s1, s2, s3, i64_w, i32_w]
         rfl
        refine pure_ (i := 15) (N := some 86) (v := ?_) (a' := ?_) #[true, true, false, true, false, false, false, false, true, false, true, false, false, false, false, true, false, false, false, false, false, false, false] rfl rfl (any_of HT_.out (by kernel_rfl)) (fun _ _ _ h => h) (Or.inl ⟨by rfl, ?_⟩) ?_ ?_
        rotate_left
        ·intro w'
         go_simp
         with_reducible rfl
        rotate_left
        ·simp only [Act.put, s1, s2, s3, i64_w, i32_w]
         rfl
        refine pure_ (i := 17) (N := some 88) (v := ?_) (a' := ?_) #[true, true, false, true, false, false, false, false, true, false, true, false, false, false, false, true, false, true, false, false, false, false, false] rfl rfl (any_of HT_.out (by kernel_rfl)) (fun _ _ _ h => h) (Or.inl ⟨by rfl, ?_⟩) ?_ ?_
        rotate_left
        ·intro w'
         go_simp
         with_reducible rfl
        rotate_left
        ·simp only [Act.put, s1, s2, s3, i64_w, i32_w]
         rfl
        refine take_ (i := 2) (N := some 73) (v := ?_) (a' := ?_) #[true, true, true, true, false, false, false, false, true, false, true, false, false, false, false, true, false, true, false, false, false, false, false] rfl rfl (take_ofW HT_.out HW_.out (by kernel_rfl)) (fun _ _ _ h => h) (Or.inl ⟨by rfl, ?_⟩) hHeld ?_ ?_
        rotate_left
        ·rintro w' ⟨s0, s1, s2, s3, s4, s5, s6, s7, s8, s9, s10, s11, s12, s13, s14, s15, s16, s17, s18, s19, s20, s21, s22⟩
         go_simp
         with_reducible rfl
        rotate_left
        ·simp only [Act.put, s1, s2, s3, i64_w, i32_w]
         rfl
        refine pure_ (i := 4) (N := some 75) (v := ?_) (a' := ?_) #[true, true, true, true, true, false, false, false, true, false, true, false, false, false, false, true, false, true, false, false, false, false, false] rfl rfl (any_of HT_.out (by kernel_rfl)) (fun _ _ _ h => h) (Or.inl ⟨by rfl, ?_⟩) ?_ ?_
        rotate_left
        ·intro w'
         go_simp
         with_reducible rfl
        rotate_left
        ·simp only [Act.put, s1, s2, s3, i64_w, i32_w]
         rfl
        refine pure_ (i := 5) (N := some 76) (v := ?_) (a' := ?_) #[true, true, true, true, true, true, false, false, true, false, true, false, false, false, false, true, false, true, false, false, false, false, false] rfl rfl (any_of HT_.out (by kernel_rfl)) (fun _ _ _ h => h) (Or.inl ⟨by rfl, ?_⟩) ?_ ?_
        rotate_left
        ·intro w'
         go_simp
         with_reducible rfl
        rotate_left
        ·simp only [Act.put, s1, s2, s3, i64_w, i32_w]
         rfl
        refine take_ (i := 6) (N := some 77) (v := ?_) (a' := ?_) #[true, true, true, true, true, true, true, false, true, false, true, false, false, false, false, true, false, true, false, false, false, false, false] rfl rfl (take_ofW HT_.out HW_.out (by kernel_rfl)) (fun _ _ _ h => h) (Or.inl ⟨by rfl, ?_⟩) hHeld ?_ ?_
        rotate_left
        ·rintro w' ⟨s0, s1, s2, s3, s4, s5, s6, s7, s8, s9, s10, s11, s12, s13, s14, s15, s16, s17, s18, s19, s20, s21, s22⟩
         go_simp
         with_reducible rfl
        rotate_left
        ·simp only [Act.put, s1, s2, s3, i64_w, i32_w]
         rfl
        refine take_ (i := 9) (N := some 80) (v := ?_) (a' := ?_) #[true, true, true, true, true, true, true, false, true, true, true, false, false, false, false, true, false, true, false, false, false, false, false] rfl rfl (take_ofW HT_.out HW_.out (by kernel_rfl)) (fun _ _ _ h => h) (Or.inl ⟨by rfl, ?_⟩) hHeld ?_ ?_
        rotate_left
        ·rintro w' ⟨s0, s1, s2, s3, s4, s5, s6, s7, s8, s9, s10, s11, s12, s13, s14, s15, s16, s17, s18, s19, s20, s21, s22⟩
         go_simp
         with_reducible rfl
        rotate_left
        ·simp only [Act.put, s1, s2, s3, i64_w, i32_w]
         rfl
        refine pure_ (i := 11) (N := some 82) (v := ?_) (a' := ?_) #[true, true, true, true, true, true, true, false, true, true, true, true, false, false, false, true, false, true, false, false, false, false, false] rfl rfl (any_of HT_.out (by kernel_rfl)) (fun _ _ _ h => h) (Or.inl ⟨by rfl, ?_⟩) ?_ ?_
        rotate_left
        ·intro w'
         go_simp
         with_reducible rfl
        rotate_left
        ·simp only [Act.put, s1, s2, s3, i64_w, i32_w]
         rfl
        refine pure_ (i := 12) (N := some 83) (v := ?_) (a' := ?_) #[true, true, true, true, true, true, true, false, true, true, true, true, true, false, false, true, false, true, false, false, false, false, false] rfl rfl (any_of HT_.out (by kernel_rfl)) (fun _ _ _ h => h) (Or.inl ⟨by rfl, ?_⟩) ?_ ?_
        rotate_left
        ·intro w'
         go_simp
         with_reducible rfl
        rotate_left
        ·simp only [Act.put, s1, s2, s3, i64_w, i32_w]
         rfl
        refine take_ (i := 13) (N := some 84) (v := ?_) (a' := ?_) #[true, true, true, true, true, true, true, false, true, true, true, true, true, true, false, true, false, true, false, false, false, false, false] rfl rfl (take_ofW HT_.out HW_.out (by kernel_rfl)) (fun _ _ _ h => h) (Or.inl ⟨by rfl, ?_⟩) hHeld ?_ ?_
        rotate_left
        ·rintro w' ⟨s0, s1, s2, s3, s4, s5, s6, s7, s8, s9, s10, s11, s12, s13, s14, s15, s16, s17, s18, s19, s20, s21, s22⟩
         go_simp
         with_reducible rfl
        rotate_left
        ·simp only [Act.put, s1, s2, s3, i64_w, i32_w]
         rfl
        refine take_ (i := 16) (N := some 87) (v := ?_) (a' := ?_) #[true, true, true, true, true, true, true, false, true, true, true, true, true, true, false, true, true, true, false, false, false, false, false] rfl rfl (take_ofW HT_.out HW_.out (by kernel_rfl)) (fun _ _ _ h => h) (Or.inl ⟨by rfl, ?_⟩) hHeld ?_ ?_
        rotate_left
        ·rintro w' ⟨s0, s1, s2, s3, s4, s5, s6, s7, s8, s9, s10, s11, s12, s13, s14, s15, s16, s17, s18, s19, s20, s21, s22⟩
         go_simp
         with_reducible rfl
        rotate_left
        ·simp only [Act.put, s1, s2, s3, i64_w, i32_w]
         rfl
        refine pure_ (i := 18) (N := some 89) (v := ?_) (a' := ?_) #[true, true, true, true, true, true, true, false, true, true, true, true, true, true, false, true, true, true, true, false, false, false, false] rfl rfl (any_of HT_.out (by kernel_rfl)) (fun _ _ _ h => h) (Or.inl ⟨by rfl, ?_⟩) ?_ ?_
        rotate_left
        ·intro w'
         go_simp
         with_reducible rfl
        rotate_left
        ·simp only [Act.put, s1, s2, s3, i64_w, i32_w]
         rfl
        refine pure_ (i := 19) (N := some 90) (v := ?_) (a' := ?_) #[true, true, true, true, true, true, true, false, true, true, true, true, true, true, false, true, true, true, true, true, false, false, false] rfl rfl (any_of HT_.out (by kernel_rfl)) (fun _ _ _ h => h) (Or.inl ⟨by rfl, ?_⟩) ?_ ?_
        rotate_left
        ·intro w'
         go_simp
         with_reducible rfl
        rotate_left
        ·simp only [Act.put, s1, s2, s3, i64_w, i32_w]
         rfl
        refine take_ (i := 20) (N := some 91) (v := ?_) (a' := ?_) #[true, true, true, true, true, true, true, false, true, true, true, true, true, true, false, true, true, true, true, true, true, false, false] rfl rfl (take_ofW HT_.out HW_.out (by kernel_rfl)) (fun _ _ _ h => h) (Or.inl ⟨by rfl, ?_⟩) hHeld ?_ ?_
        rotate_left
        ·rintro w' ⟨s0, s1, s2, s3, s4, s5, s6, s7, s8, s9, s10, s11, s12, s13, s14, s15, s16, s17, s18, s19, s20, s21, s22⟩
         go_simp
         with_reducible rfl
        rotate_left
        ·simp only [Act.put, s1, s2, s3, i64_w, i32_w]
         rfl
        refine one_ (i := 7) (N := some 78) #[true, true, true, true, true, true, true, true, true, true, true, true, true, true, false, true, true, true, true, true, true, false, false] rfl rfl (one_of HT_.out (by kernel_rfl)) (by decide) (fun K hK => ?_)
        refine qG Try.func52 #[.slice Ao56 x3_2.length co56, .string ((rd_T67 l0_13 x5_2).f0)] ?_
        with_reducible refine (antipoderef14_t.calls k2 _ _ x3_2 ((rd_T67 l0_13 x5_2).f0) t416 _ ?side1 ?side2 A51.out).mono ?_
        (case side1 => exact qC (Kd.R_reads' HO_3.out).2.2)
        (case side2 => exact (Kd.R_reads' HO_3.out).2.1)
        rintro e w57 ⟨v417, rfl, ho0, hb⟩
        refine ⟨_, rfl, ?_⟩
        have HO418 := Aside0.mk (Kd.R_lower (Kd.R_new' ho0 (Kd.R_lt (qR HO_3.out))) (below_size (qB HB.out)))
        replace HO_3 := Aside0.mk (Kd.R_elder' (qR HO_3.out) (Kd.R_base ho0) hb)
        replace BK373 := Aside0.mk (blk_below (qK BK373.out) hb)
        replace HB := Aside0.mk (below_step (qB HB.out) hb)
        (try clear hb)
        (try clear hb2)
        (try clear hk)
        (try clear hi)
        (try clear ho0)
        obtain ⟨Ao58, co58, eo58⟩ := Kd.R_slice HO418.out
        (first | subst eo58 | (injection eo58 with f1_ f2_ f3_; have f4_ := f1_.symm; have f5_ := f3_.symm; clear f1_ f2_ f3_; subst f4_; subst f5_))
        refine hK.out _ _ (qa14 BK373.out ⟨((HB.out.cell (World.block_lt_of_cell? w _ hw415_0)).trans hw415_0), ((HB.out.cell (World.block_lt_of_cell? w _ hw415_1)).trans hw415_1), ((HB.out.cell (World.block_lt_of_cell? w _ hw415_2)).trans hw415_2), ((HB.out.cell (World.block_lt_of_cell? w _ hw419_0)).trans hw419_0), ((HB.out.cell (World.block_lt_of_cell? w _ hw419_1)).trans hw419_1), ((HB.out.cell (World.block_lt_of_cell? w _ hw419_2)).trans hw419_2), ((HB.out.cell (World.block_lt_of_cell? w _ hw423_0)).trans hw423_0), ((HB.out.cell (World.block_lt_of_cell? w _ hw423_1)).trans hw423_1), ((HB.out.cell (World.block_lt_of_cell? w _ hw423_2)).trans hw423_2)⟩) (fun hHeld => ?_)
        clear hK K
        refine norm_ (a' := ?_) ?_ ?_
        rotate_left
        ·show Act.put _ (some 78) _ = _
         simp only [Act.put, s1, s2, s3, i64_w, i32_w]
         rfl
        refine one_ (i := 14) (N := some 85) #[true, true, true, true, true, true, true, true, true, true, true, true, true, true, true, true, true, true, true, true, true, false, false] rfl rfl (one_of HT_.out (by kernel_rfl)) (by decide) (fun K hK => ?_)
        refine qG Try.func49 #[.slice Ao58 t416.length co58, .bool ((rd_T67 l0_13 x5_2).f1)] ?_
        with_reducible refine (antipoderef14_f.calls (fun k_ => some k_ = (.slice Ao58 t416.length co58 : Value).ownBlock) (.slice Ao58 t416.length co58) t416 ((rd_T67 l0_13 x5_2).f1) t420 w _ ?side1 ?side2 A52.out).mono ?_
        (case side1 => exact qB HB.out)
        (case side2 => exact Kd.R_tight rfl HO418.out)
        rintro e w59 ⟨v421, rfl, ho0, hb, hkp⟩
        refine ⟨_, rfl, ?_⟩
        replace BK373 := Aside0.mk (blk_kept (qK BK373.out) hkp (fun hs_ => (fun e_ => (Kd.R_ne HO418.out BK373.out (by decide)) e_) hs_))
        have HO422 := Aside0.mk (Kd.R_mono (ok' := fun k_ => some k_ ≠ (.slice Ao56 x3_2.length co56 : Value).ownBlock) ho0 (fun k_ hk_ => Or.elim hk_ (fun hs_ => fun e_ => (((HO_3.out).1 k_ e_.symm).2) hs_) (fun hn_ => (Kd.fresh' (Kd.R_lt (qR HO_3.out)) k_ hn_))))
        replace HO_3 := Aside0.mk (Kd.R_mono (ok' := fun k_ => some k_ ≠ (v421 : Value).ownBlock) (Kd.R_keptB (HO_3.out) hkp (fun k_ hk_ hs_ => (hk_.2) hs_)) (fun k_ hk_ => fun e_ => Or.elim (ho0.1 k_ e_.symm) (fun hs_ => hk_.2.1 hs_) (fun hn_ => Nat.not_le.2 hk_.2.2 hn_)))
        replace HB := Aside0.mk (hb)
        clear HO418
        (try clear hb)
        (try clear hkp)
        (try clear ho0)
        obtain ⟨Ao60, co60, eo60⟩ := Kd.R_slice HO422.out
        (first | subst eo60 | (injection eo60 with f1_ f2_ f3_; have f4_ := f1_.symm; have f5_ := f3_.symm; clear f1_ f2_ f3_; subst f4_; subst f5_))
        refine hK.out _ _ (qa14 BK373.out ⟨((HB.out.cell (World.block_lt_of_cell? w _ hw415_0)).trans hw415_0), ((HB.out.cell (World.block_lt_of_cell? w _ hw415_1)).trans hw415_1), ((HB.out.cell (World.block_lt_of_cell? w _ hw415_2)).trans hw415_2), ((HB.out.cell (World.block_lt_of_cell? w _ hw419_0)).trans hw419_0), ((HB.out.cell (World.block_lt_of_cell? w _ hw419_1)).trans hw419_1), ((HB.out.cell (World.block_lt_of_cell? w _ hw419_2)).trans hw419_2), ((HB.out.cell (World.block_lt_of_cell? w _ hw423_0)).trans hw423_0), ((HB.out.cell (World.block_lt_of_cell? w _ hw423_1)).trans hw423_1), ((HB.out.cell (World.block_lt_of_cell? w _ hw423_2)).trans hw423_2)⟩) (fun hHeld => ?_)
        clear hK K
        refine norm_ (a' := ?_) ?_ ?_
        rotate_left
        ·show Act.put _ (some 85) _ = _
         simp only [Act.put, s1, s2, s3, i64_w, i32_w]
         rfl
        refine one_ (i := 21) (N := some 92) #[true, true, true, true, true, true, true, true, true, true, true, true, true, true, true, true, true, true, true, true, true, true, false] rfl rfl (one_of HT_.out (by kernel_rfl)) (by decide) (fun K hK => ?_)
        refine qG Try.func52 #[.slice Ao60 t420.length co60, .string ((rd_T67 l0_13 x5_2).f2)] ?_
        with_reducible refine (antipoderef14_t.calls k2 _ _ t420 ((rd_T67 l0_13 x5_2).f2) t424 _ ?side1 ?side2 A53.out).mono ?_
        (case side1 => exact qC (Kd.R_reads' HO422.out).2.2)
        (case side2 => exact (Kd.R_reads' HO422.out).2.1)
        rintro e w61 ⟨v425, rfl, ho0, hb⟩
        refine ⟨_, rfl, ?_⟩
        have HO426 := Aside0.mk (Kd.R_lower (Kd.R_new' (Kd.R_new' ho0 (Kd.R_lt (qR HO_3.out))) (Kd.R_lt (qR HO422.out))) (below_size (qB HB.out)))
        replace HO_3 := Aside0.mk (Kd.R_elder' (qR HO_3.out) (Kd.R_base ho0) hb)
        replace HO422 := Aside0.mk (Kd.R_elder' (qR HO422.out) (Kd.R_base ho0) hb)
        replace BK373 := Aside0.mk (blk_below (qK BK373.out) hb)
        replace HB := Aside0.mk (below_step (qB HB.out) hb)
        (try clear hb)
        (try clear hb2)
        (try clear hk)
        (try clear hi)
        (try clear ho0)
        refine hK.out _ _ (qa14 BK373.out ⟨((HB.out.cell (World.block_lt_of_cell? w _ hw415_0)).trans hw415_0), ((HB.out.cell (World.block_lt_of_cell? w _ hw415_1)).trans hw415_1), ((HB.out.cell (World.block_lt_of_cell? w _ hw415_2)).trans hw415_2), ((HB.out.cell (World.block_lt_of_cell? w _ hw419_0)).trans hw419_0), ((HB.out.cell (World.block_lt_of_cell? w _ hw419_1)).trans hw419_1), ((HB.out.cell (World.block_lt_of_cell? w _ hw419_2)).trans hw419_2), ((HB.out.cell (World.block_lt_of_cell? w _ hw423_0)).trans hw423_0), ((HB.out.cell (World.block_lt_of_cell? w _ hw423_1)).trans hw423_1), ((HB.out.cell (World.block_lt_of_cell? w _ hw423_2)).trans hw423_2)⟩) (fun hHeld => ?_)
        clear hK K
        refine norm_ (a' := ?_) ?_ ?_
        rotate_left
        ·show Act.put _ (some 92) _ = _
         simp only [Act.put, s1, s2, s3, i64_w, i32_w]
         rfl
        refine pure_ (i := 22) (N := some 3) (v := ?_) (a' := ?_) #[true, true, true, true, true, true, true, true, true, true, true, true, true, true, true, true, true, true, true, true, true, true, true] rfl rfl (any_of HT_.out (by kernel_rfl)) (fun _ _ _ h => h) (Or.inl ⟨by rfl, ?_⟩) ?_ ?_
        rotate_left
        ·intro w'
         go_simp
         with_reducible rfl
        rotate_left
        ·simp only [Act.put, s1, s2, s3, i64_w, i32_w]
         rfl
        refine done_ (done_of HT_.out (by kernel_rfl)) ?_
        try go_wp2
        go_roundg k2
        case measure => have := HK1.out; have := HK2.out; omega
        case rel => exact ⟨(t424), (wrap64 (x5_2 + 1)), (by first | rfl | (simp; done) | (simp [*]; done)), H', ⟨by have := HK1.out; have := HK2.out; omega⟩, ⟨by (with_reducible repeat (first | apply Kd.R_alloc | apply Kd.R_drewN | apply Kd.R_drew)); exact Kd.R_mono HO426.out (fun _ hk => trivial)⟩, ⟨qK BK373.out⟩, ⟨qB HB.out⟩⟩
       ·rw [if_neg c50] at H
        exact absurd H (by simp)
      ·rw [if_neg c49] at H
       have c49b0 : decide (x5_2 < (l0_13.length : Int)) = false := decide_eq_false c49
       clear c49
       obtain rfl := Option.some.inj H
       have hcz62_0 : wr.cell? ⟨gb373, 0, none⟩ = some (.int .i64 a0_0) := (blk_cell BK373.out 0).trans rfl
       have hcz62_1 : wr.cell? ⟨gb373, 1, none⟩ = some (.int .i64 a0_1) := (blk_cell BK373.out 1).trans rfl
       have hcz62_2 : wr.cell? ⟨gb373, 2, none⟩ = some (.int .i64 a0_2) := (blk_cell BK373.out 2).trans rfl
       have hcz62_3 : wr.cell? ⟨gb373, 3, none⟩ = some (.int .i64 a0_3) := (blk_cell BK373.out 3).trans rfl
       have hcz62_4 : wr.cell? ⟨gb373, 4, none⟩ = some (.int .i64 a0_4) := (blk_cell BK373.out 4).trans rfl
       have hcz62_5 : wr.cell? ⟨gb373, 5, none⟩ = some (.int .i64 a0_5) := (blk_cell BK373.out 5).trans rfl
       have hcz62_6 : wr.cell? ⟨gb373, 6, none⟩ = some (.int .i64 a0_6) := (blk_cell BK373.out 6).trans rfl
       have hcz62_7 : wr.cell? ⟨gb373, 7, none⟩ = some (.int .i64 a0_7) := (blk_cell BK373.out 7).trans rfl
       have hcz62_8 : wr.cell? ⟨gb373, 8, none⟩ = some (.int .i64 a0_8) := (blk_cell BK373.out 8).trans rfl
       have hcz62_9 : wr.cell? ⟨gb373, 9, none⟩ = some (.int .i64 a0_9) := (blk_cell BK373.out 9).trans rfl
       have hcz62_10 : wr.cell? ⟨gb373, 10, none⟩ = some (.int .i64 a0_10) := (blk_cell BK373.out 10).trans rfl
       have hcz62_11 : wr.cell? ⟨gb373, 11, none⟩ = some (.bool a0_11) := (blk_cell BK373.out 11).trans rfl
       have hcz62_12 : wr.cell? ⟨gb373, 12, none⟩ = some (.slice A0_12 l0_12.length c0_12) := (blk_cell BK373.out 12).trans rfl
       have hcz62_13 : wr.cell? ⟨gb373, 13, none⟩ = some (.slice A0_13 l0_13.length c0_13) := (blk_cell BK373.out 13).trans rfl
       have hfz62_0 := blk_frozen BK373.out 0
       have hfz62_1 := blk_frozen BK373.out 1
       have hfz62_2 := blk_frozen BK373.out 2
       have hfz62_3 := blk_frozen BK373.out 3
       have hfz62_4 := blk_frozen BK373.out 4
       have hfz62_5 := blk_frozen BK373.out 5
       have hfz62_6 := blk_frozen BK373.out 6
       have hfz62_7 := blk_frozen BK373.out 7
       have hfz62_8 := blk_frozen BK373.out 8
       have hfz62_9 := blk_frozen BK373.out 9
       have hfz62_10 := blk_frozen BK373.out 10
       have hfz62_11 := blk_frozen BK373.out 11
       have hfz62_12 := blk_frozen BK373.out 12
       have hfz62_13 := blk_frozen BK373.out 13
       go_wp2
       go_ret
       exact ⟨_, by first | rfl | (simp [errW_none, errW_some] <;> rfl) | (simp [*, errW_none, errW_some] <;> rfl), qR HO_3.out, qB HB.out⟩
end Go.Proofs.Ytjfgapaohldbkaa.QA

